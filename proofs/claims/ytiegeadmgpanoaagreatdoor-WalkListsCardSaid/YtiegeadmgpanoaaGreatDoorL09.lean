/- Plain laws: runs as sets of numbers: what adding and removing a run does to the numbers. No program in sight. -/
import Derived.Test.YtiegeadmgpanoaaGreatDoorL08
set_option maxRecDepth 100000
set_option maxHeartbeats 16000000
namespace Go.fB
open Go.Proofs.YtiegeadmgpanoaaGreatDoor.E3 Go.Proofs.YtiegeadmgpanoaaGreatDoor.D2
abbrev Rs:=List (Int × Int)
def Canon(rs:Rs):Prop:=rs.Pairwise (fun x y=>x.2+1<y.1)∧∀x∈rs,x.1≤x.2
def iy(rs:Rs)(n:Int):Prop:= ∃x∈rs,x.1≤n∧n≤x.2
theorem kP {a b:Rs}{n:Int}:iy (a++b) n↔iy a n∨iy b n:=by
 unfold iy;constructor
 · rintro⟨x,hx,h⟩
   rcases aK.1 hx with h1 | h1
   · exact .inl ⟨x,h1,h⟩
   · exact .inr ⟨x,h1,h⟩
 · rintro(⟨x,hx,h⟩ | ⟨x,hx,h⟩)
   · exact⟨x,bf _ hx,h⟩
   · exact⟨x,bT _ hx,h⟩
theorem k9 {x:Int × Int}{b:Rs}{n:Int}:iy (x :: b) n↔(x.1≤n∧n≤x.2)∨iy b n:=by
 unfold iy;simp
theorem j_ {n:Int}:¬iy [] n:=by unfold iy;simp
structure Bb(st:xy)(rest:Rs):Prop where
 le:st.2.1.1≤st.2.1.2
 below:Canon st.1
 Wg:∀x∈st.1,x.2+1<st.2.1.1
 above:Canon st.2.2
 Wh:∀x∈st.2.2,st.2.1.2+1<x.1
 Zg:∀x∈st.1,∀y∈rest,x.2+1<y.1
 Zh:∀x∈st.2.2,∀y∈rest,x.2+1<y.1
theorem sH {a:Rs}{y:Int × Int}(h:Canon a)(hy:y.1≤y.2)(hb:∀x∈a,x.2+1<y.1):Canon (a++ [y]):=by
 refine⟨List.pairwise_append.2 ⟨h.1,List.pairwise_singleton _ _,fun x hx z hz=> ?_⟩,fun x hx=> ?_⟩
 · rw [aC.1 hz];exact hb x hx
 · rcases aK.1 hx with h1 | h1
   · exact h.2 x h1
   · rw [aC.1 h1];exact hy
theorem Cy {st:xy}{y:Int × Int}{rest:Rs}(h:Bb st (y :: rest))(hy:y.1≤y.2)(hr:∀z∈rest,y.2+1<z.1):
 Bb (iD st y) rest∧∀n,(iy (iD st y).1 n∨((iD st y).2.1.1≤n∧n≤(iD st y).2.1.2)∨iy (iD st y).2.2 n)↔
  (iy st.1 n∨(st.2.1.1≤n∧n≤st.2.1.2)∨iy st.2.2 n)∨(y.1≤n∧n≤y.2):=by
 obtain⟨B,⟨lo,hi⟩,A⟩:=st;obtain⟨h1,h2,h3,h4,h5,h6,h7⟩:=h;dsimp only at*
 have hA:A≠ []→hi+1<y.1:=fun hne=>by
  obtain⟨x,hx⟩:=cg _ hne;have a1:=h5 x hx;have a2:=h4.2 x hx;have a3:=h7 x hx y bq;omega
 unfold iD;dsimp only;split
 · rename_i c
   refine⟨⟨h1,sH h2 hy (fun x hx=>h6 x hx y bq),fun x hx=> ?_,h4,h5,fun x hx z hz=> ?_,fun x hx z hz=>h7 x hx z (bL _ hz)⟩,fun n=> ?_⟩
   · rcases aK.1 hx with h | h
     · exact h3 x h
     · rw [aC.1 h];exact c
   · rcases aK.1 hx with h | h
     · exact h6 x h z (bL _ hz)
     · rw [aC.1 h];exact hr z hz
   · rw [kP,k9]
     simp only [j_,or_false];constructor
     · rintro((h | h) | h | h)
       · exact .inl (.inl h)
       · exact .inr h
       · exact .inl (.inr (.inl h))
       · exact .inl (.inr (.inr h))
     · rintro((h | h | h) | h)
       · exact .inl (.inl h)
       · exact .inr (.inl h)
       · exact .inr (.inr h)
       · exact .inl (.inr h)
 · split
   · rename_i c c'
     refine⟨⟨h1,h2,h3,sH h4 hy (fun x hx=>h7 x hx y bq),fun x hx=> ?_,fun x hx z hz=>h6 x hx z (bL _ hz),fun x hx z hz=> ?_⟩,fun n=> ?_⟩
     · rcases aK.1 hx with h | h
       · exact h5 x h
       · rw [aC.1 h];dsimp only;omega
     · rcases aK.1 hx with h | h
       · exact h7 x h z (bL _ hz)
       · rw [aC.1 h];exact hr z hz
     · rw [kP,k9]
       simp only [j_,or_false];constructor
       · rintro(h | h | h | h)
         · exact .inl (.inl h)
         · exact .inl (.inr (.inl h))
         · exact .inl (.inr (.inr h))
         · exact .inr h
       · rintro((h | h | h) | h)
         · exact .inl h
         · exact .inr (.inl h)
         · exact .inr (.inr (.inl h))
         · exact .inr (.inr (.inr h))
   · rename_i c c'
     have hnil:A= []:=by
      cases hA':A with
      | nil=>rfl
      | cons a A'=>have:=hA (by rw [hA'];simp);omega
     subst hnil;refine⟨⟨by dsimp only;omega,h2,fun x hx=> ?_,h4,(fun x hx=>by cases hx),fun x hx z hz=>h6 x hx z (bL _ hz),(fun x hx=>by cases hx)⟩,fun n=> ?_⟩
     · have a1:=h3 x hx
       have a2:=h6 x hx y bq;dsimp only;omega
     · dsimp only
       simp only [j_,or_false];by_cases hB:iy B n
       · simp [hB]
       · simp only [hB,false_or]
         omega
theorem Cz(rs:Rs):∀(st:xy),Bb st rs→Canon rs→Bb (rs.foldl iD st) []∧∀n,(iy (rs.foldl iD st).1 n∨((rs.foldl iD st).2.1.1≤n∧n≤(rs.foldl iD st).2.1.2)∨iy (rs.foldl iD st).2.2 n)↔
 (iy st.1 n∨(st.2.1.1≤n∧n≤st.2.1.2)∨iy st.2.2 n)∨iy rs n:=by
 induction rs with
 | nil=>intro st h _;exact⟨h,fun n=>by simp [j_]⟩
 | cons y rs ih=>
   intro st h hc;obtain⟨hp,hle⟩:=hc;have hp':=cF.1 hp;obtain⟨h1,h2⟩:=Cy h (hle y bq) hp'.1;obtain⟨h3,h4⟩:=ih _ h1 ⟨hp'.2,fun x hx=>hle x (bL _ hx)⟩;refine⟨h3,fun n=> ?_⟩;rw [List.foldl_cons,h4,h2,k9,or_assoc]
theorem rC:Canon []:=⟨List.Pairwise.nil,(fun x hx=>by cases hx)⟩
theorem CG(rs:Rs)(lo hi:Int)(h:Canon rs)(hl:lo≤hi):Canon (mC rs lo hi)∧∀n,iy (mC rs lo hi) n↔(lo≤n∧n≤hi)∨iy rs n:=by
 obtain⟨hi',hm⟩:=Cz rs ([],(lo,hi),[]) ⟨hl,rC,(fun x hx=>by cases hx),rC,(fun x hx=>by cases hx),(fun x hx=>by cases hx),(fun x hx=>by cases hx)⟩ h;unfold mC i6;generalize rs.foldl iD ([],(lo,hi),[])=st at*;obtain⟨B,⟨lo',En⟩,A⟩:=st;obtain⟨h1,h2,h3,h4,h5,h6,h7⟩:=hi';dsimp only at*;constructor
 · have hc:=sH (y:=(lo',En)) h2 h1 h3
   refine⟨List.pairwise_append.2 ⟨hc.1,h4.1,fun x hx y hy=> ?_⟩,fun x hx=> ?_⟩
   · rcases aK.1 hx with h | h
     · have a1:=h3 x h
       have a2:=h5 y hy;omega
     · rw [aC.1 h];exact h5 y hy
   · rcases aK.1 hx with h | h
     · exact hc.2 x h
     · exact h4.2 x h
 · intro n
   have:=hm n
   rw [kP,kP,k9];simp only [j_,or_false,false_or] at this ⊢;rw [← this,or_assoc]
theorem uS {lo hi:Int}{x p:Int × Int}(hx:x.1≤x.2)(hp:p∈jL lo hi x):x.1≤p.1∧p.1≤p.2∧p.2≤x.2:=by
 unfold jL at hp;split at hp
 · rw [aC.1 hp];exact⟨aY _,hx,aY _⟩
 · rename_i c
   rcases aK.1 hp with h | h
   · split at h
     · rw [aC.1 h];dsimp only;omega
     · cases h
   · split at h
     · rw [aC.1 h];dsimp only;omega
     · cases h
theorem Bc {lo hi:Int}{x:Int × Int}(hl:lo≤hi):(jL lo hi x).Pairwise fun x y=>x.2+1<y.1:=by
 unfold jL;split
 · exact List.pairwise_singleton _ _
 · split<;>split<;>simp
   omega
theorem EZ {lo hi:Int}{x:Int × Int}(n:Int)(hl:lo≤hi):iy (jL lo hi x) n↔(x.1≤n∧n≤x.2)∧¬(lo≤n∧n≤hi):=by
 unfold jL;split
 · simp only [k9,j_,or_false];omega
 · rw [kP]
   split<;>split<;>simp only [k9,j_,or_false,false_or]<;>(constructor<;>intro h<;>first | omega | exact h.elim)
theorem CH(lo hi:Int)(hl:lo≤hi):∀(rs:Rs),Canon rs→Canon (iO rs lo hi)∧(∀n,iy (iO rs lo hi) n↔iy rs n∧¬(lo≤n∧n≤hi)):=by
 intro rs;induction rs with
 | nil=>intro _;exact⟨rC,fun n=>by simp [iO,j_]⟩
 | cons x rs ih=>
   rintro⟨hp,hle⟩;have hp':=cF.1 hp;obtain⟨h1,h2⟩:=ih ⟨hp'.2,fun y hy=>hle y (bL _ hy)⟩;have hx:=hle x bq;have e:iO (x :: rs) lo hi=jL lo hi x++iO rs lo hi:=by simp [iO]
   rw [e];refine⟨⟨List.pairwise_append.2 ⟨Bc hl,h1.1,fun a ha b hb=> ?_⟩,fun a ha=> ?_⟩,fun n=> ?_⟩
   · have a1:=uS hx ha
     unfold iO at hb;obtain⟨y,hy,hby⟩:=List.mem_flatMap.1 hb;have a2:=uS (hle y (bL _ hy)) hby;have a3:=hp'.1 y hy;omega
   · rcases aK.1 ha with h | h
     · exact(uS hx h).2.1
     · exact h1.2 a h
   · rw [kP,k9,EZ n hl,h2]
     constructor
     · rintro(⟨h,k⟩ | ⟨h,k⟩)
       · exact⟨.inl h,k⟩
       · exact⟨.inr h,k⟩
     · rintro⟨h | h,k⟩
       · exact .inl ⟨h,k⟩
       · exact .inr ⟨h,k⟩
theorem E6 {x:Int × Int}{rs:Rs}(h:Canon (x :: rs)):iy (x :: rs) x.1∧∀n,iy (x :: rs) n→x.1≤n:=by
 obtain⟨hp,hle⟩:=h;have hp':=cF.1 hp;have hx:=hle x bq;refine⟨⟨x,bq,aY _,hx⟩,?_⟩;rintro n ⟨y,hy,h1,h2⟩;rcases aR.1 hy with rfl | hy
 · exact h1
 · have:=hp'.1 y hy
   omega
theorem Iv:∀(rs:Rs) (a b:Int),Canon rs→(∀n,iy rs n→a≤n∧n≤b)→(rs.length:Int)≤max 0 (b-a+1):=by
 intro rs;induction rs with
 | nil=>intro a b _ _;simp;omega
 | cons x rs ih=>
   rintro a b ⟨hp,hle⟩ hr;have hp':=cF.1 hp;have hx:=hle x bq;have h1:=hr x.1 ⟨x,bq,aY _,hx⟩
   have h2:=ih (x.1+1) b ⟨hp'.2,fun y hy=>hle y (bL _ hy)⟩ (fun n hn=>by
    obtain⟨y,hy,k1,k2⟩:=hn
    have:=hp'.1 y hy
    have:=hr n ⟨y,bL _ hy,k1,k2⟩
    omega)
   simp only [List.length_cons];omega
theorem KN {rs:Rs}{a b:Int}(h:Canon rs)(hr:∀n,iy rs n→a≤n∧n≤b):∀x∈rs,a≤x.1∧x.1≤x.2∧x.2≤b:=fun x hx=>by
 have h1:=h.2 x hx;exact⟨(hr x.1 ⟨x,hx,aY _,h1⟩).1,h1,(hr x.2 ⟨x,hx,h1,aY _⟩).2⟩
end Go.fB
namespace Go.Proofs.YtiegeadmgpanoaaGreatDoor.D2
open ChangeShapes WideShapes ChangeAt RowKit Sl
def KO:List (Int × Int)→Value
 | []=> .tuple #[.int .i64 0,.bool false]
 | x :: _=> .tuple #[.int .i64 x.1,.bool true]
theorem E7(p:Nat)(v:Value)(rs:List (Int × Int))(F:Pr)(w:World)(hF:Sat ((iu p v rs).star F) w):
 Calls Tryz.prog 112 #[.pointer (some ⟨p,0,none⟩)] w fun e w'=>
  e= .returned (KO rs)∧w=w':=by
 have h1:Sat ((Pr.pts p (.cells #[v] 197)).star ((Row 199 2 v rs.length (eS rs)).star F)) w:=hF.perm (by unfold iu;ac_rfl);have r1:w.cell? ⟨p,0,none⟩=some v:=by rw [cell_of_heap h1.dL];rfl
 obtain⟨a,c,rfl,_,hrow⟩:=Row.read h1.right;clear h1 hF;cases rs with
 | nil=>
   clear hrow;go_enter Tryz.func112,Tryz.ntmps112
   go_wp2;go_ret2;exact⟨rfl,rfl⟩
 | cons x rs=>
   obtain⟨b,rfl,hc⟩:=hrow (by simp);have q1:=(hc 0 (by simp)).1;have q2:w.cell? ⟨b,0,none⟩=some (.int .i64 x.1):=q1;have hne:(((x :: rs).length:Int) == 0)=false:=by simp;omega
   have hpos:0<(x :: rs).length:=by simp
   clear q1 hc hrow;generalize (x :: rs).length=n at*;have hv:KO (x :: rs)= .tuple #[.int .i64 x.1,.bool true]:=rfl;rw [hv];clear hv;generalize x.1=x1 at*;go_enter Tryz.func112,Tryz.ntmps112
   go_wp2;go_ret2;exact⟨rfl,rfl⟩
theorem NS(F:Pr)(w:World)(hF:Sat F w):
 Calls Tryz.prog 107 #[.slice none 0 0] w fun e w'=>
  ∃p,e= .returned (.pointer (some ⟨p,0,none⟩))∧Sat ((iu p (.slice none 0 0) []).star F) w'∧dN w w':=by
 have h2:Sat ((iu w.heap.size (.slice none 0 0) []).star F) (w.alloc (.cells #[.slice none 0 0] 197)):=by
  have:=hF.alloc (.cells #[.slice none 0 0] 197)
  unfold iu;show Sat (((Pr.pts _ _).star (Row _ 2 (.slice none 0 0) 0 [])).star F) _
  rw [Row.nil,Pr.ei];exact this
 have H2:=hQ h2;clear h2 hF;go_enter Tryz.func107,Tryz.ntmps107
 go_wp2;go_loop [5,10] (fun _ i=>i= .int .i64 0) (fun _ _=>0)
 case atStart=>rfl
 case round=>
  subst hrel;go_wp2;go_ret;exact⟨_,rfl,H2.af,(dN.refl w).alloc _⟩
end Go.Proofs.YtiegeadmgpanoaaGreatDoor.D2
namespace Go.Proofs.YtiegeadmgpanoaaGreatDoor.L3
open ChangeShapes WideShapes ChangeAt RowKit Sl fB D2 E3
theorem Row.set {T b n cap i:Nat}{xs:List Value}{F:Pr}{w:World}(h:Sat ((Row T 1 (.slice (some ⟨b,0,none⟩) n cap) n xs).star F) w)(hi:i<n)(u:Value):
 Sat ((Row T 1 (.slice (some ⟨b,0,none⟩) n cap) n (xs.set i u)).star F) (w.setCell ⟨b,i,none⟩ u):=by
 obtain⟨hl,(⟨e,_,_⟩ | ⟨b',cap',sp,e,h1,h2,h3,h4⟩)⟩:=Row.open' h
 · cases e
 · cases e
   have h5:=h4.setCell (i:=i) u
   have e2:((xs++sp).toArray.setIfInBounds i u)=(xs.set i u++sp).toArray:=by
    rw [cX,dE _ _ (by omega)]
   rw [e2] at h5;exact Row.mk' (by simpa using hl) (by simpa using h1) h2 h3 h5
def f_(p:Nat)(S:Int→Prop):Pr:=Pr.ex fun x:Value × Rs=>(Pr.pure (Canon x.2∧∀n,iy x.2 n↔S n)).star (iu p x.1 x.2)
theorem nT {p:Nat}{S:Int→Prop}{F:Pr}{w:World}:Sat ((f_ p S).star F) w↔∃v rs,Canon rs∧(∀n,iy rs n↔S n)∧Sat ((iu p v rs).star F) w:=by
 unfold f_;rw [Sat.ex];constructor
 · rintro⟨⟨v,rs⟩,h⟩
   rw [Pr.dP] at h;obtain⟨⟨h1,h2⟩,h3⟩:=Sat.pure.1 h;exact⟨v,rs,h1,h2,h3⟩
 · rintro⟨v,rs,h1,h2,h3⟩
   refine⟨(v,rs),?_⟩;rw [Pr.dP];exact Sat.pure.2 ⟨⟨h1,h2⟩,h3⟩
theorem l5 {p:Nat}{S S':Int→Prop}(h:∀n,S n↔S' n):f_ p S=f_ p S':=by
 have:S=S':=funext fun n=>propext (h n)
 rw [this]
theorem CJ {rs:Rs}{S:Int→Prop}(hc:Canon rs)(hm:∀n,iy rs n↔S n)(hS:∀m,S m→1≤m∧m≤65536):(∀x∈rs,Small x)∧rs.length≤65536:=by
 have h1:∀n,iy rs n→1≤n∧n≤65536:=fun n hn=>hS n ((hm n).1 hn)
 refine⟨fun x hx=> ?_,?_⟩
 · have:=KN hc h1 x hx
   exact⟨by omega,this.2.1,by omega⟩
 · have:=Iv rs 1 65536 hc h1
   omega
theorem GX(p:Nat)(S:Int→Prop)(n:Int)(hn:1≤n∧n≤65536)(hS:∀m,S m→1≤m∧m≤65536)(F:Pr)(w:World)(h:Sat ((f_ p S).star F) w):
 Calls Tryz.prog 108 #[.pointer (some ⟨p,0,none⟩),.int .i64 n,.int .i64 n] w fun e w'=>
  ∃m:Int,e= .returned (.int .i64 m)∧Sat ((f_ p fun x=>x=n∨S x).star F) w'∧dN w w':=by
 obtain⟨v,rs,h1,h2,h3⟩:=nT.1 h;obtain⟨s1,s2⟩:=CJ h1 h2 hS;refine(NP p v rs n n s1 ⟨by omega,aY _,by dsimp only;omega⟩ s2 F w h3).mono ?_;rintro e w' ⟨m,v',rfl,h4,h5⟩;obtain⟨l1,l2⟩:=CG rs n n h1 (aY _);refine⟨m,rfl,nT.2 ⟨v',_,l1,fun x=> ?_,h4⟩,h5⟩;rw [l2,h2];constructor
 · rintro(h | h)
   · exact .inl (by omega)
   · exact .inr h
 · rintro(rfl | h)
   · exact .inl ⟨aY _,aY _⟩
   · exact .inr h
theorem E8(p:Nat)(S:Int→Prop)(n:Int)(hn:1≤n∧n≤65536)(hS:∀m,S m→1≤m∧m≤65536)(F:Pr)(w:World)(h:Sat ((f_ p S).star F) w):
 Calls Tryz.prog 155 #[.pointer (some ⟨p,0,none⟩),.int .i64 n,.int .i64 n] w fun e w'=>
  ∃m:Int,e= .returned (.int .i64 m)∧Sat ((f_ p fun x=>S x∧x≠n).star F) w'∧dN w w':=by
 obtain⟨v,rs,h1,h2,h3⟩:=nT.1 h;obtain⟨s1,s2⟩:=CJ h1 h2 hS;refine(EY p v rs n n s1 ⟨by omega,aY _,by dsimp only;omega⟩ s2 F w h3).mono ?_;rintro e w' ⟨m,v',rfl,h4,h5⟩;obtain⟨l1,l2⟩:=CH n n (aY _) rs h1;refine⟨m,rfl,nT.2 ⟨v',_,l1,fun x=> ?_,h4⟩,h5⟩;rw [l2,h2];constructor
 · rintro⟨h,k⟩
   exact⟨h,fun e=>k ⟨by omega,by omega⟩⟩
 · rintro⟨h,k⟩
   exact⟨h,fun e=>k (by omega)⟩
theorem E9(p:Nat)(S:Int→Prop)(F:Pr)(w:World)(h:Sat ((f_ p S).star F) w):
 Calls Tryz.prog 112 #[.pointer (some ⟨p,0,none⟩)] w fun e w'=>
  w=w'∧((e= .returned (.tuple #[.int .i64 0,.bool false])∧∀n,¬S n)∨∃n,e= .returned (.tuple #[.int .i64 n,.bool true])∧S n∧∀m,S m→n≤m):=by
 obtain⟨v,rs,h1,h2,h3⟩:=nT.1 h;refine(E7 p v rs F w h3).mono ?_;rintro e w' ⟨rfl,rfl⟩;refine⟨rfl,?_⟩;cases rs with
 | nil=>exact .inl ⟨rfl,fun n hn=>j_ ((h2 n).2 hn)⟩
 | cons x rs=>
   obtain⟨l1,l2⟩:=E6 h1;exact .inr ⟨x.1,rfl,(h2 _).1 l1,fun m hm=>l2 m ((h2 m).2 hm)⟩
abbrev dX(v:Value)(l:List Int):Pr:=Row 3 1 v l.length (l.map (Value.int .i64))
abbrev eK(v:Value)(l:List Bool):Pr:=Row 4 1 v l.length (l.map Value.bool)
def GY(h:Hp)(p:Nat)(a:Int × Int)(f:Value):Prop:=
 ∃bp bn bb,f= .func (.func 139) #[] #[.pointer (some ⟨bp,0,none⟩),.pointer (some ⟨bn,0,none⟩),.pointer (some ⟨bb,0,none⟩)]∧
  h.cell bp 0=some (.pointer (some ⟨p,0,none⟩))∧h.cell bn 0=some (.int .i64 a.1)∧h.cell bb 0=some (.int .i64 a.2)
theorem GY.sub {a b:Hp}(hs:a.sub b){p:Nat}{x:Int × Int}{f:Value}(h:GY a p x f):GY b p x f:=by
 obtain⟨bp,bn,bb,e,h1,h2,h3⟩:=h;exact⟨bp,bn,bb,e,Hp.oo hs h1,Hp.oo hs h2,Hp.oo hs h3⟩
def E_(h:Hp)(p:Nat)(acts:List (Int × Int))(fs:List Value):Prop:=fs.length=acts.length∧∀i (hi:i<acts.length) (hf:i<fs.length),GY h p acts[i] fs[i]
def i'(p:Nat)(av:Value)(acts:List (Int × Int)):Pr:=
 Pr.ex fun x:List Value × Hp=>(Pr.pure (E_ x.2 p acts x.1)).star ((Row 208 1 av acts.length x.1).star (Pr.own x.2))
def eO(s:ef)(cv lv:Value)(fb:Nat)(av:Value):Array Value:=
 #[.int .i64 s.refs,cv,lv,.pointer (some ⟨fb,0,none⟩),.int .i64 0,.int .i64 (s.eU 1),.int .i64 (s.eU 2),.int .i64 (s.eU 3),.int .i64 (s.eU 4),av,.int .i64 s.floor]
def k_(p:Nat)(s:ef)(cv lv:Value)(fb:Nat)(av:Value):Pr:=
 (Pr.pts p (.cells (eO s cv lv fb av) 159)).star ((dX cv s.counts).star ((eK lv s.last).star ((f_ fb fun n=>s.state n=1).star (i' p av s.acts))))
def eP(p:Nat)(s:ef):Pr:=Pr.ex fun x:Value × Value × Nat × Value=>(Pr.pure (hU s)).star (k_ p s x.1 x.2.1 x.2.2.1 x.2.2.2)
theorem jl {p:Nat}{s:ef}{F:Pr}{w:World}:Sat ((eP p s).star F) w↔hU s∧∃cv lv fb av,Sat ((k_ p s cv lv fb av).star F) w:=by
 unfold eP;rw [Sat.ex];constructor
 · rintro⟨⟨cv,lv,fb,av⟩,h⟩
   rw [Pr.dP] at h;obtain⟨h1,h3⟩:=Sat.pure.1 h;exact⟨h1,cv,lv,fb,av,h3⟩
 · rintro⟨h1,cv,lv,fb,av,h3⟩
   refine⟨(cv,lv,fb,av),?_⟩;rw [Pr.dP];exact Sat.pure.2 ⟨h1,h3⟩
theorem pj {v:Value}{l:List Int}{F:Pr}{w:World}(h:Sat ((dX v l).star F) w)(h0:0<l.length):
 ∃b c,v= .slice (some ⟨b,0,none⟩) l.length c∧∀i,i<l.length→w.cell? ⟨b,i,none⟩=some (.int .i64 (l.getD i 0))∧w.frozen? ⟨b,i,none⟩=false:=by
 obtain⟨a,c,hv,hl,hc0⟩:=Row.read h;obtain⟨b,ha,hc⟩:=hc0 h0;clear hc0;subst ha;subst hv;refine⟨b,c,rfl,fun i hi=>⟨?_,(hc i (by omega)).2⟩⟩;rw [(hc i (by omega)).1];simp [hi]
theorem sJ {v:Value}{l:List Bool}{F:Pr}{w:World}(h:Sat ((eK v l).star F) w)(h0:0<l.length):
 ∃b c,v= .slice (some ⟨b,0,none⟩) l.length c∧∀i,i<l.length→w.cell? ⟨b,i,none⟩=some (.bool (l.getD i false))∧w.frozen? ⟨b,i,none⟩=false:=by
 obtain⟨a,c,hv,hl,hc0⟩:=Row.read h;obtain⟨b,ha,hc⟩:=hc0 h0;clear hc0;subst ha;subst hv;refine⟨b,c,rfl,fun i hi=>⟨?_,(hc i (by omega)).2⟩⟩;rw [(hc i (by omega)).1];simp [hi]
theorem wL {p:Nat}{s:ef}{cs:Array Value}{cv lv:Value}{F:Pr}{w:World}(h1:s.last.length=s.counts.length)(h2:1≤s.counts.length)(h3:s.counts.length≤65536)
 (e0:cs[0]? =some (.int .i64 s.refs)) (e1:cs[1]? =some cv) (e2:cs[2]? =some lv)
 (h:Sat ((Pr.pts p (.cells cs 159)).star ((dX cv s.counts).star ((eK lv s.last).star F))) w):o0 w p s:=by
 obtain⟨b,c,rfl,hc⟩:=pj h.right (by omega);obtain⟨b',c',rfl,hc'⟩:=sJ h.right.right (by omega);rw [h1] at e2;refine⟨h3,h1,by rw [cell_of_heap h.dL];exact e0,⟨b,c,by rw [cell_of_heap h.dL];exact e1,fun i hi=>(hc i hi).1⟩,⟨b',c',by rw [cell_of_heap h.dL];exact e2,fun i hi=>(hc' i (by omega)).1⟩⟩
end Go.Proofs.YtiegeadmgpanoaaGreatDoor.L3
namespace Go.Proofs.YtiegeadmgpanoaaGreatDoor.M3
open ChangeShapes WideShapes ChangeAt RowKit Sl fB D2 L3
abbrev Zi(p:Nat):Value:= .pointer (some ⟨p,0,none⟩)
theorem wM {s:ef}(h:hU s)(k:Int):0≤s.eU k∧s.eU k≤65536:=by
 unfold ef.eU;split
 · omega
 · have h1:s.many k≤s.counts.length:=by
    unfold ef.many;refine bK (bX _ _) ?_;simp
    have:=h.len
    omega
   have:=h.n2
   omega
theorem pW {s:ef}(h:hU s){n b:Int}(hn:s.there n)(k:Int)(hk:1≤k∧k≤4):
 (s.turn n b).eU k=s.eU k-(if s.state n=k then 1 else 0)+(if(s.turn n b).state n=k then 1 else 0):=by
 have h1:=zl h (b:=b) hn k;rw [od hn,if_pos rfl];unfold ef.eU;rw [if_neg (by omega),if_neg (by omega)];by_cases c1:s.state n=k<;>by_cases c2:gq (s.count n+b) (s.lasts n)=k
 all_goals
  simp only [c1,c2,if_true,if_false] at h1 ⊢;omega
theorem Iw {s:ef}{n b:Int}(hn:s.there n)(m:Int):(s.turn n b).state m=1↔if m=n then(s.turn n b).state n=1 else s.state m=1:=by
 rw [od hn,od hn,if_pos rfl];split<;>rfl
theorem E' {s:ef}{n b:Int}{bc cc:Nat}{A F:Pr}{w:World}(hn:s.there n)
 (h:Sat (A.star ((dX (.slice (some ⟨bc,0,none⟩) s.counts.length cc) s.counts).star F)) w):
 Sat (A.star ((dX (.slice (some ⟨bc,0,none⟩) s.counts.length cc) (s.turn n b).counts).star F)) (w.setCell ⟨bc,n.toNat-1,none⟩ (.int .i64 (s.count n+b))):=by
 obtain⟨h1,h2⟩:=hn;have h3:Sat ((Row 3 1 (.slice (some ⟨bc,0,none⟩) s.counts.length cc) s.counts.length (s.counts.map (Value.int .i64))).star (A.star F)) w:=h.perm (Pr.eD _ _ _);have h4:=Row.set h3 (i:=n.toNat-1) (by omega) (.int .i64 (s.count n+b));rw [← bN] at h4;have h5:=h4.perm (Pr.eD _ _ _);unfold dX
 have e:(s.turn n b).counts.length=s.counts.length:=by simp [ef.turn]
 rw [e];exact h5
theorem Row.ne {T k b n cap p:Nat}{o:Obj}{xs:List Value}{F:Pr}{w:World}(h:Sat ((Pr.pts p o).star ((Row T k (.slice (some ⟨b,0,none⟩) n cap) n xs).star F)) w)(_h0:0<n):p≠b:=by
 obtain⟨_,(⟨e,_,_⟩ | ⟨b',cap',sp,e,_,_,_,h4⟩)⟩:=Row.open' (h.perm (Pr.eD _ _ _))
 · cases e
 · cases e
   exact(h4.perm (Pr.eD _ _ _)).uL
theorem ni {p:Nat}{s:ef}{n b:Int}{cv:Value}{fb:Nat}{av:Value}{F:Pr}{w:World}(ok:hU (s.turn n b))(lv:Value)
 (h:Sat ((f_ fb fun m=>(s.turn n b).state m=1).star ((Pr.pts p (.cells (eO (s.turn n b) cv lv fb av) 159)).star ((dX cv (s.turn n b).counts).star ((eK lv s.last).star ((i' p av s.acts).star F))))) w):
 Sat ((eP p (s.turn n b)).star F) w:=by
 refine jl.2 ⟨ok,cv,lv,fb,av,?_⟩;unfold k_;exact h.perm (show _=((Pr.pts p (.cells (eO (s.turn n b) cv lv fb av) 159)).star ((dX cv (s.turn n b).counts).star ((eK lv s.last).star ((f_ fb fun m=>(s.turn n b).state m=1).star (i' p av s.acts))))).star F from by ac_rfl)
theorem nU {s:ef}{n b:Int}(hS:∀m,(s.turn n b).state m=1↔if m=n then(s.turn n b).state n=1 else s.state m=1)(hk:s.state n=1↔(s.turn n b).state n=1){fb:Nat}:
 (f_ fb fun m=>(s.turn n b).state m=1)=f_ fb fun m=>s.state m=1:=
 l5 fun m=>by
  rw [hS];split
  · rename_i h;rw [h];exact hk.symm
  · rfl
theorem KQ {s:ef}{n b:Int}(hS:∀m,(s.turn n b).state m=1↔if m=n then(s.turn n b).state n=1 else s.state m=1)(hk:s.state n=1∧(s.turn n b).state n≠1){fb:Nat}:
 (f_ fb fun m=>(s.turn n b).state m=1)=f_ fb fun m=>s.state m=1∧m≠n:=
 l5 fun m=>by
  rw [hS];split
  · rename_i h;exact⟨fun h1=>absurd h1 hk.2,fun h1=>absurd h h1.2⟩
  · rename_i h;exact⟨fun h1=>⟨h1,h⟩,fun h1=>h1.1⟩
theorem KR {s:ef}{n b:Int}(hS:∀m,(s.turn n b).state m=1↔if m=n then(s.turn n b).state n=1 else s.state m=1)(hk:(s.turn n b).state n=1){fb:Nat}:
 (f_ fb fun m=>(s.turn n b).state m=1)=f_ fb fun m=>m=n∨s.state m=1:=
 l5 fun m=>by
  rw [hS];split
  · rename_i h;exact⟨fun _=> .inl h,fun _=>hk⟩
  · rename_i h;exact⟨fun h1=> .inr h1,fun h1=>h1.resolve_left h⟩
theorem Fa {s:ef}(ok:hU s)(m:Int)(h:s.state m=1):1≤m∧m≤65536:=by
 unfold ef.state at h;split at h
 · rename_i ht
   have:=ok.n2
   exact⟨ht.1,by have:=ht.2;omega⟩
 · omega
theorem CO(p:Nat)(s:ef)(n b:Int)(F:Pr)(w:World)(hF:Sat ((eP p s).star F) w)(hn:s.there n)(h0:0≤s.count n+b)(h1:s.count n+b≤65536):
 Calls Tryz.prog 138 #[.pointer (some ⟨p,0,none⟩),.int .i64 n,.int .i64 b] w fun e w'=>
  e= .returned (.tuple #[])∧Sat ((eP p (s.turn n b)).star F) w'∧dN w w':=by
 obtain⟨ok,cv,lv,fb,av,hA⟩:=jl.1 hF;have o9:Sat ((Pr.pts p (.cells (eO s cv lv fb av) 159)).star ((dX cv s.counts).star ((eK lv s.last).star ((f_ fb fun m=>s.state m=1).star ((i' p av s.acts).star F))))) w:=hA.perm (by unfold k_;ac_rfl);have Zj:o0 w p s:=wL ok.len ok.n1 ok.n2 rfl rfl rfl o9
 obtain⟨bc,cc,SY,hc⟩:=pj o9.right (by have:=ok.n1;omega);subst SY;have hb0:=m_ ok n;have hn':=hn;obtain⟨n1,n2⟩:=hn';have n3:=ok.n2;obtain⟨i1,i2⟩:=hc (n.toNat-1) (by omega);have uI:s.counts.getD (n.toNat-1) 0=s.count n:=by unfold ef.count;rw [if_pos hn]
 rw [uI] at i1;have GZ:=E' (b:=b) hn o9;have KT:=Nv ok h0 h1;have SZ:=wL (s:=s.turn n b) (cs:=eO s (.slice (some ⟨bc,0,none⟩) s.counts.length cc) lv fb av) KT.len KT.n1 KT.n2 rfl rfl rfl GZ;have c0:=nS p n w s Zj;have c1:=nS p n _ (s.turn n b) SZ
 have p1:w.cell? ⟨p,1,none⟩=some (.slice (some ⟨bc,0,none⟩) s.counts.length cc):=by rw [cell_of_heap o9.dL];rfl
 have T1:=pW ok (b:=b) hn 1 (by omega);have T2:=pW ok (b:=b) hn 2 (by omega);have T3:=pW ok (b:=b) hn 3 (by omega);have T4:=pW ok (b:=b) hn 4 (by omega);have B1:=wM ok 1;have B2:=wM ok 2;have B3:=wM ok 3;have B4:=wM ok 4;have hS:=Iw (b:=b) hn
 have hk:(s.state n=1∧(s.turn n b).state n=1)∨(s.state n=1∧(s.turn n b).state n=3)∨(s.state n=3∧(s.turn n b).state n=1)∨(s.state n=3∧(s.turn n b).state n=3)∨
  (s.state n=2∧(s.turn n b).state n=2)∨(s.state n=2∧(s.turn n b).state n=4)∨(s.state n=4∧(s.turn n b).state n=2)∨(s.state n=4∧(s.turn n b).state n=4):=by
  rw [od hn,if_pos rfl,jS hn];unfold gq;cases s.lasts n<;>by_cases u1:0<s.count n<;>by_cases u2:0<s.count n+b<;>simp [u1,u2]
 have p3:w.cell? ⟨p,3,none⟩=some (.pointer (some ⟨fb,0,none⟩)):=by rw [cell_of_heap o9.dL];rfl
 have p5:w.cell? ⟨p,5,none⟩=some (.int .i64 (s.eU 1)):=by rw [cell_of_heap o9.dL];rfl
 have p6:w.cell? ⟨p,6,none⟩=some (.int .i64 (s.eU 2)):=by rw [cell_of_heap o9.dL];rfl
 have p7:w.cell? ⟨p,7,none⟩=some (.int .i64 (s.eU 3)):=by rw [cell_of_heap o9.dL];rfl
 have p8:w.cell? ⟨p,8,none⟩=some (.int .i64 (s.eU 4)):=by rw [cell_of_heap o9.dL];rfl
 have f5:=frozen_of_heap o9.dL 5;have f6:=frozen_of_heap o9.dL 6;have f7:=frozen_of_heap o9.dL 7;have f8:=frozen_of_heap o9.dL 8;have hne:p≠bc:=Row.ne o9 (by have:=ok.n1;omega);have Iy:=hQ GZ;have HS:=hQ hS;have HB:=hQ (Fa ok);clear GZ o9 hA hc uI hS hF Zj SZ;rcases hk with⟨k0,k1⟩ | ⟨k0,k1⟩ | ⟨k0,k1⟩ | ⟨k0,k1⟩ | ⟨k0,k1⟩ | ⟨k0,k1⟩ | ⟨k0,k1⟩ | ⟨k0,k1⟩
 all_goals
  rw [k0] at c0;rw [k1] at c1;have C0:=hQ c0;have C1:=hQ c1;clear c0 c1
 · have he:((eO s (.slice (some ⟨bc,0,none⟩) s.counts.length cc) lv fb av).setIfInBounds 5 (.int .i64 (s.eU 1-1))).setIfInBounds 5 (.int .i64 (s.eU 1))=eO (s.turn n b) (.slice (some ⟨bc,0,none⟩) s.counts.length cc) lv fb av:=by
    have t1:(s.turn n b).eU 1=s.eU 1:=by rw [T1,k0,k1];simp
    have t2:(s.turn n b).eU 2=s.eU 2:=by rw [T2,k0,k1];simp
    have t3:(s.turn n b).eU 3=s.eU 3:=by rw [T3,k0,k1];simp
    have t4:(s.turn n b).eU 4=s.eU 4:=by rw [T4,k0,k1];simp
    unfold eO;rw [t1,t2,t3,t4];rfl
   have sK:=((Iy.af.setCell (i:=5) (.int .i64 (s.eU 1-1))).setCell (i:=5) (.int .i64 (s.eU 1))).drew.drew;rw [he] at sK
   have HE:=hQ (sK.perm (show _=(f_ fb fun m=>s.state m=1).star ((Pr.pts p (.cells (eO (s.turn n b) (.slice (some ⟨bc,0,none⟩) s.counts.length cc) lv fb av) 159)).star ((dX (.slice (some ⟨bc,0,none⟩) s.counts.length cc) (s.turn n b).counts).star ((eK lv s.last).star ((i' p av s.acts).star F)))) from by ac_rfl));have wb:=hQ ((by omega:s.state n=1↔(s.turn n b).state n=1))
   clear he sK T1 T2 T3 T4 k0 k1;go_enter Tryz.func138,Tryz.ntmps138
   go_wp2_with fail
   refine C0.af.mono ?_;rintro e w' ⟨rfl,rfl⟩;go_wp2_with fail
   refine C1.af.mono ?_;rintro e w' ⟨rfl,rfl⟩;go_wp2;refine wS 66 [0,1,2,3,4,5,6,7,8,9] [(10,[],[7,8])] ?_;iterate 10 (refine fH rfl rfl (fun K hK=> ?_);go_simp;refine hK _ ?_;clear hK K)
   refine dU ?_;refine dK rfl ?_;go_wp2;refine dQ (dU ⟨?_,dW ?_⟩)
   · refine d6 ?_ (d6 ?_ eM)<;>(refine fj rfl rfl rfl rfl ?_;go_simp;try omega)
   go_wp2;refine wS 66 [0,1,2,3,4,5,6,7,8,9] [(10,[],[7,8])] ?_;iterate 10 (refine fH rfl rfl (fun K hK=> ?_);go_simp;refine hK _ ?_;clear hK K)
   refine dU ?_;refine dK rfl ?_;go_wp2;refine dQ (dU ⟨?_,dW ?_⟩)
   · refine d6 ?_ (d6 ?_ eM)<;>(refine fj rfl rfl rfl rfl ?_;go_simp;try omega)
   go_wp2;first | refine bodyPost_ret (results_none rfl _ _ _) rfl ?_ | go_end0
   refine⟨rfl,ni KT lv (HE.af.perm (by rw [nU HS.af wb.af])),?_⟩;exact(((((dN.refl w).setCell _ _).setCell _ _).setCell _ _)).drew.drew
 · have he:((eO s (.slice (some ⟨bc,0,none⟩) s.counts.length cc) lv fb av).setIfInBounds 5 (.int .i64 (s.eU 1-1))).setIfInBounds 7 (.int .i64 (s.eU 3+1))=eO (s.turn n b) (.slice (some ⟨bc,0,none⟩) s.counts.length cc) lv fb av:=by
    have t1:(s.turn n b).eU 1=s.eU 1-1:=by rw [T1,k0,k1];simp
    have t2:(s.turn n b).eU 2=s.eU 2:=by rw [T2,k0,k1];simp
    have t3:(s.turn n b).eU 3=s.eU 3+1:=by rw [T3,k0,k1];simp
    have t4:(s.turn n b).eU 4=s.eU 4:=by rw [T4,k0,k1];simp
    unfold eO;rw [t1,t2,t3,t4];rfl
   have sK:=((Iy.af.setCell (i:=5) (.int .i64 (s.eU 1-1))).setCell (i:=7) (.int .i64 (s.eU 3+1))).drew.drew;rw [he] at sK
   have HE:=hQ (sK.perm (show _=(f_ fb fun m=>s.state m=1).star ((Pr.pts p (.cells (eO (s.turn n b) (.slice (some ⟨bc,0,none⟩) s.counts.length cc) lv fb av) 159)).star ((dX (.slice (some ⟨bc,0,none⟩) s.counts.length cc) (s.turn n b).counts).star ((eK lv s.last).star ((i' p av s.acts).star F)))) from by ac_rfl));have wb:=hQ (And.intro k0 (by omega:(s.turn n b).state n≠1))
   clear he sK T1 T2 T3 T4 k0 k1;go_enter Tryz.func138,Tryz.ntmps138
   go_wp2_with fail
   refine C0.af.mono ?_;rintro e w' ⟨rfl,rfl⟩;go_wp2_with fail
   refine C1.af.mono ?_;rintro e w' ⟨rfl,rfl⟩;go_wp2;refine wS 66 [0,1,2,3,4,5,6,7,8,9] [(10,[],[7,8])] ?_;iterate 10 (refine fH rfl rfl (fun K hK=> ?_);go_simp;refine hK _ ?_;clear hK K)
   refine dU ?_;refine dK rfl ?_;go_wp2;refine dQ (dU ⟨?_,dW ?_⟩)
   · refine d6 ?_ (d6 ?_ eM)<;>(refine fj rfl rfl rfl rfl ?_;go_simp;try omega)
   go_wp2;refine wS 66 [0,1,2,3,4,5,6,7,8,9] [(10,[],[7,8])] ?_;iterate 10 (refine fH rfl rfl (fun K hK=> ?_);go_simp;refine hK _ ?_;clear hK K)
   refine dU ?_;refine dK rfl ?_;go_wp2;refine dQ (dU ⟨?_,dW ?_⟩)
   · refine d6 ?_ (d6 ?_ eM)<;>(refine fj rfl rfl rfl rfl ?_;go_simp;try omega)
   go_wp2_with fail
   refine(E8 fb (fun m=>s.state m=1) n ⟨n1,by omega⟩ HB.af _ _ HE.af).mono ?_;rintro e w' ⟨m,rfl,hs,hst⟩;go_wp2;first | refine bodyPost_ret (results_none rfl _ _ _) rfl ?_ | go_end0
   refine⟨rfl,ni KT lv ((hs.perm (by rw [KQ (HS.af) wb.af]))),?_⟩;exact(((((dN.refl w).setCell _ _).setCell _ _).setCell _ _)).drew.drew.trans hst
 · have he:((eO s (.slice (some ⟨bc,0,none⟩) s.counts.length cc) lv fb av).setIfInBounds 7 (.int .i64 (s.eU 3-1))).setIfInBounds 5 (.int .i64 (s.eU 1+1))=eO (s.turn n b) (.slice (some ⟨bc,0,none⟩) s.counts.length cc) lv fb av:=by
    have t1:(s.turn n b).eU 1=s.eU 1+1:=by rw [T1,k0,k1];simp
    have t2:(s.turn n b).eU 2=s.eU 2:=by rw [T2,k0,k1];simp
    have t3:(s.turn n b).eU 3=s.eU 3-1:=by rw [T3,k0,k1];simp
    have t4:(s.turn n b).eU 4=s.eU 4:=by rw [T4,k0,k1];simp
    unfold eO;rw [t1,t2,t3,t4];rfl
   have sK:=((Iy.af.setCell (i:=7) (.int .i64 (s.eU 3-1))).setCell (i:=5) (.int .i64 (s.eU 1+1))).drew.drew;rw [he] at sK
   have HE:=hQ (sK.perm (show _=(f_ fb fun m=>s.state m=1).star ((Pr.pts p (.cells (eO (s.turn n b) (.slice (some ⟨bc,0,none⟩) s.counts.length cc) lv fb av) 159)).star ((dX (.slice (some ⟨bc,0,none⟩) s.counts.length cc) (s.turn n b).counts).star ((eK lv s.last).star ((i' p av s.acts).star F)))) from by ac_rfl));have wb:=hQ (k1);clear he sK T1 T2 T3 T4 k0 k1
   go_enter Tryz.func138,Tryz.ntmps138
   go_wp2_with fail
   refine C0.af.mono ?_;rintro e w' ⟨rfl,rfl⟩;go_wp2_with fail
   refine C1.af.mono ?_;rintro e w' ⟨rfl,rfl⟩;go_wp2;refine wS 66 [0,1,2,3,4,5,6,7,8,9] [(10,[],[7,8])] ?_;iterate 10 (refine fH rfl rfl (fun K hK=> ?_);go_simp;refine hK _ ?_;clear hK K)
   refine dU ?_;refine dK rfl ?_;go_wp2;refine dQ (dU ⟨?_,dW ?_⟩)
   · refine d6 ?_ (d6 ?_ eM)<;>(refine fj rfl rfl rfl rfl ?_;go_simp;try omega)
   go_wp2;refine wS 66 [0,1,2,3,4,5,6,7,8,9] [(10,[],[7,8])] ?_;iterate 10 (refine fH rfl rfl (fun K hK=> ?_);go_simp;refine hK _ ?_;clear hK K)
   refine dU ?_;refine dK rfl ?_;go_wp2;refine dQ (dU ⟨?_,dW ?_⟩)
   · refine d6 ?_ (d6 ?_ eM)<;>(refine fj rfl rfl rfl rfl ?_;go_simp;try omega)
   go_wp2_with fail
   refine(GX fb (fun m=>s.state m=1) n ⟨n1,by omega⟩ HB.af _ _ HE.af).mono ?_;rintro e w' ⟨m,rfl,hs,hst⟩;go_wp2;first | refine bodyPost_ret (results_none rfl _ _ _) rfl ?_ | go_end0
   refine⟨rfl,ni KT lv ((hs.perm (by rw [KR (HS.af) wb.af]))),?_⟩;exact(((((dN.refl w).setCell _ _).setCell _ _).setCell _ _)).drew.drew.trans hst
 · have he:((eO s (.slice (some ⟨bc,0,none⟩) s.counts.length cc) lv fb av).setIfInBounds 7 (.int .i64 (s.eU 3-1))).setIfInBounds 7 (.int .i64 (s.eU 3))=eO (s.turn n b) (.slice (some ⟨bc,0,none⟩) s.counts.length cc) lv fb av:=by
    have t1:(s.turn n b).eU 1=s.eU 1:=by rw [T1,k0,k1];simp
    have t2:(s.turn n b).eU 2=s.eU 2:=by rw [T2,k0,k1];simp
    have t3:(s.turn n b).eU 3=s.eU 3:=by rw [T3,k0,k1];simp
    have t4:(s.turn n b).eU 4=s.eU 4:=by rw [T4,k0,k1];simp
    unfold eO;rw [t1,t2,t3,t4];rfl
   have sK:=((Iy.af.setCell (i:=7) (.int .i64 (s.eU 3-1))).setCell (i:=7) (.int .i64 (s.eU 3))).drew.drew;rw [he] at sK
   have HE:=hQ (sK.perm (show _=(f_ fb fun m=>s.state m=1).star ((Pr.pts p (.cells (eO (s.turn n b) (.slice (some ⟨bc,0,none⟩) s.counts.length cc) lv fb av) 159)).star ((dX (.slice (some ⟨bc,0,none⟩) s.counts.length cc) (s.turn n b).counts).star ((eK lv s.last).star ((i' p av s.acts).star F)))) from by ac_rfl));have wb:=hQ ((by omega:s.state n=1↔(s.turn n b).state n=1))
   clear he sK T1 T2 T3 T4 k0 k1;go_enter Tryz.func138,Tryz.ntmps138
   go_wp2_with fail
   refine C0.af.mono ?_;rintro e w' ⟨rfl,rfl⟩;go_wp2_with fail
   refine C1.af.mono ?_;rintro e w' ⟨rfl,rfl⟩;go_wp2;refine wS 66 [0,1,2,3,4,5,6,7,8,9] [(10,[],[7,8])] ?_;iterate 10 (refine fH rfl rfl (fun K hK=> ?_);go_simp;refine hK _ ?_;clear hK K)
   refine dU ?_;refine dK rfl ?_;go_wp2;refine dQ (dU ⟨?_,dW ?_⟩)
   · refine d6 ?_ (d6 ?_ eM)<;>(refine fj rfl rfl rfl rfl ?_;go_simp;try omega)
   go_wp2;refine wS 66 [0,1,2,3,4,5,6,7,8,9] [(10,[],[7,8])] ?_;iterate 10 (refine fH rfl rfl (fun K hK=> ?_);go_simp;refine hK _ ?_;clear hK K)
   refine dU ?_;refine dK rfl ?_;go_wp2;refine dQ (dU ⟨?_,dW ?_⟩)
   · refine d6 ?_ (d6 ?_ eM)<;>(refine fj rfl rfl rfl rfl ?_;go_simp;try omega)
   go_wp2;first | refine bodyPost_ret (results_none rfl _ _ _) rfl ?_ | go_end0
   refine⟨rfl,ni KT lv (HE.af.perm (by rw [nU HS.af wb.af])),?_⟩;exact(((((dN.refl w).setCell _ _).setCell _ _).setCell _ _)).drew.drew
 · have he:((eO s (.slice (some ⟨bc,0,none⟩) s.counts.length cc) lv fb av).setIfInBounds 6 (.int .i64 (s.eU 2-1))).setIfInBounds 6 (.int .i64 (s.eU 2))=eO (s.turn n b) (.slice (some ⟨bc,0,none⟩) s.counts.length cc) lv fb av:=by
    have t1:(s.turn n b).eU 1=s.eU 1:=by rw [T1,k0,k1];simp
    have t2:(s.turn n b).eU 2=s.eU 2:=by rw [T2,k0,k1];simp
    have t3:(s.turn n b).eU 3=s.eU 3:=by rw [T3,k0,k1];simp
    have t4:(s.turn n b).eU 4=s.eU 4:=by rw [T4,k0,k1];simp
    unfold eO;rw [t1,t2,t3,t4];rfl
   have sK:=((Iy.af.setCell (i:=6) (.int .i64 (s.eU 2-1))).setCell (i:=6) (.int .i64 (s.eU 2))).drew.drew;rw [he] at sK
   have HE:=hQ (sK.perm (show _=(f_ fb fun m=>s.state m=1).star ((Pr.pts p (.cells (eO (s.turn n b) (.slice (some ⟨bc,0,none⟩) s.counts.length cc) lv fb av) 159)).star ((dX (.slice (some ⟨bc,0,none⟩) s.counts.length cc) (s.turn n b).counts).star ((eK lv s.last).star ((i' p av s.acts).star F)))) from by ac_rfl));have wb:=hQ ((by omega:s.state n=1↔(s.turn n b).state n=1))
   clear he sK T1 T2 T3 T4 k0 k1;go_enter Tryz.func138,Tryz.ntmps138
   go_wp2_with fail
   refine C0.af.mono ?_;rintro e w' ⟨rfl,rfl⟩;go_wp2_with fail
   refine C1.af.mono ?_;rintro e w' ⟨rfl,rfl⟩;go_wp2;refine wS 66 [0,1,2,3,4,5,6,7,8,9] [(10,[],[7,8])] ?_;iterate 10 (refine fH rfl rfl (fun K hK=> ?_);go_simp;refine hK _ ?_;clear hK K)
   refine dU ?_;refine dK rfl ?_;go_wp2;refine dQ (dU ⟨?_,dW ?_⟩)
   · refine d6 ?_ (d6 ?_ eM)<;>(refine fj rfl rfl rfl rfl ?_;go_simp;try omega)
   go_wp2;refine wS 66 [0,1,2,3,4,5,6,7,8,9] [(10,[],[7,8])] ?_;iterate 10 (refine fH rfl rfl (fun K hK=> ?_);go_simp;refine hK _ ?_;clear hK K)
   refine dU ?_;refine dK rfl ?_;go_wp2;refine dQ (dU ⟨?_,dW ?_⟩)
   · refine d6 ?_ (d6 ?_ eM)<;>(refine fj rfl rfl rfl rfl ?_;go_simp;try omega)
   go_wp2;first | refine bodyPost_ret (results_none rfl _ _ _) rfl ?_ | go_end0
   refine⟨rfl,ni KT lv (HE.af.perm (by rw [nU HS.af wb.af])),?_⟩;exact(((((dN.refl w).setCell _ _).setCell _ _).setCell _ _)).drew.drew
 · have he:((eO s (.slice (some ⟨bc,0,none⟩) s.counts.length cc) lv fb av).setIfInBounds 6 (.int .i64 (s.eU 2-1))).setIfInBounds 8 (.int .i64 (s.eU 4+1))=eO (s.turn n b) (.slice (some ⟨bc,0,none⟩) s.counts.length cc) lv fb av:=by
    have t1:(s.turn n b).eU 1=s.eU 1:=by rw [T1,k0,k1];simp
    have t2:(s.turn n b).eU 2=s.eU 2-1:=by rw [T2,k0,k1];simp
    have t3:(s.turn n b).eU 3=s.eU 3:=by rw [T3,k0,k1];simp
    have t4:(s.turn n b).eU 4=s.eU 4+1:=by rw [T4,k0,k1];simp
    unfold eO;rw [t1,t2,t3,t4];rfl
   have sK:=((Iy.af.setCell (i:=6) (.int .i64 (s.eU 2-1))).setCell (i:=8) (.int .i64 (s.eU 4+1))).drew.drew;rw [he] at sK
   have HE:=hQ (sK.perm (show _=(f_ fb fun m=>s.state m=1).star ((Pr.pts p (.cells (eO (s.turn n b) (.slice (some ⟨bc,0,none⟩) s.counts.length cc) lv fb av) 159)).star ((dX (.slice (some ⟨bc,0,none⟩) s.counts.length cc) (s.turn n b).counts).star ((eK lv s.last).star ((i' p av s.acts).star F)))) from by ac_rfl));have wb:=hQ ((by omega:s.state n=1↔(s.turn n b).state n=1))
   clear he sK T1 T2 T3 T4 k0 k1;go_enter Tryz.func138,Tryz.ntmps138
   go_wp2_with fail
   refine C0.af.mono ?_;rintro e w' ⟨rfl,rfl⟩;go_wp2_with fail
   refine C1.af.mono ?_;rintro e w' ⟨rfl,rfl⟩;go_wp2;refine wS 66 [0,1,2,3,4,5,6,7,8,9] [(10,[],[7,8])] ?_;iterate 10 (refine fH rfl rfl (fun K hK=> ?_);go_simp;refine hK _ ?_;clear hK K)
   refine dU ?_;refine dK rfl ?_;go_wp2;refine dQ (dU ⟨?_,dW ?_⟩)
   · refine d6 ?_ (d6 ?_ eM)<;>(refine fj rfl rfl rfl rfl ?_;go_simp;try omega)
   go_wp2;refine wS 66 [0,1,2,3,4,5,6,7,8,9] [(10,[],[7,8])] ?_;iterate 10 (refine fH rfl rfl (fun K hK=> ?_);go_simp;refine hK _ ?_;clear hK K)
   refine dU ?_;refine dK rfl ?_;go_wp2;refine dQ (dU ⟨?_,dW ?_⟩)
   · refine d6 ?_ (d6 ?_ eM)<;>(refine fj rfl rfl rfl rfl ?_;go_simp;try omega)
   go_wp2;first | refine bodyPost_ret (results_none rfl _ _ _) rfl ?_ | go_end0
   refine⟨rfl,ni KT lv (HE.af.perm (by rw [nU HS.af wb.af])),?_⟩;exact(((((dN.refl w).setCell _ _).setCell _ _).setCell _ _)).drew.drew
 · have he:((eO s (.slice (some ⟨bc,0,none⟩) s.counts.length cc) lv fb av).setIfInBounds 8 (.int .i64 (s.eU 4-1))).setIfInBounds 6 (.int .i64 (s.eU 2+1))=eO (s.turn n b) (.slice (some ⟨bc,0,none⟩) s.counts.length cc) lv fb av:=by
    have t1:(s.turn n b).eU 1=s.eU 1:=by rw [T1,k0,k1];simp
    have t2:(s.turn n b).eU 2=s.eU 2+1:=by rw [T2,k0,k1];simp
    have t3:(s.turn n b).eU 3=s.eU 3:=by rw [T3,k0,k1];simp
    have t4:(s.turn n b).eU 4=s.eU 4-1:=by rw [T4,k0,k1];simp
    unfold eO;rw [t1,t2,t3,t4];rfl
   have sK:=((Iy.af.setCell (i:=8) (.int .i64 (s.eU 4-1))).setCell (i:=6) (.int .i64 (s.eU 2+1))).drew.drew;rw [he] at sK
   have HE:=hQ (sK.perm (show _=(f_ fb fun m=>s.state m=1).star ((Pr.pts p (.cells (eO (s.turn n b) (.slice (some ⟨bc,0,none⟩) s.counts.length cc) lv fb av) 159)).star ((dX (.slice (some ⟨bc,0,none⟩) s.counts.length cc) (s.turn n b).counts).star ((eK lv s.last).star ((i' p av s.acts).star F)))) from by ac_rfl));have wb:=hQ ((by omega:s.state n=1↔(s.turn n b).state n=1))
   clear he sK T1 T2 T3 T4 k0 k1;go_enter Tryz.func138,Tryz.ntmps138
   go_wp2_with fail
   refine C0.af.mono ?_;rintro e w' ⟨rfl,rfl⟩;go_wp2_with fail
   refine C1.af.mono ?_;rintro e w' ⟨rfl,rfl⟩;go_wp2;refine wS 66 [0,1,2,3,4,5,6,7,8,9] [(10,[],[7,8])] ?_;iterate 10 (refine fH rfl rfl (fun K hK=> ?_);go_simp;refine hK _ ?_;clear hK K)
   refine dU ?_;refine dK rfl ?_;go_wp2;refine dQ (dU ⟨?_,dW ?_⟩)
   · refine d6 ?_ (d6 ?_ eM)<;>(refine fj rfl rfl rfl rfl ?_;go_simp;try omega)
   go_wp2;refine wS 66 [0,1,2,3,4,5,6,7,8,9] [(10,[],[7,8])] ?_;iterate 10 (refine fH rfl rfl (fun K hK=> ?_);go_simp;refine hK _ ?_;clear hK K)
   refine dU ?_;refine dK rfl ?_;go_wp2;refine dQ (dU ⟨?_,dW ?_⟩)
   · refine d6 ?_ (d6 ?_ eM)<;>(refine fj rfl rfl rfl rfl ?_;go_simp;try omega)
   go_wp2;first | refine bodyPost_ret (results_none rfl _ _ _) rfl ?_ | go_end0
   refine⟨rfl,ni KT lv (HE.af.perm (by rw [nU HS.af wb.af])),?_⟩;exact(((((dN.refl w).setCell _ _).setCell _ _).setCell _ _)).drew.drew
 · have he:((eO s (.slice (some ⟨bc,0,none⟩) s.counts.length cc) lv fb av).setIfInBounds 8 (.int .i64 (s.eU 4-1))).setIfInBounds 8 (.int .i64 (s.eU 4))=eO (s.turn n b) (.slice (some ⟨bc,0,none⟩) s.counts.length cc) lv fb av:=by
    have t1:(s.turn n b).eU 1=s.eU 1:=by rw [T1,k0,k1];simp
    have t2:(s.turn n b).eU 2=s.eU 2:=by rw [T2,k0,k1];simp
    have t3:(s.turn n b).eU 3=s.eU 3:=by rw [T3,k0,k1];simp
    have t4:(s.turn n b).eU 4=s.eU 4:=by rw [T4,k0,k1];simp
    unfold eO;rw [t1,t2,t3,t4];rfl
   have sK:=((Iy.af.setCell (i:=8) (.int .i64 (s.eU 4-1))).setCell (i:=8) (.int .i64 (s.eU 4))).drew.drew;rw [he] at sK
   have HE:=hQ (sK.perm (show _=(f_ fb fun m=>s.state m=1).star ((Pr.pts p (.cells (eO (s.turn n b) (.slice (some ⟨bc,0,none⟩) s.counts.length cc) lv fb av) 159)).star ((dX (.slice (some ⟨bc,0,none⟩) s.counts.length cc) (s.turn n b).counts).star ((eK lv s.last).star ((i' p av s.acts).star F)))) from by ac_rfl));have wb:=hQ ((by omega:s.state n=1↔(s.turn n b).state n=1))
   clear he sK T1 T2 T3 T4 k0 k1;go_enter Tryz.func138,Tryz.ntmps138
   go_wp2_with fail
   refine C0.af.mono ?_;rintro e w' ⟨rfl,rfl⟩;go_wp2_with fail
   refine C1.af.mono ?_;rintro e w' ⟨rfl,rfl⟩;go_wp2;refine wS 66 [0,1,2,3,4,5,6,7,8,9] [(10,[],[7,8])] ?_;iterate 10 (refine fH rfl rfl (fun K hK=> ?_);go_simp;refine hK _ ?_;clear hK K)
   refine dU ?_;refine dK rfl ?_;go_wp2;refine dQ (dU ⟨?_,dW ?_⟩)
   · refine d6 ?_ (d6 ?_ eM)<;>(refine fj rfl rfl rfl rfl ?_;go_simp;try omega)
   go_wp2;refine wS 66 [0,1,2,3,4,5,6,7,8,9] [(10,[],[7,8])] ?_;iterate 10 (refine fH rfl rfl (fun K hK=> ?_);go_simp;refine hK _ ?_;clear hK K)
   refine dU ?_;refine dK rfl ?_;go_wp2;refine dQ (dU ⟨?_,dW ?_⟩)
   · refine d6 ?_ (d6 ?_ eM)<;>(refine fj rfl rfl rfl rfl ?_;go_simp;try omega)
   go_wp2;first | refine bodyPost_ret (results_none rfl _ _ _) rfl ?_ | go_end0
   refine⟨rfl,ni KT lv (HE.af.perm (by rw [nU HS.af wb.af])),?_⟩;exact(((((dN.refl w).setCell _ _).setCell _ _).setCell _ _)).drew.drew
end Go.Proofs.YtiegeadmgpanoaaGreatDoor.M3
