/- Plain laws: runs as sets of numbers: what adding and removing a run does to the numbers. No program in sight. -/
import Derived.Test.YtkfjilnmnbeokaaGreatPutInPlaceM06
import Derived.Test.YtkfjilnmnbeokaaGreatPutInPlaceM02
import Derived.Test.YtkfjilnmnbeokaaGreatPutInPlaceM01
set_option maxRecDepth 100000
set_option maxHeartbeats 16000000
namespace Go.Cop
open Go.Proofs.YtkfjilnmnbeokaaGreat.Y2 Go.Proofs.YtkfjilnmnbeokaaGreat.Z2
abbrev Rs:=List (Int × Int)
def Canon(rs:Rs):Prop:=rs.Pairwise (fun x y=>x.2+1<y.1)∧∀x∈rs,x.1≤x.2
def InRuns(rs:Rs)(n:Int):Prop:= ∃x∈rs,x.1≤n∧n≤x.2
theorem inRuns_append {a b:Rs}{n:Int}:InRuns (a++b) n↔InRuns a n∨InRuns b n:=by
 unfold InRuns;constructor
 · rintro⟨x,hx,h⟩
   rcases List.mem_append.1 hx with h1 | h1
   · exact .inl ⟨x,h1,h⟩
   · exact .inr ⟨x,h1,h⟩
 · rintro(⟨x,hx,h⟩ | ⟨x,hx,h⟩)
   · exact⟨x,List.mem_append_left _ hx,h⟩
   · exact⟨x,List.mem_append_right _ hx,h⟩
theorem inRuns_cons {x:Int × Int}{b:Rs}{n:Int}:InRuns (x :: b) n↔(x.1≤n∧n≤x.2)∨InRuns b n:=by
 unfold InRuns;simp
theorem inRuns_nil {n:Int}:¬InRuns [] n:=by unfold InRuns;simp
structure AddInv(st:AddSt)(rest:Rs):Prop where
 le:st.2.1.1≤st.2.1.2
 below:Canon st.1
 belowLo:∀x∈st.1,x.2+1<st.2.1.1
 above:Canon st.2.2
 aboveHi:∀x∈st.2.2,st.2.1.2+1<x.1
 restB:∀x∈st.1,∀y∈rest,x.2+1<y.1
 restA:∀x∈st.2.2,∀y∈rest,x.2+1<y.1
theorem canon_snoc {a:Rs}{y:Int × Int}(h:Canon a)(hy:y.1≤y.2)(hb:∀x∈a,x.2+1<y.1):Canon (a++ [y]):=by
 refine⟨List.pairwise_append.2 ⟨h.1,List.pairwise_singleton _ _,fun x hx z hz=> ?_⟩,fun x hx=> ?_⟩
 · rw [List.mem_singleton.1 hz];exact hb x hx
 · rcases List.mem_append.1 hx with h1 | h1
   · exact h.2 x h1
   · rw [List.mem_singleton.1 h1];exact hy
theorem addInv_step {st:AddSt}{y:Int × Int}{rest:Rs}(h:AddInv st (y :: rest))(hy:y.1≤y.2)(hr:∀z∈rest,y.2+1<z.1):
 AddInv (addStep st y) rest∧∀n,(InRuns (addStep st y).1 n∨((addStep st y).2.1.1≤n∧n≤(addStep st y).2.1.2)∨InRuns (addStep st y).2.2 n)↔
  (InRuns st.1 n∨(st.2.1.1≤n∧n≤st.2.1.2)∨InRuns st.2.2 n)∨(y.1≤n∧n≤y.2):=by
 obtain⟨B,⟨lo,hi⟩,A⟩:=st;obtain⟨h1,h2,h3,h4,h5,h6,h7⟩:=h;dsimp only at*
 have hA:A≠ []→hi+1<y.1:=fun hne=>by
  obtain⟨x,hx⟩:=List.exists_mem_of_ne_nil _ hne;have a1:=h5 x hx;have a2:=h4.2 x hx;have a3:=h7 x hx y List.mem_cons_self;omega
 unfold addStep;dsimp only;split
 · rename_i c
   refine⟨⟨h1,canon_snoc h2 hy (fun x hx=>h6 x hx y List.mem_cons_self),fun x hx=> ?_,h4,h5,fun x hx z hz=> ?_,fun x hx z hz=>h7 x hx z (List.mem_cons_of_mem _ hz)⟩,fun n=> ?_⟩
   · rcases List.mem_append.1 hx with h | h
     · exact h3 x h
     · rw [List.mem_singleton.1 h];exact c
   · rcases List.mem_append.1 hx with h | h
     · exact h6 x h z (List.mem_cons_of_mem _ hz)
     · rw [List.mem_singleton.1 h];exact hr z hz
   · rw [inRuns_append,inRuns_cons]
     simp only [inRuns_nil,or_false];constructor
     · rintro((h | h) | h | h)
       · exact .inl (.inl h)
       · exact .inr h
       · exact .inl (.inr (.inl h))
       · exact .inl (.inr (.inr h))
     · rintro((h | h | h) | h)
       · exact .inl (.inl h)
       · exact .inr (.inl h)
       · exact .inr (.inr h)
       · exact .inl (.inr h)
 · split
   · rename_i c c'
     refine⟨⟨h1,h2,h3,canon_snoc h4 hy (fun x hx=>h7 x hx y List.mem_cons_self),fun x hx=> ?_,fun x hx z hz=>h6 x hx z (List.mem_cons_of_mem _ hz),fun x hx z hz=> ?_⟩,fun n=> ?_⟩
     · rcases List.mem_append.1 hx with h | h
       · exact h5 x h
       · rw [List.mem_singleton.1 h];dsimp only;omega
     · rcases List.mem_append.1 hx with h | h
       · exact h7 x h z (List.mem_cons_of_mem _ hz)
       · rw [List.mem_singleton.1 h];exact hr z hz
     · rw [inRuns_append,inRuns_cons]
       simp only [inRuns_nil,or_false];constructor
       · rintro(h | h | h | h)
         · exact .inl (.inl h)
         · exact .inl (.inr (.inl h))
         · exact .inl (.inr (.inr h))
         · exact .inr h
       · rintro((h | h | h) | h)
         · exact .inl h
         · exact .inr (.inl h)
         · exact .inr (.inr (.inl h))
         · exact .inr (.inr (.inr h))
   · rename_i c c'
     have hnil:A= []:=by
      cases hA':A with
      | nil=>rfl
      | cons a A'=>have:=hA (by rw [hA'];simp);omega
     subst hnil;refine⟨⟨by dsimp only;omega,h2,fun x hx=> ?_,h4,(fun x hx=>by cases hx),fun x hx z hz=>h6 x hx z (List.mem_cons_of_mem _ hz),(fun x hx=>by cases hx)⟩,fun n=> ?_⟩
     · have a1:=h3 x hx
       have a2:=h6 x hx y List.mem_cons_self;dsimp only;omega
     · dsimp only
       simp only [inRuns_nil,or_false];by_cases hB:InRuns B n
       · simp [hB]
       · simp only [hB,false_or]
         omega
theorem addInv_fold(rs:Rs):∀(st:AddSt),AddInv st rs→Canon rs→AddInv (rs.foldl addStep st) []∧∀n,(InRuns (rs.foldl addStep st).1 n∨((rs.foldl addStep st).2.1.1≤n∧n≤(rs.foldl addStep st).2.1.2)∨InRuns (rs.foldl addStep st).2.2 n)↔
 (InRuns st.1 n∨(st.2.1.1≤n∧n≤st.2.1.2)∨InRuns st.2.2 n)∨InRuns rs n:=by
 induction rs with
 | nil=>intro st h _;exact⟨h,fun n=>by simp [inRuns_nil]⟩
 | cons y rs ih=>
   intro st h hc;obtain⟨hp,hle⟩:=hc;have hp':=List.pairwise_cons.1 hp;obtain⟨h1,h2⟩:=addInv_step h (hle y List.mem_cons_self) hp'.1;obtain⟨h3,h4⟩:=ih _ h1 ⟨hp'.2,fun x hx=>hle x (List.mem_cons_of_mem _ hx)⟩;refine⟨h3,fun n=> ?_⟩;rw [List.foldl_cons,h4,h2,inRuns_cons,or_assoc]
theorem canon_nil:Canon []:=⟨List.Pairwise.nil,(fun x hx=>by cases hx)⟩
theorem addRuns_law(rs:Rs)(lo hi:Int)(h:Canon rs)(hl:lo≤hi):Canon (addRuns rs lo hi)∧∀n,InRuns (addRuns rs lo hi) n↔(lo≤n∧n≤hi)∨InRuns rs n:=by
 obtain⟨hi',hm⟩:=addInv_fold rs ([],(lo,hi),[]) ⟨hl,canon_nil,(fun x hx=>by cases hx),canon_nil,(fun x hx=>by cases hx),(fun x hx=>by cases hx),(fun x hx=>by cases hx)⟩ h;unfold addRuns addFold;generalize rs.foldl addStep ([],(lo,hi),[])=st at*;obtain⟨B,⟨lo',hi1⟩,A⟩:=st;obtain⟨h1,h2,h3,h4,h5,h6,h7⟩:=hi';dsimp only at*;constructor
 · have hc:=canon_snoc (y:=(lo',hi1)) h2 h1 h3
   refine⟨List.pairwise_append.2 ⟨hc.1,h4.1,fun x hx y hy=> ?_⟩,fun x hx=> ?_⟩
   · rcases List.mem_append.1 hx with h | h
     · have a1:=h3 x h
       have a2:=h5 y hy;omega
     · rw [List.mem_singleton.1 h];exact h5 y hy
   · rcases List.mem_append.1 hx with h | h
     · exact hc.2 x h
     · exact h4.2 x h
 · intro n
   have:=hm n
   rw [inRuns_append,inRuns_append,inRuns_cons];simp only [inRuns_nil,or_false,false_or] at this ⊢;rw [← this,or_assoc]
theorem remOne_in {lo hi:Int}{x p:Int × Int}(hx:x.1≤x.2)(hp:p∈remOne lo hi x):x.1≤p.1∧p.1≤p.2∧p.2≤x.2:=by
 unfold remOne at hp;split at hp
 · rw [List.mem_singleton.1 hp];exact⟨Int.le_refl _,hx,Int.le_refl _⟩
 · rename_i c
   rcases List.mem_append.1 hp with h | h
   · split at h
     · rw [List.mem_singleton.1 h];dsimp only;omega
     · cases h
   · split at h
     · rw [List.mem_singleton.1 h];dsimp only;omega
     · cases h
theorem remOne_canon {lo hi:Int}{x:Int × Int}(hl:lo≤hi):(remOne lo hi x).Pairwise fun x y=>x.2+1<y.1:=by
 unfold remOne;split
 · exact List.pairwise_singleton _ _
 · split<;>split<;>simp
   omega
theorem remOne_mem {lo hi:Int}{x:Int × Int}(n:Int)(hl:lo≤hi):InRuns (remOne lo hi x) n↔(x.1≤n∧n≤x.2)∧¬(lo≤n∧n≤hi):=by
 unfold remOne;split
 · simp only [inRuns_cons,inRuns_nil,or_false];omega
 · rw [inRuns_append]
   split<;>split<;>simp only [inRuns_cons,inRuns_nil,or_false,false_or]<;>(constructor<;>intro h<;>first | omega | exact h.elim)
theorem remRuns_law(lo hi:Int)(hl:lo≤hi):∀(rs:Rs),Canon rs→Canon (remRuns rs lo hi)∧(∀n,InRuns (remRuns rs lo hi) n↔InRuns rs n∧¬(lo≤n∧n≤hi)):=by
 intro rs;induction rs with
 | nil=>intro _;exact⟨canon_nil,fun n=>by simp [remRuns,inRuns_nil]⟩
 | cons x rs ih=>
   rintro⟨hp,hle⟩;have hp':=List.pairwise_cons.1 hp;obtain⟨h1,h2⟩:=ih ⟨hp'.2,fun y hy=>hle y (List.mem_cons_of_mem _ hy)⟩;have hx:=hle x List.mem_cons_self;have e:remRuns (x :: rs) lo hi=remOne lo hi x++remRuns rs lo hi:=by simp [remRuns]
   rw [e];refine⟨⟨List.pairwise_append.2 ⟨remOne_canon hl,h1.1,fun a ha b hb=> ?_⟩,fun a ha=> ?_⟩,fun n=> ?_⟩
   · have a1:=remOne_in hx ha
     unfold remRuns at hb;obtain⟨y,hy,hby⟩:=List.mem_flatMap.1 hb;have a2:=remOne_in (hle y (List.mem_cons_of_mem _ hy)) hby;have a3:=hp'.1 y hy;omega
   · rcases List.mem_append.1 ha with h | h
     · exact(remOne_in hx h).2.1
     · exact h1.2 a h
   · rw [inRuns_append,inRuns_cons,remOne_mem n hl,h2]
     constructor
     · rintro(⟨h,k⟩ | ⟨h,k⟩)
       · exact⟨.inl h,k⟩
       · exact⟨.inr h,k⟩
     · rintro⟨h | h,k⟩
       · exact .inl ⟨h,k⟩
       · exact .inr ⟨h,k⟩
theorem lowest_law {x:Int × Int}{rs:Rs}(h:Canon (x :: rs)):InRuns (x :: rs) x.1∧∀n,InRuns (x :: rs) n→x.1≤n:=by
 obtain⟨hp,hle⟩:=h;have hp':=List.pairwise_cons.1 hp;have hx:=hle x List.mem_cons_self;refine⟨⟨x,List.mem_cons_self,Int.le_refl _,hx⟩,?_⟩;rintro n ⟨y,hy,h1,h2⟩;rcases List.mem_cons.1 hy with rfl | hy
 · exact h1
 · have:=hp'.1 y hy
   omega
theorem canon_len:∀(rs:Rs) (a b:Int),Canon rs→(∀n,InRuns rs n→a≤n∧n≤b)→(rs.length:Int)≤max 0 (b-a+1):=by
 intro rs;induction rs with
 | nil=>intro a b _ _;simp;omega
 | cons x rs ih=>
   rintro a b ⟨hp,hle⟩ hr;have hp':=List.pairwise_cons.1 hp;have hx:=hle x List.mem_cons_self;have h1:=hr x.1 ⟨x,List.mem_cons_self,Int.le_refl _,hx⟩
   have h2:=ih (x.1+1) b ⟨hp'.2,fun y hy=>hle y (List.mem_cons_of_mem _ hy)⟩ (fun n hn=>by
    obtain⟨y,hy,k1,k2⟩:=hn
    have:=hp'.1 y hy
    have:=hr n ⟨y,List.mem_cons_of_mem _ hy,k1,k2⟩
    omega)
   simp only [List.length_cons];omega
theorem canon_in {rs:Rs}{a b:Int}(h:Canon rs)(hr:∀n,InRuns rs n→a≤n∧n≤b):∀x∈rs,a≤x.1∧x.1≤x.2∧x.2≤b:=fun x hx=>by
 have h1:=h.2 x hx;exact⟨(hr x.1 ⟨x,hx,Int.le_refl _,h1⟩).1,h1,(hr x.2 ⟨x,hx,h1,Int.le_refl _⟩).2⟩
end Go.Cop
namespace Go.Proofs.YtkfjilnmnbeokaaGreat.C3
open ChangeShapes WideShapes ChangeAt RowKit Sl E2
def lowVal:List (Int × Int)→Value
 | []=> .tuple #[.int .i64 0,.bool false]
 | x :: _=> .tuple #[.int .i64 x.1,.bool true]
theorem lowest_any(p:Nat)(v:Value)(rs:List (Int × Int))(F:Pr)(w:World)(hF:Sat ((SetAt p v rs).star F) w):
 Calls Tryz.prog 147 #[.pointer (some ⟨p,0,none⟩)] w fun e w'=>
  e= .returned (lowVal rs)∧w=w':=by
 have h1:Sat ((Pr.pts p (.cells #[v] 202)).star ((Row 204 2 v rs.length (runCells rs)).star F)) w:=hF.perm (by unfold SetAt;ac_rfl);have r1:w.cell? ⟨p,0,none⟩=some v:=by rw [cell_of_heap h1.pts_heap];rfl
 obtain⟨a,c,rfl,_,hrow⟩:=Row.read h1.right;clear h1 hF;cases rs with
 | nil=>
   clear hrow;go_enter Tryz.func147,Tryz.ntmps147
   go_wp2;go_ret2;exact⟨rfl,rfl⟩
 | cons x rs=>
   obtain⟨b,rfl,hc⟩:=hrow (by simp);have q1:=(hc 0 (by simp)).1;have q2:w.cell? ⟨b,0,none⟩=some (.int .i64 x.1):=q1;have hne:(((x :: rs).length:Int) == 0)=false:=by simp;omega
   have hpos:0<(x :: rs).length:=by simp
   clear q1 hc hrow;generalize (x :: rs).length=n at*;have hv:lowVal (x :: rs)= .tuple #[.int .i64 x.1,.bool true]:=rfl;rw [hv];clear hv;generalize x.1=x1 at*;go_enter Tryz.func147,Tryz.ntmps147
   go_wp2;go_ret2;exact⟨rfl,rfl⟩
theorem new_nil(F:Pr)(w:World)(hF:Sat F w):
 Calls Tryz.prog 136 #[.slice none 0 0] w fun e w'=>
  ∃p,e= .returned (.pointer (some ⟨p,0,none⟩))∧Sat ((SetAt p (.slice none 0 0) []).star F) w'∧Stays w w':=by
 have h2:Sat ((SetAt w.heap.size (.slice none 0 0) []).star F) (w.alloc (.cells #[.slice none 0 0] 202)):=by
  have:=hF.alloc (.cells #[.slice none 0 0] 202)
  unfold SetAt;show Sat (((Pr.pts _ _).star (Row _ 2 (.slice none 0 0) 0 [])).star F) _
  rw [Row.nil,Pr.star_emp];exact this
 have H2:=hQ h2;clear h2 hF;go_enter Tryz.func136,Tryz.ntmps136
 go_wp2;go_loop [5,10] (fun _ i=>i= .int .i64 0) (fun _ _=>0)
 case atStart=>rfl
 case round=>
  subst hrel;go_wp2;go_ret;exact⟨_,rfl,H2.out,(Stays.refl w).alloc _⟩
end Go.Proofs.YtkfjilnmnbeokaaGreat.C3
namespace Go.Proofs.YtkfjilnmnbeokaaGreat.D3
open ChangeShapes WideShapes ChangeAt RowKit Sl Cop D2 E2 Y2 Z2 C3
theorem Row.set {T b n cap i:Nat}{xs:List Value}{F:Pr}{w:World}(h:Sat ((Row T 1 (.slice (some ⟨b,0,none⟩) n cap) n xs).star F) w)(hi:i<n)(u:Value):
 Sat ((Row T 1 (.slice (some ⟨b,0,none⟩) n cap) n (xs.set i u)).star F) (w.setCell ⟨b,i,none⟩ u):=by
 obtain⟨hl,(⟨e,_,_⟩ | ⟨b',cap',sp,e,h1,h2,h3,h4⟩)⟩:=Row.open' h
 · cases e
 · cases e
   have h5:=h4.setCell (i:=i) u
   have e2:((xs++sp).toArray.setIfInBounds i u)=(xs.set i u++sp).toArray:=by
    rw [List.setIfInBounds_toArray,List.set_append_left _ _ (by omega)]
   rw [e2] at h5;exact Row.mk' (by simpa using hl) (by simpa using h1) h2 h3 h5
def SetOf(p:Nat)(S:Int→Prop):Pr:=Pr.ex fun x:Value × Rs=>(Pr.pure (Canon x.2∧∀n,InRuns x.2 n↔S n)).star (SetAt p x.1 x.2)
theorem setOf_iff {p:Nat}{S:Int→Prop}{F:Pr}{w:World}:Sat ((SetOf p S).star F) w↔∃v rs,Canon rs∧(∀n,InRuns rs n↔S n)∧Sat ((SetAt p v rs).star F) w:=by
 unfold SetOf;rw [Sat.ex];constructor
 · rintro⟨⟨v,rs⟩,h⟩
   rw [Pr.star_assoc] at h;obtain⟨⟨h1,h2⟩,h3⟩:=Sat.pure.1 h;exact⟨v,rs,h1,h2,h3⟩
 · rintro⟨v,rs,h1,h2,h3⟩
   refine⟨(v,rs),?_⟩;rw [Pr.star_assoc];exact Sat.pure.2 ⟨⟨h1,h2⟩,h3⟩
theorem setOf_congr {p:Nat}{S S':Int→Prop}(h:∀n,S n↔S' n):SetOf p S=SetOf p S':=by
 have:S=S':=funext fun n=>propext (h n)
 rw [this]
theorem small_of {rs:Rs}{S:Int→Prop}(hc:Canon rs)(hm:∀n,InRuns rs n↔S n)(hS:∀m,S m→1≤m∧m≤65536):(∀x∈rs,Small x)∧rs.length≤65536:=by
 have h1:∀n,InRuns rs n→1≤n∧n≤65536:=fun n hn=>hS n ((hm n).1 hn)
 refine⟨fun x hx=> ?_,?_⟩
 · have:=canon_in hc h1 x hx
   exact⟨by omega,this.2.1,by omega⟩
 · have:=canon_len rs 1 65536 hc h1
   omega
theorem set_add(p:Nat)(S:Int→Prop)(n:Int)(hn:1≤n∧n≤65536)(hS:∀m,S m→1≤m∧m≤65536)(F:Pr)(w:World)(h:Sat ((SetOf p S).star F) w):
 Calls Tryz.prog 137 #[.pointer (some ⟨p,0,none⟩),.int .i64 n,.int .i64 n] w fun e w'=>
  ∃m:Int,e= .returned (.int .i64 m)∧Sat ((SetOf p fun x=>x=n∨S x).star F) w'∧Stays w w':=by
 obtain⟨v,rs,h1,h2,h3⟩:=setOf_iff.1 h;obtain⟨s1,s2⟩:=small_of h1 h2 hS;refine(add_any p v rs n n s1 ⟨by omega,Int.le_refl _,by dsimp only;omega⟩ s2 F w h3).mono ?_;rintro e w' ⟨m,v',rfl,h4,h5⟩;obtain⟨l1,l2⟩:=addRuns_law rs n n h1 (Int.le_refl _);refine⟨m,rfl,setOf_iff.2 ⟨v',_,l1,fun x=> ?_,h4⟩,h5⟩;rw [l2,h2];constructor
 · rintro(h | h)
   · exact .inl (by omega)
   · exact .inr h
 · rintro(rfl | h)
   · exact .inl ⟨Int.le_refl _,Int.le_refl _⟩
   · exact .inr h
theorem set_remove(p:Nat)(S:Int→Prop)(n:Int)(hn:1≤n∧n≤65536)(hS:∀m,S m→1≤m∧m≤65536)(F:Pr)(w:World)(h:Sat ((SetOf p S).star F) w):
 Calls Tryz.prog 179 #[.pointer (some ⟨p,0,none⟩),.int .i64 n,.int .i64 n] w fun e w'=>
  ∃m:Int,e= .returned (.int .i64 m)∧Sat ((SetOf p fun x=>S x∧x≠n).star F) w'∧Stays w w':=by
 obtain⟨v,rs,h1,h2,h3⟩:=setOf_iff.1 h;obtain⟨s1,s2⟩:=small_of h1 h2 hS;refine(remove_any p v rs n n s1 ⟨by omega,Int.le_refl _,by dsimp only;omega⟩ s2 F w h3).mono ?_;rintro e w' ⟨m,v',rfl,h4,h5⟩;obtain⟨l1,l2⟩:=remRuns_law n n (Int.le_refl _) rs h1;refine⟨m,rfl,setOf_iff.2 ⟨v',_,l1,fun x=> ?_,h4⟩,h5⟩;rw [l2,h2];constructor
 · rintro⟨h,k⟩
   exact⟨h,fun e=>k ⟨by omega,by omega⟩⟩
 · rintro⟨h,k⟩
   exact⟨h,fun e=>k (by omega)⟩
theorem set_lowest(p:Nat)(S:Int→Prop)(F:Pr)(w:World)(h:Sat ((SetOf p S).star F) w):
 Calls Tryz.prog 147 #[.pointer (some ⟨p,0,none⟩)] w fun e w'=>
  w=w'∧((e= .returned (.tuple #[.int .i64 0,.bool false])∧∀n,¬S n)∨∃n,e= .returned (.tuple #[.int .i64 n,.bool true])∧S n∧∀m,S m→n≤m):=by
 obtain⟨v,rs,h1,h2,h3⟩:=setOf_iff.1 h;refine(lowest_any p v rs F w h3).mono ?_;rintro e w' ⟨rfl,rfl⟩;refine⟨rfl,?_⟩;cases rs with
 | nil=>exact .inl ⟨rfl,fun n hn=>inRuns_nil ((h2 n).2 hn)⟩
 | cons x rs=>
   obtain⟨l1,l2⟩:=lowest_law h1;exact .inr ⟨x.1,rfl,(h2 _).1 l1,fun m hm=>l2 m ((h2 m).2 hm)⟩
abbrev IntsRow(v:Value)(l:List Int):Pr:=Row 3 1 v l.length (l.map (Value.int .i64))
abbrev BoolsRow(v:Value)(l:List Bool):Pr:=Row 4 1 v l.length (l.map Value.bool)
def ActIn(h:Hp)(p:Nat)(a:Int × Int)(f:Value):Prop:=
 ∃bp bn bb,f= .func (.func 167) #[] #[.pointer (some ⟨bp,0,none⟩),.pointer (some ⟨bn,0,none⟩),.pointer (some ⟨bb,0,none⟩)]∧
  h.cell bp 0=some (.pointer (some ⟨p,0,none⟩))∧h.cell bn 0=some (.int .i64 a.1)∧h.cell bb 0=some (.int .i64 a.2)
theorem ActIn.sub {a b:Hp}(hs:a.sub b){p:Nat}{x:Int × Int}{f:Value}(h:ActIn a p x f):ActIn b p x f:=by
 obtain⟨bp,bn,bb,e,h1,h2,h3⟩:=h;exact⟨bp,bn,bb,e,Hp.cell_sub hs h1,Hp.cell_sub hs h2,Hp.cell_sub hs h3⟩
def ActsIn(h:Hp)(p:Nat)(acts:List (Int × Int))(fs:List Value):Prop:=fs.length=acts.length∧∀i (hi:i<acts.length) (hf:i<fs.length),ActIn h p acts[i] fs[i]
def ActsA(p:Nat)(av:Value)(acts:List (Int × Int)):Pr:=
 Pr.ex fun x:List Value × Hp=>(Pr.pure (ActsIn x.2 p acts x.1)).star ((Row 184 1 av acts.length x.1).star (Pr.own x.2))
def poolCells(s:PoolS)(cv lv:Value)(fb:Nat)(av:Value):Array Value:=
 #[.int .i64 s.refs,cv,lv,.pointer (some ⟨fb,0,none⟩),.int .i64 0,.int .i64 (s.tally 1),.int .i64 (s.tally 2),.int .i64 (s.tally 3),.int .i64 (s.tally 4),av,.int .i64 s.floor]
def PoolAt(p:Nat)(s:PoolS)(cv lv:Value)(fb:Nat)(av:Value):Pr:=
 (Pr.pts p (.cells (poolCells s cv lv fb av) 118)).star ((IntsRow cv s.counts).star ((BoolsRow lv s.last).star ((SetOf fb fun n=>s.state n=1).star (ActsA p av s.acts))))
def PoolA(p:Nat)(s:PoolS):Pr:=Pr.ex fun x:Value × Value × Nat × Value=>(Pr.pure (PoolOk s)).star (PoolAt p s x.1 x.2.1 x.2.2.1 x.2.2.2)
theorem poolA_iff {p:Nat}{s:PoolS}{F:Pr}{w:World}:Sat ((PoolA p s).star F) w↔PoolOk s∧∃cv lv fb av,Sat ((PoolAt p s cv lv fb av).star F) w:=by
 unfold PoolA;rw [Sat.ex];constructor
 · rintro⟨⟨cv,lv,fb,av⟩,h⟩
   rw [Pr.star_assoc] at h;obtain⟨h1,h3⟩:=Sat.pure.1 h;exact⟨h1,cv,lv,fb,av,h3⟩
 · rintro⟨h1,cv,lv,fb,av,h3⟩
   refine⟨(cv,lv,fb,av),?_⟩;rw [Pr.star_assoc];exact Sat.pure.2 ⟨h1,h3⟩
theorem ints_read {v:Value}{l:List Int}{F:Pr}{w:World}(h:Sat ((IntsRow v l).star F) w)(h0:0<l.length):
 ∃b c,v= .slice (some ⟨b,0,none⟩) l.length c∧∀i,i<l.length→w.cell? ⟨b,i,none⟩=some (.int .i64 (l.getD i 0))∧w.frozen? ⟨b,i,none⟩=false:=by
 obtain⟨a,c,hv,hl,hc0⟩:=Row.read h;obtain⟨b,ha,hc⟩:=hc0 h0;clear hc0;subst ha;subst hv;refine⟨b,c,rfl,fun i hi=>⟨?_,(hc i (by omega)).2⟩⟩;rw [(hc i (by omega)).1];simp [hi]
theorem bools_read {v:Value}{l:List Bool}{F:Pr}{w:World}(h:Sat ((BoolsRow v l).star F) w)(h0:0<l.length):
 ∃b c,v= .slice (some ⟨b,0,none⟩) l.length c∧∀i,i<l.length→w.cell? ⟨b,i,none⟩=some (.bool (l.getD i false))∧w.frozen? ⟨b,i,none⟩=false:=by
 obtain⟨a,c,hv,hl,hc0⟩:=Row.read h;obtain⟨b,ha,hc⟩:=hc0 h0;clear hc0;subst ha;subst hv;refine⟨b,c,rfl,fun i hi=>⟨?_,(hc i (by omega)).2⟩⟩;rw [(hc i (by omega)).1];simp [hi]
theorem pool_rd {p:Nat}{s:PoolS}{cs:Array Value}{cv lv:Value}{F:Pr}{w:World}(h1:s.last.length=s.counts.length)(h2:1≤s.counts.length)(h3:s.counts.length≤65536)
 (e0:cs[0]? =some (.int .i64 s.refs)) (e1:cs[1]? =some cv) (e2:cs[2]? =some lv)
 (h:Sat ((Pr.pts p (.cells cs 118)).star ((IntsRow cv s.counts).star ((BoolsRow lv s.last).star F))) w):PoolRd w p s:=by
 obtain⟨b,c,rfl,hc⟩:=ints_read h.right (by omega);obtain⟨b',c',rfl,hc'⟩:=bools_read h.right.right (by omega);rw [h1] at e2;refine⟨h3,h1,by rw [cell_of_heap h.pts_heap];exact e0,⟨b,c,by rw [cell_of_heap h.pts_heap];exact e1,fun i hi=>(hc i hi).1⟩,⟨b',c',by rw [cell_of_heap h.pts_heap];exact e2,fun i hi=>(hc' i (by omega)).1⟩⟩
end Go.Proofs.YtkfjilnmnbeokaaGreat.D3
namespace Go.Proofs.YtkfjilnmnbeokaaGreat.E3
open ChangeShapes WideShapes ChangeAt RowKit Sl Cop D2 D3
abbrev PAddr(p:Nat):Value:= .pointer (some ⟨p,0,none⟩)
theorem many_le {s:PoolS}(h:PoolOk s)(k:Int):0≤s.tally k∧s.tally k≤65536:=by
 unfold PoolS.tally;split
 · omega
 · have h1:s.many k≤s.counts.length:=by
    unfold PoolS.many;refine Nat.le_trans (List.length_filter_le _ _) ?_;simp
    have:=h.len
    omega
   have:=h.n2
   omega
theorem turn_tally {s:PoolS}(h:PoolOk s){n b:Int}(hn:s.there n)(k:Int)(hk:1≤k∧k≤4):
 (s.turn n b).tally k=s.tally k-(if s.state n=k then 1 else 0)+(if(s.turn n b).state n=k then 1 else 0):=by
 have h1:=turn_many h (b:=b) hn k;rw [turn_state hn,if_pos rfl];unfold PoolS.tally;rw [if_neg (by omega),if_neg (by omega)];by_cases c1:s.state n=k<;>by_cases c2:stateOf (s.count n+b) (s.lasts n)=k
 all_goals
  simp only [c1,c2,if_true,if_false] at h1 ⊢;omega
theorem turn_free {s:PoolS}{n b:Int}(hn:s.there n)(m:Int):(s.turn n b).state m=1↔if m=n then(s.turn n b).state n=1 else s.state m=1:=by
 rw [turn_state hn,turn_state hn,if_pos rfl];split<;>rfl
theorem turn_store {s:PoolS}{n b:Int}{bc cc:Nat}{A F:Pr}{w:World}(hn:s.there n)
 (h:Sat (A.star ((IntsRow (.slice (some ⟨bc,0,none⟩) s.counts.length cc) s.counts).star F)) w):
 Sat (A.star ((IntsRow (.slice (some ⟨bc,0,none⟩) s.counts.length cc) (s.turn n b).counts).star F)) (w.setCell ⟨bc,n.toNat-1,none⟩ (.int .i64 (s.count n+b))):=by
 obtain⟨h1,h2⟩:=hn;have h3:Sat ((Row 3 1 (.slice (some ⟨bc,0,none⟩) s.counts.length cc) s.counts.length (s.counts.map (Value.int .i64))).star (A.star F)) w:=h.perm (Pr.left_comm _ _ _);have h4:=Row.set h3 (i:=n.toNat-1) (by omega) (.int .i64 (s.count n+b));rw [← List.map_set] at h4;have h5:=h4.perm (Pr.left_comm _ _ _);unfold IntsRow
 have e:(s.turn n b).counts.length=s.counts.length:=by simp [PoolS.turn]
 rw [e];exact h5
theorem Row.ne {T k b n cap p:Nat}{o:Obj}{xs:List Value}{F:Pr}{w:World}(h:Sat ((Pr.pts p o).star ((Row T k (.slice (some ⟨b,0,none⟩) n cap) n xs).star F)) w)(_h0:0<n):p≠b:=by
 obtain⟨_,(⟨e,_,_⟩ | ⟨b',cap',sp,e,_,_,_,h4⟩)⟩:=Row.open' (h.perm (Pr.left_comm _ _ _))
 · cases e
 · cases e
   exact(h4.perm (Pr.left_comm _ _ _)).pts_ne
theorem turn_end {p:Nat}{s:PoolS}{n b:Int}{cv:Value}{fb:Nat}{av:Value}{F:Pr}{w:World}(ok:PoolOk (s.turn n b))(lv:Value)
 (h:Sat ((SetOf fb fun m=>(s.turn n b).state m=1).star ((Pr.pts p (.cells (poolCells (s.turn n b) cv lv fb av) 118)).star ((IntsRow cv (s.turn n b).counts).star ((BoolsRow lv s.last).star ((ActsA p av s.acts).star F))))) w):
 Sat ((PoolA p (s.turn n b)).star F) w:=by
 refine poolA_iff.2 ⟨ok,cv,lv,fb,av,?_⟩;unfold PoolAt;exact h.perm (show _=((Pr.pts p (.cells (poolCells (s.turn n b) cv lv fb av) 118)).star ((IntsRow cv (s.turn n b).counts).star ((BoolsRow lv s.last).star ((SetOf fb fun m=>(s.turn n b).state m=1).star (ActsA p av s.acts))))).star F from by ac_rfl)
theorem free_same {s:PoolS}{n b:Int}(hS:∀m,(s.turn n b).state m=1↔if m=n then(s.turn n b).state n=1 else s.state m=1)(hk:s.state n=1↔(s.turn n b).state n=1){fb:Nat}:
 (SetOf fb fun m=>(s.turn n b).state m=1)=SetOf fb fun m=>s.state m=1:=
 setOf_congr fun m=>by
  rw [hS];split
  · rename_i h;rw [h];exact hk.symm
  · rfl
theorem free_rem {s:PoolS}{n b:Int}(hS:∀m,(s.turn n b).state m=1↔if m=n then(s.turn n b).state n=1 else s.state m=1)(hk:s.state n=1∧(s.turn n b).state n≠1){fb:Nat}:
 (SetOf fb fun m=>(s.turn n b).state m=1)=SetOf fb fun m=>s.state m=1∧m≠n:=
 setOf_congr fun m=>by
  rw [hS];split
  · rename_i h;exact⟨fun h1=>absurd h1 hk.2,fun h1=>absurd h h1.2⟩
  · rename_i h;exact⟨fun h1=>⟨h1,h⟩,fun h1=>h1.1⟩
theorem free_add {s:PoolS}{n b:Int}(hS:∀m,(s.turn n b).state m=1↔if m=n then(s.turn n b).state n=1 else s.state m=1)(hk:(s.turn n b).state n=1){fb:Nat}:
 (SetOf fb fun m=>(s.turn n b).state m=1)=SetOf fb fun m=>m=n∨s.state m=1:=
 setOf_congr fun m=>by
  rw [hS];split
  · rename_i h;exact⟨fun _=> .inl h,fun _=>hk⟩
  · rename_i h;exact⟨fun h1=> .inr h1,fun h1=>h1.resolve_left h⟩
theorem free_small {s:PoolS}(ok:PoolOk s)(m:Int)(h:s.state m=1):1≤m∧m≤65536:=by
 unfold PoolS.state at h;split at h
 · rename_i ht
   have:=ok.n2
   exact⟨ht.1,by have:=ht.2;omega⟩
 · omega
theorem turn_any(p:Nat)(s:PoolS)(n b:Int)(F:Pr)(w:World)(hF:Sat ((PoolA p s).star F) w)(hn:s.there n)(h0:0≤s.count n+b)(h1:s.count n+b≤65536):
 Calls Tryz.prog 166 #[.pointer (some ⟨p,0,none⟩),.int .i64 n,.int .i64 b] w fun e w'=>
  e= .returned (.tuple #[])∧Sat ((PoolA p (s.turn n b)).star F) w'∧Stays w w':=by
 obtain⟨ok,cv,lv,fb,av,hA⟩:=poolA_iff.1 hF;have hA1:Sat ((Pr.pts p (.cells (poolCells s cv lv fb av) 118)).star ((IntsRow cv s.counts).star ((BoolsRow lv s.last).star ((SetOf fb fun m=>s.state m=1).star ((ActsA p av s.acts).star F))))) w:=hA.perm (by unfold PoolAt;ac_rfl);have rd0:PoolRd w p s:=pool_rd ok.len ok.n1 ok.n2 rfl rfl rfl hA1
 obtain⟨bc,cc,hcv,hc⟩:=ints_read hA1.right (by have:=ok.n1;omega);subst hcv;have hb0:=count_bd ok n;have hn':=hn;obtain⟨n1,n2⟩:=hn';have n3:=ok.n2;obtain⟨i1,i2⟩:=hc (n.toNat-1) (by omega);have hcount:s.counts.getD (n.toNat-1) 0=s.count n:=by unfold PoolS.count;rw [if_pos hn]
 rw [hcount] at i1;have hA2:=turn_store (b:=b) hn hA1;have okT:=turn_ok ok h0 h1;have rd1:=pool_rd (s:=s.turn n b) (cs:=poolCells s (.slice (some ⟨bc,0,none⟩) s.counts.length cc) lv fb av) okT.len okT.n1 okT.n2 rfl rfl rfl hA2;have c0:=state_any p n w s rd0;have c1:=state_any p n _ (s.turn n b) rd1
 have p1:w.cell? ⟨p,1,none⟩=some (.slice (some ⟨bc,0,none⟩) s.counts.length cc):=by rw [cell_of_heap hA1.pts_heap];rfl
 have T1:=turn_tally ok (b:=b) hn 1 (by omega);have T2:=turn_tally ok (b:=b) hn 2 (by omega);have T3:=turn_tally ok (b:=b) hn 3 (by omega);have T4:=turn_tally ok (b:=b) hn 4 (by omega);have B1:=many_le ok 1;have B2:=many_le ok 2;have B3:=many_le ok 3;have B4:=many_le ok 4;have hS:=turn_free (b:=b) hn
 have hk:(s.state n=1∧(s.turn n b).state n=1)∨(s.state n=1∧(s.turn n b).state n=3)∨(s.state n=3∧(s.turn n b).state n=1)∨(s.state n=3∧(s.turn n b).state n=3)∨
  (s.state n=2∧(s.turn n b).state n=2)∨(s.state n=2∧(s.turn n b).state n=4)∨(s.state n=4∧(s.turn n b).state n=2)∨(s.state n=4∧(s.turn n b).state n=4):=by
  rw [turn_state hn,if_pos rfl,state_there hn];unfold stateOf;cases s.lasts n<;>by_cases u1:0<s.count n<;>by_cases u2:0<s.count n+b<;>simp [u1,u2]
 have p3:w.cell? ⟨p,3,none⟩=some (.pointer (some ⟨fb,0,none⟩)):=by rw [cell_of_heap hA1.pts_heap];rfl
 have p5:w.cell? ⟨p,5,none⟩=some (.int .i64 (s.tally 1)):=by rw [cell_of_heap hA1.pts_heap];rfl
 have p6:w.cell? ⟨p,6,none⟩=some (.int .i64 (s.tally 2)):=by rw [cell_of_heap hA1.pts_heap];rfl
 have p7:w.cell? ⟨p,7,none⟩=some (.int .i64 (s.tally 3)):=by rw [cell_of_heap hA1.pts_heap];rfl
 have p8:w.cell? ⟨p,8,none⟩=some (.int .i64 (s.tally 4)):=by rw [cell_of_heap hA1.pts_heap];rfl
 have f5:=frozen_of_heap hA1.pts_heap 5;have f6:=frozen_of_heap hA1.pts_heap 6;have f7:=frozen_of_heap hA1.pts_heap 7;have f8:=frozen_of_heap hA1.pts_heap 8;have hne:p≠bc:=Row.ne hA1 (by have:=ok.n1;omega);have HA2:=hQ hA2;have HS:=hQ hS;have HB:=hQ (free_small ok);clear hA2 hA1 hA hc hcount hS hF rd0 rd1;rcases hk with⟨k0,k1⟩ | ⟨k0,k1⟩ | ⟨k0,k1⟩ | ⟨k0,k1⟩ | ⟨k0,k1⟩ | ⟨k0,k1⟩ | ⟨k0,k1⟩ | ⟨k0,k1⟩
 all_goals
  rw [k0] at c0;rw [k1] at c1;have C0:=hQ c0;have C1:=hQ c1;clear c0 c1
 · have he:((poolCells s (.slice (some ⟨bc,0,none⟩) s.counts.length cc) lv fb av).setIfInBounds 5 (.int .i64 (s.tally 1-1))).setIfInBounds 5 (.int .i64 (s.tally 1))=poolCells (s.turn n b) (.slice (some ⟨bc,0,none⟩) s.counts.length cc) lv fb av:=by
    have t1:(s.turn n b).tally 1=s.tally 1:=by rw [T1,k0,k1];simp
    have t2:(s.turn n b).tally 2=s.tally 2:=by rw [T2,k0,k1];simp
    have t3:(s.turn n b).tally 3=s.tally 3:=by rw [T3,k0,k1];simp
    have t4:(s.turn n b).tally 4=s.tally 4:=by rw [T4,k0,k1];simp
    unfold poolCells;rw [t1,t2,t3,t4];rfl
   have hE0:=((HA2.out.setCell (i:=5) (.int .i64 (s.tally 1-1))).setCell (i:=5) (.int .i64 (s.tally 1))).drew.drew;rw [he] at hE0
   have HE:=hQ (hE0.perm (show _=(SetOf fb fun m=>s.state m=1).star ((Pr.pts p (.cells (poolCells (s.turn n b) (.slice (some ⟨bc,0,none⟩) s.counts.length cc) lv fb av) 118)).star ((IntsRow (.slice (some ⟨bc,0,none⟩) s.counts.length cc) (s.turn n b).counts).star ((BoolsRow lv s.last).star ((ActsA p av s.acts).star F)))) from by ac_rfl));have HKK:=hQ ((by omega:s.state n=1↔(s.turn n b).state n=1))
   clear he hE0 T1 T2 T3 T4 k0 k1;go_enter Tryz.func166,Tryz.ntmps166
   go_wp2_with fail
   refine C0.out.mono ?_;rintro e w' ⟨rfl,rfl⟩;go_wp2_with fail
   refine C1.out.mono ?_;rintro e w' ⟨rfl,rfl⟩;go_wp2;refine wS 66 [0,1,2,3,4,5,6,7,8,9] [(10,[],[7,8])] ?_;iterate 10 (refine wpQ_step rfl rfl (fun K hK=> ?_);go_simp;refine hK _ ?_;clear hK K)
   refine wpQ_nil ?_;refine wpRest_act rfl ?_;go_wp2;refine onN_mk (wpQ_nil ⟨?_,wpRest_nil ?_⟩)
   · refine chk_cons ?_ (chk_cons ?_ chk_nil)<;>(refine yieldF_of rfl rfl rfl rfl ?_;go_simp;try omega)
   go_wp2;refine wS 66 [0,1,2,3,4,5,6,7,8,9] [(10,[],[7,8])] ?_;iterate 10 (refine wpQ_step rfl rfl (fun K hK=> ?_);go_simp;refine hK _ ?_;clear hK K)
   refine wpQ_nil ?_;refine wpRest_act rfl ?_;go_wp2;refine onN_mk (wpQ_nil ⟨?_,wpRest_nil ?_⟩)
   · refine chk_cons ?_ (chk_cons ?_ chk_nil)<;>(refine yieldF_of rfl rfl rfl rfl ?_;go_simp;try omega)
   go_wp2;first | refine bodyPost_ret (results_none rfl _ _ _) rfl ?_ | go_end0
   refine⟨rfl,turn_end okT lv (HE.out.perm (by rw [free_same HS.out HKK.out])),?_⟩;exact(((((Stays.refl w).setCell _ _).setCell _ _).setCell _ _)).drew.drew
 · have he:((poolCells s (.slice (some ⟨bc,0,none⟩) s.counts.length cc) lv fb av).setIfInBounds 5 (.int .i64 (s.tally 1-1))).setIfInBounds 7 (.int .i64 (s.tally 3+1))=poolCells (s.turn n b) (.slice (some ⟨bc,0,none⟩) s.counts.length cc) lv fb av:=by
    have t1:(s.turn n b).tally 1=s.tally 1-1:=by rw [T1,k0,k1];simp
    have t2:(s.turn n b).tally 2=s.tally 2:=by rw [T2,k0,k1];simp
    have t3:(s.turn n b).tally 3=s.tally 3+1:=by rw [T3,k0,k1];simp
    have t4:(s.turn n b).tally 4=s.tally 4:=by rw [T4,k0,k1];simp
    unfold poolCells;rw [t1,t2,t3,t4];rfl
   have hE0:=((HA2.out.setCell (i:=5) (.int .i64 (s.tally 1-1))).setCell (i:=7) (.int .i64 (s.tally 3+1))).drew.drew;rw [he] at hE0
   have HE:=hQ (hE0.perm (show _=(SetOf fb fun m=>s.state m=1).star ((Pr.pts p (.cells (poolCells (s.turn n b) (.slice (some ⟨bc,0,none⟩) s.counts.length cc) lv fb av) 118)).star ((IntsRow (.slice (some ⟨bc,0,none⟩) s.counts.length cc) (s.turn n b).counts).star ((BoolsRow lv s.last).star ((ActsA p av s.acts).star F)))) from by ac_rfl));have HKK:=hQ (And.intro k0 (by omega:(s.turn n b).state n≠1))
   clear he hE0 T1 T2 T3 T4 k0 k1;go_enter Tryz.func166,Tryz.ntmps166
   go_wp2_with fail
   refine C0.out.mono ?_;rintro e w' ⟨rfl,rfl⟩;go_wp2_with fail
   refine C1.out.mono ?_;rintro e w' ⟨rfl,rfl⟩;go_wp2;refine wS 66 [0,1,2,3,4,5,6,7,8,9] [(10,[],[7,8])] ?_;iterate 10 (refine wpQ_step rfl rfl (fun K hK=> ?_);go_simp;refine hK _ ?_;clear hK K)
   refine wpQ_nil ?_;refine wpRest_act rfl ?_;go_wp2;refine onN_mk (wpQ_nil ⟨?_,wpRest_nil ?_⟩)
   · refine chk_cons ?_ (chk_cons ?_ chk_nil)<;>(refine yieldF_of rfl rfl rfl rfl ?_;go_simp;try omega)
   go_wp2;refine wS 66 [0,1,2,3,4,5,6,7,8,9] [(10,[],[7,8])] ?_;iterate 10 (refine wpQ_step rfl rfl (fun K hK=> ?_);go_simp;refine hK _ ?_;clear hK K)
   refine wpQ_nil ?_;refine wpRest_act rfl ?_;go_wp2;refine onN_mk (wpQ_nil ⟨?_,wpRest_nil ?_⟩)
   · refine chk_cons ?_ (chk_cons ?_ chk_nil)<;>(refine yieldF_of rfl rfl rfl rfl ?_;go_simp;try omega)
   go_wp2_with fail
   refine(set_remove fb (fun m=>s.state m=1) n ⟨n1,by omega⟩ HB.out _ _ HE.out).mono ?_;rintro e w' ⟨m,rfl,hs,hst⟩;go_wp2;first | refine bodyPost_ret (results_none rfl _ _ _) rfl ?_ | go_end0
   refine⟨rfl,turn_end okT lv ((hs.perm (by rw [free_rem (HS.out) HKK.out]))),?_⟩;exact(((((Stays.refl w).setCell _ _).setCell _ _).setCell _ _)).drew.drew.trans hst
 · have he:((poolCells s (.slice (some ⟨bc,0,none⟩) s.counts.length cc) lv fb av).setIfInBounds 7 (.int .i64 (s.tally 3-1))).setIfInBounds 5 (.int .i64 (s.tally 1+1))=poolCells (s.turn n b) (.slice (some ⟨bc,0,none⟩) s.counts.length cc) lv fb av:=by
    have t1:(s.turn n b).tally 1=s.tally 1+1:=by rw [T1,k0,k1];simp
    have t2:(s.turn n b).tally 2=s.tally 2:=by rw [T2,k0,k1];simp
    have t3:(s.turn n b).tally 3=s.tally 3-1:=by rw [T3,k0,k1];simp
    have t4:(s.turn n b).tally 4=s.tally 4:=by rw [T4,k0,k1];simp
    unfold poolCells;rw [t1,t2,t3,t4];rfl
   have hE0:=((HA2.out.setCell (i:=7) (.int .i64 (s.tally 3-1))).setCell (i:=5) (.int .i64 (s.tally 1+1))).drew.drew;rw [he] at hE0
   have HE:=hQ (hE0.perm (show _=(SetOf fb fun m=>s.state m=1).star ((Pr.pts p (.cells (poolCells (s.turn n b) (.slice (some ⟨bc,0,none⟩) s.counts.length cc) lv fb av) 118)).star ((IntsRow (.slice (some ⟨bc,0,none⟩) s.counts.length cc) (s.turn n b).counts).star ((BoolsRow lv s.last).star ((ActsA p av s.acts).star F)))) from by ac_rfl));have HKK:=hQ (k1);clear he hE0 T1 T2 T3 T4 k0 k1
   go_enter Tryz.func166,Tryz.ntmps166
   go_wp2_with fail
   refine C0.out.mono ?_;rintro e w' ⟨rfl,rfl⟩;go_wp2_with fail
   refine C1.out.mono ?_;rintro e w' ⟨rfl,rfl⟩;go_wp2;refine wS 66 [0,1,2,3,4,5,6,7,8,9] [(10,[],[7,8])] ?_;iterate 10 (refine wpQ_step rfl rfl (fun K hK=> ?_);go_simp;refine hK _ ?_;clear hK K)
   refine wpQ_nil ?_;refine wpRest_act rfl ?_;go_wp2;refine onN_mk (wpQ_nil ⟨?_,wpRest_nil ?_⟩)
   · refine chk_cons ?_ (chk_cons ?_ chk_nil)<;>(refine yieldF_of rfl rfl rfl rfl ?_;go_simp;try omega)
   go_wp2;refine wS 66 [0,1,2,3,4,5,6,7,8,9] [(10,[],[7,8])] ?_;iterate 10 (refine wpQ_step rfl rfl (fun K hK=> ?_);go_simp;refine hK _ ?_;clear hK K)
   refine wpQ_nil ?_;refine wpRest_act rfl ?_;go_wp2;refine onN_mk (wpQ_nil ⟨?_,wpRest_nil ?_⟩)
   · refine chk_cons ?_ (chk_cons ?_ chk_nil)<;>(refine yieldF_of rfl rfl rfl rfl ?_;go_simp;try omega)
   go_wp2_with fail
   refine(set_add fb (fun m=>s.state m=1) n ⟨n1,by omega⟩ HB.out _ _ HE.out).mono ?_;rintro e w' ⟨m,rfl,hs,hst⟩;go_wp2;first | refine bodyPost_ret (results_none rfl _ _ _) rfl ?_ | go_end0
   refine⟨rfl,turn_end okT lv ((hs.perm (by rw [free_add (HS.out) HKK.out]))),?_⟩;exact(((((Stays.refl w).setCell _ _).setCell _ _).setCell _ _)).drew.drew.trans hst
 · have he:((poolCells s (.slice (some ⟨bc,0,none⟩) s.counts.length cc) lv fb av).setIfInBounds 7 (.int .i64 (s.tally 3-1))).setIfInBounds 7 (.int .i64 (s.tally 3))=poolCells (s.turn n b) (.slice (some ⟨bc,0,none⟩) s.counts.length cc) lv fb av:=by
    have t1:(s.turn n b).tally 1=s.tally 1:=by rw [T1,k0,k1];simp
    have t2:(s.turn n b).tally 2=s.tally 2:=by rw [T2,k0,k1];simp
    have t3:(s.turn n b).tally 3=s.tally 3:=by rw [T3,k0,k1];simp
    have t4:(s.turn n b).tally 4=s.tally 4:=by rw [T4,k0,k1];simp
    unfold poolCells;rw [t1,t2,t3,t4];rfl
   have hE0:=((HA2.out.setCell (i:=7) (.int .i64 (s.tally 3-1))).setCell (i:=7) (.int .i64 (s.tally 3))).drew.drew;rw [he] at hE0
   have HE:=hQ (hE0.perm (show _=(SetOf fb fun m=>s.state m=1).star ((Pr.pts p (.cells (poolCells (s.turn n b) (.slice (some ⟨bc,0,none⟩) s.counts.length cc) lv fb av) 118)).star ((IntsRow (.slice (some ⟨bc,0,none⟩) s.counts.length cc) (s.turn n b).counts).star ((BoolsRow lv s.last).star ((ActsA p av s.acts).star F)))) from by ac_rfl));have HKK:=hQ ((by omega:s.state n=1↔(s.turn n b).state n=1))
   clear he hE0 T1 T2 T3 T4 k0 k1;go_enter Tryz.func166,Tryz.ntmps166
   go_wp2_with fail
   refine C0.out.mono ?_;rintro e w' ⟨rfl,rfl⟩;go_wp2_with fail
   refine C1.out.mono ?_;rintro e w' ⟨rfl,rfl⟩;go_wp2;refine wS 66 [0,1,2,3,4,5,6,7,8,9] [(10,[],[7,8])] ?_;iterate 10 (refine wpQ_step rfl rfl (fun K hK=> ?_);go_simp;refine hK _ ?_;clear hK K)
   refine wpQ_nil ?_;refine wpRest_act rfl ?_;go_wp2;refine onN_mk (wpQ_nil ⟨?_,wpRest_nil ?_⟩)
   · refine chk_cons ?_ (chk_cons ?_ chk_nil)<;>(refine yieldF_of rfl rfl rfl rfl ?_;go_simp;try omega)
   go_wp2;refine wS 66 [0,1,2,3,4,5,6,7,8,9] [(10,[],[7,8])] ?_;iterate 10 (refine wpQ_step rfl rfl (fun K hK=> ?_);go_simp;refine hK _ ?_;clear hK K)
   refine wpQ_nil ?_;refine wpRest_act rfl ?_;go_wp2;refine onN_mk (wpQ_nil ⟨?_,wpRest_nil ?_⟩)
   · refine chk_cons ?_ (chk_cons ?_ chk_nil)<;>(refine yieldF_of rfl rfl rfl rfl ?_;go_simp;try omega)
   go_wp2;first | refine bodyPost_ret (results_none rfl _ _ _) rfl ?_ | go_end0
   refine⟨rfl,turn_end okT lv (HE.out.perm (by rw [free_same HS.out HKK.out])),?_⟩;exact(((((Stays.refl w).setCell _ _).setCell _ _).setCell _ _)).drew.drew
 · have he:((poolCells s (.slice (some ⟨bc,0,none⟩) s.counts.length cc) lv fb av).setIfInBounds 6 (.int .i64 (s.tally 2-1))).setIfInBounds 6 (.int .i64 (s.tally 2))=poolCells (s.turn n b) (.slice (some ⟨bc,0,none⟩) s.counts.length cc) lv fb av:=by
    have t1:(s.turn n b).tally 1=s.tally 1:=by rw [T1,k0,k1];simp
    have t2:(s.turn n b).tally 2=s.tally 2:=by rw [T2,k0,k1];simp
    have t3:(s.turn n b).tally 3=s.tally 3:=by rw [T3,k0,k1];simp
    have t4:(s.turn n b).tally 4=s.tally 4:=by rw [T4,k0,k1];simp
    unfold poolCells;rw [t1,t2,t3,t4];rfl
   have hE0:=((HA2.out.setCell (i:=6) (.int .i64 (s.tally 2-1))).setCell (i:=6) (.int .i64 (s.tally 2))).drew.drew;rw [he] at hE0
   have HE:=hQ (hE0.perm (show _=(SetOf fb fun m=>s.state m=1).star ((Pr.pts p (.cells (poolCells (s.turn n b) (.slice (some ⟨bc,0,none⟩) s.counts.length cc) lv fb av) 118)).star ((IntsRow (.slice (some ⟨bc,0,none⟩) s.counts.length cc) (s.turn n b).counts).star ((BoolsRow lv s.last).star ((ActsA p av s.acts).star F)))) from by ac_rfl));have HKK:=hQ ((by omega:s.state n=1↔(s.turn n b).state n=1))
   clear he hE0 T1 T2 T3 T4 k0 k1;go_enter Tryz.func166,Tryz.ntmps166
   go_wp2_with fail
   refine C0.out.mono ?_;rintro e w' ⟨rfl,rfl⟩;go_wp2_with fail
   refine C1.out.mono ?_;rintro e w' ⟨rfl,rfl⟩;go_wp2;refine wS 66 [0,1,2,3,4,5,6,7,8,9] [(10,[],[7,8])] ?_;iterate 10 (refine wpQ_step rfl rfl (fun K hK=> ?_);go_simp;refine hK _ ?_;clear hK K)
   refine wpQ_nil ?_;refine wpRest_act rfl ?_;go_wp2;refine onN_mk (wpQ_nil ⟨?_,wpRest_nil ?_⟩)
   · refine chk_cons ?_ (chk_cons ?_ chk_nil)<;>(refine yieldF_of rfl rfl rfl rfl ?_;go_simp;try omega)
   go_wp2;refine wS 66 [0,1,2,3,4,5,6,7,8,9] [(10,[],[7,8])] ?_;iterate 10 (refine wpQ_step rfl rfl (fun K hK=> ?_);go_simp;refine hK _ ?_;clear hK K)
   refine wpQ_nil ?_;refine wpRest_act rfl ?_;go_wp2;refine onN_mk (wpQ_nil ⟨?_,wpRest_nil ?_⟩)
   · refine chk_cons ?_ (chk_cons ?_ chk_nil)<;>(refine yieldF_of rfl rfl rfl rfl ?_;go_simp;try omega)
   go_wp2;first | refine bodyPost_ret (results_none rfl _ _ _) rfl ?_ | go_end0
   refine⟨rfl,turn_end okT lv (HE.out.perm (by rw [free_same HS.out HKK.out])),?_⟩;exact(((((Stays.refl w).setCell _ _).setCell _ _).setCell _ _)).drew.drew
 · have he:((poolCells s (.slice (some ⟨bc,0,none⟩) s.counts.length cc) lv fb av).setIfInBounds 6 (.int .i64 (s.tally 2-1))).setIfInBounds 8 (.int .i64 (s.tally 4+1))=poolCells (s.turn n b) (.slice (some ⟨bc,0,none⟩) s.counts.length cc) lv fb av:=by
    have t1:(s.turn n b).tally 1=s.tally 1:=by rw [T1,k0,k1];simp
    have t2:(s.turn n b).tally 2=s.tally 2-1:=by rw [T2,k0,k1];simp
    have t3:(s.turn n b).tally 3=s.tally 3:=by rw [T3,k0,k1];simp
    have t4:(s.turn n b).tally 4=s.tally 4+1:=by rw [T4,k0,k1];simp
    unfold poolCells;rw [t1,t2,t3,t4];rfl
   have hE0:=((HA2.out.setCell (i:=6) (.int .i64 (s.tally 2-1))).setCell (i:=8) (.int .i64 (s.tally 4+1))).drew.drew;rw [he] at hE0
   have HE:=hQ (hE0.perm (show _=(SetOf fb fun m=>s.state m=1).star ((Pr.pts p (.cells (poolCells (s.turn n b) (.slice (some ⟨bc,0,none⟩) s.counts.length cc) lv fb av) 118)).star ((IntsRow (.slice (some ⟨bc,0,none⟩) s.counts.length cc) (s.turn n b).counts).star ((BoolsRow lv s.last).star ((ActsA p av s.acts).star F)))) from by ac_rfl));have HKK:=hQ ((by omega:s.state n=1↔(s.turn n b).state n=1))
   clear he hE0 T1 T2 T3 T4 k0 k1;go_enter Tryz.func166,Tryz.ntmps166
   go_wp2_with fail
   refine C0.out.mono ?_;rintro e w' ⟨rfl,rfl⟩;go_wp2_with fail
   refine C1.out.mono ?_;rintro e w' ⟨rfl,rfl⟩;go_wp2;refine wS 66 [0,1,2,3,4,5,6,7,8,9] [(10,[],[7,8])] ?_;iterate 10 (refine wpQ_step rfl rfl (fun K hK=> ?_);go_simp;refine hK _ ?_;clear hK K)
   refine wpQ_nil ?_;refine wpRest_act rfl ?_;go_wp2;refine onN_mk (wpQ_nil ⟨?_,wpRest_nil ?_⟩)
   · refine chk_cons ?_ (chk_cons ?_ chk_nil)<;>(refine yieldF_of rfl rfl rfl rfl ?_;go_simp;try omega)
   go_wp2;refine wS 66 [0,1,2,3,4,5,6,7,8,9] [(10,[],[7,8])] ?_;iterate 10 (refine wpQ_step rfl rfl (fun K hK=> ?_);go_simp;refine hK _ ?_;clear hK K)
   refine wpQ_nil ?_;refine wpRest_act rfl ?_;go_wp2;refine onN_mk (wpQ_nil ⟨?_,wpRest_nil ?_⟩)
   · refine chk_cons ?_ (chk_cons ?_ chk_nil)<;>(refine yieldF_of rfl rfl rfl rfl ?_;go_simp;try omega)
   go_wp2;first | refine bodyPost_ret (results_none rfl _ _ _) rfl ?_ | go_end0
   refine⟨rfl,turn_end okT lv (HE.out.perm (by rw [free_same HS.out HKK.out])),?_⟩;exact(((((Stays.refl w).setCell _ _).setCell _ _).setCell _ _)).drew.drew
 · have he:((poolCells s (.slice (some ⟨bc,0,none⟩) s.counts.length cc) lv fb av).setIfInBounds 8 (.int .i64 (s.tally 4-1))).setIfInBounds 6 (.int .i64 (s.tally 2+1))=poolCells (s.turn n b) (.slice (some ⟨bc,0,none⟩) s.counts.length cc) lv fb av:=by
    have t1:(s.turn n b).tally 1=s.tally 1:=by rw [T1,k0,k1];simp
    have t2:(s.turn n b).tally 2=s.tally 2+1:=by rw [T2,k0,k1];simp
    have t3:(s.turn n b).tally 3=s.tally 3:=by rw [T3,k0,k1];simp
    have t4:(s.turn n b).tally 4=s.tally 4-1:=by rw [T4,k0,k1];simp
    unfold poolCells;rw [t1,t2,t3,t4];rfl
   have hE0:=((HA2.out.setCell (i:=8) (.int .i64 (s.tally 4-1))).setCell (i:=6) (.int .i64 (s.tally 2+1))).drew.drew;rw [he] at hE0
   have HE:=hQ (hE0.perm (show _=(SetOf fb fun m=>s.state m=1).star ((Pr.pts p (.cells (poolCells (s.turn n b) (.slice (some ⟨bc,0,none⟩) s.counts.length cc) lv fb av) 118)).star ((IntsRow (.slice (some ⟨bc,0,none⟩) s.counts.length cc) (s.turn n b).counts).star ((BoolsRow lv s.last).star ((ActsA p av s.acts).star F)))) from by ac_rfl));have HKK:=hQ ((by omega:s.state n=1↔(s.turn n b).state n=1))
   clear he hE0 T1 T2 T3 T4 k0 k1;go_enter Tryz.func166,Tryz.ntmps166
   go_wp2_with fail
   refine C0.out.mono ?_;rintro e w' ⟨rfl,rfl⟩;go_wp2_with fail
   refine C1.out.mono ?_;rintro e w' ⟨rfl,rfl⟩;go_wp2;refine wS 66 [0,1,2,3,4,5,6,7,8,9] [(10,[],[7,8])] ?_;iterate 10 (refine wpQ_step rfl rfl (fun K hK=> ?_);go_simp;refine hK _ ?_;clear hK K)
   refine wpQ_nil ?_;refine wpRest_act rfl ?_;go_wp2;refine onN_mk (wpQ_nil ⟨?_,wpRest_nil ?_⟩)
   · refine chk_cons ?_ (chk_cons ?_ chk_nil)<;>(refine yieldF_of rfl rfl rfl rfl ?_;go_simp;try omega)
   go_wp2;refine wS 66 [0,1,2,3,4,5,6,7,8,9] [(10,[],[7,8])] ?_;iterate 10 (refine wpQ_step rfl rfl (fun K hK=> ?_);go_simp;refine hK _ ?_;clear hK K)
   refine wpQ_nil ?_;refine wpRest_act rfl ?_;go_wp2;refine onN_mk (wpQ_nil ⟨?_,wpRest_nil ?_⟩)
   · refine chk_cons ?_ (chk_cons ?_ chk_nil)<;>(refine yieldF_of rfl rfl rfl rfl ?_;go_simp;try omega)
   go_wp2;first | refine bodyPost_ret (results_none rfl _ _ _) rfl ?_ | go_end0
   refine⟨rfl,turn_end okT lv (HE.out.perm (by rw [free_same HS.out HKK.out])),?_⟩;exact(((((Stays.refl w).setCell _ _).setCell _ _).setCell _ _)).drew.drew
 · have he:((poolCells s (.slice (some ⟨bc,0,none⟩) s.counts.length cc) lv fb av).setIfInBounds 8 (.int .i64 (s.tally 4-1))).setIfInBounds 8 (.int .i64 (s.tally 4))=poolCells (s.turn n b) (.slice (some ⟨bc,0,none⟩) s.counts.length cc) lv fb av:=by
    have t1:(s.turn n b).tally 1=s.tally 1:=by rw [T1,k0,k1];simp
    have t2:(s.turn n b).tally 2=s.tally 2:=by rw [T2,k0,k1];simp
    have t3:(s.turn n b).tally 3=s.tally 3:=by rw [T3,k0,k1];simp
    have t4:(s.turn n b).tally 4=s.tally 4:=by rw [T4,k0,k1];simp
    unfold poolCells;rw [t1,t2,t3,t4];rfl
   have hE0:=((HA2.out.setCell (i:=8) (.int .i64 (s.tally 4-1))).setCell (i:=8) (.int .i64 (s.tally 4))).drew.drew;rw [he] at hE0
   have HE:=hQ (hE0.perm (show _=(SetOf fb fun m=>s.state m=1).star ((Pr.pts p (.cells (poolCells (s.turn n b) (.slice (some ⟨bc,0,none⟩) s.counts.length cc) lv fb av) 118)).star ((IntsRow (.slice (some ⟨bc,0,none⟩) s.counts.length cc) (s.turn n b).counts).star ((BoolsRow lv s.last).star ((ActsA p av s.acts).star F)))) from by ac_rfl));have HKK:=hQ ((by omega:s.state n=1↔(s.turn n b).state n=1))
   clear he hE0 T1 T2 T3 T4 k0 k1;go_enter Tryz.func166,Tryz.ntmps166
   go_wp2_with fail
   refine C0.out.mono ?_;rintro e w' ⟨rfl,rfl⟩;go_wp2_with fail
   refine C1.out.mono ?_;rintro e w' ⟨rfl,rfl⟩;go_wp2;refine wS 66 [0,1,2,3,4,5,6,7,8,9] [(10,[],[7,8])] ?_;iterate 10 (refine wpQ_step rfl rfl (fun K hK=> ?_);go_simp;refine hK _ ?_;clear hK K)
   refine wpQ_nil ?_;refine wpRest_act rfl ?_;go_wp2;refine onN_mk (wpQ_nil ⟨?_,wpRest_nil ?_⟩)
   · refine chk_cons ?_ (chk_cons ?_ chk_nil)<;>(refine yieldF_of rfl rfl rfl rfl ?_;go_simp;try omega)
   go_wp2;refine wS 66 [0,1,2,3,4,5,6,7,8,9] [(10,[],[7,8])] ?_;iterate 10 (refine wpQ_step rfl rfl (fun K hK=> ?_);go_simp;refine hK _ ?_;clear hK K)
   refine wpQ_nil ?_;refine wpRest_act rfl ?_;go_wp2;refine onN_mk (wpQ_nil ⟨?_,wpRest_nil ?_⟩)
   · refine chk_cons ?_ (chk_cons ?_ chk_nil)<;>(refine yieldF_of rfl rfl rfl rfl ?_;go_simp;try omega)
   go_wp2;first | refine bodyPost_ret (results_none rfl _ _ _) rfl ?_ | go_end0
   refine⟨rfl,turn_end okT lv (HE.out.perm (by rw [free_same HS.out HKK.out])),?_⟩;exact(((((Stays.refl w).setCell _ _).setCell _ _).setCell _ _)).drew.drew
end Go.Proofs.YtkfjilnmnbeokaaGreat.E3
