/- The document's check of an item's key, value and child; the conditions stand as hypotheses. -/
import Derived.Test.YtiegeadmgpanoaaGreatDoorL11
set_option maxRecDepth 100000
set_option maxHeartbeats 16000000
namespace Go.Proofs.YtiegeadmgpanoaaGreatDoor.D2
open ChangeShapes WideShapes ChangeAt RowKit Sl fB Z3
theorem xI(l:List Int):(Hid (l.length=0)∧((l.length:Int) == 0)=true)∨(Hid (0<l.length)∧((l.length:Int) == 0)=false):=by
 rcases bI l.length with h | h
 · exact .inl ⟨hQ h,by rw [beq_iff_eq];omega⟩
 · exact .inr ⟨hQ h,by rw [beq_eq_false_iff_ne];omega⟩
theorem K9 {h:Hp}{w:World}(hl:h.le w)(o:Obj):h.le (w.alloc o):=fun k x e=>(Below.heap_alloc w o k (aA.1 (hl k x e)).1).trans (hl k x e)
theorem tP(h:Hp)(k l nx:Int)(a ad:Option Addr)(c d cd:Nat)(its:List en)(hi:h_ h (.slice a its.length c) its)(hk:k=1∨k=2)(i:Nat)(hlt:i<its.length)(w:World)(hh:h.le w):
 Calls Tryz.prog 142 #[fX k l (.slice a its.length c) (.slice ad d cd) nx,.int .i64 (i:Int)] w fun e w'=>e= .returned (.bool (kB k i its[i]))∧eV w w':=by
 have fin:∀(b:Bool),b=kB k i its[i]→Ending.returned (Value.bool b)=Ending.returned (Value.bool (kB k i its[i])):=fun b e=>by rw [e]
 obtain⟨a',c',e',_,rd⟩:=fL hi;cases e';obtain⟨b,off,ak,ck,av,cv,rfl,hbk,qR,hcell⟩:=rd i hlt;obtain⟨c0,c1,c2,c3⟩:=hcell _ (K9 hh (.cells #[.int .i64 k,.int .i64 l,.slice (some ⟨b,off,none⟩) its.length c,.slice ad d cd,.int .i64 nx] 83));clear hcell rd hi hbk qR;have Fj:=hQ hlt;generalize its[i]=x at*;rcases bI i with lk | lk
 · subst lk
   simp only [cB,Nat.add_zero] at c0 c1 c2 c3;rcases hk with rfl | rfl
   all_goals
    go_enter Tryz.func142,Tryz.ntmps142
    go_wp2;all_goals (go_ret;refine⟨fin _ ?_,((eV.refl w).alloc _)⟩;rw [aL];simp [kB];try omega)
 · have hk1:((i:Int) == 0)=false:=by rw [beq_eq_false_iff_ne];omega
   have En:i≠0:=by omega
   rcases hk with rfl | rfl
   all_goals
    go_enter Tryz.func142,Tryz.ntmps142
    go_wp2;all_goals (go_ret;refine⟨fin _ ?_,((eV.refl w).alloc _)⟩;rw [aL];simp [kB,En];try omega)
theorem pZ(k l nx:Int)(vi vd:Value)(x:en)(ak av:Option Addr)(ck cv:Nat)(hk:k=1∨k=2)(w:World):
 Calls Tryz.prog 143 #[fX k l vi vd nx,l6 (.slice ak x.key.length ck) (.slice av x.value.length cv) x.child x.size] w fun e w'=>e= .returned (.bool (jB k x))∧eV w w':=by
 have fin:∀(b:Bool),b=jB k x→Ending.returned (Value.bool b)=Ending.returned (Value.bool (jB k x)):=fun b e=>by rw [e]
 rcases hk with rfl | rfl
 · go_enter Tryz.func143,Tryz.ntmps143
   go_wp2;all_goals (go_ret;refine⟨fin _ ?_,((eV.refl w).alloc _).alloc _⟩;rw [aL];simp [jB, -List.length_eq_zero_iff];try (split<;>omega);try omega)
 · rcases xI x.value with⟨hv,hv1⟩ | ⟨hv,hv1⟩
   all_goals
    go_enter Tryz.func143,Tryz.ntmps143
    go_wp2;go_ret;refine⟨fin _ ?_,((eV.refl w).alloc _).alloc _⟩;have hv':=hv.af;rw [aL];simp [jB, -List.length_eq_zero_iff];try omega
theorem p_(k l nx:Int)(vi vd:Value)(x:en)(kv vv:Value)(hk:k=1∨k=2)(w:World):
 Calls Tryz.prog 144 #[fX k l vi vd nx,l6 kv vv x.child x.size] w fun e w'=>e= .returned (.bool (jX k x))∧eV w w':=by
 have fin:∀(b:Bool),b=jX k x→Ending.returned (Value.bool b)=Ending.returned (Value.bool (jX k x)):=fun b e=>by rw [e]
 rcases hk with rfl | rfl
 · by_cases hs:x.size≤32
   · go_enter Tryz.func144,Tryz.ntmps144
     go_wp2;go_ret;refine⟨fin _ ?_,((eV.refl w).alloc _).alloc _⟩;rw [aL];simp [jX,hs]
   · have hs1:(x.size≤32)=False:=eq_false hs
     go_enter Tryz.func144,Tryz.ntmps144
     go_wp2_with fail
     refine(qI _ _).mono ?_;rintro e w1 ⟨rfl,rfl⟩;go_wp2;go_ret;refine⟨fin _ ?_,((eV.refl w).alloc _).alloc _⟩;rw [show jX 1 x=xr x.child from if_neg (fun h=>absurd h.2 (by omega))]
 · go_enter Tryz.func144,Tryz.ntmps144
   go_wp2_with fail
   refine(qI _ _).mono ?_;rintro e w1 ⟨rfl,rfl⟩;go_wp2;go_ret;refine⟨fin _ ?_,((eV.refl w).alloc _).alloc _⟩;rw [aL];simp [jX]
end Go.Proofs.YtiegeadmgpanoaaGreatDoor.D2
namespace Go.fB
def km(s:ef)(k:Int)(m:Nat):List Int:=((List.range m).filter fun i:Nat=>s.state ((i:Int)+1) == k).map fun i:Nat=>(i:Int)+1
abbrev jZ(s:ef)(k:Int):List Int:=km s k s.counts.length
theorem CW {s:ef}{k:Int}{m:Nat}(h:s.state ((m:Int)+1)=k):km s k (m+1)=km s k m++ [(m:Int)+1]:=by
 unfold km;rw [dC,cG,aI];simp [h]
theorem Fl {s:ef}{k:Int}{m:Nat}(h:s.state ((m:Int)+1)≠k):km s k (m+1)=km s k m:=by
 unfold km;rw [dC,cG,aI];simp [h]
theorem vG(s:ef)(k:Int)(m:Nat):(km s k m).length≤m:=by
 unfold km;rw [aH];exact bK (bX _ _) (by rw [List.length_range];exact aD _)
theorem uU {s:ef}{k n:Int}:n∈jZ s k↔s.there n∧s.state n=k:=by
 unfold jZ km;simp only [bH,bm,aP,beq_iff_eq];constructor
 · rintro⟨i,⟨h1,h2⟩,rfl⟩
   exact⟨⟨by omega,by omega⟩,h2⟩
 · rintro⟨⟨h1,h2⟩,h3⟩
   refine⟨n.toNat-1,⟨by omega,?_⟩,by omega⟩;rw [show ((n.toNat-1:Nat):Int)+1=n by omega];exact h3
end Go.fB
namespace Go.Proofs.YtiegeadmgpanoaaGreatDoor.J4
open ChangeShapes WideShapes ChangeAt RowKit Sl fB Go.Shelf D2 L3 Q3
attribute [local go_sem] Oper.semAt_some
theorem CY(p:Nat)(s:ef)(F:Pr)(w:World)(hF:Sat ((eP p s).star F) w):
 Calls Tryz.prog 68 #[.pointer (some ⟨p,0,none⟩)] w fun e w'=>e= .returned (.tuple #[])∧Sat ((eP p s.settled).star F) w'∧dN w w':=by
 obtain⟨ok,cv,lv,fb,av,hA⟩:=jl.1 hF;have o9:Sat ((i' p av s.acts).star ((Pr.pts p (.cells (eO s cv lv fb av) 159)).star ((dX cv s.counts).star ((eK lv s.last).star ((f_ fb fun m=>s.state m=1).star F))))) w:=hA.perm (by unfold k_;ac_rfl)
 obtain⟨a9,c9,e9⟩:∃a9 c9,av= .slice a9 s.acts.length c9:=by
  have h1:=o9;unfold i' at h1;obtain⟨⟨fs,hx⟩,h2⟩:=Sat.ex.1 h1;rw [Pr.dP] at h2;obtain⟨_,h3⟩:=Sat.pure.1 h2;dsimp only at h3;rw [Pr.dP] at h3;obtain⟨a,c,Qp,_,_⟩:=Row.read h3;exact⟨a,c,Qp⟩
 subst e9;have h2:=o9.perm (B:=(Pr.pts p (.cells (eO s cv lv fb (.slice a9 s.acts.length c9)) 159)).star ((dX cv s.counts).star ((eK lv s.last).star ((i' p (.slice a9 s.acts.length c9) s.acts).star ((f_ fb fun m=>s.state m=1).star F))))) (by ac_rfl)
 refine(xA p s.refs cv lv _ _ _ _ _ _ a9 s.acts.length c9 s.floor s.counts s.last _ w h2 ok.n1 ok.n2 ok.len ok.cs ok.fl ok.mb).mono ?_;rintro e w' ⟨rfl,⟨fb2,h3⟩,hst⟩
 have j6:hU (fA s.refs s.counts (s.floor+s.acts.length)):=⟨ok.n1,ok.n2,by show (fy s.counts).length=_;unfold fy;rw [aH],ok.r1,ok.r2,ok.cs,by have:=ok.fl;show (0:Int)≤s.floor+ _;omega,by have:=ok.mb;show s.floor+ _+((0:Nat):Int)≤ _;omega⟩;have h4:=G5 ok.len j6 h3
 exact⟨rfl,(h4.perm (B:=(i' p (.slice a9 s.acts.length c9) s.acts).star ((f_ fb fun m=>s.state m=1).star ((eP p s.settled).star F))) (by show (eP p s.settled).star _=_;ac_rfl)).right.right,hst⟩
theorem Fo(p:Nat)(s:ef)(k:Int)(F:Pr)(w:World)(hF:Sat ((eP p s).star F) w):
 Calls Tryz.prog 67 #[.pointer (some ⟨p,0,none⟩),.int .i64 k] w fun e w'=>
  dN w w'∧∃lb lv,e= .returned (.func (.func 106) #[] #[.pointer (some ⟨lb,0,none⟩)])∧
   Sat ((Pr.pts lb (.cells #[lv] 22)).star ((dX lv (jZ s k)).star ((eP p s).star F))) w':=by
 obtain⟨ok,rd,_,_,_⟩:=kM hF;obtain⟨b,c,h1,_⟩:=rd.cs;have zp:=ay _ _ h1;have rH:=ok.n2;have S6:(s.counts.length:Int)≤65536:=by omega
 have HB:=hQ (hF.alloc (.cells #[.slice none 0 0] 22));have eR:=hQ ((dN.refl w).alloc (.cells #[.slice none 0 0] 22));obtain⟨i0,lk,hz0,hz1,jg⟩:=info_parts mA;clear hF rd ok;go_enter Tryz.func67,Tryz.ntmps67
 go_wp2;go_loopw [12] (fun i wr=> ∃(m:Nat) (lv:Value),m≤s.counts.length∧i= .int .i64 m∧dN w wr∧Sat ((Pr.pts w.heap.size (.cells #[lv] 22)).star ((dX lv (km s k m)).star ((eP p s).star F))) wr) (fun i _=>s.counts.length-(intOf i).toNat)
 case atStart=>
  refine⟨0,.slice none 0 0,aG _,rfl,eR.af,?_⟩;rw [show dX (.slice none 0 0) (km s k 0)=Pr.emp from Row.nil _ _,Pr.fK];exact HB.af
 case round=>
  obtain⟨m,lv,hm,rfl,hst,hs⟩:=hrel;clear HB eR;obtain⟨al,cl,rfl,_,_⟩:=Row.read hs.right;have q0:wr.cell? ⟨w.heap.size,0,none⟩=some (.slice al (km s k m).length cl):=by rw [cell_of_heap hs.dL];rfl
  have f0:=frozen_of_heap hs.dL 0;have z0:=hs.lt;have Qt:=vG s k m;have ST:=hQ (nS p ((m:Int)+1) wr s (kM (hs.right.right)).2.1);have ou:=hQ (fun h=>CW (s:=s) (k:=k) (m:=m) h);have tQ:=hQ (fun h=>Fl (s:=s) (k:=k) (m:=m) h);rcases aB m s.counts.length with hlt | hge
  · by_cases hk:s.state ((m:Int)+1)=k
    · have hb:(s.state ((m:Int)+1) == k)=true:=beq_iff_eq.2 hk
      have HK:=hQ hk;have A1:=hQ ((hs.perm (Pr.eD _ _ _)).alloc (.cells [.int .i64 ((m:Int)+1)].toArray 3)).right;have hnew:=hQ (eW wr [.int .i64 ((m:Int)+1)] 3 _ rfl);have nM:=hQ (hst.alloc (.cells [.int .i64 ((m:Int)+1)].toArray 3));clear hs hst hk;generalize s.state ((m:Int)+1)=sm at*;go_wp2_with fail
      refine ST.af.mono ?_;rintro e w1 ⟨rfl,rfl⟩
      go_wp2_with (
       at_builtin
       refine eu rfl _ _ _ rfl 3 i0 (.int .i64 0) 1 8 Tryz.underlying22 lk hz0 hz1 jg rfl _ _ _ rfl A1.af ⟨wr.heap.size,0,none⟩ 1 1 [.int .i64 ((m:Int)+1)] rfl rfl hnew.af (by simp [Value.oneCell']) (by simp only [maxLen];omega) (by omega) ?_
       intro v7 w4 fp mD _
       obtain⟨Ke,Kf,xJ,_,_⟩:=Row.read fp
       subst xJ
       have g0:w4.cell? ⟨w.heap.size,0,none⟩=some (.slice al (km s k m).length cl):=by
        rw [cell_of_heap fp.right.dL]
        rfl
       have gf:=frozen_of_heap fp.right.dL 0
       have gz:=fp.right.lt
       have lZ:=hQ fp
       have qx:=hQ (nM.af.eH mD)
       clear fp mD)
      go_roundw
      case rel=>
       refine⟨m+1,.slice Ke ((km s k m).length+1) Kf,by omega,congrArg (Value.int .i64) (by omega),qx.af.setCell _ _,?_⟩;have h9:=(lZ.af.perm (Pr.eD _ _ _)).setCell (i:=0) (.slice Ke ((km s k m).length+1) Kf);rw [ou.af HK.af];unfold dX;rw [au,aI];exact h9
      case measure=>simp [intOf];omega
    · have hb:(s.state ((m:Int)+1) == k)=false:=beq_eq_false_iff_ne.2 hk
      have HK:=hQ hk;have HS:=hQ hs;clear hs hk;generalize s.state ((m:Int)+1)=sm at*;go_wp2_with fail
      refine ST.af.mono ?_;rintro e w1 ⟨rfl,rfl⟩;go_wp2;go_roundw
      case rel=>exact⟨m+1,_,by omega,congrArg (Value.int .i64) (by omega),hst,by rw [tQ.af HK.af];exact HS.af⟩
      case measure=>simp [intOf];omega
  · have hme:m=s.counts.length:=by omega
    subst hme;have HS:=hQ hs;clear hs ST;go_wp2;go_ret;exact⟨hst,_,_,rfl,HS.af⟩
def lL(lb:Nat)(lv:Value)(xs:List Int):Pr:=(Pr.pts lb (.cells #[lv] 22)).star (dX lv xs)
def K_(n:Int):Array Value:= #[.int .i64 n]
theorem Qu(lb:Nat)(lv:Value)(xs:List Int)(hl:xs.length≤65536):
 Ez Tryz.prog 106 #[.pointer (some ⟨lb,0,none⟩)] K_ xs (lL lb lv xs):=by
 intro l J Jx W hY h0;refine(callsIn_wide (n:=3)).1 ?_;refine callsIn_of_wp Tryz.func106 rfl trivial ?_ rfl;simp only [Tryz.ntmps106,bu,List.length_cons,List.length_nil,Nat.reduceAdd,Nat.reduceSub,Array.replicate_succ,Array.replicate_zero,bB,a_,List.nil_append,List.cons_append]
 have facts:∀(A:Pr) (wr:World),Sat (A.star (lL lb lv xs)) wr→∃a c,lv= .slice a xs.length c∧wr.cell? ⟨lb,0,none⟩=some (.slice a xs.length c)∧lb<wr.heap.size∧∀i,i<xs.length→∃b,a=some ⟨b,0,none⟩∧wr.cell? ⟨b,i,none⟩=some (.int .i64 (xs.getD i 0)):=by
  intro A wr hs;unfold lL at hs;have h1:Sat ((Pr.pts lb (.cells #[lv] 22)).star ((dX lv xs).star A)) wr:=hs.perm (by ac_rfl);obtain⟨a,c,e,_,hc⟩:=Row.read h1.right;subst e;refine⟨a,c,rfl,by rw [cell_of_heap h1.dL];rfl,h1.lt,fun i hi=> ?_⟩;obtain⟨b,eb,hd⟩:=hc (by omega);refine⟨b,eb,?_⟩;rw [(hd i (by omega)).1];simp [hi]
 have F0:=facts _ _ h0;obtain⟨a,c,R_,q1,z1,_⟩:=F0;have hl3:(xs.length:Int)≤65536:=by omega
 have HF:=hQ facts;have HY:=hQ hY;have H0:=hQ h0;have HE:=hQ R_;clear facts hY h0 R_;gi_wp2
 gi_loopw [7] (fun i wr=> ∃r:Nat,r≤xs.length∧i= .int .i64 (r:Int)∧dN W wr∧Sat ((J (xs.take r)).star (lL lb lv xs)) wr) (fun i _=>xs.length-(intOf i).toNat)
 case atStart=>exact⟨0,aG _,rfl,dN.refl _,H0.af⟩
 case round=>
  obtain⟨r,hr,rfl,hR,hs⟩:=hrel;rcases aB r xs.length with hlt | hge
  · obtain⟨a2,c2,e2,_,_,hcell⟩:=HF.af _ _ hs
    have e3:=HE.af;rw [e3] at e2;cases e2;obtain⟨b,rfl,q2⟩:=hcell r hlt
    have tj:xs.take (r+1)=xs.take r++ [xs.getD r 0]:=by
     rw [aF hlt];simp [hlt]
    have hpre:xs.take r++ [xs.getD r 0]<+:xs:=by rw [← tj];exact List.take_prefix _ _
    have Is:=hQ tj;have HP:=hQ hpre;have HS:=hQ hs;have z2:=ay _ _ q2;clear tj hpre hs hcell e3;generalize xs.getD r 0=y at*;gi_wp2
    refine na (HY.af Pr.emp (xs.take r) y _ HP.af (HS.af.perm (Pr.ei _).symm)) ?_;rintro e w' ⟨hR',(⟨rfl,hs'⟩ | ⟨rfl,hs'⟩)⟩<;>rw [Pr.ei] at hs'
    · refine⟨_,rfl,?_⟩
      rw [← Is.af] at hs';have xg:=hQ hs';clear hs';gi_wp2
      go_roundw
      case rel=>exact⟨r+1,by omega,congrArg (Value.int .i64) (by omega),hR.trans hR',xg.af⟩
      case measure=>simp [intOf];omega
    · refine⟨_,rfl,?_⟩
      have xg:=hQ hs';clear hs';gi_wp2
      refine bodyPost_ret (results_none rfl _ _ _) rfl ?_;exact⟨⟨_,rfl⟩,hR.trans hR',.inr ⟨_,HP.af,xg.af⟩⟩
  · have hre:r=xs.length:=by omega
    subst hre;have HS:=hQ hs;clear hs;gi_wp2
    go_end0
    refine⟨⟨_,rfl⟩,hR,.inl ⟨_,rfl,?_⟩⟩;have h9:=HS.af;rw [bE] at h9;exact h9
end Go.Proofs.YtiegeadmgpanoaaGreatDoor.J4
namespace Go.fB
def lB(its:List en):Nat→List Int
 | 0=> []
 | j+1=>((its[j]?).map (·.key)).getD []
theorem p' {its:List en}{k:Nat}(h:k<its.length):lB its (k+1)=its[k].key:=by simp [lB,h]
end Go.fB
namespace Go.Proofs.YtiegeadmgpanoaaGreatDoor.D2
open ChangeShapes WideShapes ChangeAt RowKit Sl fB Z3
theorem zy {k:Int}{i:Nat}{x:en}(h:kB k i x=true):x.key.length≤9000000000000000000:=by
 unfold kB at h;split at h<;>rw [decide_eq_true_eq] at h<;>omega
theorem ko {h:Hp}{w w':World}(hl:h.le w)(ho:eV w w'):h.le w':=fun k x e=>(ho.heap k (aA.1 (hl k x e)).1).trans (hl k x e)
theorem CZ(ai ad:Option Addr)(n ci d cd:Nat)(k l nx:Int)(hk:¬(1≤k∧k≤3))(w:World):
 Calls Tryz.prog 117 #[fX k l (.slice ai n ci) (.slice ad d cd) nx] w fun e w'=>e= .returned (.int .i64 22)∧eV w w':=by
 have h1:(k != 1)=true:=by rw [bne_iff_ne];omega
 have h2:(k != 2)=true:=by rw [bne_iff_ne];omega
 have h3:(k != 3)=true:=by rw [bne_iff_ne];omega
 go_enter Tryz.func117,Tryz.ntmps117
 go_wp2;go_ret;exact⟨rfl,(eV.refl w).alloc _⟩
theorem C4(ai ad:Option Addr)(n ci d cd:Nat)(k l nx:Int)(hk:k=1∨k=2∨k=3)(hf:iR k l n d nx=false)(w:World):
 Calls Tryz.prog 117 #[fX k l (.slice ai n ci) (.slice ad d cd) nx] w fun e w'=>e= .returned (.int .i64 5)∧eV w w':=by
 have ho:=(eV.refl w).alloc (.cells #[.int .i64 k,.int .i64 l,.slice ai n ci,.slice ad d cd,.int .i64 nx] 83);have C:=fun wx=>hQ (uR ai ad n ci d cd k l nx hk wx)
 rw [hf] at C;rcases hk with rfl | rfl | rfl
 all_goals
  go_enter Tryz.func117,Tryz.ntmps117
  go_wp2_with fail
  refine(C _).af.mono ?_;rintro e w1 ⟨rfl,zA⟩;go_wp2;go_ret;exact⟨rfl,ho.trans zA⟩
theorem Bg(h:Hp)(a ad:Option Addr)(c d cd:Nat)(its:List en)(k l nx:Int)(hi:h_ h (.slice a its.length c) its)(hk:k=1∨k=2)(hf:iR k l its.length d nx=true)(w:World)(hh:h.le w):
 Calls Tryz.prog 117 #[fX k l (.slice a its.length c) (.slice ad d cd) nx] w fun e w'=>e= .returned (.int .i64 (jr k 0 [] its))∧eV w w':=by
 have Zp:its.length≤8:=by unfold iR at hf;rcases hk with rfl | rfl<;>simp at hf<;>omega
 obtain⟨a',c',e',_,rd⟩:=fL hi;cases e';have C:=fun wx=>hQ (uR a ad its.length c d cd k l nx (by omega) wx)
 rw [hf] at C;obtain⟨w0,hw0⟩:∃w0,w.alloc (.cells #[.int .i64 k,.int .i64 l,.slice a its.length c,.slice ad d cd,.int .i64 nx] 83)=w0:=⟨_,rfl⟩;have ho0:eV w w0:=hw0 ▸ (eV.refl w).alloc _
 have facts:∀wr,eV w0 wr→(wr.cell? ⟨w.heap.size,0,none⟩=some (.int .i64 k)∧wr.cell? ⟨w.heap.size,1,none⟩=some (.int .i64 l)∧wr.cell? ⟨w.heap.size,2,none⟩=some (.slice a its.length c)∧wr.cell? ⟨w.heap.size,3,none⟩=some (.slice ad d cd)∧wr.cell? ⟨w.heap.size,4,none⟩=some (.int .i64 nx))∧w.heap.size<wr.heap.size∧h.le wr:=by
  intro wr ho;subst hw0;have hn:=mq w (.cells #[.int .i64 k,.int .i64 l,.slice a its.length c,.slice ad d cd,.int .i64 nx] 83);have hc:∀i v,(#[.int .i64 k,.int .i64 l,.slice a its.length c,.slice ad d cd,.int .i64 nx]:Array Value)[i]? =some v→wr.cell? ⟨w.heap.size,i,none⟩=some v:=fun i v e=>ho.cell (by rw [cell_of_heap hn];exact e)
  refine⟨⟨hc 0 _ rfl,hc 1 _ rfl,hc 2 _ rfl,hc 3 _ rfl,hc 4 _ rfl⟩,cY (by simp) ho.st.size,ko (ko hh ho0) ho⟩
 have FA:=hQ facts;have wj:=hQ ho0;have RD:=hQ rd;have HI:=hQ hi;clear facts ho0 rd hi hh;have hk3:(k == 3)=false:=by rw [beq_eq_false_iff_ne];omega
 obtain⟨⟨q0,q1,q2,q3,q4⟩,z0,_⟩:=FA.af w0 (eV.refl _);rcases hk with rfl | rfl
 · go_enter Tryz.func117,Tryz.ntmps117
   go_wp2_with fail
   refine(C _).af.mono ?_;rintro e w1 ⟨rfl,zA⟩;clear q0 q1 q2 q3 q4 z0;go_wp2_with fail
   go_loopw [3] (fun i wr=> ∃r:Nat,r≤its.length∧i= .int .i64 r∧eV w0 wr∧Hid (jr 1 r (lB its r) (its.drop r)=jr 1 0 [] its)) (fun i _=>its.length-(intOf i).toNat)
   case atStart=>exact⟨0,aG _,rfl,zA,hQ rfl⟩
   case round=>
    obtain⟨r,hr,rfl,ho,heq⟩:=hrel;obtain⟨⟨q0,q1,q2,q3,q4⟩,z0,hle⟩:=FA.af wr ho;rcases aB r its.length with hlt | hge
    · have lU:=heq.af
      rw [wQ hlt,li] at lU;have HE:=hQ lU;have KC:=fun wx hx=>hQ (tP h 1 l nx a ad c d cd its HI.af (.inl rfl) r hlt wx hx)
      have NQ:=hQ (p' hlt);have S9:=hQ RD.af;obtain⟨b,off,ak,ck,av,cv,rfl,hbk,qR,hcell⟩:=RD.af r hlt;clear heq lU;generalize its[r]=x at*;have HO:=hQ ho;clear ho;go_wp2_with fail
      refine(KC _ hle).af.mono ?_;rintro e w2 ⟨rfl,G7⟩;have vH:=hQ (HO.af.trans G7);clear q0 q1 q2 q3 q4 z0 hle G7;obtain⟨⟨q0,q1,q2,q3,q4⟩,z0,hle⟩:=FA.af w2 vH.af;cases hK:kB 1 r x with
      | false=>
        go_wp2;go_ret;refine⟨?_,wj.af.trans vH.af⟩;rw [← HE.af,show ie 1 r (lB its r) x=7 by unfold ie;rw [if_pos hK]];rfl
      | true=>
        obtain⟨c0,c1,c2,c3⟩:=hcell w2 hle;rcases r with _ | j
        · skip
          have hR:kC 0 (lB its 0) x=true:=rfl;simp only [cB,Nat.add_zero] at c0 c1 c2 c3;go_wp2_with fail
          go_quiet (fail)
          go_wp2_with fail
          refine wS 80 [0,1,2,3,4,5] [(6,[7],[1,2,3,4])] ?_;refine dY _ rfl rfl ?_;simp only [pick,pQ];iterate 6 (go_big_quiet_step (fail))
          refine wpQuiet_nil ?_;refine dK rfl ?_;go_wp2_with fail
          refine(pZ 1 l nx _ _ x ak av ck cv (.inl rfl) _).mono ?_;rintro e w4 ⟨rfl,Fp⟩;have Fq:=hQ ((vH.af.drewN _).trans Fp);clear q0 q1 q2 q3 q4 z0 hle c0 c1 c2 c3;obtain⟨⟨q0,q1,q2,q3,q4⟩,z0,hle⟩:=FA.af w4 Fq.af;obtain⟨c0,c1,c2,c3⟩:=hcell w4 hle;simp only [cB,Nat.add_zero] at c0 c1 c2 c3;go_wp2;refine dQ ?_;refine dY _ rfl rfl ?_;simp only [pick,pQ]
          iterate 1 (go_big_quiet_step (fail))
          refine wpQuiet_nil ⟨?_,?_⟩
          · exact cQ
          refine dW ?_;cases hV:jB 1 x with
          | false=>
            go_wp2;go_ret;refine⟨?_,wj.af.trans Fq.af⟩;rw [← HE.af,show ie 1 (0) (lB its (0)) x=8 by unfold ie;rw [if_neg (by rw [hK];decide),if_neg (by rw [hR];decide),if_pos hV]];rfl
          | true=>
          go_wp2_with fail
          refine wS 80 [0,1,2,3,4,5] [(6,[7],[1,2,3,4])] ?_;refine dY _ rfl rfl ?_;simp only [pick,pQ];iterate 6 (go_big_quiet_step (fail))
          refine wpQuiet_nil ?_;refine dK rfl ?_;go_wp2_with fail
          refine(p_ 1 l nx _ _ x _ _ (.inl rfl) _).mono ?_;rintro e w5 ⟨rfl,La⟩;have Ft:=hQ (Fq.af.drew.trans La);clear q0 q1 q2 q3 q4 z0 hle c0 c1 c2 c3;obtain⟨⟨q0,q1,q2,q3,q4⟩,z0,hle⟩:=FA.af w5 Ft.af;obtain⟨c0,c1,c2,c3⟩:=hcell w5 hle;simp only [cB,Nat.add_zero] at c0 c1 c2 c3;go_wp2;refine dQ ?_;refine dY _ rfl rfl ?_;simp only [pick,pQ]
          iterate 1 (go_big_quiet_step (fail))
          refine wpQuiet_nil ⟨?_,?_⟩
          · exact cQ
          refine dW ?_;cases hC:jX 1 x with
          | false=>
            go_wp2;go_ret;refine⟨?_,wj.af.trans Ft.af⟩;rw [← HE.af,show ie 1 (0) (lB its (0)) x=15 by unfold ie;rw [if_neg (by rw [hK];decide),if_neg (by rw [hR];decide),if_neg (by rw [hV];decide),if_pos hC]];rfl
          | true=>
          go_wp2;go_roundw
          case rel=>
           refine⟨0+1,by omega,congrArg (Value.int .i64) (by omega),Ft.af,hQ ?_⟩;rw [← HE.af,NQ.af,show ie 1 (0) (lB its (0)) x=0 by unfold ie;rw [if_neg (by rw [hK];decide),if_neg (by rw [hR];decide),if_neg (by rw [hV];decide),if_neg (by rw [hC];decide)]];rfl
          case measure=>simp [intOf];omega
        · have hj:j<its.length:=by omega
          obtain⟨b',off',ak',ck',Nf,cv',Xr,Qv,_,xK⟩:=S9.af j hj;have S_:lB its (j+1)=its[j].key:=p' hj;rw [S_] at HE;generalize its[j]=y at*;skip
          cases Xr;obtain⟨d0,d1,d2,d3⟩:=xK w2 hle;go_wp2_with fail
          refine wS 80 [0,1,2,3,4,5,6,7,8,9,10,11,12,13,14,15] [(16,[17,18],[0,1,3,4,5,6,7,9,10,11,12,13,14])] ?_;refine dY _ rfl rfl ?_;simp only [pick,pQ];iterate 16 (go_big_quiet_step (fail))
          refine wpQuiet_nil ?_;refine dK rfl ?_;go_wp2_with fail
          refine(l3 h h _ _ x.key y.key hbk Qv (zy hK) _ (ko hle ((eV.refl _).drew)) (ko hle ((eV.refl _).drew))).mono ?_;rintro e w3 ⟨rfl,wR⟩;have wm:=hQ (vH.af.drew.trans wR);clear q0 q1 q2 q3 q4 z0 hle c0 c1 c2 c3 d0 d1 d2 d3;obtain⟨⟨q0,q1,q2,q3,q4⟩,z0,hle⟩:=FA.af w3 wm.af;obtain⟨c0,c1,c2,c3⟩:=hcell w3 hle;obtain⟨d0,d1,d2,d3⟩:=xK w3 hle;go_wp2
          refine dQ ?_;refine dY _ rfl rfl ?_;simp only [pick,pQ];iterate 2 (go_big_quiet_step (fail))
          refine wpQuiet_nil ⟨?_,?_⟩
          · exact cQ
          refine dW ?_;cases Ta:decide (eX x.key y.key≤0) with
          | true=>
            go_wp2;go_ret;refine⟨?_,wj.af.trans wm.af⟩;have hR:kC (j+1) y.key x=false:=by have:=of_decide_eq_true Ta;unfold kC;rw [decide_eq_false_iff_not];omega
            rw [← HE.af,show ie 1 (j+1) y.key x=11 by unfold ie;rw [if_neg (by rw [hK];decide),if_pos hR]];rfl
          | false=>
          have hR:kC (j+1) y.key x=true:=by have:=of_decide_eq_false Ta;unfold kC;rw [decide_eq_true_eq];omega
          rw [← S_] at hR HE;go_wp2_with fail
          refine wS 80 [0,1,2,3,4,5] [(6,[7],[1,2,3,4])] ?_;refine dY _ rfl rfl ?_;simp only [pick,pQ];iterate 6 (go_big_quiet_step (fail))
          refine wpQuiet_nil ?_;refine dK rfl ?_;go_wp2_with fail
          refine(pZ 1 l nx _ _ x ak av ck cv (.inl rfl) _).mono ?_;rintro e w4 ⟨rfl,Fp⟩;have Fq:=hQ (wm.af.drew.trans Fp);clear q0 q1 q2 q3 q4 z0 hle c0 c1 c2 c3;obtain⟨⟨q0,q1,q2,q3,q4⟩,z0,hle⟩:=FA.af w4 Fq.af;obtain⟨c0,c1,c2,c3⟩:=hcell w4 hle;go_wp2;refine dQ ?_;refine dY _ rfl rfl ?_;simp only [pick,pQ];iterate 1 (go_big_quiet_step (fail))
          refine wpQuiet_nil ⟨?_,?_⟩
          · exact cQ
          refine dW ?_;cases hV:jB 1 x with
          | false=>
            go_wp2;go_ret;refine⟨?_,wj.af.trans Fq.af⟩;rw [← HE.af,show ie 1 (j+1) (lB its (j+1)) x=8 by unfold ie;rw [if_neg (by rw [hK];decide),if_neg (by rw [hR];decide),if_pos hV]];rfl
          | true=>
          go_wp2_with fail
          refine wS 80 [0,1,2,3,4,5] [(6,[7],[1,2,3,4])] ?_;refine dY _ rfl rfl ?_;simp only [pick,pQ];iterate 6 (go_big_quiet_step (fail))
          refine wpQuiet_nil ?_;refine dK rfl ?_;go_wp2_with fail
          refine(p_ 1 l nx _ _ x _ _ (.inl rfl) _).mono ?_;rintro e w5 ⟨rfl,La⟩;have Ft:=hQ (Fq.af.drew.trans La);clear q0 q1 q2 q3 q4 z0 hle c0 c1 c2 c3;obtain⟨⟨q0,q1,q2,q3,q4⟩,z0,hle⟩:=FA.af w5 Ft.af;obtain⟨c0,c1,c2,c3⟩:=hcell w5 hle;go_wp2;refine dQ ?_;refine dY _ rfl rfl ?_;simp only [pick,pQ];iterate 1 (go_big_quiet_step (fail))
          refine wpQuiet_nil ⟨?_,?_⟩
          · exact cQ
          refine dW ?_;cases hC:jX 1 x with
          | false=>
            go_wp2;go_ret;refine⟨?_,wj.af.trans Ft.af⟩;rw [← HE.af,show ie 1 (j+1) (lB its (j+1)) x=15 by unfold ie;rw [if_neg (by rw [hK];decide),if_neg (by rw [hR];decide),if_neg (by rw [hV];decide),if_pos hC]];rfl
          | true=>
          go_wp2;go_roundw
          case rel=>
           refine⟨j+1+1,by omega,congrArg (Value.int .i64) (by omega),Ft.af,hQ ?_⟩;rw [← HE.af,NQ.af,show ie 1 (j+1) (lB its (j+1)) x=0 by unfold ie;rw [if_neg (by rw [hK];decide),if_neg (by rw [hR];decide),if_neg (by rw [hV];decide),if_neg (by rw [hC];decide)]];rfl
          case measure=>simp [intOf];omega
    · have hrl:r=its.length:=by omega
      subst hrl;have lU:=heq.af;rw [bP] at lU;have HE:=hQ lU;clear heq lU;go_wp2;go_ret;refine⟨?_,wj.af.trans ho⟩;rw [← HE.af];rfl
 · go_enter Tryz.func117,Tryz.ntmps117
   go_wp2_with fail
   refine(C _).af.mono ?_;rintro e w1 ⟨rfl,zA⟩;clear q0 q1 q2 q3 q4 z0;go_wp2_with fail
   go_loopw [3] (fun i wr=> ∃r:Nat,r≤its.length∧i= .int .i64 r∧eV w0 wr∧Hid (jr 2 r (lB its r) (its.drop r)=jr 2 0 [] its)) (fun i _=>its.length-(intOf i).toNat)
   case atStart=>exact⟨0,aG _,rfl,zA,hQ rfl⟩
   case round=>
    obtain⟨r,hr,rfl,ho,heq⟩:=hrel;obtain⟨⟨q0,q1,q2,q3,q4⟩,z0,hle⟩:=FA.af wr ho;rcases aB r its.length with hlt | hge
    · have lU:=heq.af
      rw [wQ hlt,li] at lU;have HE:=hQ lU;have KC:=fun wx hx=>hQ (tP h 2 l nx a ad c d cd its HI.af (.inr rfl) r hlt wx hx)
      have NQ:=hQ (p' hlt);have S9:=hQ RD.af;obtain⟨b,off,ak,ck,av,cv,rfl,hbk,qR,hcell⟩:=RD.af r hlt;clear heq lU;generalize its[r]=x at*;have HO:=hQ ho;clear ho;go_wp2_with fail
      refine(KC _ hle).af.mono ?_;rintro e w2 ⟨rfl,G7⟩;have vH:=hQ (HO.af.trans G7);clear q0 q1 q2 q3 q4 z0 hle G7;obtain⟨⟨q0,q1,q2,q3,q4⟩,z0,hle⟩:=FA.af w2 vH.af;cases hK:kB 2 r x with
      | false=>
        go_wp2;go_ret;refine⟨?_,wj.af.trans vH.af⟩;rw [← HE.af,show ie 2 r (lB its r) x=7 by unfold ie;rw [if_pos hK]];rfl
      | true=>
        obtain⟨c0,c1,c2,c3⟩:=hcell w2 hle;rcases r with _ | j
        · skip
          have hR:kC 0 (lB its 0) x=true:=rfl;simp only [cB,Nat.add_zero] at c0 c1 c2 c3;go_wp2_with fail
          go_quiet (fail)
          go_wp2_with fail
          refine wS 80 [0,1,2,3,4,5] [(6,[7],[1,2,3,4])] ?_;refine dY _ rfl rfl ?_;simp only [pick,pQ];iterate 6 (go_big_quiet_step (fail))
          refine wpQuiet_nil ?_;refine dK rfl ?_;go_wp2_with fail
          refine(pZ 2 l nx _ _ x ak av ck cv (.inr rfl) _).mono ?_;rintro e w4 ⟨rfl,Fp⟩;have Fq:=hQ ((vH.af.drewN _).trans Fp);clear q0 q1 q2 q3 q4 z0 hle c0 c1 c2 c3;obtain⟨⟨q0,q1,q2,q3,q4⟩,z0,hle⟩:=FA.af w4 Fq.af;obtain⟨c0,c1,c2,c3⟩:=hcell w4 hle;simp only [cB,Nat.add_zero] at c0 c1 c2 c3;go_wp2;refine dQ ?_;refine dY _ rfl rfl ?_;simp only [pick,pQ]
          iterate 1 (go_big_quiet_step (fail))
          refine wpQuiet_nil ⟨?_,?_⟩
          · exact cQ
          refine dW ?_;cases hV:jB 2 x with
          | false=>
            go_wp2;go_ret;refine⟨?_,wj.af.trans Fq.af⟩;rw [← HE.af,show ie 2 (0) (lB its (0)) x=8 by unfold ie;rw [if_neg (by rw [hK];decide),if_neg (by rw [hR];decide),if_pos hV]];rfl
          | true=>
          go_wp2_with fail
          refine wS 80 [0,1,2,3,4,5] [(6,[7],[1,2,3,4])] ?_;refine dY _ rfl rfl ?_;simp only [pick,pQ];iterate 6 (go_big_quiet_step (fail))
          refine wpQuiet_nil ?_;refine dK rfl ?_;go_wp2_with fail
          refine(p_ 2 l nx _ _ x _ _ (.inr rfl) _).mono ?_;rintro e w5 ⟨rfl,La⟩;have Ft:=hQ (Fq.af.drew.trans La);clear q0 q1 q2 q3 q4 z0 hle c0 c1 c2 c3;obtain⟨⟨q0,q1,q2,q3,q4⟩,z0,hle⟩:=FA.af w5 Ft.af;obtain⟨c0,c1,c2,c3⟩:=hcell w5 hle;simp only [cB,Nat.add_zero] at c0 c1 c2 c3;go_wp2;refine dQ ?_;refine dY _ rfl rfl ?_;simp only [pick,pQ]
          iterate 1 (go_big_quiet_step (fail))
          refine wpQuiet_nil ⟨?_,?_⟩
          · exact cQ
          refine dW ?_;cases hC:jX 2 x with
          | false=>
            go_wp2;go_ret;refine⟨?_,wj.af.trans Ft.af⟩;rw [← HE.af,show ie 2 (0) (lB its (0)) x=15 by unfold ie;rw [if_neg (by rw [hK];decide),if_neg (by rw [hR];decide),if_neg (by rw [hV];decide),if_pos hC]];rfl
          | true=>
          go_wp2;go_roundw
          case rel=>
           refine⟨0+1,by omega,congrArg (Value.int .i64) (by omega),Ft.af,hQ ?_⟩;rw [← HE.af,NQ.af,show ie 2 (0) (lB its (0)) x=0 by unfold ie;rw [if_neg (by rw [hK];decide),if_neg (by rw [hR];decide),if_neg (by rw [hV];decide),if_neg (by rw [hC];decide)]];rfl
          case measure=>simp [intOf];omega
        · have hj:j<its.length:=by omega
          obtain⟨b',off',ak',ck',Nf,cv',Xr,Qv,_,xK⟩:=S9.af j hj;have S_:lB its (j+1)=its[j].key:=p' hj;rw [S_] at HE;generalize its[j]=y at*;skip
          cases Xr;obtain⟨d0,d1,d2,d3⟩:=xK w2 hle;go_wp2_with fail
          refine wS 80 [0,1,2,3,4,5,6,7,8,9,10,11,12,13,14,15] [(16,[17,18],[0,1,3,4,5,6,7,9,10,11,12,13,14])] ?_;refine dY _ rfl rfl ?_;simp only [pick,pQ];iterate 16 (go_big_quiet_step (fail))
          refine wpQuiet_nil ?_;refine dK rfl ?_;go_wp2_with fail
          refine(l3 h h _ _ x.key y.key hbk Qv (zy hK) _ (ko hle ((eV.refl _).drew)) (ko hle ((eV.refl _).drew))).mono ?_;rintro e w3 ⟨rfl,wR⟩;have wm:=hQ (vH.af.drew.trans wR);clear q0 q1 q2 q3 q4 z0 hle c0 c1 c2 c3 d0 d1 d2 d3;obtain⟨⟨q0,q1,q2,q3,q4⟩,z0,hle⟩:=FA.af w3 wm.af;obtain⟨c0,c1,c2,c3⟩:=hcell w3 hle;obtain⟨d0,d1,d2,d3⟩:=xK w3 hle;go_wp2
          refine dQ ?_;refine dY _ rfl rfl ?_;simp only [pick,pQ];iterate 2 (go_big_quiet_step (fail))
          refine wpQuiet_nil ⟨?_,?_⟩
          · exact cQ
          refine dW ?_;cases Ta:decide (eX x.key y.key≤0) with
          | true=>
            go_wp2;go_ret;refine⟨?_,wj.af.trans wm.af⟩;have hR:kC (j+1) y.key x=false:=by have:=of_decide_eq_true Ta;unfold kC;rw [decide_eq_false_iff_not];omega
            rw [← HE.af,show ie 2 (j+1) y.key x=11 by unfold ie;rw [if_neg (by rw [hK];decide),if_pos hR]];rfl
          | false=>
          have hR:kC (j+1) y.key x=true:=by have:=of_decide_eq_false Ta;unfold kC;rw [decide_eq_true_eq];omega
          rw [← S_] at hR HE;go_wp2_with fail
          refine wS 80 [0,1,2,3,4,5] [(6,[7],[1,2,3,4])] ?_;refine dY _ rfl rfl ?_;simp only [pick,pQ];iterate 6 (go_big_quiet_step (fail))
          refine wpQuiet_nil ?_;refine dK rfl ?_;go_wp2_with fail
          refine(pZ 2 l nx _ _ x ak av ck cv (.inr rfl) _).mono ?_;rintro e w4 ⟨rfl,Fp⟩;have Fq:=hQ (wm.af.drew.trans Fp);clear q0 q1 q2 q3 q4 z0 hle c0 c1 c2 c3;obtain⟨⟨q0,q1,q2,q3,q4⟩,z0,hle⟩:=FA.af w4 Fq.af;obtain⟨c0,c1,c2,c3⟩:=hcell w4 hle;go_wp2;refine dQ ?_;refine dY _ rfl rfl ?_;simp only [pick,pQ];iterate 1 (go_big_quiet_step (fail))
          refine wpQuiet_nil ⟨?_,?_⟩
          · exact cQ
          refine dW ?_;cases hV:jB 2 x with
          | false=>
            go_wp2;go_ret;refine⟨?_,wj.af.trans Fq.af⟩;rw [← HE.af,show ie 2 (j+1) (lB its (j+1)) x=8 by unfold ie;rw [if_neg (by rw [hK];decide),if_neg (by rw [hR];decide),if_pos hV]];rfl
          | true=>
          go_wp2_with fail
          refine wS 80 [0,1,2,3,4,5] [(6,[7],[1,2,3,4])] ?_;refine dY _ rfl rfl ?_;simp only [pick,pQ];iterate 6 (go_big_quiet_step (fail))
          refine wpQuiet_nil ?_;refine dK rfl ?_;go_wp2_with fail
          refine(p_ 2 l nx _ _ x _ _ (.inr rfl) _).mono ?_;rintro e w5 ⟨rfl,La⟩;have Ft:=hQ (Fq.af.drew.trans La);clear q0 q1 q2 q3 q4 z0 hle c0 c1 c2 c3;obtain⟨⟨q0,q1,q2,q3,q4⟩,z0,hle⟩:=FA.af w5 Ft.af;obtain⟨c0,c1,c2,c3⟩:=hcell w5 hle;go_wp2;refine dQ ?_;refine dY _ rfl rfl ?_;simp only [pick,pQ];iterate 1 (go_big_quiet_step (fail))
          refine wpQuiet_nil ⟨?_,?_⟩
          · exact cQ
          refine dW ?_;cases hC:jX 2 x with
          | false=>
            go_wp2;go_ret;refine⟨?_,wj.af.trans Ft.af⟩;rw [← HE.af,show ie 2 (j+1) (lB its (j+1)) x=15 by unfold ie;rw [if_neg (by rw [hK];decide),if_neg (by rw [hR];decide),if_neg (by rw [hV];decide),if_pos hC]];rfl
          | true=>
          go_wp2;go_roundw
          case rel=>
           refine⟨j+1+1,by omega,congrArg (Value.int .i64) (by omega),Ft.af,hQ ?_⟩;rw [← HE.af,NQ.af,show ie 2 (j+1) (lB its (j+1)) x=0 by unfold ie;rw [if_neg (by rw [hK];decide),if_neg (by rw [hR];decide),if_neg (by rw [hV];decide),if_neg (by rw [hC];decide)]];rfl
          case measure=>simp [intOf];omega
    · have hrl:r=its.length:=by omega
      subst hrl;have lU:=heq.af;rw [bP] at lU;have HE:=hQ lU;clear heq lU;go_wp2;go_ret;refine⟨?_,wj.af.trans ho⟩;rw [← HE.af];rfl
theorem Fu(a ad:Option Addr)(c d cd:Nat)(nx:Int)(hd:1≤d∧d≤480)(w:World):
 Calls Tryz.prog 117 #[fX 3 0 (.slice a 0 c) (.slice ad d cd) nx] w fun e w'=>e= .returned (.int .i64 (if mQ nx then 0 else 15))∧eV w w':=by
 have hf:iR 3 0 0 d nx=true:=by unfold iR;rw [if_neg (by decide),if_neg (by decide),decide_eq_true_eq];exact⟨rfl,rfl,hd⟩
 have C:=fun wx=>hQ (uR a ad 0 c d cd 3 0 nx (by omega) wx)
 rw [hf] at C;obtain⟨R,hR⟩:∃R:Int,R=(if mQ nx then 0 else 15):=⟨_,rfl⟩;rw [← hR];have HR:=hQ hR;clear hR;obtain⟨w0,hw0⟩:∃w0,w.alloc (.cells #[.int .i64 3,.int .i64 0,.slice a 0 c,.slice ad d cd,.int .i64 nx] 83)=w0:=⟨_,rfl⟩;have ho0:eV w w0:=hw0 ▸ (eV.refl w).alloc _
 have facts:∀wr,eV w0 wr→(wr.cell? ⟨w.heap.size,0,none⟩=some (.int .i64 3)∧wr.cell? ⟨w.heap.size,1,none⟩=some (.int .i64 0)∧wr.cell? ⟨w.heap.size,2,none⟩=some (.slice a 0 c)∧wr.cell? ⟨w.heap.size,3,none⟩=some (.slice ad d cd)∧wr.cell? ⟨w.heap.size,4,none⟩=some (.int .i64 nx))∧w.heap.size<wr.heap.size:=by
  intro wr ho;subst hw0;have hn:=mq w (.cells #[.int .i64 3,.int .i64 0,.slice a 0 c,.slice ad d cd,.int .i64 nx] 83);have hc:∀i v,(#[.int .i64 3,.int .i64 0,.slice a 0 c,.slice ad d cd,.int .i64 nx]:Array Value)[i]? =some v→wr.cell? ⟨w.heap.size,i,none⟩=some v:=fun i v e=>ho.cell (by rw [cell_of_heap hn];exact e)
  refine⟨⟨hc 0 _ rfl,hc 1 _ rfl,hc 2 _ rfl,hc 3 _ rfl,hc 4 _ rfl⟩,cY (by simp) ho.st.size⟩
 have FA:=hQ facts;have wj:=hQ ho0;clear facts ho0;obtain⟨⟨q0,q1,q2,q3,q4⟩,z0⟩:=FA.af w0 (eV.refl _);go_enter Tryz.func117,Tryz.ntmps117
 go_wp2_with fail
 refine(C _).af.mono ?_;rintro e w1 ⟨rfl,zA⟩;have C5:=hQ zA;clear q0 q1 q2 q3 q4 z0 zA;obtain⟨⟨q0,q1,q2,q3,q4⟩,z0⟩:=FA.af w1 C5.af;go_wp2_with fail
 go_loopw [3] (fun i wr=>i= .int .i64 0∧wr=w1) (fun _ _=>0)
 case atStart=>exact⟨rfl,rfl⟩
 case round=>
  obtain⟨rfl,rfl⟩:=hrel;by_cases hn:nx=0
  · subst hn
    go_wp2;go_ret;exact⟨(by rw [HR.af];rfl),wj.af.trans C5.af⟩
  · have hn0:(nx != 0)=true:=by rw [bne_iff_ne];exact hn
    go_wp2_with fail
    refine(qI _ _).mono ?_;rintro e w5 ⟨rfl,rfl⟩;have e1:mQ nx=xr nx:=by unfold mQ;rw [decide_eq_false hn,Bool.false_or]
    have IG:=HR.af;rw [e1] at IG;cases hP:xr nx with
    | true=>
      rw [hP] at IG;go_wp2;go_ret;exact⟨(by rw [IG];rfl),wj.af.trans C5.af⟩
    | false=>
      rw [hP] at IG;go_wp2;go_ret;exact⟨(by rw [IG];rfl),wj.af.trans C5.af⟩
theorem sM(g:dR)(h:Hp)(pv:Value)(hp:fV h pv g)(w:World)(hh:h.le w):
 Calls Tryz.prog 117 #[pv] w fun e w'=>e= .returned (.int .i64 (iU g))∧eV w w':=by
 obtain⟨vi,vd,rfl,hi,hd⟩:=hp;obtain⟨ai,ci,rfl,_,_⟩:=fL hi;obtain⟨ad,cd,rfl⟩:=eB hd;unfold iU;by_cases hk:1≤g.kind∧g.kind≤3
 · rw [if_neg (by unfold Go.fB.kindOk;rw [decide_eq_true hk];simp)]
   cases hf:iR g.kind g.level g.items.length g.data.length g.next with
   | false=>
     rw [if_pos rfl];exact C4 _ _ _ _ _ _ _ _ _ (by omega) hf _
   | true=>
     rw [if_neg (by decide)];obtain⟨k,l,its,da,nx⟩:=g;dsimp only at*;have hk3:(k=1∨k=2)∨k=3:=by omega
     rcases hk3 with hk3 | rfl
     · have hnx:mQ nx=true:=by
        have:nx=0:=by unfold iR at hf;rcases hk3 with rfl | rfl<;>simp at hf<;>omega
        subst this;rfl
       rw [hnx,if_pos rfl,ot];exact Bg h _ _ _ _ _ _ _ _ _ hi hk3 hf _ hh
     · unfold iR at hf
       rw [if_neg (by decide),if_neg (by decide),decide_eq_true_eq] at hf;obtain⟨rfl,h2,h3⟩:=hf;have:its= []:=aM h2
       subst this;exact Fu _ _ _ _ _ _ h3 _
 · rw [if_pos (by unfold Go.fB.kindOk;exact decide_eq_false hk)]
   exact CZ _ _ _ _ _ _ _ _ _ hk _
end Go.Proofs.YtiegeadmgpanoaaGreatDoor.D2
