/- The document's Check; the conditions stand as hypotheses. -/
import Derived.Test.YtiegeadmgpanoaaGreatDoorL36
import Derived.Test.YtiegeadmgpanoaaGreatDoorL37
set_option maxRecDepth 100000
set_option maxHeartbeats 16000000
namespace Go.Proofs.YtiegeadmgpanoaaGreatDoor.E4
open ChangeShapes WideShapes ChangeAt RowKit Sl fB L3 D2 Z3 X6 X5 M8
theorem Ap(r:Nat)(s:ef)(gs:List dR)(hush:iJ)(x:RX)(ok:yk s gs x)(look:Int→Option dR)(hl:kT s gs look)(j6:iT look):∀lv,BX r s gs hush x look lv
 | 0=>Gk r s gs hush x ok look hl j6
 | lv+1=>DY r s gs hush x ok look hl j6 lv (Ap r s gs hush x ok look hl j6 lv)
theorem My(N:Nat):List.replicate (N+1) (.bool false)=y' N []:=by
 apply cq (by simp [y']);intro i h1 h2;simp [y']
theorem D_(n:Nat)(hn:n≤65600):∀wx:World,(Instr.makeSlice 93 (.int .i64 ((n:Int)+1)) (.int .i64 ((n:Int)+1))).run Tryz.prog wx= .ok (.slice (some ⟨wx.heap.size,0,none⟩) (n+1) (n+1)) (wx.alloc (.cells (madeCells #[.bool false] (n+1)) 4)):=fun wx=>by
 have:=run_make_row' (P:=Tryz.prog) 93 4 (.bool false) 1 Tryz.underlying93 tK rfl .i64 .i64 (n+1) (by omega) (by omega) wx
 simpa using this
theorem sM(r:Nat)(s:ef)(gs:List dR)(hush:iJ)(x:RX)(ok:yk s gs x)(look:Int→Option dR)(hl:kT s gs look)(j6:iT look)(root dT items:Int)(F:Pr)(w:World)(hF:dS [eE r s gs hush x,F] w):
 Calls Tryz.prog 9 #[.pointer (some ⟨r,0,none⟩),pJ root dT items] w fun e w'=>dN w w'∧e= .returned (.int .i64 (iW look root dT items))∧dS [eE r s gs hush x,F] w':=by
 have hs0:=hF.alloc (eT root dT items);have eR:=hQ ((dN.refl w).alloc (eT root dT items));have jC:=hQ hs0;have c1:=hs0.fx;clear hF hs0;by_cases hz:root=0∧dT=0∧items=0
 · obtain⟨rfl,rfl,rfl⟩:=hz
   have HV:=hQ (show iW look 0 0 0=0 from by unfold iW;rw [if_pos ⟨rfl,rfl,rfl⟩]);have HE:=hQ (jC.af.to (M:= [eE r s gs hush x,F]));clear jC;go_enter Tryz.func9,Tryz.ntmps9
   go_wp2;go_ret;rw [HV.af];exact⟨eR.af,rfl,HE.af⟩
 · by_cases vj:root=0∨dT<1∨12<dT∨items<1
   · have HV:=hQ (show iW look root dT items=5 from by unfold iW;rw [if_neg hz,if_pos vj])
     have HE:=hQ (jC.af.to (M:= [eE r s gs hush x,F]));clear jC;go_enter Tryz.func9,Tryz.ntmps9
     go_wp2;all_goals (subst_vars;first | (exfalso;omega) | (go_ret;rw [HV.af];exact⟨eR.af,rfl,HE.af⟩))
   · obtain⟨lv,rfl⟩:∃lv:Nat,dT=(lv:Int)+1:=⟨(dT-1).toNat,by omega⟩
     have hm:min ((lv:Int)+1) 2=jA true lv:=by
      unfold jA;rw [if_pos rfl];split<;>omega
     have Yn:lv≤11:=by omega
     have hpk:8 ^ (lv+1)≤68719476736:=bK (dF (by decide) (by omega:lv+1≤12)) (by decide)
     have yY:iW look root ((lv:Int)+1) items=if(fq look lv root (jA true lv) ju ([],0)).1≠0 then(fq look lv root (jA true lv) ju ([],0)).1 else if(fq look lv root (jA true lv) ju ([],0)).2.2≠items then 4 else 0:=by
      unfold iW;rw [if_neg hz,if_neg vj,hm,show ((lv:Int)+1-1).toNat=lv by omega]
     have hr0:(root == 0)=false:=by rw [beq_eq_false_iff_ne];omega
     have hb1:¬((lv:Int)+1)<1:=by omega
     have hb2:¬12<(lv:Int)+1:=by omega
     have yg:¬items<1:=by omega
     have rH:=ok.n2;have hmk:=D_ s.counts.length (by omega);have LN:=hQ (yl r s gs hush _ _ (iw.2 ⟨x,ok,jC.af.ej (A1:=eE r s gs hush x)⟩));have h1:=qO 4 (.bool false) (s.counts.length+1) (by simp only [maxLen];omega) jC.af.sat;rw [My,show (w.alloc (eT root ((lv:Int)+1) items)).heap.size=w.heap.size+1 by simp] at h1
     have hs2:=(dS.kS h1).alloc (Kl r (w.heap.size+1) (s.counts.length+1) s.counts.length 0);rw [show ((w.alloc (eT root ((lv:Int)+1) items)).alloc (.cells (madeCells #[.bool false] (s.counts.length+1)) 4)).heap.size=w.heap.size+1+1 by simp] at hs2
     have fP:=hs2.to (M:=kO (w.heap.size+1+1) r (w.heap.size+1) (s.counts.length+1) s gs hush x [] 0 [Pr.pts w.heap.size (eT root ((lv:Int)+1) items),F])
     have PC:=hQ (Ap r s gs hush x ok look hl j6 lv (w.heap.size+1+1) (w.heap.size+1) (s.counts.length+1) [] 0 root true ju Hp.nil _ (aY _) (by omega) qj.range Ao (eJ [Pr.pts w.heap.size (eT root ((lv:Int)+1) items),F]) _ ⟨fP.sat.perm (by simp only [eJ,oS,Pr.fK,Pr.ei])⟩)
     have fa:=hQ ((eR.af.alloc (.cells (madeCells #[.bool false] (s.counts.length+1)) 4)).alloc (Kl r (w.heap.size+1) (s.counts.length+1) s.counts.length 0));have Er:=hQ yY;clear h1 hs2 fP jC eR yY hl j6 vj hz hpk hm ok;generalize fq look lv root (jA true lv) ju ([],0)=RE at*;go_enter Tryz.func9,Tryz.ntmps9
     go_wp2_with fail
     refine LN.af.mono ?_;rintro e w1 ⟨rfl,rfl⟩;clear LN;go_wp2_with fail
     refine PC.af.mono ?_;rintro e w5 ⟨iL,rfl,gu⟩;have gQ:=gu.flat;have iM:=hQ (fa.af.trans iL);clear c1;have c1:=gQ.fx;have HE:=hQ (gQ.to (M:= [eE r s gs hush x,F]));clear gu gQ iL PC fa;generalize w.heap.size+1+1=BK at*;generalize w.heap.size=BT at*;by_cases h1:RE.1≠0
     · have HV:=hQ (Er.af.trans (if_pos h1))
       have zu:(RE.1 != 0)=true:=bne_iff_ne.2 h1;clear h1 Er;go_wp2;go_ret;rw [HV.af];exact⟨iM.af,rfl,HE.af⟩
     · have h0:=Er.af.trans (if_neg h1)
       have zu:(RE.1 != 0)=false:=by rw [bne_eq_false_iff_eq];omega
       by_cases h2:RE.2.2≠items
       · have HV:=hQ (h0.trans (if_pos h2))
         have Uj:(RE.2.2 != items)=true:=bne_iff_ne.2 h2;clear h1 h2 h0 Er;go_wp2;go_quiet (fail)
         go_wp2;go_ret;rw [HV.af];exact⟨iM.af.drewN _,rfl,HE.af.drewN _⟩
       · have HV:=hQ (h0.trans (if_neg h2))
         have Uj:(RE.2.2 != items)=false:=by rw [bne_eq_false_iff_eq];omega
         clear h1 h2 h0 Er;go_wp2;go_quiet (fail)
         go_wp2;go_ret;rw [HV.af];exact⟨iM.af.drewN _,rfl,HE.af.drewN _⟩
end Go.Proofs.YtiegeadmgpanoaaGreatDoor.E4
namespace Go.fB
open Go.Proofs.YtiegeadmgpanoaaGreatDoor.D2
theorem Aq(k:Int):∀(l:List en) (i:Nat) (p:List Int),jr k i p l=0→∀x∈l,jX k x=true
 | [],_,_,_,x,hx=>by cases hx
 | y :: l,i,p,h,x,hx=>by
   unfold jr at h
   have h1:ie k i p y=0:=by
    by_cases h0:ie k i p y=0
    · exact h0
    · rw [if_neg h0] at h;exact h
   rw [if_pos h1] at h;rcases aR.1 hx with rfl | hx
   · unfold ie at h1
     by_cases ha:kB k i x=false
     · rw [if_pos ha] at h1;cases h1
     · rw [if_neg ha] at h1
       by_cases hb:kC i p x=false
       · rw [if_pos hb] at h1;cases h1
       · rw [if_neg hb] at h1
         by_cases hc:jB k x=false
         · rw [if_pos hc] at h1;cases h1
         · rw [if_neg hc] at h1
           by_cases hd:jX k x=false
           · rw [if_pos hd] at h1;cases h1
           · simpa using hd
   · exact Aq k l (i+1) y.key h x hx
def vV(look:Int→Option dR)(n:Int):Prop:=(∃lv q L,yS look lv n q L)∨∃(N k:Nat) (out:List Int),out.length<N∧N≤out.length+k∧(iz look N k out n).2=0
theorem Ar {look:Int→Option dR}(ok:iT look){n:Int}(h:vV look n):∃g,look n=some g∧∀c∈lF g,vV look c:=by
 rcases h with⟨lv,q,L,hT⟩ | ⟨N,k,out,h1,h2,h3⟩
 · cases hT with
   | leaf _ _ g hl hk hx=>
     refine⟨g,hl,fun c hc=> ?_⟩;unfold lF at hc;rw [hk] at hc;rw [if_neg (by simp),aV] at hc;unfold jI at hc;rw [bE] at hc;obtain⟨x,hx1,rfl⟩:=bH.1 hc;obtain⟨hx2,GV⟩:=bm.1 hx1
     have Yr:x.child≠0:=by
      unfold qe at GV;rw [hk] at GV;simpa using GV
     have Ou:=Aq _ _ _ _ (ln (ok.uH n g hl)) x hx2
     have hs:32<x.size:=by
      by_cases hs:x.size≤32
      · unfold jX at Ou
        rw [hk,if_pos ⟨rfl,hs⟩] at Ou;exact absurd (of_decide_eq_true Ou) Yr
      · omega
     have hv:=(hx x hx2).2;unfold iI at hv;by_cases hb:x.size<0∨3840<x.size∨(x.size≤32∧(x.value.length:Int)≠x.size)
     · rw [if_pos hb] at hv;cases hv
     · rw [if_neg hb,if_neg (by omega)] at hv
       exact .inr ⟨x.size.toNat,x.size.toNat,[],by simp;omega,by simp,hv⟩
   | index lv _ _ g LL hl hk _ hlen hT=>
     refine⟨g,hl,fun c hc=> ?_⟩;unfold lF at hc;rw [hk] at hc;rw [if_neg (by simp),aV] at hc;unfold jI at hc;rw [bE] at hc;obtain⟨x,hx1,rfl⟩:=bH.1 hc;obtain⟨hx2,_⟩:=bm.1 hx1;obtain⟨i,hi,rfl⟩:=bF hx2;have h1:=hT i (by omega);rw [gn hi] at h1;exact .inl ⟨_,_,_,h1⟩
 · cases k with
   | zero=>omega
   | succ k=>
     cases hl:look n with
     | none=>rw [sU h1 hl] at h3;cases h3
     | some g=>
       by_cases hk:g.kind=3
       · by_cases hc:g.data.length=min (N-out.length) 480∧((g.next=0)↔(N-out.length≤480))
         · rw [yn h1 hl hk hc] at h3
           refine⟨g,rfl,fun c hcm=> ?_⟩;unfold lF at hcm;rcases aK.1 hcm with hcm | hcm
           · unfold jI at hcm
             obtain⟨x,hx1,rfl⟩:=bH.1 hcm;obtain⟨_,GV⟩:=bm.1 hx1;unfold qe at GV;rw [hk] at GV;simp at GV
           · by_cases hn:g.next=0
             · rw [hn] at hcm;simp at hcm
             · rw [hk,if_pos (by simp [hn])] at hcm
               obtain rfl:=aC.1 hcm;have h4:¬N-out.length≤480:=fun h=>hn (hc.2.2 h)
               have h5:=hc.1;refine .inr ⟨N,k,out++g.data,?_,?_,h3⟩<;>rw [au]<;>omega
         · rw [sW h1 hl hk hc] at h3;cases h3
       · rw [sV h1 hl hk] at h3;cases h3
theorem yy {look:Int→Option dR}{root dT items:Int}{L:List en}(h:kK look root dT items L)(h0:root≠0):vV look root:=by
 rcases h with⟨h1,_,_,_⟩ | ⟨_,_,lv,_,_,hT⟩
 · exact absurd h1 h0
 · exact .inl ⟨_,_,_,hT⟩
end Go.fB
