/- The document's Check; the conditions stand as hypotheses. -/
import Derived.Test.YtiegeadmgpanoaaGreatDoorWalkChecksM29
import Derived.Test.YtiegeadmgpanoaaGreatDoorWalkChecksM28
import Derived.Test.YtiegeadmgpanoaaGreatDoorWalkChecksM08
import Derived.Test.YtiegeadmgpanoaaGreatDoorWalkChecksM01
set_option maxRecDepth 100000
set_option maxHeartbeats 16000000
namespace Go.Proofs.YtiegeadmgpanoaaGreatDoor.D8
open ChangeShapes WideShapes ChangeAt RowKit Sl Cop F3 P3 G2 J2 Q3 V3 X3 M5 G6 J6 L6 T6 N2 N5 S5 V7 M7 Q7 U7
theorem rpage_any(r:Nat)(s:PoolS)(gs:List PageV)(hush:RTail)(x:RX)(ok:ROk s gs x)(look:Int→Option PageV)(hl:RLooks s gs look)(okp:PgsOk look):∀lv,RPageC r s gs hush x look lv
 | 0=>rpage_leaf r s gs hush x ok look hl okp
 | lv+1=>rpage_index r s gs hush x ok look hl okp lv (rpage_any r s gs hush x ok look hl okp lv)
theorem metL_nil(N:Nat):List.replicate (N+1) (.bool false)=metL N []:=by
 apply List.ext_getElem (by simp [metL]);intro i h1 h2;simp [metL]
theorem mk_bools(n:Nat)(hn:n≤65600):∀wx:World,(Instr.makeSlice 93 (.int .i64 ((n:Int)+1)) (.int .i64 ((n:Int)+1))).run Tryz.prog wx= .ok (.slice (some ⟨wx.heap.size,0,none⟩) (n+1) (n+1)) (wx.alloc (.cells (madeCells #[.bool false] (n+1)) 4)):=fun wx=>by
 have:=run_make_row' (P:=Tryz.prog) 93 4 (.bool false) 1 Tryz.underlying93 infoBool rfl .i64 .i64 (n+1) (by omega) (by omega) wx
 simpa using this
theorem rcheck_any(r:Nat)(s:PoolS)(gs:List PageV)(hush:RTail)(x:RX)(ok:ROk s gs x)(look:Int→Option PageV)(hl:RLooks s gs look)(okp:PgsOk look)(root height items:Int)(F:Pr)(w:World)(hF:OwnL [RefAt r s gs hush x,F] w):
 Calls Tryz.prog 9 #[.pointer (some ⟨r,0,none⟩),treeV root height items] w fun e w'=>Stays w w'∧e= .returned (.int .i64 (checkK look root height items))∧OwnL [RefAt r s gs hush x,F] w':=by
 have hs0:=hF.alloc (treeC root height items);have HST:=hQ ((Stays.refl w).alloc (treeC root height items));have HS0:=hQ hs0;have c1:=hs0.facts;simp only [CellsAt,Nat.reduceAdd,and_true] at c1;clear hF hs0;by_cases hz:root=0∧height=0∧items=0
 · obtain⟨rfl,rfl,rfl⟩:=hz
   have HV:=hQ (show checkK look 0 0 0=0 from by unfold checkK;rw [if_pos ⟨rfl,rfl,rfl⟩]);have HE:=hQ (HS0.out.to (M:= [RefAt r s gs hush x,F]));clear HS0;go_enter Tryz.func9,Tryz.ntmps9
   go_wp2;go_ret;rw [HV.out];exact⟨HST.out,rfl,HE.out⟩
 · by_cases hbad:root=0∨height<1∨12<height∨items<1
   · have HV:=hQ (show checkK look root height items=5 from by unfold checkK;rw [if_neg hz,if_pos hbad])
     have HE:=hQ (HS0.out.to (M:= [RefAt r s gs hush x,F]));clear HS0;go_enter Tryz.func9,Tryz.ntmps9
     go_wp2;all_goals (subst_vars;first | (exfalso;omega) | (go_ret;rw [HV.out];exact⟨HST.out,rfl,HE.out⟩))
   · obtain⟨lv,rfl⟩:∃lv:Nat,height=(lv:Int)+1:=⟨(height-1).toNat,by omega⟩
     have hm:min ((lv:Int)+1) 2=leastR true lv:=by
      unfold leastR;rw [if_pos rfl];split<;>omega
     have hlv2:lv≤11:=by omega
     have hpk:8 ^ (lv+1)≤68719476736:=Nat.le_trans (Nat.pow_le_pow_right (by decide) (by omega:lv+1≤12)) (by decide)
     have hck:checkK look root ((lv:Int)+1) items=if(pageK look lv root (leastR true lv) everyR ([],0)).1≠0 then(pageK look lv root (leastR true lv) everyR ([],0)).1 else if(pageK look lv root (leastR true lv) everyR ([],0)).2.2≠items then 4 else 0:=by
      unfold checkK;rw [if_neg hz,if_neg hbad,hm,show ((lv:Int)+1-1).toNat=lv by omega]
     have hr0:(root == 0)=false:=by rw [beq_eq_false_iff_ne];omega
     have hb1:¬((lv:Int)+1)<1:=by omega
     have hb2:¬12<(lv:Int)+1:=by omega
     have hb3:¬items<1:=by omega
     have hn2:=ok.n2;have hmk:=mk_bools s.counts.length (by omega);have LN:=hQ (rlen_any r s gs hush _ _ (refA_iff.2 ⟨x,ok,HS0.out.pull1 (A1:=RefAt r s gs hush x)⟩));have h1:=row_made 4 (.bool false) (s.counts.length+1) (by simp only [maxLen];omega) HS0.out.sat;rw [metL_nil,show (w.alloc (treeC root ((lv:Int)+1) items)).heap.size=w.heap.size+1 by simp] at h1
     have hs2:=(OwnL.of1 h1).alloc (ckR r (w.heap.size+1) (s.counts.length+1) s.counts.length 0);rw [show ((w.alloc (treeC root ((lv:Int)+1) items)).alloc (.cells (madeCells #[.bool false] (s.counts.length+1)) 4)).heap.size=w.heap.size+1+1 by simp] at hs2
     have hs3:=hs2.to (M:=ckRL (w.heap.size+1+1) r (w.heap.size+1) (s.counts.length+1) s gs hush x [] 0 [Pr.pts w.heap.size (treeC root ((lv:Int)+1) items),F])
     have PC:=hQ (rpage_any r s gs hush x ok look hl okp lv (w.heap.size+1+1) (w.heap.size+1) (s.counts.length+1) [] 0 root true everyR Hp.nil _ (Int.le_refl _) (by omega) EveryIn.range every_len (starL [Pr.pts w.heap.size (treeC root ((lv:Int)+1) items),F]) _ ⟨hs3.sat.perm (by simp only [starL,own_nil,Pr.emp_star,Pr.star_emp])⟩)
     have HST2:=hQ ((HST.out.alloc (.cells (madeCells #[.bool false] (s.counts.length+1)) 4)).alloc (ckR r (w.heap.size+1) (s.counts.length+1) s.counts.length 0));have HCK:=hQ hck;clear h1 hs2 hs3 HS0 HST hck hl okp hbad hz hpk hm ok;generalize pageK look lv root (leastR true lv) everyR ([],0)=RE at*;go_enter Tryz.func9,Tryz.ntmps9
     go_wp2_with fail
     refine LN.out.mono ?_;rintro e w1 ⟨rfl,rfl⟩;clear LN;go_wp2_with fail
     refine PC.out.mono ?_;rintro e w5 ⟨st5,rfl,hs5⟩;have hs6:=hs5.flat;have HST5:=hQ (HST2.out.trans st5);clear c1;have c1:=hs6.facts;simp only [CellsAt,Nat.reduceAdd,and_true] at c1;have HE:=hQ (hs6.to (M:= [RefAt r s gs hush x,F]));clear hs5 hs6 st5 PC HST2;generalize w.heap.size+1+1=BK at*;generalize w.heap.size=BT at*;by_cases h1:RE.1≠0
     · have HV:=hQ (HCK.out.trans (if_pos h1))
       have hb4:(RE.1 != 0)=true:=bne_iff_ne.2 h1;clear h1 HCK;go_wp2;go_ret;rw [HV.out];exact⟨HST5.out,rfl,HE.out⟩
     · have h0:=HCK.out.trans (if_neg h1)
       have hb4:(RE.1 != 0)=false:=by rw [bne_eq_false_iff_eq];omega
       by_cases h2:RE.2.2≠items
       · have HV:=hQ (h0.trans (if_pos h2))
         have hb5:(RE.2.2 != items)=true:=bne_iff_ne.2 h2;clear h1 h2 h0 HCK;go_wp2;go_quiet (fail)
         go_wp2;go_ret;rw [HV.out];exact⟨HST5.out.drewN _,rfl,HE.out.drewN _⟩
       · have HV:=hQ (h0.trans (if_neg h2))
         have hb5:(RE.2.2 != items)=false:=by rw [bne_eq_false_iff_eq];omega
         clear h1 h2 h0 HCK;go_wp2;go_quiet (fail)
         go_wp2;go_ret;rw [HV.out];exact⟨HST5.out.drewN _,rfl,HE.out.drewN _⟩
end Go.Proofs.YtiegeadmgpanoaaGreatDoor.D8
