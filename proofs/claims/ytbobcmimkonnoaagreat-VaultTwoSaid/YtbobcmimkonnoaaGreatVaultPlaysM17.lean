/- The document's check of any page; the conditions stand as hypotheses. -/
import Derived.Test.YtbobcmimkonnoaaGreatVaultPlaysM16
import Derived.Test.YtbobcmimkonnoaaGreatVaultPlaysM15
import Derived.Test.YtbobcmimkonnoaaGreatVaultPlaysM01
set_option maxRecDepth 100000
set_option maxHeartbeats 16000000
namespace Go.Cop
def prevK(its:List ItemV):Nat→List Int
 | 0=> []
 | j+1=>((its[j]?).map (·.key)).getD []
theorem prevK_succ {its:List ItemV}{k:Nat}(h:k<its.length):prevK its (k+1)=its[k].key:=by simp [prevK,h]
end Go.Cop
namespace Go.Proofs.YtbobcmimkonnoaaGreat.C6
open ChangeShapes WideShapes ChangeAt RowKit Sl Cop G2 M2 N2 Q2 X2 U3 X3 B6
theorem keyOk_len {k:Int}{i:Nat}{x:ItemV}(h:keyOk k i x=true):x.key.length≤9000000000000000000:=by
 unfold keyOk at h
 split at h<;>rw [decide_eq_true_eq] at h<;>omega
theorem le_only {h:Hp}{w w':World}(hl:h.le w)(ho:Only w w'):h.le w':=fun k x e=>(ho.heap k (Array.getElem?_eq_some_iff.1 (hl k x e)).1).trans (hl k x e)
theorem rcheck_kind(ai ad:Option Addr)(n ci d cd:Nat)(k l nx:Int)(hk:¬(1≤k∧k≤3))(w:World):
 Calls Tryz.prog 90 #[pageV k l (.slice ai n ci) (.slice ad d cd) nx] w fun e w'=>e= .returned (.int .i64 22)∧Only w w':=by
 have h1:(k != 1)=true:=by rw [bne_iff_ne];omega
 have h2:(k != 2)=true:=by rw [bne_iff_ne];omega
 have h3:(k != 3)=true:=by rw [bne_iff_ne];omega
 go_enter Tryz.func90,Tryz.ntmps90
 go_wp2
 go_ret
 exact⟨rfl,(Only.refl w).alloc _⟩
theorem rcheck_form(ai ad:Option Addr)(n ci d cd:Nat)(k l nx:Int)(hk:k=1∨k=2∨k=3)(hf:formP k l n d nx=false)(w:World):
 Calls Tryz.prog 90 #[pageV k l (.slice ai n ci) (.slice ad d cd) nx] w fun e w'=>e= .returned (.int .i64 5)∧Only w w':=by
 have ho:=(Only.refl w).alloc (.cells #[.int .i64 k,.int .i64 l,.slice ai n ci,.slice ad d cd,.int .i64 nx] 31)
 have C:=fun wx=>hQ (rform_any ai ad n ci d cd k l nx hk wx)
 rw [hf] at C
 rcases hk with rfl | rfl | rfl
 all_goals
  go_enter Tryz.func90,Tryz.ntmps90
  go_wp2_with fail
  refine(C _).out.mono ?_
  rintro e w1 ⟨rfl,ho1⟩
  go_wp2
  go_ret
  exact⟨rfl,ho.trans ho1⟩
theorem rcheck_items(h:Hp)(a ad:Option Addr)(c d cd:Nat)(its:List ItemV)(k l nx:Int)(hi:ItemsIn h (.slice a its.length c) its)(hk:k=1∨k=2)(hf:formP k l its.length d nx=true)(w:World)(hh:h.le w):
 Calls Tryz.prog 90 #[pageV k l (.slice a its.length c) (.slice ad d cd) nx] w fun e w'=>e= .returned (.int .i64 (itemsE k 0 [] its))∧Only w w':=by
 have hnl:its.length≤8:=by unfold formP at hf;rcases hk with rfl | rfl<;>simp at hf<;>omega
 obtain⟨a',c',e',_,rd⟩:=items_rd hi
 cases e'
 have C:=fun wx=>hQ (rform_any a ad its.length c d cd k l nx (by omega) wx)
 rw [hf] at C
 obtain⟨w0,hw0⟩:∃w0,w.alloc (.cells #[.int .i64 k,.int .i64 l,.slice a its.length c,.slice ad d cd,.int .i64 nx] 31)=w0:=⟨_,rfl⟩
 have ho0:Only w w0:=hw0 ▸ (Only.refl w).alloc _
 have facts:∀wr,Only w0 wr→(wr.cell? ⟨w.heap.size,0,none⟩=some (.int .i64 k)∧wr.cell? ⟨w.heap.size,1,none⟩=some (.int .i64 l)∧wr.cell? ⟨w.heap.size,2,none⟩=some (.slice a its.length c)∧wr.cell? ⟨w.heap.size,3,none⟩=some (.slice ad d cd)∧wr.cell? ⟨w.heap.size,4,none⟩=some (.int .i64 nx))∧w.heap.size<wr.heap.size∧h.le wr:=by
  intro wr ho
  subst hw0
  have hn:=heap_new w (.cells #[.int .i64 k,.int .i64 l,.slice a its.length c,.slice ad d cd,.int .i64 nx] 31)
  have hc:∀i v,(#[.int .i64 k,.int .i64 l,.slice a its.length c,.slice ad d cd,.int .i64 nx]:Array Value)[i]? =some v→wr.cell? ⟨w.heap.size,i,none⟩=some v:=fun i v e=>ho.cell (by rw [cell_of_heap hn];exact e)
  refine⟨⟨hc 0 _ rfl,hc 1 _ rfl,hc 2 _ rfl,hc 3 _ rfl,hc 4 _ rfl⟩,Nat.lt_of_lt_of_le (by simp) ho.st.size,le_only (le_only hh ho0) ho⟩
 have FA:=hQ facts
 have HO0:=hQ ho0
 have RD:=hQ rd
 have HI:=hQ hi
 clear facts ho0 rd hi hh
 have hk3:(k == 3)=false:=by rw [beq_eq_false_iff_ne];omega
 obtain⟨⟨q0,q1,q2,q3,q4⟩,z0,_⟩:=FA.out w0 (Only.refl _)
 rcases hk with rfl | rfl
 · go_enter Tryz.func90,Tryz.ntmps90
   go_wp2_with fail
   refine(C _).out.mono ?_
   rintro e w1 ⟨rfl,ho1⟩
   clear q0 q1 q2 q3 q4 z0
   go_wp2_with fail
   go_loopw [3] (fun i wr=> ∃r:Nat,r≤its.length∧i= .int .i64 r∧Only w0 wr∧Hid (itemsE 1 r (prevK its r) (its.drop r)=itemsE 1 0 [] its)) (fun i _=>its.length-(intOf i).toNat)
   case atStart=>exact⟨0,Nat.zero_le _,rfl,ho1,hQ rfl⟩
   case round=>
    obtain⟨r,hr,rfl,ho,heq⟩:=hrel
    obtain⟨⟨q0,q1,q2,q3,q4⟩,z0,hle⟩:=FA.out wr ho
    rcases Nat.lt_or_ge r its.length with hlt | hge
    · have heq1:=heq.out
      rw [drop_at hlt,itemsE_cons] at heq1
      have HE:=hQ heq1
      have KC:=fun wx hx=>hQ (rkey_any h 1 l nx a ad c d cd its HI.out (.inl rfl) r hlt wx hx)
      have hpr:=hQ (prevK_succ hlt)
      have RD2:=hQ RD.out
      obtain⟨b,off,ak,ck,av,cv,rfl,hbk,hbv,hcell⟩:=RD.out r hlt
      clear heq heq1
      generalize its[r]=x at*
      have HO:=hQ ho
      clear ho
      go_wp2_with fail
      refine(KC _ hle).out.mono ?_
      rintro e w2 ⟨rfl,ho2⟩
      have HO2:=hQ (HO.out.trans ho2)
      clear q0 q1 q2 q3 q4 z0 hle ho2
      obtain⟨⟨q0,q1,q2,q3,q4⟩,z0,hle⟩:=FA.out w2 HO2.out
      cases hK:keyOk 1 r x with
      | false=>
        go_wp2
        go_ret
        refine⟨?_,HO0.out.trans HO2.out⟩
        rw [← HE.out,show itemE 1 r (prevK its r) x=7 by unfold itemE;rw [if_pos hK]]
        rfl
      | true=>
        obtain⟨c0,c1,c2,c3⟩:=hcell w2 hle
        rcases r with _ | j
        · skip
          have hR:ordOk 0 (prevK its 0) x=true:=rfl
          simp only [Nat.zero_mul,Nat.add_zero] at c0 c1 c2 c3
          go_wp2_with fail
          go_quiet (fail)
          go_wp2_with fail
          refine wp_region_staged (sz:=80) (by kernel_rfl) [0,1,2,3,4,5] [(6,[7],[1,2,3,4])] rfl (by kernel_rfl) (by kernel_rfl) (by kernel_rfl) ?_
          refine wpQ_all _ rfl rfl ?_
          simp only [pick,pQ]
          iterate 6 (go_big_quiet_step (fail))
          refine wpQuiet_nil ?_
          refine wpRest_act rfl ?_
          go_wp2_with fail
          refine(rvalue_any 1 l nx _ _ x ak av ck cv (.inl rfl) _).mono ?_
          rintro e w4 ⟨rfl,ho4⟩
          have HO4:=hQ ((HO2.out.drewN _).trans ho4)
          clear q0 q1 q2 q3 q4 z0 hle c0 c1 c2 c3
          obtain⟨⟨q0,q1,q2,q3,q4⟩,z0,hle⟩:=FA.out w4 HO4.out
          obtain⟨c0,c1,c2,c3⟩:=hcell w4 hle
          simp only [Nat.zero_mul,Nat.add_zero] at c0 c1 c2 c3
          go_wp2
          refine onN_mk ?_
          refine wpQ_all _ rfl rfl ?_
          simp only [pick,pQ]
          iterate 1 (go_big_quiet_step (fail))
          refine wpQuiet_nil ⟨?_,?_⟩
          · refine chk_all _ rfl rfl ?_
            simp only [pick,Same,pQ,and_true]
            repeat' (first | apply And.intro | (go_big_quiet_step (fail);exact wpQuiet_nil rfl))
          refine wpRest_nil ?_
          cases hV:valOk 1 x with
          | false=>
            go_wp2
            go_ret
            refine⟨?_,HO0.out.trans HO4.out⟩
            rw [← HE.out,show itemE 1 (0) (prevK its (0)) x=8 by unfold itemE;rw [if_neg (by rw [hK];decide),if_neg (by rw [hR];decide),if_pos hV]]
            rfl
          | true=>
          go_wp2_with fail
          refine wp_region_staged (sz:=80) (by kernel_rfl) [0,1,2,3,4,5] [(6,[7],[1,2,3,4])] rfl (by kernel_rfl) (by kernel_rfl) (by kernel_rfl) ?_
          refine wpQ_all _ rfl rfl ?_
          simp only [pick,pQ]
          iterate 6 (go_big_quiet_step (fail))
          refine wpQuiet_nil ?_
          refine wpRest_act rfl ?_
          go_wp2_with fail
          refine(rchild_any 1 l nx _ _ x _ _ (.inl rfl) _).mono ?_
          rintro e w5 ⟨rfl,ho5⟩
          have HO5:=hQ (HO4.out.drew.trans ho5)
          clear q0 q1 q2 q3 q4 z0 hle c0 c1 c2 c3
          obtain⟨⟨q0,q1,q2,q3,q4⟩,z0,hle⟩:=FA.out w5 HO5.out
          obtain⟨c0,c1,c2,c3⟩:=hcell w5 hle
          simp only [Nat.zero_mul,Nat.add_zero] at c0 c1 c2 c3
          go_wp2
          refine onN_mk ?_
          refine wpQ_all _ rfl rfl ?_
          simp only [pick,pQ]
          iterate 1 (go_big_quiet_step (fail))
          refine wpQuiet_nil ⟨?_,?_⟩
          · refine chk_all _ rfl rfl ?_
            simp only [pick,Same,pQ,and_true]
            repeat' (first | apply And.intro | (go_big_quiet_step (fail);exact wpQuiet_nil rfl))
          refine wpRest_nil ?_
          cases hC:kidOk 1 x with
          | false=>
            go_wp2
            go_ret
            refine⟨?_,HO0.out.trans HO5.out⟩
            rw [← HE.out,show itemE 1 (0) (prevK its (0)) x=15 by unfold itemE;rw [if_neg (by rw [hK];decide),if_neg (by rw [hR];decide),if_neg (by rw [hV];decide),if_pos hC]]
            rfl
          | true=>
          go_wp2
          go_roundw
          case rel=>
           refine⟨0+1,by omega,congrArg (Value.int .i64) (by omega),HO5.out,hQ ?_⟩
           rw [← HE.out,hpr.out,show itemE 1 (0) (prevK its (0)) x=0 by unfold itemE;rw [if_neg (by rw [hK];decide),if_neg (by rw [hR];decide),if_neg (by rw [hV];decide),if_neg (by rw [hC];decide)]]
           rfl
          case measure=>simp [intOf];omega
        · have hj:j<its.length:=by omega
          obtain⟨b',off',ak',ck',av',cv',ea',hbk',_,hcell'⟩:=RD2.out j hj
          have epr:prevK its (j+1)=its[j].key:=prevK_succ hj
          rw [epr] at HE
          generalize its[j]=y at*
          skip
          cases ea'
          obtain⟨d0,d1,d2,d3⟩:=hcell' w2 hle
          go_wp2_with fail
          refine wp_region_staged (sz:=80) (by kernel_rfl) [0,1,2,3,4,5,6,7,8,9,10,11,12,13,14,15] [(16,[17,18],[0,1,3,4,5,6,7,9,10,11,12,13,14])] rfl (by kernel_rfl) (by kernel_rfl) (by kernel_rfl) ?_
          refine wpQ_all _ rfl rfl ?_
          simp only [pick,pQ]
          iterate 16 (go_big_quiet_step (fail))
          refine wpQuiet_nil ?_
          refine wpRest_act rfl ?_
          go_wp2_with fail
          refine(compare_any h h _ _ x.key y.key hbk hbk' (keyOk_len hK) _ (le_only hle ((Only.refl _).drew)) (le_only hle ((Only.refl _).drew))).mono ?_
          rintro e w3 ⟨rfl,ho3⟩
          have HO3:=hQ (HO2.out.drew.trans ho3)
          clear q0 q1 q2 q3 q4 z0 hle c0 c1 c2 c3 d0 d1 d2 d3
          obtain⟨⟨q0,q1,q2,q3,q4⟩,z0,hle⟩:=FA.out w3 HO3.out
          obtain⟨c0,c1,c2,c3⟩:=hcell w3 hle
          obtain⟨d0,d1,d2,d3⟩:=hcell' w3 hle
          go_wp2
          refine onN_mk ?_
          refine wpQ_all _ rfl rfl ?_
          simp only [pick,pQ]
          iterate 2 (go_big_quiet_step (fail))
          refine wpQuiet_nil ⟨?_,?_⟩
          · refine chk_all _ rfl rfl ?_
            simp only [pick,Same,pQ,and_true]
            repeat' (first | apply And.intro | (go_big_quiet_step (fail);exact wpQuiet_nil rfl))
          refine wpRest_nil ?_
          cases hR0:decide (cmpI x.key y.key≤0) with
          | true=>
            go_wp2
            go_ret
            refine⟨?_,HO0.out.trans HO3.out⟩
            have hR:ordOk (j+1) y.key x=false:=by have:=of_decide_eq_true hR0;unfold ordOk;rw [decide_eq_false_iff_not];omega
            rw [← HE.out,show itemE 1 (j+1) y.key x=11 by unfold itemE;rw [if_neg (by rw [hK];decide),if_pos hR]]
            rfl
          | false=>
          have hR:ordOk (j+1) y.key x=true:=by have:=of_decide_eq_false hR0;unfold ordOk;rw [decide_eq_true_eq];omega
          rw [← epr] at hR HE
          go_wp2_with fail
          refine wp_region_staged (sz:=80) (by kernel_rfl) [0,1,2,3,4,5] [(6,[7],[1,2,3,4])] rfl (by kernel_rfl) (by kernel_rfl) (by kernel_rfl) ?_
          refine wpQ_all _ rfl rfl ?_
          simp only [pick,pQ]
          iterate 6 (go_big_quiet_step (fail))
          refine wpQuiet_nil ?_
          refine wpRest_act rfl ?_
          go_wp2_with fail
          refine(rvalue_any 1 l nx _ _ x ak av ck cv (.inl rfl) _).mono ?_
          rintro e w4 ⟨rfl,ho4⟩
          have HO4:=hQ (HO3.out.drew.trans ho4)
          clear q0 q1 q2 q3 q4 z0 hle c0 c1 c2 c3
          obtain⟨⟨q0,q1,q2,q3,q4⟩,z0,hle⟩:=FA.out w4 HO4.out
          obtain⟨c0,c1,c2,c3⟩:=hcell w4 hle
          go_wp2
          refine onN_mk ?_
          refine wpQ_all _ rfl rfl ?_
          simp only [pick,pQ]
          iterate 1 (go_big_quiet_step (fail))
          refine wpQuiet_nil ⟨?_,?_⟩
          · refine chk_all _ rfl rfl ?_
            simp only [pick,Same,pQ,and_true]
            repeat' (first | apply And.intro | (go_big_quiet_step (fail);exact wpQuiet_nil rfl))
          refine wpRest_nil ?_
          cases hV:valOk 1 x with
          | false=>
            go_wp2
            go_ret
            refine⟨?_,HO0.out.trans HO4.out⟩
            rw [← HE.out,show itemE 1 (j+1) (prevK its (j+1)) x=8 by unfold itemE;rw [if_neg (by rw [hK];decide),if_neg (by rw [hR];decide),if_pos hV]]
            rfl
          | true=>
          go_wp2_with fail
          refine wp_region_staged (sz:=80) (by kernel_rfl) [0,1,2,3,4,5] [(6,[7],[1,2,3,4])] rfl (by kernel_rfl) (by kernel_rfl) (by kernel_rfl) ?_
          refine wpQ_all _ rfl rfl ?_
          simp only [pick,pQ]
          iterate 6 (go_big_quiet_step (fail))
          refine wpQuiet_nil ?_
          refine wpRest_act rfl ?_
          go_wp2_with fail
          refine(rchild_any 1 l nx _ _ x _ _ (.inl rfl) _).mono ?_
          rintro e w5 ⟨rfl,ho5⟩
          have HO5:=hQ (HO4.out.drew.trans ho5)
          clear q0 q1 q2 q3 q4 z0 hle c0 c1 c2 c3
          obtain⟨⟨q0,q1,q2,q3,q4⟩,z0,hle⟩:=FA.out w5 HO5.out
          obtain⟨c0,c1,c2,c3⟩:=hcell w5 hle
          go_wp2
          refine onN_mk ?_
          refine wpQ_all _ rfl rfl ?_
          simp only [pick,pQ]
          iterate 1 (go_big_quiet_step (fail))
          refine wpQuiet_nil ⟨?_,?_⟩
          · refine chk_all _ rfl rfl ?_
            simp only [pick,Same,pQ,and_true]
            repeat' (first | apply And.intro | (go_big_quiet_step (fail);exact wpQuiet_nil rfl))
          refine wpRest_nil ?_
          cases hC:kidOk 1 x with
          | false=>
            go_wp2
            go_ret
            refine⟨?_,HO0.out.trans HO5.out⟩
            rw [← HE.out,show itemE 1 (j+1) (prevK its (j+1)) x=15 by unfold itemE;rw [if_neg (by rw [hK];decide),if_neg (by rw [hR];decide),if_neg (by rw [hV];decide),if_pos hC]]
            rfl
          | true=>
          go_wp2
          go_roundw
          case rel=>
           refine⟨j+1+1,by omega,congrArg (Value.int .i64) (by omega),HO5.out,hQ ?_⟩
           rw [← HE.out,hpr.out,show itemE 1 (j+1) (prevK its (j+1)) x=0 by unfold itemE;rw [if_neg (by rw [hK];decide),if_neg (by rw [hR];decide),if_neg (by rw [hV];decide),if_neg (by rw [hC];decide)]]
           rfl
          case measure=>simp [intOf];omega
    · have hrl:r=its.length:=by omega
      subst hrl
      have heq1:=heq.out
      rw [List.drop_length] at heq1
      have HE:=hQ heq1
      clear heq heq1
      go_wp2
      go_ret
      refine⟨?_,HO0.out.trans ho⟩
      rw [← HE.out]
      rfl
 · go_enter Tryz.func90,Tryz.ntmps90
   go_wp2_with fail
   refine(C _).out.mono ?_
   rintro e w1 ⟨rfl,ho1⟩
   clear q0 q1 q2 q3 q4 z0
   go_wp2_with fail
   go_loopw [3] (fun i wr=> ∃r:Nat,r≤its.length∧i= .int .i64 r∧Only w0 wr∧Hid (itemsE 2 r (prevK its r) (its.drop r)=itemsE 2 0 [] its)) (fun i _=>its.length-(intOf i).toNat)
   case atStart=>exact⟨0,Nat.zero_le _,rfl,ho1,hQ rfl⟩
   case round=>
    obtain⟨r,hr,rfl,ho,heq⟩:=hrel
    obtain⟨⟨q0,q1,q2,q3,q4⟩,z0,hle⟩:=FA.out wr ho
    rcases Nat.lt_or_ge r its.length with hlt | hge
    · have heq1:=heq.out
      rw [drop_at hlt,itemsE_cons] at heq1
      have HE:=hQ heq1
      have KC:=fun wx hx=>hQ (rkey_any h 2 l nx a ad c d cd its HI.out (.inr rfl) r hlt wx hx)
      have hpr:=hQ (prevK_succ hlt)
      have RD2:=hQ RD.out
      obtain⟨b,off,ak,ck,av,cv,rfl,hbk,hbv,hcell⟩:=RD.out r hlt
      clear heq heq1
      generalize its[r]=x at*
      have HO:=hQ ho
      clear ho
      go_wp2_with fail
      refine(KC _ hle).out.mono ?_
      rintro e w2 ⟨rfl,ho2⟩
      have HO2:=hQ (HO.out.trans ho2)
      clear q0 q1 q2 q3 q4 z0 hle ho2
      obtain⟨⟨q0,q1,q2,q3,q4⟩,z0,hle⟩:=FA.out w2 HO2.out
      cases hK:keyOk 2 r x with
      | false=>
        go_wp2
        go_ret
        refine⟨?_,HO0.out.trans HO2.out⟩
        rw [← HE.out,show itemE 2 r (prevK its r) x=7 by unfold itemE;rw [if_pos hK]]
        rfl
      | true=>
        obtain⟨c0,c1,c2,c3⟩:=hcell w2 hle
        rcases r with _ | j
        · skip
          have hR:ordOk 0 (prevK its 0) x=true:=rfl
          simp only [Nat.zero_mul,Nat.add_zero] at c0 c1 c2 c3
          go_wp2_with fail
          go_quiet (fail)
          go_wp2_with fail
          refine wp_region_staged (sz:=80) (by kernel_rfl) [0,1,2,3,4,5] [(6,[7],[1,2,3,4])] rfl (by kernel_rfl) (by kernel_rfl) (by kernel_rfl) ?_
          refine wpQ_all _ rfl rfl ?_
          simp only [pick,pQ]
          iterate 6 (go_big_quiet_step (fail))
          refine wpQuiet_nil ?_
          refine wpRest_act rfl ?_
          go_wp2_with fail
          refine(rvalue_any 2 l nx _ _ x ak av ck cv (.inr rfl) _).mono ?_
          rintro e w4 ⟨rfl,ho4⟩
          have HO4:=hQ ((HO2.out.drewN _).trans ho4)
          clear q0 q1 q2 q3 q4 z0 hle c0 c1 c2 c3
          obtain⟨⟨q0,q1,q2,q3,q4⟩,z0,hle⟩:=FA.out w4 HO4.out
          obtain⟨c0,c1,c2,c3⟩:=hcell w4 hle
          simp only [Nat.zero_mul,Nat.add_zero] at c0 c1 c2 c3
          go_wp2
          refine onN_mk ?_
          refine wpQ_all _ rfl rfl ?_
          simp only [pick,pQ]
          iterate 1 (go_big_quiet_step (fail))
          refine wpQuiet_nil ⟨?_,?_⟩
          · refine chk_all _ rfl rfl ?_
            simp only [pick,Same,pQ,and_true]
            repeat' (first | apply And.intro | (go_big_quiet_step (fail);exact wpQuiet_nil rfl))
          refine wpRest_nil ?_
          cases hV:valOk 2 x with
          | false=>
            go_wp2
            go_ret
            refine⟨?_,HO0.out.trans HO4.out⟩
            rw [← HE.out,show itemE 2 (0) (prevK its (0)) x=8 by unfold itemE;rw [if_neg (by rw [hK];decide),if_neg (by rw [hR];decide),if_pos hV]]
            rfl
          | true=>
          go_wp2_with fail
          refine wp_region_staged (sz:=80) (by kernel_rfl) [0,1,2,3,4,5] [(6,[7],[1,2,3,4])] rfl (by kernel_rfl) (by kernel_rfl) (by kernel_rfl) ?_
          refine wpQ_all _ rfl rfl ?_
          simp only [pick,pQ]
          iterate 6 (go_big_quiet_step (fail))
          refine wpQuiet_nil ?_
          refine wpRest_act rfl ?_
          go_wp2_with fail
          refine(rchild_any 2 l nx _ _ x _ _ (.inr rfl) _).mono ?_
          rintro e w5 ⟨rfl,ho5⟩
          have HO5:=hQ (HO4.out.drew.trans ho5)
          clear q0 q1 q2 q3 q4 z0 hle c0 c1 c2 c3
          obtain⟨⟨q0,q1,q2,q3,q4⟩,z0,hle⟩:=FA.out w5 HO5.out
          obtain⟨c0,c1,c2,c3⟩:=hcell w5 hle
          simp only [Nat.zero_mul,Nat.add_zero] at c0 c1 c2 c3
          go_wp2
          refine onN_mk ?_
          refine wpQ_all _ rfl rfl ?_
          simp only [pick,pQ]
          iterate 1 (go_big_quiet_step (fail))
          refine wpQuiet_nil ⟨?_,?_⟩
          · refine chk_all _ rfl rfl ?_
            simp only [pick,Same,pQ,and_true]
            repeat' (first | apply And.intro | (go_big_quiet_step (fail);exact wpQuiet_nil rfl))
          refine wpRest_nil ?_
          cases hC:kidOk 2 x with
          | false=>
            go_wp2
            go_ret
            refine⟨?_,HO0.out.trans HO5.out⟩
            rw [← HE.out,show itemE 2 (0) (prevK its (0)) x=15 by unfold itemE;rw [if_neg (by rw [hK];decide),if_neg (by rw [hR];decide),if_neg (by rw [hV];decide),if_pos hC]]
            rfl
          | true=>
          go_wp2
          go_roundw
          case rel=>
           refine⟨0+1,by omega,congrArg (Value.int .i64) (by omega),HO5.out,hQ ?_⟩
           rw [← HE.out,hpr.out,show itemE 2 (0) (prevK its (0)) x=0 by unfold itemE;rw [if_neg (by rw [hK];decide),if_neg (by rw [hR];decide),if_neg (by rw [hV];decide),if_neg (by rw [hC];decide)]]
           rfl
          case measure=>simp [intOf];omega
        · have hj:j<its.length:=by omega
          obtain⟨b',off',ak',ck',av',cv',ea',hbk',_,hcell'⟩:=RD2.out j hj
          have epr:prevK its (j+1)=its[j].key:=prevK_succ hj
          rw [epr] at HE
          generalize its[j]=y at*
          skip
          cases ea'
          obtain⟨d0,d1,d2,d3⟩:=hcell' w2 hle
          go_wp2_with fail
          refine wp_region_staged (sz:=80) (by kernel_rfl) [0,1,2,3,4,5,6,7,8,9,10,11,12,13,14,15] [(16,[17,18],[0,1,3,4,5,6,7,9,10,11,12,13,14])] rfl (by kernel_rfl) (by kernel_rfl) (by kernel_rfl) ?_
          refine wpQ_all _ rfl rfl ?_
          simp only [pick,pQ]
          iterate 16 (go_big_quiet_step (fail))
          refine wpQuiet_nil ?_
          refine wpRest_act rfl ?_
          go_wp2_with fail
          refine(compare_any h h _ _ x.key y.key hbk hbk' (keyOk_len hK) _ (le_only hle ((Only.refl _).drew)) (le_only hle ((Only.refl _).drew))).mono ?_
          rintro e w3 ⟨rfl,ho3⟩
          have HO3:=hQ (HO2.out.drew.trans ho3)
          clear q0 q1 q2 q3 q4 z0 hle c0 c1 c2 c3 d0 d1 d2 d3
          obtain⟨⟨q0,q1,q2,q3,q4⟩,z0,hle⟩:=FA.out w3 HO3.out
          obtain⟨c0,c1,c2,c3⟩:=hcell w3 hle
          obtain⟨d0,d1,d2,d3⟩:=hcell' w3 hle
          go_wp2
          refine onN_mk ?_
          refine wpQ_all _ rfl rfl ?_
          simp only [pick,pQ]
          iterate 2 (go_big_quiet_step (fail))
          refine wpQuiet_nil ⟨?_,?_⟩
          · refine chk_all _ rfl rfl ?_
            simp only [pick,Same,pQ,and_true]
            repeat' (first | apply And.intro | (go_big_quiet_step (fail);exact wpQuiet_nil rfl))
          refine wpRest_nil ?_
          cases hR0:decide (cmpI x.key y.key≤0) with
          | true=>
            go_wp2
            go_ret
            refine⟨?_,HO0.out.trans HO3.out⟩
            have hR:ordOk (j+1) y.key x=false:=by have:=of_decide_eq_true hR0;unfold ordOk;rw [decide_eq_false_iff_not];omega
            rw [← HE.out,show itemE 2 (j+1) y.key x=11 by unfold itemE;rw [if_neg (by rw [hK];decide),if_pos hR]]
            rfl
          | false=>
          have hR:ordOk (j+1) y.key x=true:=by have:=of_decide_eq_false hR0;unfold ordOk;rw [decide_eq_true_eq];omega
          rw [← epr] at hR HE
          go_wp2_with fail
          refine wp_region_staged (sz:=80) (by kernel_rfl) [0,1,2,3,4,5] [(6,[7],[1,2,3,4])] rfl (by kernel_rfl) (by kernel_rfl) (by kernel_rfl) ?_
          refine wpQ_all _ rfl rfl ?_
          simp only [pick,pQ]
          iterate 6 (go_big_quiet_step (fail))
          refine wpQuiet_nil ?_
          refine wpRest_act rfl ?_
          go_wp2_with fail
          refine(rvalue_any 2 l nx _ _ x ak av ck cv (.inr rfl) _).mono ?_
          rintro e w4 ⟨rfl,ho4⟩
          have HO4:=hQ (HO3.out.drew.trans ho4)
          clear q0 q1 q2 q3 q4 z0 hle c0 c1 c2 c3
          obtain⟨⟨q0,q1,q2,q3,q4⟩,z0,hle⟩:=FA.out w4 HO4.out
          obtain⟨c0,c1,c2,c3⟩:=hcell w4 hle
          go_wp2
          refine onN_mk ?_
          refine wpQ_all _ rfl rfl ?_
          simp only [pick,pQ]
          iterate 1 (go_big_quiet_step (fail))
          refine wpQuiet_nil ⟨?_,?_⟩
          · refine chk_all _ rfl rfl ?_
            simp only [pick,Same,pQ,and_true]
            repeat' (first | apply And.intro | (go_big_quiet_step (fail);exact wpQuiet_nil rfl))
          refine wpRest_nil ?_
          cases hV:valOk 2 x with
          | false=>
            go_wp2
            go_ret
            refine⟨?_,HO0.out.trans HO4.out⟩
            rw [← HE.out,show itemE 2 (j+1) (prevK its (j+1)) x=8 by unfold itemE;rw [if_neg (by rw [hK];decide),if_neg (by rw [hR];decide),if_pos hV]]
            rfl
          | true=>
          go_wp2_with fail
          refine wp_region_staged (sz:=80) (by kernel_rfl) [0,1,2,3,4,5] [(6,[7],[1,2,3,4])] rfl (by kernel_rfl) (by kernel_rfl) (by kernel_rfl) ?_
          refine wpQ_all _ rfl rfl ?_
          simp only [pick,pQ]
          iterate 6 (go_big_quiet_step (fail))
          refine wpQuiet_nil ?_
          refine wpRest_act rfl ?_
          go_wp2_with fail
          refine(rchild_any 2 l nx _ _ x _ _ (.inr rfl) _).mono ?_
          rintro e w5 ⟨rfl,ho5⟩
          have HO5:=hQ (HO4.out.drew.trans ho5)
          clear q0 q1 q2 q3 q4 z0 hle c0 c1 c2 c3
          obtain⟨⟨q0,q1,q2,q3,q4⟩,z0,hle⟩:=FA.out w5 HO5.out
          obtain⟨c0,c1,c2,c3⟩:=hcell w5 hle
          go_wp2
          refine onN_mk ?_
          refine wpQ_all _ rfl rfl ?_
          simp only [pick,pQ]
          iterate 1 (go_big_quiet_step (fail))
          refine wpQuiet_nil ⟨?_,?_⟩
          · refine chk_all _ rfl rfl ?_
            simp only [pick,Same,pQ,and_true]
            repeat' (first | apply And.intro | (go_big_quiet_step (fail);exact wpQuiet_nil rfl))
          refine wpRest_nil ?_
          cases hC:kidOk 2 x with
          | false=>
            go_wp2
            go_ret
            refine⟨?_,HO0.out.trans HO5.out⟩
            rw [← HE.out,show itemE 2 (j+1) (prevK its (j+1)) x=15 by unfold itemE;rw [if_neg (by rw [hK];decide),if_neg (by rw [hR];decide),if_neg (by rw [hV];decide),if_pos hC]]
            rfl
          | true=>
          go_wp2
          go_roundw
          case rel=>
           refine⟨j+1+1,by omega,congrArg (Value.int .i64) (by omega),HO5.out,hQ ?_⟩
           rw [← HE.out,hpr.out,show itemE 2 (j+1) (prevK its (j+1)) x=0 by unfold itemE;rw [if_neg (by rw [hK];decide),if_neg (by rw [hR];decide),if_neg (by rw [hV];decide),if_neg (by rw [hC];decide)]]
           rfl
          case measure=>simp [intOf];omega
    · have hrl:r=its.length:=by omega
      subst hrl
      have heq1:=heq.out
      rw [List.drop_length] at heq1
      have HE:=hQ heq1
      clear heq heq1
      go_wp2
      go_ret
      refine⟨?_,HO0.out.trans ho⟩
      rw [← HE.out]
      rfl
theorem rcheck_val(a ad:Option Addr)(c d cd:Nat)(nx:Int)(hd:1≤d∧d≤480)(w:World):
 Calls Tryz.prog 90 #[pageV 3 0 (.slice a 0 c) (.slice ad d cd) nx] w fun e w'=>e= .returned (.int .i64 (if nextOk nx then 0 else 15))∧Only w w':=by
 have hf:formP 3 0 0 d nx=true:=by unfold formP;rw [if_neg (by decide),if_neg (by decide),decide_eq_true_eq];exact⟨rfl,rfl,hd⟩
 have C:=fun wx=>hQ (rform_any a ad 0 c d cd 3 0 nx (by omega) wx)
 rw [hf] at C
 obtain⟨R,hR⟩:∃R:Int,R=(if nextOk nx then 0 else 15):=⟨_,rfl⟩
 rw [← hR]
 have HR:=hQ hR
 clear hR
 obtain⟨w0,hw0⟩:∃w0,w.alloc (.cells #[.int .i64 3,.int .i64 0,.slice a 0 c,.slice ad d cd,.int .i64 nx] 31)=w0:=⟨_,rfl⟩
 have ho0:Only w w0:=hw0 ▸ (Only.refl w).alloc _
 have facts:∀wr,Only w0 wr→(wr.cell? ⟨w.heap.size,0,none⟩=some (.int .i64 3)∧wr.cell? ⟨w.heap.size,1,none⟩=some (.int .i64 0)∧wr.cell? ⟨w.heap.size,2,none⟩=some (.slice a 0 c)∧wr.cell? ⟨w.heap.size,3,none⟩=some (.slice ad d cd)∧wr.cell? ⟨w.heap.size,4,none⟩=some (.int .i64 nx))∧w.heap.size<wr.heap.size:=by
  intro wr ho
  subst hw0
  have hn:=heap_new w (.cells #[.int .i64 3,.int .i64 0,.slice a 0 c,.slice ad d cd,.int .i64 nx] 31)
  have hc:∀i v,(#[.int .i64 3,.int .i64 0,.slice a 0 c,.slice ad d cd,.int .i64 nx]:Array Value)[i]? =some v→wr.cell? ⟨w.heap.size,i,none⟩=some v:=fun i v e=>ho.cell (by rw [cell_of_heap hn];exact e)
  refine⟨⟨hc 0 _ rfl,hc 1 _ rfl,hc 2 _ rfl,hc 3 _ rfl,hc 4 _ rfl⟩,Nat.lt_of_lt_of_le (by simp) ho.st.size⟩
 have FA:=hQ facts
 have HO0:=hQ ho0
 clear facts ho0
 obtain⟨⟨q0,q1,q2,q3,q4⟩,z0⟩:=FA.out w0 (Only.refl _)
 go_enter Tryz.func90,Tryz.ntmps90
 go_wp2_with fail
 refine(C _).out.mono ?_
 rintro e w1 ⟨rfl,ho1⟩
 have HO1:=hQ ho1
 clear q0 q1 q2 q3 q4 z0 ho1
 obtain⟨⟨q0,q1,q2,q3,q4⟩,z0⟩:=FA.out w1 HO1.out
 go_wp2_with fail
 go_loopw [3] (fun i wr=>i= .int .i64 0∧wr=w1) (fun _ _=>0)
 case atStart=>exact⟨rfl,rfl⟩
 case round=>
  obtain⟨rfl,rfl⟩:=hrel
  by_cases hn:nx=0
  · subst hn
    go_wp2
    go_ret
    exact⟨(by rw [HR.out];rfl),HO0.out.trans HO1.out⟩
  · have hn0:(nx != 0)=true:=by rw [bne_iff_ne];exact hn
    go_wp2_with fail
    refine(risPage_any _ _).mono ?_
    rintro e w5 ⟨rfl,rfl⟩
    have e1:nextOk nx=isPg nx:=by unfold nextOk;rw [decide_eq_false hn,Bool.false_or]
    have HR2:=HR.out
    rw [e1] at HR2
    cases hP:isPg nx with
    | true=>
      rw [hP] at HR2
      go_wp2
      go_ret
      exact⟨(by rw [HR2];rfl),HO0.out.trans HO1.out⟩
    | false=>
      rw [hP] at HR2
      go_wp2
      go_ret
      exact⟨(by rw [HR2];rfl),HO0.out.trans HO1.out⟩
theorem rcheck_any(g:PageV)(h:Hp)(pv:Value)(hp:PageIn h pv g)(w:World)(hh:h.le w):
 Calls Tryz.prog 90 #[pv] w fun e w'=>e= .returned (.int .i64 (checkP g))∧Only w w':=by
 obtain⟨vi,vd,rfl,hi,hd⟩:=hp
 obtain⟨ai,ci,rfl,_,_⟩:=items_rd hi
 obtain⟨ad,cd,rfl⟩:=bytes_shape hd
 unfold checkP
 by_cases hk:1≤g.kind∧g.kind≤3
 · rw [if_neg (by unfold Go.Cop.kindOk;rw [decide_eq_true hk];simp)]
   cases hf:formP g.kind g.level g.items.length g.data.length g.next with
   | false=>
     rw [if_pos rfl]
     exact rcheck_form _ _ _ _ _ _ _ _ _ (by omega) hf _
   | true=>
     rw [if_neg (by decide)]
     obtain⟨k,l,its,da,nx⟩:=g
     dsimp only at*
     have hk3:(k=1∨k=2)∨k=3:=by omega
     rcases hk3 with hk3 | rfl
     · have hnx:nextOk nx=true:=by
        have:nx=0:=by unfold formP at hf;rcases hk3 with rfl | rfl<;>simp at hf<;>omega
        subst this;rfl
       rw [hnx,if_pos rfl,thenE_zero]
       exact rcheck_items h _ _ _ _ _ _ _ _ _ hi hk3 hf _ hh
     · unfold formP at hf
       rw [if_neg (by decide),if_neg (by decide),decide_eq_true_eq] at hf
       obtain⟨rfl,h2,h3⟩:=hf
       have:its= []:=List.eq_nil_of_length_eq_zero h2
       subst this
       exact rcheck_val _ _ _ _ _ _ h3 _
 · rw [if_pos (by unfold Go.Cop.kindOk;exact decide_eq_false hk)]
   exact rcheck_kind _ _ _ _ _ _ _ _ _ hk _
end Go.Proofs.YtbobcmimkonnoaaGreat.C6
namespace Go.Proofs.YtbobcmimkonnoaaGreat.E6
open ChangeShapes WideShapes ChangeAt RowKit Sl Cop D2 K3 N3 Q3 G2 M2 U3 Y3 F4 L5 W5 X3 X5 Y5 G4 Z5
structure RX where
 cv:Value
 lv:Value
 pv:Value
 xs:List (Value × Value)
 h:Hp
def pgCells(x:(Value × Value) × PageV):List Value:= [.int .i64 x.2.kind,.int .i64 x.2.level,x.1.1,x.1.2,.int .i64 x.2.next]
def PgRow(v:Value)(xs:List (Value × Value))(gs:List PageV):Pr:=Row 31 5 v gs.length ((xs.zip gs).flatMap pgCells)
structure PgsAt(h:Hp)(xs:List (Value × Value))(gs:List PageV):Prop where
 len:xs.length=gs.length
 at':∀i (hx:i<xs.length) (hl:i<gs.length),ItemsIn h xs[i].1 gs[i].items∧Bytes h xs[i].2 gs[i].data
structure RTail where
 av:Value
 fl:Int
 q:Bool
abbrev quietT(b:Bool):RTail:=⟨.slice none 0 0,0,b⟩
abbrev refC(refs:Int)(cv lv pv:Value)(hush:RTail):Obj:= .cells #[.int .i64 refs,cv,lv,pv,hush.av,.int .i64 hush.fl,.bool hush.q] 98
def RefAt(r:Nat)(s:PoolS)(gs:List PageV)(hush:RTail)(x:RX):Pr:=
 (Pr.pts r (refC s.refs x.cv x.lv x.pv hush)).star ((IntsRow x.cv s.counts).star ((BoolsRow x.lv s.last).star ((PgRow x.pv x.xs gs).star (Pr.own x.h))))
structure ROk(s:PoolS)(gs:List PageV)(x:RX):Prop where
 pgs:PgsAt x.h x.xs gs
 ll:s.last.length=s.counts.length
 gl:gs.length=s.counts.length
 n2:s.counts.length≤65536
 c0:∀c∈s.counts,0≤c
 fit:∀g∈gs,Fit g
def RefA(r:Nat)(s:PoolS)(gs:List PageV)(hush:RTail):Pr:=Pr.ex fun x:RX=>(Pr.pure (ROk s gs x)).star (RefAt r s gs hush x)
theorem refA_iff {r:Nat}{s:PoolS}{gs:List PageV}{hush:RTail}{F:Pr}{w:World}:Sat ((RefA r s gs hush).star F) w↔∃x,ROk s gs x∧Sat ((RefAt r s gs hush x).star F) w:=by
 unfold RefA
 rw [Sat.ex]
 constructor
 · rintro⟨x,h⟩
   rw [Pr.star_assoc] at h
   obtain⟨h1,h2⟩:=Sat.pure.1 h
   exact⟨x,h1,h2⟩
 · rintro⟨x,h1,h2⟩
   refine⟨x,?_⟩
   rw [Pr.star_assoc]
   exact Sat.pure.2 ⟨h1,h2⟩
theorem ref_rd {r:Nat}{s:PoolS}{gs:List PageV}{hush:RTail}{x:RX}{F:Pr}{w:World}(ok:ROk s gs x)(h:Sat ((RefAt r s gs hush x).star F) w):
 ∃ac cc al cl ap cp,(w.cell? ⟨r,1,none⟩=some (.slice ac s.counts.length cc)∧w.cell? ⟨r,2,none⟩=some (.slice al s.counts.length cl)∧w.cell? ⟨r,3,none⟩=some (.slice ap s.counts.length cp)∧w.cell? ⟨r,0,none⟩=some (.int .i64 s.refs))∧r<w.heap.size∧True∧
  ∀j,j<s.counts.length→(∃b,ac=some ⟨b,0,none⟩∧w.cell? ⟨b,j,none⟩=some (.int .i64 (s.counts.getD j 0)))∧(∃b,al=some ⟨b,0,none⟩∧w.cell? ⟨b,j,none⟩=some (.bool (s.last.getD j false)))∧
   ∃b g vi vd,ap=some ⟨b,0,none⟩∧gs[j]? =some g∧PageIn x.h (pageV g.kind g.level vi vd g.next) g∧
    w.cell? ⟨b,j*5,none⟩=some (.int .i64 g.kind)∧w.cell? ⟨b,j*5+1,none⟩=some (.int .i64 g.level)∧w.cell? ⟨b,j*5+2,none⟩=some vi∧w.cell? ⟨b,j*5+3,none⟩=some vd∧w.cell? ⟨b,j*5+4,none⟩=some (.int .i64 g.next):=by
 have h1:Sat ((Pr.pts r (refC s.refs x.cv x.lv x.pv hush)).star ((IntsRow x.cv s.counts).star ((BoolsRow x.lv s.last).star ((PgRow x.pv x.xs gs).star ((Pr.own x.h).star F))))) w:=h.perm (by unfold RefAt;ac_rfl)
 have hp:=h1.pts_heap
 obtain⟨ac,cc,e1,_,r1⟩:=Row.read h1.right
 obtain⟨al,cl,e2,_,r2⟩:=Row.read h1.right.right
 obtain⟨ap,cp,e3,_,r3⟩:=Row.read h1.right.right.right
 rw [ok.ll] at e2
 rw [ok.gl] at e3
 refine⟨ac,cc,al,cl,ap,cp,⟨by rw [cell_of_heap hp, ← e1];rfl,by rw [cell_of_heap hp, ← e2];rfl,by rw [cell_of_heap hp, ← e3];rfl,by rw [cell_of_heap hp];rfl⟩,h1.lt,trivial,fun j hj=>⟨?_,?_,?_⟩⟩
 · obtain⟨b,e,hc⟩:=r1 (by omega)
   refine⟨b,e,?_⟩
   rw [(hc j (by omega)).1]
   simp [hj]
 · obtain⟨b,e,hc⟩:=r2 (by have:=ok.ll;omega)
   refine⟨b,e,?_⟩
   have hj2:j<s.last.length:=by have:=ok.ll;omega
   rw [(hc j (by omega)).1]
   simp [hj2]
 · have hj2:j<gs.length:=by have:=ok.gl;omega
   have hj3:j<x.xs.length:=by have:=ok.pgs.len;omega
   obtain⟨b,e,hc⟩:=r3 (by omega)
   have hz:j<(x.xs.zip gs).length:=by simp;omega
   have at':∀i,i<5→w.cell? ⟨b,j*5+i,none⟩=(pgCells (x.xs[j],gs[j]))[i]? :=by
    intro i hi
    rw [(hc (j*5+i) (by omega)).1,flat_at pgCells 5 (fun _=>rfl) (x.xs.zip gs) j i hz hi]
    simp
   obtain⟨p1,p2⟩:=ok.pgs.at' j hj3 hj2
   exact⟨b,gs[j],x.xs[j].1,x.xs[j].2,e,List.getElem?_eq_getElem hj2,⟨_,_,rfl,p1,p2⟩,at' 0 (by omega),at' 1 (by omega),at' 2 (by omega),at' 3 (by omega),at' 4 (by omega)⟩
theorem ris_any(r:Nat)(s:PoolS)(gs:List PageV)(hush:RTail)(n:Int)(F:Pr)(w:World)(hF:Sat ((RefA r s gs hush).star F) w):
 Calls Tryz.prog 115 #[.pointer (some ⟨r,0,none⟩),.int .i64 n] w fun e w'=>e= .returned (.bool (decide (s.there n)))∧w=w':=by
 obtain⟨x,ok,h⟩:=refA_iff.1 hF
 obtain⟨ac,cc,al,cl,ap,cp,⟨q1,q2,q3,_⟩,z,_,_⟩:=ref_rd ok h
 have fin:∀(b:Bool),(b=true↔s.there n)→Ending.returned (Value.bool b)=Ending.returned (Value.bool (decide (s.there n))):=fun b e=>by
  congr 2
  rw [Bool.eq_iff_iff,e,decide_eq_true_eq]
 by_cases h1:1≤n
 · go_enter Tryz.func115,Tryz.ntmps115
   go_wp2
   go_ret
   refine⟨fin _ ?_,rfl⟩
   simp [PoolS.there,h1]
 · go_enter Tryz.func115,Tryz.ntmps115
   go_wp2
   go_ret
   refine⟨fin _ ?_,rfl⟩
   simp [PoolS.there];omega
theorem there_idx {s:PoolS}{n:Int}(h:s.there n):∃j:Nat,n=(j:Int)+1∧j<s.counts.length:=by
 obtain⟨h1,h2⟩:=h
 exact⟨n.toNat-1,by omega,by omega⟩
theorem count_idx {s:PoolS}{j:Nat}(hj:j<s.counts.length):s.count ((j:Int)+1)=s.counts.getD j 0:=by
 have ht:s.there ((j:Int)+1):=⟨by omega,by omega⟩
 unfold PoolS.count
 rw [if_pos ht,show ((j:Int)+1).toNat-1=j by omega]
theorem lasts_idx {s:PoolS}(j:Nat):s.lasts ((j:Int)+1)=s.last.getD j false:=by
 unfold PoolS.lasts
 rw [show ((j:Int)+1).toNat-1=j by omega]
theorem rthere_any(r:Nat)(s:PoolS)(gs:List PageV)(hush:RTail)(n:Int)(F:Pr)(w:World)(hF:Sat ((RefA r s gs hush).star F) w):
 Calls Tryz.prog 89 #[.pointer (some ⟨r,0,none⟩),.int .i64 n] w fun e w'=>e= .returned (.bool (decide (0<s.count n)))∧w=w':=by
 obtain⟨x,ok,h⟩:=refA_iff.1 hF
 obtain⟨ac,cc,al,cl,ap,cp,⟨q1,q2,q3,_⟩,z,_,rd⟩:=ref_rd ok h
 have IS:=hQ (ris_any r s gs hush n F w hF)
 by_cases ht:s.there n
 · rw [decide_eq_true ht] at IS
   obtain⟨j,rfl,hj⟩:=there_idx ht
   obtain⟨⟨b,rfl,c0⟩,_,_⟩:=rd j hj
   have hcnt:=count_idx hj
   rw [hcnt]
   have hn2:=ok.n2
   clear rd hF h ok ht hcnt
   generalize s.counts.getD j 0=c at*
   go_enter Tryz.func89,Tryz.ntmps89
   go_wp2_with fail
   refine IS.out.mono ?_
   rintro e w1 ⟨rfl,rfl⟩
   go_wp2
   go_ret
   exact⟨rfl,rfl⟩
 · rw [decide_eq_false ht] at IS
   have hcnt:s.count n=0:=by unfold PoolS.count;rw [if_neg ht]
   rw [hcnt]
   clear rd hF h ok
   go_enter Tryz.func89,Tryz.ntmps89
   go_wp2_with fail
   refine IS.out.mono ?_
   rintro e w1 ⟨rfl,rfl⟩
   go_wp2
   go_ret
   exact⟨rfl,rfl⟩
theorem rstate_any(r:Nat)(s:PoolS)(gs:List PageV)(hush:RTail)(n:Int)(F:Pr)(w:World)(hF:Sat ((RefA r s gs hush).star F) w):
 Calls Tryz.prog 48 #[.pointer (some ⟨r,0,none⟩),.int .i64 n] w fun e w'=>e= .returned (.int .i64 (s.state n))∧w=w':=by
 obtain⟨x,ok,h⟩:=refA_iff.1 hF
 obtain⟨ac,cc,al,cl,ap,cp,⟨q1,q2,q3,_⟩,z,_,rd⟩:=ref_rd ok h
 have IS:=hQ (ris_any r s gs hush n F w hF)
 by_cases ht:s.there n
 · rw [decide_eq_true ht] at IS
   have hst:=state_there ht
   obtain⟨j,rfl,hj⟩:=there_idx ht
   obtain⟨⟨b,rfl,c0⟩,⟨b2,rfl,c1⟩,_⟩:=rd j hj
   rw [hst,count_idx hj,lasts_idx]
   have hn2:=ok.n2
   have hc0:0≤s.counts.getD j 0:=by
    have:=ok.c0 s.counts[j] (List.getElem_mem hj)
    simpa [hj] using this
   clear rd hF h ok ht hst
   generalize s.counts.getD j 0=c at*
   generalize s.last.getD j false=l at*
   cases l with
   | true=>
     by_cases hc:c=0
     · subst hc
       go_enter Tryz.func48,Tryz.ntmps48
       go_wp2_with fail
       refine IS.out.mono ?_
       rintro e w1 ⟨rfl,rfl⟩
       go_wp2
       go_ret
       exact⟨rfl,rfl⟩
     · have hb:(c == 0)=false:=by rw [beq_eq_false_iff_ne];exact hc
       have hp:0<c:=by omega
       have e:stateOf c true=4:=by simp [stateOf,hp]
       rw [e]
       go_enter Tryz.func48,Tryz.ntmps48
       go_wp2_with fail
       refine IS.out.mono ?_
       rintro e w1 ⟨rfl,rfl⟩
       go_wp2
       go_ret
       exact⟨rfl,rfl⟩
   | false=>
     by_cases hc:c=0
     · subst hc
       go_enter Tryz.func48,Tryz.ntmps48
       go_wp2_with fail
       refine IS.out.mono ?_
       rintro e w1 ⟨rfl,rfl⟩
       go_wp2
       go_ret
       exact⟨rfl,rfl⟩
     · have hb:(c == 0)=false:=by rw [beq_eq_false_iff_ne];exact hc
       have hp:0<c:=by omega
       have e:stateOf c false=3:=by simp [stateOf,hp]
       rw [e]
       go_enter Tryz.func48,Tryz.ntmps48
       go_wp2_with fail
       refine IS.out.mono ?_
       rintro e w1 ⟨rfl,rfl⟩
       go_wp2
       go_ret
       exact⟨rfl,rfl⟩
 · rw [decide_eq_false ht] at IS
   have hcnt:s.state n=0:=by unfold PoolS.state;rw [if_neg ht]
   rw [hcnt]
   clear rd hF h ok
   go_enter Tryz.func48,Tryz.ntmps48
   go_wp2_with fail
   refine IS.out.mono ?_
   rintro e w1 ⟨rfl,rfl⟩
   go_wp2
   go_ret
   exact⟨rfl,rfl⟩
end Go.Proofs.YtbobcmimkonnoaaGreat.E6
