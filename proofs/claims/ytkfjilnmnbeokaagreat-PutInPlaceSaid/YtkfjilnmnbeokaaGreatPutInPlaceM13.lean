/- The document's check of an item's key, value and child; the conditions stand as hypotheses. -/
import Derived.Test.YtkfjilnmnbeokaaGreatPutInPlaceM10
import Derived.BigQuiet
import Derived.Test.YtkfjilnmnbeokaaGreatPutInPlaceM03
import Derived.Test.YtkfjilnmnbeokaaGreatPutInPlaceM01
set_option maxRecDepth 100000
set_option maxHeartbeats 16000000
namespace Go.Proofs.YtkfjilnmnbeokaaGreat.D4
open ChangeShapes WideShapes ChangeAt RowKit Sl Cop G2 J2 N2 P2 Q2 X3 Z3
theorem len_zero(l:List Int):(Hid (l.length=0)∧((l.length:Int) == 0)=true)∨(Hid (0<l.length)∧((l.length:Int) == 0)=false):=by
 rcases Nat.eq_zero_or_pos l.length with h | h
 · exact .inl ⟨hQ h,by rw [beq_iff_eq];omega⟩
 · exact .inr ⟨hQ h,by rw [beq_eq_false_iff_ne];omega⟩
theorem le_alloc {h:Hp}{w:World}(hl:h.le w)(o:Obj):h.le (w.alloc o):=fun k x e=>(Below.heap_alloc w o k (Array.getElem?_eq_some_iff.1 (hl k x e)).1).trans (hl k x e)
theorem rkey_any(h:Hp)(k l nx:Int)(a ad:Option Addr)(c d cd:Nat)(its:List ItemV)(hi:ItemsIn h (.slice a its.length c) its)(hk:k=1∨k=2)(i:Nat)(hlt:i<its.length)(w:World)(hh:h.le w):
 Calls Tryz.prog 57 #[pageV k l (.slice a its.length c) (.slice ad d cd) nx,.int .i64 (i:Int)] w fun e w'=>e= .returned (.bool (keyOk k i its[i]))∧Only w w':=by
 have fin:∀(b:Bool),b=keyOk k i its[i]→Ending.returned (Value.bool b)=Ending.returned (Value.bool (keyOk k i its[i])):=fun b e=>by rw [e]
 obtain⟨a',c',e',_,rd⟩:=items_rd hi;cases e';obtain⟨b,off,ak,ck,av,cv,rfl,hbk,hbv,hcell⟩:=rd i hlt;obtain⟨c0,c1,c2,c3⟩:=hcell _ (le_alloc hh (.cells #[.int .i64 k,.int .i64 l,.slice (some ⟨b,off,none⟩) its.length c,.slice ad d cd,.int .i64 nx] 74));clear hcell rd hi hbk hbv;have hlt':=hQ hlt;generalize its[i]=x at*;rcases Nat.eq_zero_or_pos i with hi0 | hi0
 · subst hi0
   simp only [Nat.zero_mul,Nat.add_zero] at c0 c1 c2 c3;rcases hk with rfl | rfl
   all_goals
    go_enter Tryz.func57,Tryz.ntmps57
    go_wp2;all_goals (go_ret;refine⟨fin _ ?_,((Only.refl w).alloc _)⟩;rw [Bool.eq_iff_iff];simp [keyOk];try omega)
 · have hk1:((i:Int) == 0)=false:=by rw [beq_eq_false_iff_ne];omega
   have hi1:i≠0:=by omega
   rcases hk with rfl | rfl
   all_goals
    go_enter Tryz.func57,Tryz.ntmps57
    go_wp2;all_goals (go_ret;refine⟨fin _ ?_,((Only.refl w).alloc _)⟩;rw [Bool.eq_iff_iff];simp [keyOk,hi1];try omega)
theorem rvalue_any(k l nx:Int)(vi vd:Value)(x:ItemV)(ak av:Option Addr)(ck cv:Nat)(hk:k=1∨k=2)(w:World):
 Calls Tryz.prog 59 #[pageV k l vi vd nx,itemV (.slice ak x.key.length ck) (.slice av x.value.length cv) x.child x.size] w fun e w'=>e= .returned (.bool (valOk k x))∧Only w w':=by
 have fin:∀(b:Bool),b=valOk k x→Ending.returned (Value.bool b)=Ending.returned (Value.bool (valOk k x)):=fun b e=>by rw [e]
 rcases hk with rfl | rfl
 · go_enter Tryz.func59,Tryz.ntmps59
   go_wp2;all_goals (go_ret;refine⟨fin _ ?_,((Only.refl w).alloc _).alloc _⟩;rw [Bool.eq_iff_iff];simp [valOk, -List.length_eq_zero_iff];try (split<;>omega);try omega)
 · rcases len_zero x.value with⟨hv,hv1⟩ | ⟨hv,hv1⟩
   all_goals
    go_enter Tryz.func59,Tryz.ntmps59
    go_wp2;go_ret;refine⟨fin _ ?_,((Only.refl w).alloc _).alloc _⟩;have hv':=hv.out;rw [Bool.eq_iff_iff];simp [valOk, -List.length_eq_zero_iff];try omega
theorem rchild_any(k l nx:Int)(vi vd:Value)(x:ItemV)(kv vv:Value)(hk:k=1∨k=2)(w:World):
 Calls Tryz.prog 60 #[pageV k l vi vd nx,itemV kv vv x.child x.size] w fun e w'=>e= .returned (.bool (kidOk k x))∧Only w w':=by
 have fin:∀(b:Bool),b=kidOk k x→Ending.returned (Value.bool b)=Ending.returned (Value.bool (kidOk k x)):=fun b e=>by rw [e]
 rcases hk with rfl | rfl
 · by_cases hs:x.size≤32
   · go_enter Tryz.func60,Tryz.ntmps60
     go_wp2;go_ret;refine⟨fin _ ?_,((Only.refl w).alloc _).alloc _⟩;rw [Bool.eq_iff_iff];simp [kidOk,hs]
   · have hs1:(x.size≤32)=False:=eq_false hs
     go_enter Tryz.func60,Tryz.ntmps60
     go_wp2_with fail
     refine(risPage_any _ _).mono ?_;rintro e w1 ⟨rfl,rfl⟩;go_wp2;go_ret;refine⟨fin _ ?_,((Only.refl w).alloc _).alloc _⟩;rw [show kidOk 1 x=isPg x.child from if_neg (fun h=>absurd h.2 (by omega))]
 · go_enter Tryz.func60,Tryz.ntmps60
   go_wp2_with fail
   refine(risPage_any _ _).mono ?_;rintro e w1 ⟨rfl,rfl⟩;go_wp2;go_ret;refine⟨fin _ ?_,((Only.refl w).alloc _).alloc _⟩;rw [Bool.eq_iff_iff];simp [kidOk]
end Go.Proofs.YtkfjilnmnbeokaaGreat.D4
namespace Go.Cop
def prevK(its:List ItemV):Nat→List Int
 | 0=> []
 | j+1=>((its[j]?).map (·.key)).getD []
theorem prevK_succ {its:List ItemV}{k:Nat}(h:k<its.length):prevK its (k+1)=its[k].key:=by simp [prevK,h]
end Go.Cop
namespace Go.Proofs.YtkfjilnmnbeokaaGreat.J4
open ChangeShapes WideShapes ChangeAt RowKit Sl Cop G2 J2 N2 P2 Q2 X3 Z3 D4
theorem keyOk_len {k:Int}{i:Nat}{x:ItemV}(h:keyOk k i x=true):x.key.length≤9000000000000000000:=by
 unfold keyOk at h;split at h<;>rw [decide_eq_true_eq] at h<;>omega
theorem le_only {h:Hp}{w w':World}(hl:h.le w)(ho:Only w w'):h.le w':=fun k x e=>(ho.heap k (Array.getElem?_eq_some_iff.1 (hl k x e)).1).trans (hl k x e)
theorem rcheck_kind(ai ad:Option Addr)(n ci d cd:Nat)(k l nx:Int)(hk:¬(1≤k∧k≤3))(w:World):
 Calls Tryz.prog 22 #[pageV k l (.slice ai n ci) (.slice ad d cd) nx] w fun e w'=>e= .returned (.int .i64 22)∧Only w w':=by
 have h1:(k != 1)=true:=by rw [bne_iff_ne];omega
 have h2:(k != 2)=true:=by rw [bne_iff_ne];omega
 have h3:(k != 3)=true:=by rw [bne_iff_ne];omega
 go_enter Tryz.func22,Tryz.ntmps22
 go_wp2;go_ret;exact⟨rfl,(Only.refl w).alloc _⟩
theorem rcheck_form(ai ad:Option Addr)(n ci d cd:Nat)(k l nx:Int)(hk:k=1∨k=2∨k=3)(hf:formP k l n d nx=false)(w:World):
 Calls Tryz.prog 22 #[pageV k l (.slice ai n ci) (.slice ad d cd) nx] w fun e w'=>e= .returned (.int .i64 5)∧Only w w':=by
 have ho:=(Only.refl w).alloc (.cells #[.int .i64 k,.int .i64 l,.slice ai n ci,.slice ad d cd,.int .i64 nx] 74);have C:=fun wx=>hQ (rform_any ai ad n ci d cd k l nx hk wx)
 rw [hf] at C;rcases hk with rfl | rfl | rfl
 all_goals
  go_enter Tryz.func22,Tryz.ntmps22
  go_wp2_with fail
  refine(C _).out.mono ?_;rintro e w1 ⟨rfl,ho1⟩;go_wp2;go_ret;exact⟨rfl,ho.trans ho1⟩
theorem rcheck_items(h:Hp)(a ad:Option Addr)(c d cd:Nat)(its:List ItemV)(k l nx:Int)(hi:ItemsIn h (.slice a its.length c) its)(hk:k=1∨k=2)(hf:formP k l its.length d nx=true)(w:World)(hh:h.le w):
 Calls Tryz.prog 22 #[pageV k l (.slice a its.length c) (.slice ad d cd) nx] w fun e w'=>e= .returned (.int .i64 (itemsE k 0 [] its))∧Only w w':=by
 have hnl:its.length≤8:=by unfold formP at hf;rcases hk with rfl | rfl<;>simp at hf<;>omega
 obtain⟨a',c',e',_,rd⟩:=items_rd hi;cases e';have C:=fun wx=>hQ (rform_any a ad its.length c d cd k l nx (by omega) wx)
 rw [hf] at C;obtain⟨w0,hw0⟩:∃w0,w.alloc (.cells #[.int .i64 k,.int .i64 l,.slice a its.length c,.slice ad d cd,.int .i64 nx] 74)=w0:=⟨_,rfl⟩;have ho0:Only w w0:=hw0 ▸ (Only.refl w).alloc _
 have facts:∀wr,Only w0 wr→(wr.cell? ⟨w.heap.size,0,none⟩=some (.int .i64 k)∧wr.cell? ⟨w.heap.size,1,none⟩=some (.int .i64 l)∧wr.cell? ⟨w.heap.size,2,none⟩=some (.slice a its.length c)∧wr.cell? ⟨w.heap.size,3,none⟩=some (.slice ad d cd)∧wr.cell? ⟨w.heap.size,4,none⟩=some (.int .i64 nx))∧w.heap.size<wr.heap.size∧h.le wr:=by
  intro wr ho;subst hw0;have hn:=heap_new w (.cells #[.int .i64 k,.int .i64 l,.slice a its.length c,.slice ad d cd,.int .i64 nx] 74);have hc:∀i v,(#[.int .i64 k,.int .i64 l,.slice a its.length c,.slice ad d cd,.int .i64 nx]:Array Value)[i]? =some v→wr.cell? ⟨w.heap.size,i,none⟩=some v:=fun i v e=>ho.cell (by rw [cell_of_heap hn];exact e)
  refine⟨⟨hc 0 _ rfl,hc 1 _ rfl,hc 2 _ rfl,hc 3 _ rfl,hc 4 _ rfl⟩,Nat.lt_of_lt_of_le (by simp) ho.st.size,le_only (le_only hh ho0) ho⟩
 have FA:=hQ facts;have HO0:=hQ ho0;have RD:=hQ rd;have HI:=hQ hi;clear facts ho0 rd hi hh;have hk3:(k == 3)=false:=by rw [beq_eq_false_iff_ne];omega
 obtain⟨⟨q0,q1,q2,q3,q4⟩,z0,_⟩:=FA.out w0 (Only.refl _);rcases hk with rfl | rfl
 · go_enter Tryz.func22,Tryz.ntmps22
   go_wp2_with fail
   refine(C _).out.mono ?_;rintro e w1 ⟨rfl,ho1⟩;clear q0 q1 q2 q3 q4 z0;go_wp2_with fail
   go_loopw [3] (fun i wr=> ∃r:Nat,r≤its.length∧i= .int .i64 r∧Only w0 wr∧Hid (itemsE 1 r (prevK its r) (its.drop r)=itemsE 1 0 [] its)) (fun i _=>its.length-(intOf i).toNat)
   case atStart=>exact⟨0,Nat.zero_le _,rfl,ho1,hQ rfl⟩
   case round=>
    obtain⟨r,hr,rfl,ho,heq⟩:=hrel;obtain⟨⟨q0,q1,q2,q3,q4⟩,z0,hle⟩:=FA.out wr ho;rcases Nat.lt_or_ge r its.length with hlt | hge
    · have heq1:=heq.out
      rw [drop_at hlt,itemsE_cons] at heq1;have HE:=hQ heq1;have KC:=fun wx hx=>hQ (rkey_any h 1 l nx a ad c d cd its HI.out (.inl rfl) r hlt wx hx)
      have hpr:=hQ (prevK_succ hlt);have RD2:=hQ RD.out;obtain⟨b,off,ak,ck,av,cv,rfl,hbk,hbv,hcell⟩:=RD.out r hlt;clear heq heq1;generalize its[r]=x at*;have HO:=hQ ho;clear ho;go_wp2_with fail
      refine(KC _ hle).out.mono ?_;rintro e w2 ⟨rfl,ho2⟩;have HO2:=hQ (HO.out.trans ho2);clear q0 q1 q2 q3 q4 z0 hle ho2;obtain⟨⟨q0,q1,q2,q3,q4⟩,z0,hle⟩:=FA.out w2 HO2.out;cases hK:keyOk 1 r x with
      | false=>
        go_wp2;go_ret;refine⟨?_,HO0.out.trans HO2.out⟩;rw [← HE.out,show itemE 1 r (prevK its r) x=7 by unfold itemE;rw [if_pos hK]];rfl
      | true=>
        obtain⟨c0,c1,c2,c3⟩:=hcell w2 hle;rcases r with _ | j
        · skip
          have hR:ordOk 0 (prevK its 0) x=true:=rfl;simp only [Nat.zero_mul,Nat.add_zero] at c0 c1 c2 c3;go_wp2_with fail
          go_quiet (fail)
          go_wp2_with fail
          refine wS 80 [0,1,2,3,4,5] [(6,[7],[1,2,3,4])] ?_;refine wpQ_all _ rfl rfl ?_;simp only [pick,pQ];iterate 6 (go_big_quiet_step (fail))
          refine wpQuiet_nil ?_;refine wpRest_act rfl ?_;go_wp2_with fail
          refine(rvalue_any 1 l nx _ _ x ak av ck cv (.inl rfl) _).mono ?_;rintro e w4 ⟨rfl,ho4⟩;have HO4:=hQ ((HO2.out.drewN _).trans ho4);clear q0 q1 q2 q3 q4 z0 hle c0 c1 c2 c3;obtain⟨⟨q0,q1,q2,q3,q4⟩,z0,hle⟩:=FA.out w4 HO4.out;obtain⟨c0,c1,c2,c3⟩:=hcell w4 hle;simp only [Nat.zero_mul,Nat.add_zero] at c0 c1 c2 c3;go_wp2;refine onN_mk ?_;refine wpQ_all _ rfl rfl ?_;simp only [pick,pQ]
          iterate 1 (go_big_quiet_step (fail))
          refine wpQuiet_nil ⟨?_,?_⟩
          · exact cQ
          refine wpRest_nil ?_;cases hV:valOk 1 x with
          | false=>
            go_wp2;go_ret;refine⟨?_,HO0.out.trans HO4.out⟩;rw [← HE.out,show itemE 1 (0) (prevK its (0)) x=8 by unfold itemE;rw [if_neg (by rw [hK];decide),if_neg (by rw [hR];decide),if_pos hV]];rfl
          | true=>
          go_wp2_with fail
          refine wS 80 [0,1,2,3,4,5] [(6,[7],[1,2,3,4])] ?_;refine wpQ_all _ rfl rfl ?_;simp only [pick,pQ];iterate 6 (go_big_quiet_step (fail))
          refine wpQuiet_nil ?_;refine wpRest_act rfl ?_;go_wp2_with fail
          refine(rchild_any 1 l nx _ _ x _ _ (.inl rfl) _).mono ?_;rintro e w5 ⟨rfl,ho5⟩;have HO5:=hQ (HO4.out.drew.trans ho5);clear q0 q1 q2 q3 q4 z0 hle c0 c1 c2 c3;obtain⟨⟨q0,q1,q2,q3,q4⟩,z0,hle⟩:=FA.out w5 HO5.out;obtain⟨c0,c1,c2,c3⟩:=hcell w5 hle;simp only [Nat.zero_mul,Nat.add_zero] at c0 c1 c2 c3;go_wp2;refine onN_mk ?_;refine wpQ_all _ rfl rfl ?_;simp only [pick,pQ]
          iterate 1 (go_big_quiet_step (fail))
          refine wpQuiet_nil ⟨?_,?_⟩
          · exact cQ
          refine wpRest_nil ?_;cases hC:kidOk 1 x with
          | false=>
            go_wp2;go_ret;refine⟨?_,HO0.out.trans HO5.out⟩;rw [← HE.out,show itemE 1 (0) (prevK its (0)) x=15 by unfold itemE;rw [if_neg (by rw [hK];decide),if_neg (by rw [hR];decide),if_neg (by rw [hV];decide),if_pos hC]];rfl
          | true=>
          go_wp2;go_roundw
          case rel=>
           refine⟨0+1,by omega,congrArg (Value.int .i64) (by omega),HO5.out,hQ ?_⟩;rw [← HE.out,hpr.out,show itemE 1 (0) (prevK its (0)) x=0 by unfold itemE;rw [if_neg (by rw [hK];decide),if_neg (by rw [hR];decide),if_neg (by rw [hV];decide),if_neg (by rw [hC];decide)]];rfl
          case measure=>simp [intOf];omega
        · have hj:j<its.length:=by omega
          obtain⟨b',off',ak',ck',av',cv',ea',hbk',_,hcell'⟩:=RD2.out j hj;have epr:prevK its (j+1)=its[j].key:=prevK_succ hj;rw [epr] at HE;generalize its[j]=y at*;skip
          cases ea';obtain⟨d0,d1,d2,d3⟩:=hcell' w2 hle;go_wp2_with fail
          refine wS 80 [0,1,2,3,4,5,6,7,8,9,10,11,12,13,14,15] [(16,[17,18],[0,1,3,4,5,6,7,9,10,11,12,13,14])] ?_;refine wpQ_all _ rfl rfl ?_;simp only [pick,pQ];iterate 16 (go_big_quiet_step (fail))
          refine wpQuiet_nil ?_;refine wpRest_act rfl ?_;go_wp2_with fail
          refine(compare_any h h _ _ x.key y.key hbk hbk' (keyOk_len hK) _ (le_only hle ((Only.refl _).drew)) (le_only hle ((Only.refl _).drew))).mono ?_;rintro e w3 ⟨rfl,ho3⟩;have HO3:=hQ (HO2.out.drew.trans ho3);clear q0 q1 q2 q3 q4 z0 hle c0 c1 c2 c3 d0 d1 d2 d3;obtain⟨⟨q0,q1,q2,q3,q4⟩,z0,hle⟩:=FA.out w3 HO3.out;obtain⟨c0,c1,c2,c3⟩:=hcell w3 hle;obtain⟨d0,d1,d2,d3⟩:=hcell' w3 hle;go_wp2
          refine onN_mk ?_;refine wpQ_all _ rfl rfl ?_;simp only [pick,pQ];iterate 2 (go_big_quiet_step (fail))
          refine wpQuiet_nil ⟨?_,?_⟩
          · exact cQ
          refine wpRest_nil ?_;cases hR0:decide (cmpI x.key y.key≤0) with
          | true=>
            go_wp2;go_ret;refine⟨?_,HO0.out.trans HO3.out⟩;have hR:ordOk (j+1) y.key x=false:=by have:=of_decide_eq_true hR0;unfold ordOk;rw [decide_eq_false_iff_not];omega
            rw [← HE.out,show itemE 1 (j+1) y.key x=11 by unfold itemE;rw [if_neg (by rw [hK];decide),if_pos hR]];rfl
          | false=>
          have hR:ordOk (j+1) y.key x=true:=by have:=of_decide_eq_false hR0;unfold ordOk;rw [decide_eq_true_eq];omega
          rw [← epr] at hR HE;go_wp2_with fail
          refine wS 80 [0,1,2,3,4,5] [(6,[7],[1,2,3,4])] ?_;refine wpQ_all _ rfl rfl ?_;simp only [pick,pQ];iterate 6 (go_big_quiet_step (fail))
          refine wpQuiet_nil ?_;refine wpRest_act rfl ?_;go_wp2_with fail
          refine(rvalue_any 1 l nx _ _ x ak av ck cv (.inl rfl) _).mono ?_;rintro e w4 ⟨rfl,ho4⟩;have HO4:=hQ (HO3.out.drew.trans ho4);clear q0 q1 q2 q3 q4 z0 hle c0 c1 c2 c3;obtain⟨⟨q0,q1,q2,q3,q4⟩,z0,hle⟩:=FA.out w4 HO4.out;obtain⟨c0,c1,c2,c3⟩:=hcell w4 hle;go_wp2;refine onN_mk ?_;refine wpQ_all _ rfl rfl ?_;simp only [pick,pQ];iterate 1 (go_big_quiet_step (fail))
          refine wpQuiet_nil ⟨?_,?_⟩
          · exact cQ
          refine wpRest_nil ?_;cases hV:valOk 1 x with
          | false=>
            go_wp2;go_ret;refine⟨?_,HO0.out.trans HO4.out⟩;rw [← HE.out,show itemE 1 (j+1) (prevK its (j+1)) x=8 by unfold itemE;rw [if_neg (by rw [hK];decide),if_neg (by rw [hR];decide),if_pos hV]];rfl
          | true=>
          go_wp2_with fail
          refine wS 80 [0,1,2,3,4,5] [(6,[7],[1,2,3,4])] ?_;refine wpQ_all _ rfl rfl ?_;simp only [pick,pQ];iterate 6 (go_big_quiet_step (fail))
          refine wpQuiet_nil ?_;refine wpRest_act rfl ?_;go_wp2_with fail
          refine(rchild_any 1 l nx _ _ x _ _ (.inl rfl) _).mono ?_;rintro e w5 ⟨rfl,ho5⟩;have HO5:=hQ (HO4.out.drew.trans ho5);clear q0 q1 q2 q3 q4 z0 hle c0 c1 c2 c3;obtain⟨⟨q0,q1,q2,q3,q4⟩,z0,hle⟩:=FA.out w5 HO5.out;obtain⟨c0,c1,c2,c3⟩:=hcell w5 hle;go_wp2;refine onN_mk ?_;refine wpQ_all _ rfl rfl ?_;simp only [pick,pQ];iterate 1 (go_big_quiet_step (fail))
          refine wpQuiet_nil ⟨?_,?_⟩
          · exact cQ
          refine wpRest_nil ?_;cases hC:kidOk 1 x with
          | false=>
            go_wp2;go_ret;refine⟨?_,HO0.out.trans HO5.out⟩;rw [← HE.out,show itemE 1 (j+1) (prevK its (j+1)) x=15 by unfold itemE;rw [if_neg (by rw [hK];decide),if_neg (by rw [hR];decide),if_neg (by rw [hV];decide),if_pos hC]];rfl
          | true=>
          go_wp2;go_roundw
          case rel=>
           refine⟨j+1+1,by omega,congrArg (Value.int .i64) (by omega),HO5.out,hQ ?_⟩;rw [← HE.out,hpr.out,show itemE 1 (j+1) (prevK its (j+1)) x=0 by unfold itemE;rw [if_neg (by rw [hK];decide),if_neg (by rw [hR];decide),if_neg (by rw [hV];decide),if_neg (by rw [hC];decide)]];rfl
          case measure=>simp [intOf];omega
    · have hrl:r=its.length:=by omega
      subst hrl;have heq1:=heq.out;rw [List.drop_length] at heq1;have HE:=hQ heq1;clear heq heq1;go_wp2;go_ret;refine⟨?_,HO0.out.trans ho⟩;rw [← HE.out];rfl
 · go_enter Tryz.func22,Tryz.ntmps22
   go_wp2_with fail
   refine(C _).out.mono ?_;rintro e w1 ⟨rfl,ho1⟩;clear q0 q1 q2 q3 q4 z0;go_wp2_with fail
   go_loopw [3] (fun i wr=> ∃r:Nat,r≤its.length∧i= .int .i64 r∧Only w0 wr∧Hid (itemsE 2 r (prevK its r) (its.drop r)=itemsE 2 0 [] its)) (fun i _=>its.length-(intOf i).toNat)
   case atStart=>exact⟨0,Nat.zero_le _,rfl,ho1,hQ rfl⟩
   case round=>
    obtain⟨r,hr,rfl,ho,heq⟩:=hrel;obtain⟨⟨q0,q1,q2,q3,q4⟩,z0,hle⟩:=FA.out wr ho;rcases Nat.lt_or_ge r its.length with hlt | hge
    · have heq1:=heq.out
      rw [drop_at hlt,itemsE_cons] at heq1;have HE:=hQ heq1;have KC:=fun wx hx=>hQ (rkey_any h 2 l nx a ad c d cd its HI.out (.inr rfl) r hlt wx hx)
      have hpr:=hQ (prevK_succ hlt);have RD2:=hQ RD.out;obtain⟨b,off,ak,ck,av,cv,rfl,hbk,hbv,hcell⟩:=RD.out r hlt;clear heq heq1;generalize its[r]=x at*;have HO:=hQ ho;clear ho;go_wp2_with fail
      refine(KC _ hle).out.mono ?_;rintro e w2 ⟨rfl,ho2⟩;have HO2:=hQ (HO.out.trans ho2);clear q0 q1 q2 q3 q4 z0 hle ho2;obtain⟨⟨q0,q1,q2,q3,q4⟩,z0,hle⟩:=FA.out w2 HO2.out;cases hK:keyOk 2 r x with
      | false=>
        go_wp2;go_ret;refine⟨?_,HO0.out.trans HO2.out⟩;rw [← HE.out,show itemE 2 r (prevK its r) x=7 by unfold itemE;rw [if_pos hK]];rfl
      | true=>
        obtain⟨c0,c1,c2,c3⟩:=hcell w2 hle;rcases r with _ | j
        · skip
          have hR:ordOk 0 (prevK its 0) x=true:=rfl;simp only [Nat.zero_mul,Nat.add_zero] at c0 c1 c2 c3;go_wp2_with fail
          go_quiet (fail)
          go_wp2_with fail
          refine wS 80 [0,1,2,3,4,5] [(6,[7],[1,2,3,4])] ?_;refine wpQ_all _ rfl rfl ?_;simp only [pick,pQ];iterate 6 (go_big_quiet_step (fail))
          refine wpQuiet_nil ?_;refine wpRest_act rfl ?_;go_wp2_with fail
          refine(rvalue_any 2 l nx _ _ x ak av ck cv (.inr rfl) _).mono ?_;rintro e w4 ⟨rfl,ho4⟩;have HO4:=hQ ((HO2.out.drewN _).trans ho4);clear q0 q1 q2 q3 q4 z0 hle c0 c1 c2 c3;obtain⟨⟨q0,q1,q2,q3,q4⟩,z0,hle⟩:=FA.out w4 HO4.out;obtain⟨c0,c1,c2,c3⟩:=hcell w4 hle;simp only [Nat.zero_mul,Nat.add_zero] at c0 c1 c2 c3;go_wp2;refine onN_mk ?_;refine wpQ_all _ rfl rfl ?_;simp only [pick,pQ]
          iterate 1 (go_big_quiet_step (fail))
          refine wpQuiet_nil ⟨?_,?_⟩
          · exact cQ
          refine wpRest_nil ?_;cases hV:valOk 2 x with
          | false=>
            go_wp2;go_ret;refine⟨?_,HO0.out.trans HO4.out⟩;rw [← HE.out,show itemE 2 (0) (prevK its (0)) x=8 by unfold itemE;rw [if_neg (by rw [hK];decide),if_neg (by rw [hR];decide),if_pos hV]];rfl
          | true=>
          go_wp2_with fail
          refine wS 80 [0,1,2,3,4,5] [(6,[7],[1,2,3,4])] ?_;refine wpQ_all _ rfl rfl ?_;simp only [pick,pQ];iterate 6 (go_big_quiet_step (fail))
          refine wpQuiet_nil ?_;refine wpRest_act rfl ?_;go_wp2_with fail
          refine(rchild_any 2 l nx _ _ x _ _ (.inr rfl) _).mono ?_;rintro e w5 ⟨rfl,ho5⟩;have HO5:=hQ (HO4.out.drew.trans ho5);clear q0 q1 q2 q3 q4 z0 hle c0 c1 c2 c3;obtain⟨⟨q0,q1,q2,q3,q4⟩,z0,hle⟩:=FA.out w5 HO5.out;obtain⟨c0,c1,c2,c3⟩:=hcell w5 hle;simp only [Nat.zero_mul,Nat.add_zero] at c0 c1 c2 c3;go_wp2;refine onN_mk ?_;refine wpQ_all _ rfl rfl ?_;simp only [pick,pQ]
          iterate 1 (go_big_quiet_step (fail))
          refine wpQuiet_nil ⟨?_,?_⟩
          · exact cQ
          refine wpRest_nil ?_;cases hC:kidOk 2 x with
          | false=>
            go_wp2;go_ret;refine⟨?_,HO0.out.trans HO5.out⟩;rw [← HE.out,show itemE 2 (0) (prevK its (0)) x=15 by unfold itemE;rw [if_neg (by rw [hK];decide),if_neg (by rw [hR];decide),if_neg (by rw [hV];decide),if_pos hC]];rfl
          | true=>
          go_wp2;go_roundw
          case rel=>
           refine⟨0+1,by omega,congrArg (Value.int .i64) (by omega),HO5.out,hQ ?_⟩;rw [← HE.out,hpr.out,show itemE 2 (0) (prevK its (0)) x=0 by unfold itemE;rw [if_neg (by rw [hK];decide),if_neg (by rw [hR];decide),if_neg (by rw [hV];decide),if_neg (by rw [hC];decide)]];rfl
          case measure=>simp [intOf];omega
        · have hj:j<its.length:=by omega
          obtain⟨b',off',ak',ck',av',cv',ea',hbk',_,hcell'⟩:=RD2.out j hj;have epr:prevK its (j+1)=its[j].key:=prevK_succ hj;rw [epr] at HE;generalize its[j]=y at*;skip
          cases ea';obtain⟨d0,d1,d2,d3⟩:=hcell' w2 hle;go_wp2_with fail
          refine wS 80 [0,1,2,3,4,5,6,7,8,9,10,11,12,13,14,15] [(16,[17,18],[0,1,3,4,5,6,7,9,10,11,12,13,14])] ?_;refine wpQ_all _ rfl rfl ?_;simp only [pick,pQ];iterate 16 (go_big_quiet_step (fail))
          refine wpQuiet_nil ?_;refine wpRest_act rfl ?_;go_wp2_with fail
          refine(compare_any h h _ _ x.key y.key hbk hbk' (keyOk_len hK) _ (le_only hle ((Only.refl _).drew)) (le_only hle ((Only.refl _).drew))).mono ?_;rintro e w3 ⟨rfl,ho3⟩;have HO3:=hQ (HO2.out.drew.trans ho3);clear q0 q1 q2 q3 q4 z0 hle c0 c1 c2 c3 d0 d1 d2 d3;obtain⟨⟨q0,q1,q2,q3,q4⟩,z0,hle⟩:=FA.out w3 HO3.out;obtain⟨c0,c1,c2,c3⟩:=hcell w3 hle;obtain⟨d0,d1,d2,d3⟩:=hcell' w3 hle;go_wp2
          refine onN_mk ?_;refine wpQ_all _ rfl rfl ?_;simp only [pick,pQ];iterate 2 (go_big_quiet_step (fail))
          refine wpQuiet_nil ⟨?_,?_⟩
          · exact cQ
          refine wpRest_nil ?_;cases hR0:decide (cmpI x.key y.key≤0) with
          | true=>
            go_wp2;go_ret;refine⟨?_,HO0.out.trans HO3.out⟩;have hR:ordOk (j+1) y.key x=false:=by have:=of_decide_eq_true hR0;unfold ordOk;rw [decide_eq_false_iff_not];omega
            rw [← HE.out,show itemE 2 (j+1) y.key x=11 by unfold itemE;rw [if_neg (by rw [hK];decide),if_pos hR]];rfl
          | false=>
          have hR:ordOk (j+1) y.key x=true:=by have:=of_decide_eq_false hR0;unfold ordOk;rw [decide_eq_true_eq];omega
          rw [← epr] at hR HE;go_wp2_with fail
          refine wS 80 [0,1,2,3,4,5] [(6,[7],[1,2,3,4])] ?_;refine wpQ_all _ rfl rfl ?_;simp only [pick,pQ];iterate 6 (go_big_quiet_step (fail))
          refine wpQuiet_nil ?_;refine wpRest_act rfl ?_;go_wp2_with fail
          refine(rvalue_any 2 l nx _ _ x ak av ck cv (.inr rfl) _).mono ?_;rintro e w4 ⟨rfl,ho4⟩;have HO4:=hQ (HO3.out.drew.trans ho4);clear q0 q1 q2 q3 q4 z0 hle c0 c1 c2 c3;obtain⟨⟨q0,q1,q2,q3,q4⟩,z0,hle⟩:=FA.out w4 HO4.out;obtain⟨c0,c1,c2,c3⟩:=hcell w4 hle;go_wp2;refine onN_mk ?_;refine wpQ_all _ rfl rfl ?_;simp only [pick,pQ];iterate 1 (go_big_quiet_step (fail))
          refine wpQuiet_nil ⟨?_,?_⟩
          · exact cQ
          refine wpRest_nil ?_;cases hV:valOk 2 x with
          | false=>
            go_wp2;go_ret;refine⟨?_,HO0.out.trans HO4.out⟩;rw [← HE.out,show itemE 2 (j+1) (prevK its (j+1)) x=8 by unfold itemE;rw [if_neg (by rw [hK];decide),if_neg (by rw [hR];decide),if_pos hV]];rfl
          | true=>
          go_wp2_with fail
          refine wS 80 [0,1,2,3,4,5] [(6,[7],[1,2,3,4])] ?_;refine wpQ_all _ rfl rfl ?_;simp only [pick,pQ];iterate 6 (go_big_quiet_step (fail))
          refine wpQuiet_nil ?_;refine wpRest_act rfl ?_;go_wp2_with fail
          refine(rchild_any 2 l nx _ _ x _ _ (.inr rfl) _).mono ?_;rintro e w5 ⟨rfl,ho5⟩;have HO5:=hQ (HO4.out.drew.trans ho5);clear q0 q1 q2 q3 q4 z0 hle c0 c1 c2 c3;obtain⟨⟨q0,q1,q2,q3,q4⟩,z0,hle⟩:=FA.out w5 HO5.out;obtain⟨c0,c1,c2,c3⟩:=hcell w5 hle;go_wp2;refine onN_mk ?_;refine wpQ_all _ rfl rfl ?_;simp only [pick,pQ];iterate 1 (go_big_quiet_step (fail))
          refine wpQuiet_nil ⟨?_,?_⟩
          · exact cQ
          refine wpRest_nil ?_;cases hC:kidOk 2 x with
          | false=>
            go_wp2;go_ret;refine⟨?_,HO0.out.trans HO5.out⟩;rw [← HE.out,show itemE 2 (j+1) (prevK its (j+1)) x=15 by unfold itemE;rw [if_neg (by rw [hK];decide),if_neg (by rw [hR];decide),if_neg (by rw [hV];decide),if_pos hC]];rfl
          | true=>
          go_wp2;go_roundw
          case rel=>
           refine⟨j+1+1,by omega,congrArg (Value.int .i64) (by omega),HO5.out,hQ ?_⟩;rw [← HE.out,hpr.out,show itemE 2 (j+1) (prevK its (j+1)) x=0 by unfold itemE;rw [if_neg (by rw [hK];decide),if_neg (by rw [hR];decide),if_neg (by rw [hV];decide),if_neg (by rw [hC];decide)]];rfl
          case measure=>simp [intOf];omega
    · have hrl:r=its.length:=by omega
      subst hrl;have heq1:=heq.out;rw [List.drop_length] at heq1;have HE:=hQ heq1;clear heq heq1;go_wp2;go_ret;refine⟨?_,HO0.out.trans ho⟩;rw [← HE.out];rfl
theorem rcheck_val(a ad:Option Addr)(c d cd:Nat)(nx:Int)(hd:1≤d∧d≤480)(w:World):
 Calls Tryz.prog 22 #[pageV 3 0 (.slice a 0 c) (.slice ad d cd) nx] w fun e w'=>e= .returned (.int .i64 (if nextOk nx then 0 else 15))∧Only w w':=by
 have hf:formP 3 0 0 d nx=true:=by unfold formP;rw [if_neg (by decide),if_neg (by decide),decide_eq_true_eq];exact⟨rfl,rfl,hd⟩
 have C:=fun wx=>hQ (rform_any a ad 0 c d cd 3 0 nx (by omega) wx)
 rw [hf] at C;obtain⟨R,hR⟩:∃R:Int,R=(if nextOk nx then 0 else 15):=⟨_,rfl⟩;rw [← hR];have HR:=hQ hR;clear hR;obtain⟨w0,hw0⟩:∃w0,w.alloc (.cells #[.int .i64 3,.int .i64 0,.slice a 0 c,.slice ad d cd,.int .i64 nx] 74)=w0:=⟨_,rfl⟩;have ho0:Only w w0:=hw0 ▸ (Only.refl w).alloc _
 have facts:∀wr,Only w0 wr→(wr.cell? ⟨w.heap.size,0,none⟩=some (.int .i64 3)∧wr.cell? ⟨w.heap.size,1,none⟩=some (.int .i64 0)∧wr.cell? ⟨w.heap.size,2,none⟩=some (.slice a 0 c)∧wr.cell? ⟨w.heap.size,3,none⟩=some (.slice ad d cd)∧wr.cell? ⟨w.heap.size,4,none⟩=some (.int .i64 nx))∧w.heap.size<wr.heap.size:=by
  intro wr ho;subst hw0;have hn:=heap_new w (.cells #[.int .i64 3,.int .i64 0,.slice a 0 c,.slice ad d cd,.int .i64 nx] 74);have hc:∀i v,(#[.int .i64 3,.int .i64 0,.slice a 0 c,.slice ad d cd,.int .i64 nx]:Array Value)[i]? =some v→wr.cell? ⟨w.heap.size,i,none⟩=some v:=fun i v e=>ho.cell (by rw [cell_of_heap hn];exact e)
  refine⟨⟨hc 0 _ rfl,hc 1 _ rfl,hc 2 _ rfl,hc 3 _ rfl,hc 4 _ rfl⟩,Nat.lt_of_lt_of_le (by simp) ho.st.size⟩
 have FA:=hQ facts;have HO0:=hQ ho0;clear facts ho0;obtain⟨⟨q0,q1,q2,q3,q4⟩,z0⟩:=FA.out w0 (Only.refl _);go_enter Tryz.func22,Tryz.ntmps22
 go_wp2_with fail
 refine(C _).out.mono ?_;rintro e w1 ⟨rfl,ho1⟩;have HO1:=hQ ho1;clear q0 q1 q2 q3 q4 z0 ho1;obtain⟨⟨q0,q1,q2,q3,q4⟩,z0⟩:=FA.out w1 HO1.out;go_wp2_with fail
 go_loopw [3] (fun i wr=>i= .int .i64 0∧wr=w1) (fun _ _=>0)
 case atStart=>exact⟨rfl,rfl⟩
 case round=>
  obtain⟨rfl,rfl⟩:=hrel;by_cases hn:nx=0
  · subst hn
    go_wp2;go_ret;exact⟨(by rw [HR.out];rfl),HO0.out.trans HO1.out⟩
  · have hn0:(nx != 0)=true:=by rw [bne_iff_ne];exact hn
    go_wp2_with fail
    refine(risPage_any _ _).mono ?_;rintro e w5 ⟨rfl,rfl⟩;have e1:nextOk nx=isPg nx:=by unfold nextOk;rw [decide_eq_false hn,Bool.false_or]
    have HR2:=HR.out;rw [e1] at HR2;cases hP:isPg nx with
    | true=>
      rw [hP] at HR2;go_wp2;go_ret;exact⟨(by rw [HR2];rfl),HO0.out.trans HO1.out⟩
    | false=>
      rw [hP] at HR2;go_wp2;go_ret;exact⟨(by rw [HR2];rfl),HO0.out.trans HO1.out⟩
theorem rcheck_any(g:PageV)(h:Hp)(pv:Value)(hp:PageIn h pv g)(w:World)(hh:h.le w):
 Calls Tryz.prog 22 #[pv] w fun e w'=>e= .returned (.int .i64 (checkP g))∧Only w w':=by
 obtain⟨vi,vd,rfl,hi,hd⟩:=hp;obtain⟨ai,ci,rfl,_,_⟩:=items_rd hi;obtain⟨ad,cd,rfl⟩:=bytes_shape hd;unfold checkP;by_cases hk:1≤g.kind∧g.kind≤3
 · rw [if_neg (by unfold Go.Cop.kindOk;rw [decide_eq_true hk];simp)]
   cases hf:formP g.kind g.level g.items.length g.data.length g.next with
   | false=>
     rw [if_pos rfl];exact rcheck_form _ _ _ _ _ _ _ _ _ (by omega) hf _
   | true=>
     rw [if_neg (by decide)];obtain⟨k,l,its,da,nx⟩:=g;dsimp only at*;have hk3:(k=1∨k=2)∨k=3:=by omega
     rcases hk3 with hk3 | rfl
     · have hnx:nextOk nx=true:=by
        have:nx=0:=by unfold formP at hf;rcases hk3 with rfl | rfl<;>simp at hf<;>omega
        subst this;rfl
       rw [hnx,if_pos rfl,thenE_zero];exact rcheck_items h _ _ _ _ _ _ _ _ _ hi hk3 hf _ hh
     · unfold formP at hf
       rw [if_neg (by decide),if_neg (by decide),decide_eq_true_eq] at hf;obtain⟨rfl,h2,h3⟩:=hf;have:its= []:=List.eq_nil_of_length_eq_zero h2
       subst this;exact rcheck_val _ _ _ _ _ _ h3 _
 · rw [if_pos (by unfold Go.Cop.kindOk;exact decide_eq_false hk)]
   exact rcheck_kind _ _ _ _ _ _ _ _ _ hk _
end Go.Proofs.YtkfjilnmnbeokaaGreat.J4
