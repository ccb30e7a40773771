/- (*Pool).turn: one walk; the conditions stand as hypotheses. -/
import Derived.Test.YtpfafhklppondaaGreatVaultCountsM09
import Derived.Test.YtpfafhklppondaaGreatVaultCountsM01
set_option maxRecDepth 100000
set_option maxHeartbeats 16000000
namespace Go.Proofs.YtpfafhklppondaaGreat.Q3
open ChangeShapes WideShapes ChangeAt RowKit Sl Cop M2 P3
abbrev PAddr(p:Nat):Value:= .pointer (some ⟨p,0,none⟩)
theorem many_le {s:PoolS}(h:PoolOk s)(k:Int):0≤s.tally k∧s.tally k≤65536:=by
 unfold PoolS.tally;split
 · omega
 · have h1:s.many k≤s.counts.length:=by
    unfold PoolS.many;refine Nat.le_trans (List.length_filter_le _ _) ?_;simp
    have:=h.len
    omega
   have:=h.n2
   omega
theorem turn_tally {s:PoolS}(h:PoolOk s){n b:Int}(hn:s.there n)(k:Int)(hk:1≤k∧k≤4):
 (s.turn n b).tally k=s.tally k-(if s.state n=k then 1 else 0)+(if(s.turn n b).state n=k then 1 else 0):=by
 have h1:=turn_many h (b:=b) hn k;rw [turn_state hn,if_pos rfl];unfold PoolS.tally;rw [if_neg (by omega),if_neg (by omega)];by_cases c1:s.state n=k<;>by_cases c2:stateOf (s.count n+b) (s.lasts n)=k
 all_goals
  simp only [c1,c2,if_true,if_false] at h1 ⊢;omega
theorem turn_free {s:PoolS}{n b:Int}(hn:s.there n)(m:Int):(s.turn n b).state m=1↔if m=n then(s.turn n b).state n=1 else s.state m=1:=by
 rw [turn_state hn,turn_state hn,if_pos rfl];split<;>rfl
theorem turn_store {s:PoolS}{n b:Int}{bc cc:Nat}{A F:Pr}{w:World}(hn:s.there n)
 (h:Sat (A.star ((IntsRow (.slice (some ⟨bc,0,none⟩) s.counts.length cc) s.counts).star F)) w):
 Sat (A.star ((IntsRow (.slice (some ⟨bc,0,none⟩) s.counts.length cc) (s.turn n b).counts).star F)) (w.setCell ⟨bc,n.toNat-1,none⟩ (.int .i64 (s.count n+b))):=by
 obtain⟨h1,h2⟩:=hn;have h3:Sat ((Row 3 1 (.slice (some ⟨bc,0,none⟩) s.counts.length cc) s.counts.length (s.counts.map (Value.int .i64))).star (A.star F)) w:=h.perm (Pr.left_comm _ _ _);have h4:=Row.set h3 (i:=n.toNat-1) (by omega) (.int .i64 (s.count n+b));rw [← List.map_set] at h4;have h5:=h4.perm (Pr.left_comm _ _ _);unfold IntsRow
 have e:(s.turn n b).counts.length=s.counts.length:=by simp [PoolS.turn]
 rw [e];exact h5
theorem Row.ne {T k b n cap p:Nat}{o:Obj}{xs:List Value}{F:Pr}{w:World}(h:Sat ((Pr.pts p o).star ((Row T k (.slice (some ⟨b,0,none⟩) n cap) n xs).star F)) w)(_h0:0<n):p≠b:=by
 obtain⟨_,(⟨e,_,_⟩ | ⟨b',cap',sp,e,_,_,_,h4⟩)⟩:=Row.open' (h.perm (Pr.left_comm _ _ _))
 · cases e
 · cases e
   exact(h4.perm (Pr.left_comm _ _ _)).pts_ne
theorem turn_end {p:Nat}{s:PoolS}{n b:Int}{cv:Value}{fb:Nat}{av:Value}{F:Pr}{w:World}(ok:PoolOk (s.turn n b))(lv:Value)
 (h:Sat ((SetOf fb fun m=>(s.turn n b).state m=1).star ((Pr.pts p (.cells (poolCells (s.turn n b) cv lv fb av) 112)).star ((IntsRow cv (s.turn n b).counts).star ((BoolsRow lv s.last).star ((ActsA p av s.acts).star F))))) w):
 Sat ((PoolA p (s.turn n b)).star F) w:=by
 refine poolA_iff.2 ⟨ok,cv,lv,fb,av,?_⟩;unfold PoolAt;exact h.perm (show _=((Pr.pts p (.cells (poolCells (s.turn n b) cv lv fb av) 112)).star ((IntsRow cv (s.turn n b).counts).star ((BoolsRow lv s.last).star ((SetOf fb fun m=>(s.turn n b).state m=1).star (ActsA p av s.acts))))).star F from by ac_rfl)
theorem free_same {s:PoolS}{n b:Int}(hS:∀m,(s.turn n b).state m=1↔if m=n then(s.turn n b).state n=1 else s.state m=1)(hk:s.state n=1↔(s.turn n b).state n=1){fb:Nat}:
 (SetOf fb fun m=>(s.turn n b).state m=1)=SetOf fb fun m=>s.state m=1:=
 setOf_congr fun m=>by
  rw [hS];split
  · rename_i h;rw [h];exact hk.symm
  · rfl
theorem free_rem {s:PoolS}{n b:Int}(hS:∀m,(s.turn n b).state m=1↔if m=n then(s.turn n b).state n=1 else s.state m=1)(hk:s.state n=1∧(s.turn n b).state n≠1){fb:Nat}:
 (SetOf fb fun m=>(s.turn n b).state m=1)=SetOf fb fun m=>s.state m=1∧m≠n:=
 setOf_congr fun m=>by
  rw [hS];split
  · rename_i h;exact⟨fun h1=>absurd h1 hk.2,fun h1=>absurd h h1.2⟩
  · rename_i h;exact⟨fun h1=>⟨h1,h⟩,fun h1=>h1.1⟩
theorem free_add {s:PoolS}{n b:Int}(hS:∀m,(s.turn n b).state m=1↔if m=n then(s.turn n b).state n=1 else s.state m=1)(hk:(s.turn n b).state n=1){fb:Nat}:
 (SetOf fb fun m=>(s.turn n b).state m=1)=SetOf fb fun m=>m=n∨s.state m=1:=
 setOf_congr fun m=>by
  rw [hS];split
  · rename_i h;exact⟨fun _=> .inl h,fun _=>hk⟩
  · rename_i h;exact⟨fun h1=> .inr h1,fun h1=>h1.resolve_left h⟩
theorem free_small {s:PoolS}(ok:PoolOk s)(m:Int)(h:s.state m=1):1≤m∧m≤65536:=by
 unfold PoolS.state at h;split at h
 · rename_i ht
   have:=ok.n2
   exact⟨ht.1,by have:=ht.2;omega⟩
 · omega
theorem turn_any(p:Nat)(s:PoolS)(n b:Int)(F:Pr)(w:World)(hF:Sat ((PoolA p s).star F) w)(hn:s.there n)(h0:0≤s.count n+b)(h1:s.count n+b≤65536):
 Calls Tryz.prog 162 #[.pointer (some ⟨p,0,none⟩),.int .i64 n,.int .i64 b] w fun e w'=>
  e= .returned (.tuple #[])∧Sat ((PoolA p (s.turn n b)).star F) w'∧Stays w w':=by
 obtain⟨ok,cv,lv,fb,av,hA⟩:=poolA_iff.1 hF;have hA1:Sat ((Pr.pts p (.cells (poolCells s cv lv fb av) 112)).star ((IntsRow cv s.counts).star ((BoolsRow lv s.last).star ((SetOf fb fun m=>s.state m=1).star ((ActsA p av s.acts).star F))))) w:=hA.perm (by unfold PoolAt;ac_rfl);have rd0:PoolRd w p s:=pool_rd ok.len ok.n1 ok.n2 rfl rfl rfl hA1
 obtain⟨bc,cc,hcv,hc⟩:=ints_read hA1.right (by have:=ok.n1;omega);subst hcv;have hb0:=count_bd ok n;have hn':=hn;obtain⟨n1,n2⟩:=hn';have n3:=ok.n2;obtain⟨i1,i2⟩:=hc (n.toNat-1) (by omega);have hcount:s.counts.getD (n.toNat-1) 0=s.count n:=by unfold PoolS.count;rw [if_pos hn]
 rw [hcount] at i1;have hA2:=turn_store (b:=b) hn hA1;have okT:=turn_ok ok h0 h1;have rd1:=pool_rd (s:=s.turn n b) (cs:=poolCells s (.slice (some ⟨bc,0,none⟩) s.counts.length cc) lv fb av) okT.len okT.n1 okT.n2 rfl rfl rfl hA2;have c0:=state_any p n w s rd0;have c1:=state_any p n _ (s.turn n b) rd1
 have p1:w.cell? ⟨p,1,none⟩=some (.slice (some ⟨bc,0,none⟩) s.counts.length cc):=by rw [cell_of_heap hA1.pts_heap];rfl
 have T1:=turn_tally ok (b:=b) hn 1 (by omega);have T2:=turn_tally ok (b:=b) hn 2 (by omega);have T3:=turn_tally ok (b:=b) hn 3 (by omega);have T4:=turn_tally ok (b:=b) hn 4 (by omega);have B1:=many_le ok 1;have B2:=many_le ok 2;have B3:=many_le ok 3;have B4:=many_le ok 4;have hS:=turn_free (b:=b) hn
 have hk:(s.state n=1∧(s.turn n b).state n=1)∨(s.state n=1∧(s.turn n b).state n=3)∨(s.state n=3∧(s.turn n b).state n=1)∨(s.state n=3∧(s.turn n b).state n=3)∨
  (s.state n=2∧(s.turn n b).state n=2)∨(s.state n=2∧(s.turn n b).state n=4)∨(s.state n=4∧(s.turn n b).state n=2)∨(s.state n=4∧(s.turn n b).state n=4):=by
  rw [turn_state hn,if_pos rfl,state_there hn];unfold stateOf;cases s.lasts n<;>by_cases u1:0<s.count n<;>by_cases u2:0<s.count n+b<;>simp [u1,u2]
 have p3:w.cell? ⟨p,3,none⟩=some (.pointer (some ⟨fb,0,none⟩)):=by rw [cell_of_heap hA1.pts_heap];rfl
 have p5:w.cell? ⟨p,5,none⟩=some (.int .i64 (s.tally 1)):=by rw [cell_of_heap hA1.pts_heap];rfl
 have p6:w.cell? ⟨p,6,none⟩=some (.int .i64 (s.tally 2)):=by rw [cell_of_heap hA1.pts_heap];rfl
 have p7:w.cell? ⟨p,7,none⟩=some (.int .i64 (s.tally 3)):=by rw [cell_of_heap hA1.pts_heap];rfl
 have p8:w.cell? ⟨p,8,none⟩=some (.int .i64 (s.tally 4)):=by rw [cell_of_heap hA1.pts_heap];rfl
 have f5:=frozen_of_heap hA1.pts_heap 5;have f6:=frozen_of_heap hA1.pts_heap 6;have f7:=frozen_of_heap hA1.pts_heap 7;have f8:=frozen_of_heap hA1.pts_heap 8;have hne:p≠bc:=Row.ne hA1 (by have:=ok.n1;omega);have HA2:=hQ hA2;have HS:=hQ hS;have HB:=hQ (free_small ok);clear hA2 hA1 hA hc hcount hS hF rd0 rd1;rcases hk with⟨k0,k1⟩ | ⟨k0,k1⟩ | ⟨k0,k1⟩ | ⟨k0,k1⟩ | ⟨k0,k1⟩ | ⟨k0,k1⟩ | ⟨k0,k1⟩ | ⟨k0,k1⟩
 all_goals
  rw [k0] at c0;rw [k1] at c1;have C0:=hQ c0;have C1:=hQ c1;clear c0 c1
 · have he:((poolCells s (.slice (some ⟨bc,0,none⟩) s.counts.length cc) lv fb av).setIfInBounds 5 (.int .i64 (s.tally 1-1))).setIfInBounds 5 (.int .i64 (s.tally 1))=poolCells (s.turn n b) (.slice (some ⟨bc,0,none⟩) s.counts.length cc) lv fb av:=by
    have t1:(s.turn n b).tally 1=s.tally 1:=by rw [T1,k0,k1];simp
    have t2:(s.turn n b).tally 2=s.tally 2:=by rw [T2,k0,k1];simp
    have t3:(s.turn n b).tally 3=s.tally 3:=by rw [T3,k0,k1];simp
    have t4:(s.turn n b).tally 4=s.tally 4:=by rw [T4,k0,k1];simp
    unfold poolCells;rw [t1,t2,t3,t4];rfl
   have hE0:=((HA2.out.setCell (i:=5) (.int .i64 (s.tally 1-1))).setCell (i:=5) (.int .i64 (s.tally 1))).drew.drew;rw [he] at hE0
   have HE:=hQ (hE0.perm (show _=(SetOf fb fun m=>s.state m=1).star ((Pr.pts p (.cells (poolCells (s.turn n b) (.slice (some ⟨bc,0,none⟩) s.counts.length cc) lv fb av) 112)).star ((IntsRow (.slice (some ⟨bc,0,none⟩) s.counts.length cc) (s.turn n b).counts).star ((BoolsRow lv s.last).star ((ActsA p av s.acts).star F)))) from by ac_rfl));have HKK:=hQ ((by omega:s.state n=1↔(s.turn n b).state n=1))
   clear he hE0 T1 T2 T3 T4 k0 k1;go_enter Tryz.func162,Tryz.ntmps162
   go_wp2_with fail
   refine C0.out.mono ?_;rintro e w' ⟨rfl,rfl⟩;go_wp2_with fail
   refine C1.out.mono ?_;rintro e w' ⟨rfl,rfl⟩;go_wp2;refine wS 66 [0,1,2,3,4,5,6,7,8,9] [(10,[],[7,8])] ?_;iterate 10 (refine wpQ_step rfl rfl (fun K hK=> ?_);go_simp;refine hK _ ?_;clear hK K)
   refine wpQ_nil ?_;refine wpRest_act rfl ?_;go_wp2;refine onN_mk (wpQ_nil ⟨?_,wpRest_nil ?_⟩)
   · refine chk_cons ?_ (chk_cons ?_ chk_nil)<;>(refine yieldF_of rfl rfl rfl rfl ?_;go_simp;try omega)
   go_wp2;refine wS 66 [0,1,2,3,4,5,6,7,8,9] [(10,[],[7,8])] ?_;iterate 10 (refine wpQ_step rfl rfl (fun K hK=> ?_);go_simp;refine hK _ ?_;clear hK K)
   refine wpQ_nil ?_;refine wpRest_act rfl ?_;go_wp2;refine onN_mk (wpQ_nil ⟨?_,wpRest_nil ?_⟩)
   · refine chk_cons ?_ (chk_cons ?_ chk_nil)<;>(refine yieldF_of rfl rfl rfl rfl ?_;go_simp;try omega)
   go_wp2;first | refine bodyPost_ret (results_none rfl _ _ _) rfl ?_ | go_end0
   refine⟨rfl,turn_end okT lv (HE.out.perm (by rw [free_same HS.out HKK.out])),?_⟩;exact(((((Stays.refl w).setCell _ _).setCell _ _).setCell _ _)).drew.drew
 · have he:((poolCells s (.slice (some ⟨bc,0,none⟩) s.counts.length cc) lv fb av).setIfInBounds 5 (.int .i64 (s.tally 1-1))).setIfInBounds 7 (.int .i64 (s.tally 3+1))=poolCells (s.turn n b) (.slice (some ⟨bc,0,none⟩) s.counts.length cc) lv fb av:=by
    have t1:(s.turn n b).tally 1=s.tally 1-1:=by rw [T1,k0,k1];simp
    have t2:(s.turn n b).tally 2=s.tally 2:=by rw [T2,k0,k1];simp
    have t3:(s.turn n b).tally 3=s.tally 3+1:=by rw [T3,k0,k1];simp
    have t4:(s.turn n b).tally 4=s.tally 4:=by rw [T4,k0,k1];simp
    unfold poolCells;rw [t1,t2,t3,t4];rfl
   have hE0:=((HA2.out.setCell (i:=5) (.int .i64 (s.tally 1-1))).setCell (i:=7) (.int .i64 (s.tally 3+1))).drew.drew;rw [he] at hE0
   have HE:=hQ (hE0.perm (show _=(SetOf fb fun m=>s.state m=1).star ((Pr.pts p (.cells (poolCells (s.turn n b) (.slice (some ⟨bc,0,none⟩) s.counts.length cc) lv fb av) 112)).star ((IntsRow (.slice (some ⟨bc,0,none⟩) s.counts.length cc) (s.turn n b).counts).star ((BoolsRow lv s.last).star ((ActsA p av s.acts).star F)))) from by ac_rfl));have HKK:=hQ (And.intro k0 (by omega:(s.turn n b).state n≠1))
   clear he hE0 T1 T2 T3 T4 k0 k1;go_enter Tryz.func162,Tryz.ntmps162
   go_wp2_with fail
   refine C0.out.mono ?_;rintro e w' ⟨rfl,rfl⟩;go_wp2_with fail
   refine C1.out.mono ?_;rintro e w' ⟨rfl,rfl⟩;go_wp2;refine wS 66 [0,1,2,3,4,5,6,7,8,9] [(10,[],[7,8])] ?_;iterate 10 (refine wpQ_step rfl rfl (fun K hK=> ?_);go_simp;refine hK _ ?_;clear hK K)
   refine wpQ_nil ?_;refine wpRest_act rfl ?_;go_wp2;refine onN_mk (wpQ_nil ⟨?_,wpRest_nil ?_⟩)
   · refine chk_cons ?_ (chk_cons ?_ chk_nil)<;>(refine yieldF_of rfl rfl rfl rfl ?_;go_simp;try omega)
   go_wp2;refine wS 66 [0,1,2,3,4,5,6,7,8,9] [(10,[],[7,8])] ?_;iterate 10 (refine wpQ_step rfl rfl (fun K hK=> ?_);go_simp;refine hK _ ?_;clear hK K)
   refine wpQ_nil ?_;refine wpRest_act rfl ?_;go_wp2;refine onN_mk (wpQ_nil ⟨?_,wpRest_nil ?_⟩)
   · refine chk_cons ?_ (chk_cons ?_ chk_nil)<;>(refine yieldF_of rfl rfl rfl rfl ?_;go_simp;try omega)
   go_wp2_with fail
   refine(set_remove fb (fun m=>s.state m=1) n ⟨n1,by omega⟩ HB.out _ _ HE.out).mono ?_;rintro e w' ⟨m,rfl,hs,hst⟩;go_wp2;first | refine bodyPost_ret (results_none rfl _ _ _) rfl ?_ | go_end0
   refine⟨rfl,turn_end okT lv ((hs.perm (by rw [free_rem (HS.out) HKK.out]))),?_⟩;exact(((((Stays.refl w).setCell _ _).setCell _ _).setCell _ _)).drew.drew.trans hst
 · have he:((poolCells s (.slice (some ⟨bc,0,none⟩) s.counts.length cc) lv fb av).setIfInBounds 7 (.int .i64 (s.tally 3-1))).setIfInBounds 5 (.int .i64 (s.tally 1+1))=poolCells (s.turn n b) (.slice (some ⟨bc,0,none⟩) s.counts.length cc) lv fb av:=by
    have t1:(s.turn n b).tally 1=s.tally 1+1:=by rw [T1,k0,k1];simp
    have t2:(s.turn n b).tally 2=s.tally 2:=by rw [T2,k0,k1];simp
    have t3:(s.turn n b).tally 3=s.tally 3-1:=by rw [T3,k0,k1];simp
    have t4:(s.turn n b).tally 4=s.tally 4:=by rw [T4,k0,k1];simp
    unfold poolCells;rw [t1,t2,t3,t4];rfl
   have hE0:=((HA2.out.setCell (i:=7) (.int .i64 (s.tally 3-1))).setCell (i:=5) (.int .i64 (s.tally 1+1))).drew.drew;rw [he] at hE0
   have HE:=hQ (hE0.perm (show _=(SetOf fb fun m=>s.state m=1).star ((Pr.pts p (.cells (poolCells (s.turn n b) (.slice (some ⟨bc,0,none⟩) s.counts.length cc) lv fb av) 112)).star ((IntsRow (.slice (some ⟨bc,0,none⟩) s.counts.length cc) (s.turn n b).counts).star ((BoolsRow lv s.last).star ((ActsA p av s.acts).star F)))) from by ac_rfl));have HKK:=hQ (k1);clear he hE0 T1 T2 T3 T4 k0 k1
   go_enter Tryz.func162,Tryz.ntmps162
   go_wp2_with fail
   refine C0.out.mono ?_;rintro e w' ⟨rfl,rfl⟩;go_wp2_with fail
   refine C1.out.mono ?_;rintro e w' ⟨rfl,rfl⟩;go_wp2;refine wS 66 [0,1,2,3,4,5,6,7,8,9] [(10,[],[7,8])] ?_;iterate 10 (refine wpQ_step rfl rfl (fun K hK=> ?_);go_simp;refine hK _ ?_;clear hK K)
   refine wpQ_nil ?_;refine wpRest_act rfl ?_;go_wp2;refine onN_mk (wpQ_nil ⟨?_,wpRest_nil ?_⟩)
   · refine chk_cons ?_ (chk_cons ?_ chk_nil)<;>(refine yieldF_of rfl rfl rfl rfl ?_;go_simp;try omega)
   go_wp2;refine wS 66 [0,1,2,3,4,5,6,7,8,9] [(10,[],[7,8])] ?_;iterate 10 (refine wpQ_step rfl rfl (fun K hK=> ?_);go_simp;refine hK _ ?_;clear hK K)
   refine wpQ_nil ?_;refine wpRest_act rfl ?_;go_wp2;refine onN_mk (wpQ_nil ⟨?_,wpRest_nil ?_⟩)
   · refine chk_cons ?_ (chk_cons ?_ chk_nil)<;>(refine yieldF_of rfl rfl rfl rfl ?_;go_simp;try omega)
   go_wp2_with fail
   refine(set_add fb (fun m=>s.state m=1) n ⟨n1,by omega⟩ HB.out _ _ HE.out).mono ?_;rintro e w' ⟨m,rfl,hs,hst⟩;go_wp2;first | refine bodyPost_ret (results_none rfl _ _ _) rfl ?_ | go_end0
   refine⟨rfl,turn_end okT lv ((hs.perm (by rw [free_add (HS.out) HKK.out]))),?_⟩;exact(((((Stays.refl w).setCell _ _).setCell _ _).setCell _ _)).drew.drew.trans hst
 · have he:((poolCells s (.slice (some ⟨bc,0,none⟩) s.counts.length cc) lv fb av).setIfInBounds 7 (.int .i64 (s.tally 3-1))).setIfInBounds 7 (.int .i64 (s.tally 3))=poolCells (s.turn n b) (.slice (some ⟨bc,0,none⟩) s.counts.length cc) lv fb av:=by
    have t1:(s.turn n b).tally 1=s.tally 1:=by rw [T1,k0,k1];simp
    have t2:(s.turn n b).tally 2=s.tally 2:=by rw [T2,k0,k1];simp
    have t3:(s.turn n b).tally 3=s.tally 3:=by rw [T3,k0,k1];simp
    have t4:(s.turn n b).tally 4=s.tally 4:=by rw [T4,k0,k1];simp
    unfold poolCells;rw [t1,t2,t3,t4];rfl
   have hE0:=((HA2.out.setCell (i:=7) (.int .i64 (s.tally 3-1))).setCell (i:=7) (.int .i64 (s.tally 3))).drew.drew;rw [he] at hE0
   have HE:=hQ (hE0.perm (show _=(SetOf fb fun m=>s.state m=1).star ((Pr.pts p (.cells (poolCells (s.turn n b) (.slice (some ⟨bc,0,none⟩) s.counts.length cc) lv fb av) 112)).star ((IntsRow (.slice (some ⟨bc,0,none⟩) s.counts.length cc) (s.turn n b).counts).star ((BoolsRow lv s.last).star ((ActsA p av s.acts).star F)))) from by ac_rfl));have HKK:=hQ ((by omega:s.state n=1↔(s.turn n b).state n=1))
   clear he hE0 T1 T2 T3 T4 k0 k1;go_enter Tryz.func162,Tryz.ntmps162
   go_wp2_with fail
   refine C0.out.mono ?_;rintro e w' ⟨rfl,rfl⟩;go_wp2_with fail
   refine C1.out.mono ?_;rintro e w' ⟨rfl,rfl⟩;go_wp2;refine wS 66 [0,1,2,3,4,5,6,7,8,9] [(10,[],[7,8])] ?_;iterate 10 (refine wpQ_step rfl rfl (fun K hK=> ?_);go_simp;refine hK _ ?_;clear hK K)
   refine wpQ_nil ?_;refine wpRest_act rfl ?_;go_wp2;refine onN_mk (wpQ_nil ⟨?_,wpRest_nil ?_⟩)
   · refine chk_cons ?_ (chk_cons ?_ chk_nil)<;>(refine yieldF_of rfl rfl rfl rfl ?_;go_simp;try omega)
   go_wp2;refine wS 66 [0,1,2,3,4,5,6,7,8,9] [(10,[],[7,8])] ?_;iterate 10 (refine wpQ_step rfl rfl (fun K hK=> ?_);go_simp;refine hK _ ?_;clear hK K)
   refine wpQ_nil ?_;refine wpRest_act rfl ?_;go_wp2;refine onN_mk (wpQ_nil ⟨?_,wpRest_nil ?_⟩)
   · refine chk_cons ?_ (chk_cons ?_ chk_nil)<;>(refine yieldF_of rfl rfl rfl rfl ?_;go_simp;try omega)
   go_wp2;first | refine bodyPost_ret (results_none rfl _ _ _) rfl ?_ | go_end0
   refine⟨rfl,turn_end okT lv (HE.out.perm (by rw [free_same HS.out HKK.out])),?_⟩;exact(((((Stays.refl w).setCell _ _).setCell _ _).setCell _ _)).drew.drew
 · have he:((poolCells s (.slice (some ⟨bc,0,none⟩) s.counts.length cc) lv fb av).setIfInBounds 6 (.int .i64 (s.tally 2-1))).setIfInBounds 6 (.int .i64 (s.tally 2))=poolCells (s.turn n b) (.slice (some ⟨bc,0,none⟩) s.counts.length cc) lv fb av:=by
    have t1:(s.turn n b).tally 1=s.tally 1:=by rw [T1,k0,k1];simp
    have t2:(s.turn n b).tally 2=s.tally 2:=by rw [T2,k0,k1];simp
    have t3:(s.turn n b).tally 3=s.tally 3:=by rw [T3,k0,k1];simp
    have t4:(s.turn n b).tally 4=s.tally 4:=by rw [T4,k0,k1];simp
    unfold poolCells;rw [t1,t2,t3,t4];rfl
   have hE0:=((HA2.out.setCell (i:=6) (.int .i64 (s.tally 2-1))).setCell (i:=6) (.int .i64 (s.tally 2))).drew.drew;rw [he] at hE0
   have HE:=hQ (hE0.perm (show _=(SetOf fb fun m=>s.state m=1).star ((Pr.pts p (.cells (poolCells (s.turn n b) (.slice (some ⟨bc,0,none⟩) s.counts.length cc) lv fb av) 112)).star ((IntsRow (.slice (some ⟨bc,0,none⟩) s.counts.length cc) (s.turn n b).counts).star ((BoolsRow lv s.last).star ((ActsA p av s.acts).star F)))) from by ac_rfl));have HKK:=hQ ((by omega:s.state n=1↔(s.turn n b).state n=1))
   clear he hE0 T1 T2 T3 T4 k0 k1;go_enter Tryz.func162,Tryz.ntmps162
   go_wp2_with fail
   refine C0.out.mono ?_;rintro e w' ⟨rfl,rfl⟩;go_wp2_with fail
   refine C1.out.mono ?_;rintro e w' ⟨rfl,rfl⟩;go_wp2;refine wS 66 [0,1,2,3,4,5,6,7,8,9] [(10,[],[7,8])] ?_;iterate 10 (refine wpQ_step rfl rfl (fun K hK=> ?_);go_simp;refine hK _ ?_;clear hK K)
   refine wpQ_nil ?_;refine wpRest_act rfl ?_;go_wp2;refine onN_mk (wpQ_nil ⟨?_,wpRest_nil ?_⟩)
   · refine chk_cons ?_ (chk_cons ?_ chk_nil)<;>(refine yieldF_of rfl rfl rfl rfl ?_;go_simp;try omega)
   go_wp2;refine wS 66 [0,1,2,3,4,5,6,7,8,9] [(10,[],[7,8])] ?_;iterate 10 (refine wpQ_step rfl rfl (fun K hK=> ?_);go_simp;refine hK _ ?_;clear hK K)
   refine wpQ_nil ?_;refine wpRest_act rfl ?_;go_wp2;refine onN_mk (wpQ_nil ⟨?_,wpRest_nil ?_⟩)
   · refine chk_cons ?_ (chk_cons ?_ chk_nil)<;>(refine yieldF_of rfl rfl rfl rfl ?_;go_simp;try omega)
   go_wp2;first | refine bodyPost_ret (results_none rfl _ _ _) rfl ?_ | go_end0
   refine⟨rfl,turn_end okT lv (HE.out.perm (by rw [free_same HS.out HKK.out])),?_⟩;exact(((((Stays.refl w).setCell _ _).setCell _ _).setCell _ _)).drew.drew
 · have he:((poolCells s (.slice (some ⟨bc,0,none⟩) s.counts.length cc) lv fb av).setIfInBounds 6 (.int .i64 (s.tally 2-1))).setIfInBounds 8 (.int .i64 (s.tally 4+1))=poolCells (s.turn n b) (.slice (some ⟨bc,0,none⟩) s.counts.length cc) lv fb av:=by
    have t1:(s.turn n b).tally 1=s.tally 1:=by rw [T1,k0,k1];simp
    have t2:(s.turn n b).tally 2=s.tally 2-1:=by rw [T2,k0,k1];simp
    have t3:(s.turn n b).tally 3=s.tally 3:=by rw [T3,k0,k1];simp
    have t4:(s.turn n b).tally 4=s.tally 4+1:=by rw [T4,k0,k1];simp
    unfold poolCells;rw [t1,t2,t3,t4];rfl
   have hE0:=((HA2.out.setCell (i:=6) (.int .i64 (s.tally 2-1))).setCell (i:=8) (.int .i64 (s.tally 4+1))).drew.drew;rw [he] at hE0
   have HE:=hQ (hE0.perm (show _=(SetOf fb fun m=>s.state m=1).star ((Pr.pts p (.cells (poolCells (s.turn n b) (.slice (some ⟨bc,0,none⟩) s.counts.length cc) lv fb av) 112)).star ((IntsRow (.slice (some ⟨bc,0,none⟩) s.counts.length cc) (s.turn n b).counts).star ((BoolsRow lv s.last).star ((ActsA p av s.acts).star F)))) from by ac_rfl));have HKK:=hQ ((by omega:s.state n=1↔(s.turn n b).state n=1))
   clear he hE0 T1 T2 T3 T4 k0 k1;go_enter Tryz.func162,Tryz.ntmps162
   go_wp2_with fail
   refine C0.out.mono ?_;rintro e w' ⟨rfl,rfl⟩;go_wp2_with fail
   refine C1.out.mono ?_;rintro e w' ⟨rfl,rfl⟩;go_wp2;refine wS 66 [0,1,2,3,4,5,6,7,8,9] [(10,[],[7,8])] ?_;iterate 10 (refine wpQ_step rfl rfl (fun K hK=> ?_);go_simp;refine hK _ ?_;clear hK K)
   refine wpQ_nil ?_;refine wpRest_act rfl ?_;go_wp2;refine onN_mk (wpQ_nil ⟨?_,wpRest_nil ?_⟩)
   · refine chk_cons ?_ (chk_cons ?_ chk_nil)<;>(refine yieldF_of rfl rfl rfl rfl ?_;go_simp;try omega)
   go_wp2;refine wS 66 [0,1,2,3,4,5,6,7,8,9] [(10,[],[7,8])] ?_;iterate 10 (refine wpQ_step rfl rfl (fun K hK=> ?_);go_simp;refine hK _ ?_;clear hK K)
   refine wpQ_nil ?_;refine wpRest_act rfl ?_;go_wp2;refine onN_mk (wpQ_nil ⟨?_,wpRest_nil ?_⟩)
   · refine chk_cons ?_ (chk_cons ?_ chk_nil)<;>(refine yieldF_of rfl rfl rfl rfl ?_;go_simp;try omega)
   go_wp2;first | refine bodyPost_ret (results_none rfl _ _ _) rfl ?_ | go_end0
   refine⟨rfl,turn_end okT lv (HE.out.perm (by rw [free_same HS.out HKK.out])),?_⟩;exact(((((Stays.refl w).setCell _ _).setCell _ _).setCell _ _)).drew.drew
 · have he:((poolCells s (.slice (some ⟨bc,0,none⟩) s.counts.length cc) lv fb av).setIfInBounds 8 (.int .i64 (s.tally 4-1))).setIfInBounds 6 (.int .i64 (s.tally 2+1))=poolCells (s.turn n b) (.slice (some ⟨bc,0,none⟩) s.counts.length cc) lv fb av:=by
    have t1:(s.turn n b).tally 1=s.tally 1:=by rw [T1,k0,k1];simp
    have t2:(s.turn n b).tally 2=s.tally 2+1:=by rw [T2,k0,k1];simp
    have t3:(s.turn n b).tally 3=s.tally 3:=by rw [T3,k0,k1];simp
    have t4:(s.turn n b).tally 4=s.tally 4-1:=by rw [T4,k0,k1];simp
    unfold poolCells;rw [t1,t2,t3,t4];rfl
   have hE0:=((HA2.out.setCell (i:=8) (.int .i64 (s.tally 4-1))).setCell (i:=6) (.int .i64 (s.tally 2+1))).drew.drew;rw [he] at hE0
   have HE:=hQ (hE0.perm (show _=(SetOf fb fun m=>s.state m=1).star ((Pr.pts p (.cells (poolCells (s.turn n b) (.slice (some ⟨bc,0,none⟩) s.counts.length cc) lv fb av) 112)).star ((IntsRow (.slice (some ⟨bc,0,none⟩) s.counts.length cc) (s.turn n b).counts).star ((BoolsRow lv s.last).star ((ActsA p av s.acts).star F)))) from by ac_rfl));have HKK:=hQ ((by omega:s.state n=1↔(s.turn n b).state n=1))
   clear he hE0 T1 T2 T3 T4 k0 k1;go_enter Tryz.func162,Tryz.ntmps162
   go_wp2_with fail
   refine C0.out.mono ?_;rintro e w' ⟨rfl,rfl⟩;go_wp2_with fail
   refine C1.out.mono ?_;rintro e w' ⟨rfl,rfl⟩;go_wp2;refine wS 66 [0,1,2,3,4,5,6,7,8,9] [(10,[],[7,8])] ?_;iterate 10 (refine wpQ_step rfl rfl (fun K hK=> ?_);go_simp;refine hK _ ?_;clear hK K)
   refine wpQ_nil ?_;refine wpRest_act rfl ?_;go_wp2;refine onN_mk (wpQ_nil ⟨?_,wpRest_nil ?_⟩)
   · refine chk_cons ?_ (chk_cons ?_ chk_nil)<;>(refine yieldF_of rfl rfl rfl rfl ?_;go_simp;try omega)
   go_wp2;refine wS 66 [0,1,2,3,4,5,6,7,8,9] [(10,[],[7,8])] ?_;iterate 10 (refine wpQ_step rfl rfl (fun K hK=> ?_);go_simp;refine hK _ ?_;clear hK K)
   refine wpQ_nil ?_;refine wpRest_act rfl ?_;go_wp2;refine onN_mk (wpQ_nil ⟨?_,wpRest_nil ?_⟩)
   · refine chk_cons ?_ (chk_cons ?_ chk_nil)<;>(refine yieldF_of rfl rfl rfl rfl ?_;go_simp;try omega)
   go_wp2;first | refine bodyPost_ret (results_none rfl _ _ _) rfl ?_ | go_end0
   refine⟨rfl,turn_end okT lv (HE.out.perm (by rw [free_same HS.out HKK.out])),?_⟩;exact(((((Stays.refl w).setCell _ _).setCell _ _).setCell _ _)).drew.drew
 · have he:((poolCells s (.slice (some ⟨bc,0,none⟩) s.counts.length cc) lv fb av).setIfInBounds 8 (.int .i64 (s.tally 4-1))).setIfInBounds 8 (.int .i64 (s.tally 4))=poolCells (s.turn n b) (.slice (some ⟨bc,0,none⟩) s.counts.length cc) lv fb av:=by
    have t1:(s.turn n b).tally 1=s.tally 1:=by rw [T1,k0,k1];simp
    have t2:(s.turn n b).tally 2=s.tally 2:=by rw [T2,k0,k1];simp
    have t3:(s.turn n b).tally 3=s.tally 3:=by rw [T3,k0,k1];simp
    have t4:(s.turn n b).tally 4=s.tally 4:=by rw [T4,k0,k1];simp
    unfold poolCells;rw [t1,t2,t3,t4];rfl
   have hE0:=((HA2.out.setCell (i:=8) (.int .i64 (s.tally 4-1))).setCell (i:=8) (.int .i64 (s.tally 4))).drew.drew;rw [he] at hE0
   have HE:=hQ (hE0.perm (show _=(SetOf fb fun m=>s.state m=1).star ((Pr.pts p (.cells (poolCells (s.turn n b) (.slice (some ⟨bc,0,none⟩) s.counts.length cc) lv fb av) 112)).star ((IntsRow (.slice (some ⟨bc,0,none⟩) s.counts.length cc) (s.turn n b).counts).star ((BoolsRow lv s.last).star ((ActsA p av s.acts).star F)))) from by ac_rfl));have HKK:=hQ ((by omega:s.state n=1↔(s.turn n b).state n=1))
   clear he hE0 T1 T2 T3 T4 k0 k1;go_enter Tryz.func162,Tryz.ntmps162
   go_wp2_with fail
   refine C0.out.mono ?_;rintro e w' ⟨rfl,rfl⟩;go_wp2_with fail
   refine C1.out.mono ?_;rintro e w' ⟨rfl,rfl⟩;go_wp2;refine wS 66 [0,1,2,3,4,5,6,7,8,9] [(10,[],[7,8])] ?_;iterate 10 (refine wpQ_step rfl rfl (fun K hK=> ?_);go_simp;refine hK _ ?_;clear hK K)
   refine wpQ_nil ?_;refine wpRest_act rfl ?_;go_wp2;refine onN_mk (wpQ_nil ⟨?_,wpRest_nil ?_⟩)
   · refine chk_cons ?_ (chk_cons ?_ chk_nil)<;>(refine yieldF_of rfl rfl rfl rfl ?_;go_simp;try omega)
   go_wp2;refine wS 66 [0,1,2,3,4,5,6,7,8,9] [(10,[],[7,8])] ?_;iterate 10 (refine wpQ_step rfl rfl (fun K hK=> ?_);go_simp;refine hK _ ?_;clear hK K)
   refine wpQ_nil ?_;refine wpRest_act rfl ?_;go_wp2;refine onN_mk (wpQ_nil ⟨?_,wpRest_nil ?_⟩)
   · refine chk_cons ?_ (chk_cons ?_ chk_nil)<;>(refine yieldF_of rfl rfl rfl rfl ?_;go_simp;try omega)
   go_wp2;first | refine bodyPost_ret (results_none rfl _ _ _) rfl ?_ | go_end0
   refine⟨rfl,turn_end okT lv (HE.out.perm (by rw [free_same HS.out HKK.out])),?_⟩;exact(((((Stays.refl w).setCell _ _).setCell _ _).setCell _ _)).drew.drew
end Go.Proofs.YtpfafhklppondaaGreat.Q3
namespace Go.Proofs.YtpfafhklppondaaGreat.U3
open ChangeShapes WideShapes ChangeAt RowKit Sl Cop M2 P3 Q3
theorem act1_any(p:Nat)(s:PoolS)(n b:Int)(bp bn bb:Nat)(h0:Hp)(e0:h0.cell bp 0=some (.pointer (some ⟨p,0,none⟩)))(e1:h0.cell bn 0=some (.int .i64 n))(e2:h0.cell bb 0=some (.int .i64 b))
 (F:Pr) (w:World) (hh:h0.le w) (hF:Sat ((PoolA p s).star F) w) (hn:s.there n) (h1:0≤s.count n-b) (h2:s.count n-b≤65536) (hb: -65536≤b∧b≤65536):
 Calls Tryz.prog 163 #[.pointer (some ⟨bp,0,none⟩),.pointer (some ⟨bn,0,none⟩),.pointer (some ⟨bb,0,none⟩)] w fun e w'=>
  e= .returned (.tuple #[])∧Sat ((PoolA p (s.turn n (-b))).star F) w'∧Stays w w':=by
 have r0:=Hp.cell_le hh e0;have r1:=Hp.cell_le hh e1;have r2:=Hp.cell_le hh e2;have C:=hQ (turn_any p s n (-b) F w hF hn (by omega) (by omega));clear hF;go_enter Tryz.func163,Tryz.ntmps163
 go_wp2_with fail
 refine C.out.mono ?_;rintro e w' ⟨rfl,hs,hst⟩;go_wp2;first | refine bodyPost_ret (results_none rfl _ _ _) rfl ?_ | go_end0
 exact⟨rfl,hs,hst⟩
theorem _root_.Go.Cop.PoolS.act_ok {s:PoolS}(h:PoolOk s)(hm:s.floor+s.acts.length<1099511627776)(x:Int × Int):PoolOk { s with acts:=s.acts++ [x] }:=
 ⟨h.n1,h.n2,h.len,h.r1,h.r2,h.cs,h.fl,by simp;omega⟩
theorem acts_end {p:Nat}{s:PoolS}{n b:Int}{cv lv:Value}{fb:Nat}{av av':Value}{fs:List Value}{ha:Hp}{B:Nat}{F:Pr}{w:World}(ok:PoolOk (s.turn n b))(hm:s.floor+s.acts.length<1099511627776)(hai:ActsIn ha p s.acts fs)
 (h:Sat (((Pr.own ha).star ((Pr.pts B (.cells #[.pointer (some ⟨p,0,none⟩)] 58)).star ((Pr.pts (B+1) (.cells #[.int .i64 n] 3)).star (Pr.pts (B+1+1) (.cells #[.int .i64 b] 3))))).star
   ((Pr.pts p (.cells ((poolCells (s.turn n b) cv lv fb av).setIfInBounds 9 av') 112)).star
   ((Row 174 1 av' (s.acts.length+1) (fs++ [Value.func (.func 163) #[] #[.pointer (some ⟨B,0,none⟩),.pointer (some ⟨B+1,0,none⟩),.pointer (some ⟨B+1+1,0,none⟩)]])).star
   ((IntsRow cv (s.turn n b).counts).star ((BoolsRow lv (s.turn n b).last).star ((SetOf fb fun m=>(s.turn n b).state m=1).star F)))))) w):
 Sat ((PoolA p { s.turn n b with acts:=s.acts++ [(n,b)] }).star F) w:=by
 obtain⟨h0,hA,hS⟩:=Sat.toOwn h;obtain⟨x1,y1,p1,q1,s1,t1⟩:=star_sub hA;obtain⟨x2,y2,p2,q2,s2,t2⟩:=star_sub q1;obtain⟨x3,y3,p3,q3,s3,t3⟩:=star_sub q2;cases p1;cases p2;cases p3;cases q3;have e0:h0.cell B 0=some (.pointer (some ⟨p,0,none⟩)):=Hp.cell_sub (s2.trans t1) (by simp [Hp.cell]);have e1:h0.cell (B+1) 0=some (.int .i64 n):=Hp.cell_sub (s3.trans (t2.trans t1)) (by simp [Hp.cell])
 have e2:h0.cell (B+1+1) 0=some (.int .i64 b):=Hp.cell_sub (t3.trans (t2.trans t1)) (by simp [Hp.cell]);refine poolA_iff.2 ⟨PoolS.act_ok (s:=s.turn n b) ok hm (n,b),cv,lv,fb,av',?_⟩
 have hai2:ActsIn h0 p (s.acts++ [(n,b)]) (fs++ [Value.func (.func 163) #[] #[.pointer (some ⟨B,0,none⟩),.pointer (some ⟨B+1,0,none⟩),.pointer (some ⟨B+1+1,0,none⟩)]]):=by
  obtain⟨l1,l2⟩:=hai;refine⟨by simp [l1],fun i hi hf=> ?_⟩;by_cases hlt:i<s.acts.length
  · rw [List.getElem_append_left hlt,List.getElem_append_left (by omega)]
    exact(l2 i hlt (by omega)).sub s1
  · have he:i=s.acts.length:=by simp at hi;omega
    subst he;rw [List.getElem_append_right (by omega),List.getElem_append_right (by omega)];simp only [l1,Nat.sub_self,List.getElem_cons_zero];exact⟨_,_,_,rfl,e0,e1,e2⟩
 have e:(s.acts++ [(n,b)]).length=s.acts.length+1:=by simp
 have hact:Sat ((ActsA p av' (s.acts++ [(n,b)])).star ((Pr.pts p (.cells ((poolCells (s.turn n b) cv lv fb av).setIfInBounds 9 av') 112)).star ((IntsRow cv (s.turn n b).counts).star ((BoolsRow lv (s.turn n b).last).star ((SetOf fb fun m=>(s.turn n b).state m=1).star F))))) w:=by
  unfold ActsA;refine Sat.ex.2 ⟨(fs++ [Value.func (.func 163) #[] #[.pointer (some ⟨B,0,none⟩),.pointer (some ⟨B+1,0,none⟩),.pointer (some ⟨B+1+1,0,none⟩)]],h0),?_⟩;rw [Pr.star_assoc];refine Sat.pure.2 ⟨hai2,?_⟩;dsimp only;rw [e];exact hS.perm (by ac_rfl)
 unfold PoolAt;exact hact.perm (show _=((Pr.pts p (.cells ((poolCells (s.turn n b) cv lv fb av).setIfInBounds 9 av') 112)).star ((IntsRow cv (s.turn n b).counts).star ((BoolsRow lv (s.turn n b).last).star ((SetOf fb fun m=>(s.turn n b).state m=1).star (ActsA p av' (s.acts++ [(n,b)])))))).star F from by ac_rfl)
theorem infoAct:(Tryz.prog.info? 174).map (fun i=>(i.zero,i.size,i.bytes))=some (some (.agg #[.nilFunc]),1,8):=by kernel_rfl
theorem act_any(p:Nat)(s:PoolS)(n b:Int)(F:Pr)(w:World)(hF:Sat ((PoolA p s).star F) w)(hn:s.there n)(h0:0≤s.count n+b)(h1:s.count n+b≤65536)(hm:s.floor+s.acts.length<1099511627776):
 Calls Tryz.prog 148 #[.pointer (some ⟨p,0,none⟩),.int .i64 n,.int .i64 b] w fun e w'=>
  e= .returned (.tuple #[])∧Sat ((PoolA p { s.turn n b with acts:=s.acts++ [(n,b)] }).star F) w'∧Stays w w':=by
 have hB:=((hF.alloc (.cells #[.pointer (some ⟨p,0,none⟩)] 58)).alloc (.cells #[.int .i64 n] 3)).alloc (.cells #[.int .i64 b] 3);rw [World.size_alloc,World.size_alloc] at hB
 have hB1:Sat ((PoolA p s).star ((Pr.pts w.heap.size (.cells #[.pointer (some ⟨p,0,none⟩)] 58)).star ((Pr.pts (w.heap.size+1) (.cells #[.int .i64 n] 3)).star ((Pr.pts (w.heap.size+1+1) (.cells #[.int .i64 b] 3)).star F)))) _:=hB.perm (by ac_rfl);have C:=hQ (turn_any p s n b _ _ hB1 hn h0 h1);clear hB hB1 hF;go_enter Tryz.func148,Tryz.ntmps148
 go_wp2_with fail
 refine C.out.mono ?_;rintro e w' ⟨rfl,hs,hst⟩;have HST:=hQ ((((Stays.refl w).alloc _).alloc _).alloc _ |>.trans hst);clear C hst;generalize w.heap.size=B at*;obtain⟨ok,cv,lv,fb,av,hA⟩:=poolA_iff.1 hs
 have hA1:Sat ((ActsA p av s.acts).star ((Pr.pts p (.cells (poolCells (s.turn n b) cv lv fb av) 112)).star ((Pr.pts B (.cells #[.pointer (some ⟨p,0,none⟩)] 58)).star ((Pr.pts (B+1) (.cells #[.int .i64 n] 3)).star ((Pr.pts (B+1+1) (.cells #[.int .i64 b] 3)).star
  ((IntsRow cv (s.turn n b).counts).star ((BoolsRow lv (s.turn n b).last).star ((SetOf fb fun m=>(s.turn n b).state m=1).star F)))))))) w':=hA.perm (show ((Pr.pts p _).star ((IntsRow cv (s.turn n b).counts).star ((BoolsRow lv (s.turn n b).last).star ((SetOf fb fun m=>(s.turn n b).state m=1).star (ActsA p av s.acts))))).star _=_ from by ac_rfl)
 generalize hR:((IntsRow cv (s.turn n b).counts).star ((BoolsRow lv (s.turn n b).last).star ((SetOf fb fun m=>(s.turn n b).state m=1).star F)))=RST at hA1;have HR:=hQ hR;clear hR hA hs;unfold ActsA at hA1;obtain⟨⟨fs,ha⟩,h2⟩:=Sat.ex.1 hA1;rw [Pr.star_assoc] at h2;obtain⟨hai,h3⟩:=Sat.pure.1 h2;dsimp only at hai h3
 have h4:Sat ((Row 174 1 av s.acts.length fs).star ((Pr.pts p (.cells (poolCells (s.turn n b) cv lv fb av) 112)).star ((Pr.pts B (.cells #[.pointer (some ⟨p,0,none⟩)] 58)).star ((Pr.pts (B+1) (.cells #[.int .i64 n] 3)).star ((Pr.pts (B+1+1) (.cells #[.int .i64 b] 3)).star ((Pr.own ha).star RST)))))) w':=h3.perm (by ac_rfl);clear h2 h3 hA1;obtain⟨aa,ca,hav,_,_⟩:=Row.read h4;subst hav
 have hp:=h4.right;have hb0:=h4.right.right;have hb1:=h4.right.right.right;have hb2:=h4.right.right.right.right;have r0:w'.cell? ⟨B,0,none⟩=some (.pointer (some ⟨p,0,none⟩)):=by rw [cell_of_heap hb0.pts_heap];rfl
 have r9:w'.cell? ⟨p,9,none⟩=some (.slice aa s.acts.length ca):=by rw [cell_of_heap hp.pts_heap];rfl
 have z0:=hb0.lt;have zp:=hp.lt;have hfl0:0≤s.floor:=ok.fl;have HAI:=hQ hai
 have hnew:Hid (∀j u,[Value.func (.func 163) #[] #[.pointer (some ⟨B,0,none⟩),.pointer (some ⟨B+1,0,none⟩),.pointer (some ⟨B+1+1,0,none⟩)]][j]? =some u→
  (w'.alloc (.cells #[Value.func (.func 163) #[] #[.pointer (some ⟨B,0,none⟩),.pointer (some ⟨B+1,0,none⟩),.pointer (some ⟨B+1+1,0,none⟩)]] 174)).cell? ((⟨w'.heap.size,0,none⟩:Addr).add j)=some u):=hQ (by
  intro j u hj
  cases j with
  | zero=>rw [add_cell,cell_of_heap (heap_new _ _)];simpa using hj
  | succ j=>simp at hj)
 have H5:=hQ (h4.alloc (.cells #[Value.func (.func 163) #[] #[.pointer (some ⟨B,0,none⟩),.pointer (some ⟨B+1,0,none⟩),.pointer (some ⟨B+1+1,0,none⟩)]] 174)).right;clear hp hb0 hb1 hb2 h4 hai;have hsl:s.acts.length≤1099511627776:=by omega
 go_wp2;refine wS 21 [0,1,2,3,4,5,6] [(7,[],[0,1,2,3,4,5]),(8,[9,10],[0,1,2,3,5]),(11,[],[9])] ?_;iterate 7 (refine wpQ_step rfl rfl (fun K hK=> ?_);go_simp;refine hK _ ?_;clear hK K)
 refine wpQ_nil ?_;refine wpRest_act rfl ?_;go_wp2;refine onN_mk (wpQ_nil ⟨?_,?_⟩)
 · refine chk_cons ?_ (chk_cons ?_ (chk_cons ?_ (chk_cons ?_ (chk_cons ?_ (chk_cons ?_ chk_nil)))))<;>(refine yieldF_of rfl rfl rfl rfl ?_;go_simp;try omega)
 refine wpRest_act rfl ?_;obtain⟨i0,hi,hz0,hz1,hz2⟩:=info_parts infoAct;refine wpList_append_sl rfl _ _ _ rfl 174 i0 (.agg #[.nilFunc]) 1 8 Tryz.underlying110 hi hz0 hz1 hz2 rfl _ _ _ rfl H5.out ⟨w'.heap.size,0,none⟩ 1 1 _ rfl rfl hnew.out (by simp [Value.oneCell']) (by simp only [maxLen];omega) (by omega) ?_;intro v' w1 hsat hgr _;obtain⟨a2,c2,hv2,_,_⟩:=Row.read hsat;subst hv2;have hp:=hsat.right
 have q0:w1.cell? ⟨B,0,none⟩=some (.pointer (some ⟨p,0,none⟩)):=by rw [cell_of_heap hp.right.pts_heap];rfl
 have q9:=frozen_of_heap hp.pts_heap 9;have q9c:w1.cell? ⟨p,9,none⟩=some (.slice aa s.acts.length ca):=by rw [cell_of_heap hp.pts_heap];rfl
 have y0:=hp.right.lt;have yp:=hp.lt;have HSAT:=hQ hsat;clear hsat hp r0 r9 z0 zp;go_wp2;refine onN_mk ?_;iterate 2 (refine wpQ_step rfl rfl (fun K hK=> ?_);go_simp;refine hK _ ?_;clear hK K)
 refine wpQ_nil ⟨?_,?_⟩
 · refine chk_cons ?_ (chk_cons ?_ (chk_cons ?_ (chk_cons ?_ (chk_cons ?_ chk_nil))))<;>(refine yieldF_of rfl rfl rfl rfl ?_;go_simp;try omega)
 refine wpRest_act rfl ?_;go_wp2;refine onN_mk (wpQ_nil ⟨?_,wpRest_nil ?_⟩)
 · refine chk_cons ?_ chk_nil<;>(refine yieldF_of rfl rfl rfl rfl ?_;go_simp;try omega)
 go_wp2;first | refine bodyPost_ret (results_none rfl _ _ _) rfl ?_ | go_end0
 refine⟨rfl,acts_end (B:=B) (cv:=cv) (lv:=lv) (fb:=fb) (av:= .slice aa s.acts.length ca) (av':= .slice a2 (s.acts.length+1) c2) ok hm HAI.out ?_,?_⟩
 · have h6:=(HSAT.out.perm (Pr.left_comm _ _ _)).setCell (i:=9) (.slice a2 (s.acts.length+1) c2)
   have h7:=HR.out;subst h7;exact h6.perm (by ac_rfl)
 · exact((HST.out.alloc _).drew.of_grown hgr).setCell _ _
end Go.Proofs.YtpfafhklppondaaGreat.U3
namespace Go.Cop
def PoolS.did(s:PoolS)(n b:Int):PoolS:= { s.turn n b with acts:=s.acts++ [(n,b)] }
theorem did_there {s:PoolS}{n b m:Int}:(s.did n b).there m↔s.there m:=turn_there
theorem did_count {s:PoolS}{n b m:Int}(h:s.there n):(s.did n b).count m=if m=n then s.count n+b else s.count m:=turn_count h
theorem did_state {s:PoolS}{n b m:Int}(h:s.there n):(s.did n b).state m=if m=n then stateOf (s.count n+b) (s.lasts n) else s.state m:=turn_state h
theorem there_of_state {s:PoolS}{n:Int}(h:s.state n≠0):s.there n:=by
 unfold PoolS.state at h;by_cases ht:s.there n
 · exact ht
 · rw [if_neg ht] at h;exact absurd rfl h
theorem there_of_count {s:PoolS}{n:Int}(h:s.count n≠0):s.there n:=by
 unfold PoolS.count at h;by_cases ht:s.there n
 · exact ht
 · rw [if_neg ht] at h;exact absurd rfl h
theorem count_of_free {s:PoolS}(ok:PoolOk s){n:Int}(h:s.state n=1):s.count n=0:=by
 have h1:=(count_bd ok n).1;rw [state_there (there_of_state (by omega))] at h;unfold stateOf at h;by_cases hc:0<s.count n
 · rw [if_pos hc] at h;split at h<;>omega
 · omega
end Go.Cop
namespace Go.Proofs.YtpfafhklppondaaGreat.X3
open ChangeShapes WideShapes ChangeAt RowKit Sl Cop M2 P3 Q3 U3
theorem poolA_rd {p:Nat}{s:PoolS}{F:Pr}{w:World}(h:Sat ((PoolA p s).star F) w):PoolOk s∧PoolRd w p s∧
 w.cell? ⟨p,10,none⟩=some (.int .i64 s.floor)∧(∃a c,w.cell? ⟨p,9,none⟩=some (.slice a s.acts.length c))∧
 (∃fb,w.cell? ⟨p,3,none⟩=some (.pointer (some ⟨fb,0,none⟩))∧∃G,Sat ((SetOf fb fun m=>s.state m=1).star G) w):=by
 obtain⟨ok,cv,lv,fb,av,hA⟩:=poolA_iff.1 h;have hA1:Sat ((Pr.pts p (.cells (poolCells s cv lv fb av) 112)).star ((IntsRow cv s.counts).star ((BoolsRow lv s.last).star ((SetOf fb fun m=>s.state m=1).star ((ActsA p av s.acts).star F))))) w:=hA.perm (by unfold PoolAt;ac_rfl);have hs:=hA1.right.right.right;have ha:=hs.right;unfold ActsA at ha;obtain⟨⟨fs,hx⟩,h2⟩:=Sat.ex.1 ha;rw [Pr.star_assoc] at h2
 obtain⟨_,h3⟩:=Sat.pure.1 h2;dsimp only at h3;rw [Pr.star_assoc] at h3;obtain⟨a,c,hav,_,_⟩:=Row.read h3;subst hav;refine⟨ok,pool_rd ok.len ok.n1 ok.n2 rfl rfl rfl hA1,by rw [cell_of_heap hA1.pts_heap];rfl,⟨a,c,by rw [cell_of_heap hA1.pts_heap];rfl⟩,fb,by rw [cell_of_heap hA1.pts_heap];rfl,_,hs⟩
theorem count_A(p:Nat)(s:PoolS)(n:Int)(F:Pr)(w:World)(hF:Sat ((PoolA p s).star F) w):
 Calls Tryz.prog 30 #[.pointer (some ⟨p,0,none⟩),.int .i64 n] w fun e w'=>e= .returned (.int .i64 (s.count n))∧w=w':=
 count_any p n w s (poolA_rd hF).2.1
theorem mark_A(p:Nat)(s:PoolS)(F:Pr)(w:World)(hF:Sat ((PoolA p s).star F) w):
 Calls Tryz.prog 145 #[.pointer (some ⟨p,0,none⟩)] w fun e w'=>e= .returned (.int .i64 s.mark)∧Stays w w'∧w'.heap=w.heap:=by
 obtain⟨ok,_,h10,⟨a,c,h9⟩,_⟩:=poolA_rd hF;have b1:=ok.fl;have b2:=ok.mb;clear hF ok;have e:s.mark=s.floor+s.acts.length:=rfl;rw [e];clear e;generalize s.floor=fl at*;generalize s.acts.length=al at*;go_enter Tryz.func145,Tryz.ntmps145
 go_wp2;go_region
 go_wp2;go_ret;exact⟨rfl,⟨rfl,rfl,rfl,Nat.le_refl _⟩,rfl⟩
theorem len_A(p:Nat)(s:PoolS)(F:Pr)(w:World)(hF:Sat ((PoolA p s).star F) w):
 Calls Tryz.prog 45 #[.pointer (some ⟨p,0,none⟩)] w fun e w'=>e= .returned (.int .i64 s.counts.length)∧w=w':=by
 obtain⟨ok,rd,_,_,_⟩:=poolA_rd hF;obtain⟨b,c,h1,_⟩:=rd.cs;clear hF ok rd;go_enter Tryz.func45,Tryz.ntmps45
 go_wp2;go_ret;exact⟨rfl,rfl⟩
theorem alloc_A(p:Nat)(s:PoolS)(F:Pr)(w:World)(hF:Sat ((PoolA p s).star F) w)(hm:s.floor+s.acts.length<1099511627776):
 Calls Tryz.prog 95 #[.pointer (some ⟨p,0,none⟩)] w fun e w'=>
  (e= .returned (.tuple #[.int .i64 0,.int .i64 12])∧(∀m,s.state m≠1)∧w=w')∨
  ∃n,e= .returned (.tuple #[.int .i64 n,.int .i64 0])∧s.state n=1∧(∀m,s.state m=1→n≤m)∧Sat ((PoolA p (s.did n 1)).star F) w'∧Stays w w':=by
 obtain⟨ok,_,_,_,fb,h3,G,hs⟩:=poolA_rd hF;have C:=hQ (set_lowest fb _ G w hs);have HF:=hQ hF;clear hs hF;go_enter Tryz.func95,Tryz.ntmps95
 go_wp2_with fail
 refine C.out.mono ?_;rintro e w' ⟨rfl,(⟨rfl,hno⟩ | ⟨n,rfl,hn,hle⟩)⟩
 · go_wp2
   go_ret2;exact .inl ⟨rfl,hno,rfl⟩
 · have hc:=count_of_free ok hn
   have A:=hQ (act_any p s n 1 F w HF.out (there_of_state (by omega)) (by omega) (by omega) hm);have HN:=hQ (And.intro hn hle);clear hn hle hc;go_wp2_with fail
   refine A.out.mono ?_;rintro e w' ⟨rfl,hs,hst⟩;go_wp2;go_ret2;exact .inr ⟨n,rfl,HN.out.1,HN.out.2,hs,hst⟩
theorem dec_A(p:Nat)(s:PoolS)(n:Int)(F:Pr)(w:World)(hF:Sat ((PoolA p s).star F) w)(hm:s.floor+s.acts.length<1099511627776):
 Calls Tryz.prog 150 #[.pointer (some ⟨p,0,none⟩),.int .i64 n] w fun e w'=>
  (e= .returned (.tuple #[.int .i64 0,.int .i64 15])∧s.count n=0∧w=w')∨
  (e= .returned (.tuple #[.int .i64 (s.count n-1),.int .i64 0])∧s.count n≠0∧Sat ((PoolA p (s.did n (-1))).star F) w'∧Stays w w'):=by
 have ok:=(poolA_rd hF).1;have C:=hQ (count_A p s n F w hF);have HF:=hQ hF;obtain⟨b1,b2⟩:=count_bd ok n;clear hF;by_cases h0:s.count n=0
 · rw [h0] at C
   go_enter Tryz.func150,Tryz.ntmps150
   go_wp2_with fail
   refine C.out.mono ?_;rintro e w' ⟨rfl,rfl⟩;go_wp2;go_ret2;exact .inl ⟨rfl,h0,rfl⟩
 · have ht:=there_of_count h0
   have A:=hQ (act_any p s n (-1) F w HF.out ht (by omega) (by omega) hm);have hd:=did_count (b:= -1) (m:=n) ht;rw [if_pos rfl] at hd;have HT:=hQ hd;clear ht hd;have hne:(s.count n == 0)=false:=by simpa using h0
   generalize hk:s.count n=k at*;have HK:=hQ hk;clear hk;go_enter Tryz.func150,Tryz.ntmps150
   go_wp2_with fail
   refine C.out.mono ?_;rintro e w' ⟨rfl,rfl⟩;go_wp2_with fail
   refine A.out.mono ?_;rintro e w' ⟨rfl,hs,hst⟩;have C2:=count_A p (s.did n (-1)) n F _ hs;rw [HT.out] at C2;have D:=hQ C2;have HS:=hQ hs;clear C2 hs;go_wp2_with fail
   refine D.out.mono ?_;rintro e w' ⟨rfl,rfl⟩;go_wp2;go_ret2;exact .inr ⟨rfl,h0,HS.out,hst⟩
end Go.Proofs.YtpfafhklppondaaGreat.X3
