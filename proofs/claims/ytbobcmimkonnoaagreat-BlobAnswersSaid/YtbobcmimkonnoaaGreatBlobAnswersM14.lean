/- (*Vault).back, where nothing stood on the pages before; the conditions stand as hypotheses. -/
import Derived.Test.YtbobcmimkonnoaaGreatBlobAnswersM13
import Derived.Maps.OwnIn
import Derived.Test.YtbobcmimkonnoaaGreatBlobAnswersM12
namespace Go.Sl
open Go.Maps
theorem wpListIn_del {Fn : Fence} {nF : Nat} {P : Program} {k : TypeId} {b : Nat} {f : Int → Option Value} {F : Pr} {w : World} {ops : Array Oper} {rest : List Oper} {o : Oper} {a : Act} {Q : Exit → Act → World → Prop} (hgd : o.guard = none) (m x : Operand) (t : TypeId)
 (hop : o.op = .call { callee := .builtin .delete, args := #[m, x], argTypes := #[t, k] })
 (hk : P.underlying k = some (.int .i64)) {e : TypeId} (ht : P.underlying t = some (.map k e)) (n : Int) (hn : 1 ≤ n ∧ n ≤ 65536)
 (hm : a.eval m = .map (some b)) (hx : a.eval x = .int .i64 n) (h : Sat ((MapA P k b f).star F) w)
 (hK : ∀ w', Sat ((MapA P k b (fun m => if m = n then none else f m)).star F) w' → w.grownBy w' (some b) → wpListIn Fn nF P ops Q rest (a.put o.dst (.tuple #[])) w') : wpListIn Fn nF P ops Q (o :: rest) a w := by
 refine wpListIn_plain hgd fun K' hK' => ?_
 obtain ⟨w', hrun, h1, h2⟩ := map_del (ty := o.type) hk ht hn h
 unfold Oper.wpIn
 refine ⟨by simp [Oper.about, hop, resolve, Target.leads, Sem.run_pure], ?_⟩
 rw [Oper.semAt_plain Fn _ _ (by rw [hop]; intro c hc'; cases hc')]
 simp [execOp, hop, resolve, invoke, builtin, hm, hx, hrun, Result.andThen]
 exact hK' _ _ (hK w' h1 h2)
end Go.Sl
namespace Go.Proofs.YtbobcmimkonnoaaGreat.back2
open ChangeShapes WideShapes ChangeAt RowKit Sl Cop Go.Shelf pool1 pool2 pool5 pool6 pool7 pool9 clone page vault1 vault2 vault3 vault4 vault5 vault6 back1
attribute [local go_sem] Oper.semAt_some
set_option maxRecDepth 100000 in
set_option maxHeartbeats 400000 in
theorem backward_any (a : Option Addr) (n c : Nat) (w : World) : Calls Tryz.prog 163 #[.slice a n c] w fun e w' =>
 e = .returned (.func (.func 169) #[] #[.pointer (some ⟨w.heap.size, 0, none⟩)]) ∧ w' = w.alloc (.cells #[.slice a n c] 156) := by
 go_enter Tryz.func163, Tryz.ntmps163
 go_wp2
 go_ret
 exact ⟨rfl, rfl⟩
/-- What is struck. -/
def struck (f : Int → Option Value) (l : List (Int × WasX)) : Int → Option Value := fun m => if m ∈ l.map (fun x => x.2.no) then none else f m
theorem struck_nil (f : Int → Option Value) : struck f [] = f := by funext m; simp [struck]
theorem struck_snoc (f : Int → Option Value) (l : List (Int × WasX)) (y : Int × WasX) : struck f (l ++ [y]) = fun m => if m = y.2.no then none else struck f l m := by
 funext m
 simp only [struck, List.map_append, List.map_cons, List.map_nil, List.mem_append, List.mem_singleton]
 by_cases h : m = y.2.no
 · rw [if_pos (Or.inr h), if_pos h]
 · rw [if_neg h]
   by_cases h2 : m ∈ l.map (fun x => x.2.no)
   · rw [if_pos (Or.inl h2), if_pos h2]
   · rw [if_neg (fun h3 => h3.elim h2 h), if_neg h2]
theorem backs_mem {ws : List WasX} {y : Int × WasX} (h : y ∈ backs ws) : y.2 ∈ ws := by
 unfold backs at h
 rw [List.mem_reverse, List.mem_map] at h
 obtain ⟨⟨X, i⟩, h1, rfl⟩ := h
 have := (List.mem_zipIdx h1).2.2
 dsimp only at this ⊢
 rw [this]
 exact List.getElem_mem _
set_option maxRecDepth 100000 in
set_option maxHeartbeats 4000000 in
theorem back_none (v : Nat) (s : VaultS) (x : VX) (m : Nat) (cm : List Int) (wv : Value) (ws : List WasX) (hrow : RowIn x.h 7 wv ws.length (ws.flatMap WasX.cells)) (hl : ws.length ≤ 65536) (hws : ∀ X ∈ ws, X.th = false ∧ (1 ≤ X.no ∧ X.no ≤ 65536) ∧ IsSl X.vi ∧ IsSl X.vd)
 (F : Pr) (w : World) (hF : Sat ((VaultAt v s x).star F) w) (hm : m ≤ s.pool.acts.length) (ht : Trail s.pool cm (s.pool.acts.drop m) s.pool.counts) :
 Calls Tryz.prog 150 #[.pointer (some ⟨v, 0, none⟩), .agg #[.int .i64 (s.pool.floor + m), wv]] w fun e w' =>
  e = .returned (.tuple #[]) ∧ Sat ((VaultAt v { s with pool := { s.pool with counts := cm, acts := s.pool.acts.take m } } { x with f := struck x.f (backs ws) }).star F) w' ∧ Stays w w' := by
 have es : (w.alloc (.cells #[.pointer (some ⟨v, 0, none⟩)] 35)).heap.size = w.heap.size + 1 := by simp
 have h1 := (hF.alloc (.cells #[.pointer (some ⟨v, 0, none⟩)] 35)).alloc (.cells #[.int .i64 (s.pool.floor + m), wv] 158)
 rw [es] at h1
 have h2 : Sat ((PoolA x.p s.pool).star ((Pr.pts v (.cells #[.pointer (some ⟨x.p, 0, none⟩), .map (some x.mb), x.av, .int .i64 s.floor] 71)).star ((Pr.pts w.heap.size (.cells #[.pointer (some ⟨v, 0, none⟩)] 35)).star ((Pr.pts (w.heap.size + 1) (.cells #[.int .i64 (s.pool.floor + m), wv] 158)).star
  ((((MapA Tryz.prog 3 x.mb x.f).star ((Row 158 2 x.av s.acts.length (actCells x.axs)).star (Pr.own x.h)))).star F))))) _ := h1.perm (by unfold VaultAt; ac_rfl)
 have qv := cell_of_heap h2.right.pts_heap 0
 have zv := h2.right.lt
 have U := Lib.hid (undo_any x.p s.pool m cm _ _ h2.drew hm ht)
 have HST := Lib.hid (((Stays.refl w).alloc (.cells #[.pointer (some ⟨v, 0, none⟩)] 35)).alloc (.cells #[.int .i64 (s.pool.floor + m), wv] 158))
 obtain ⟨_, aw, cw, rfl, _, _, _⟩ := id hrow
 have HROW := Lib.hid hrow
 have HWS := Lib.hid hws
 clear h1 h2 hF es ht hrow hws
 refine calls_of_wp_marks (n := 9) Tryz.func150 rfl ?_
 simp only [Tryz.ntmps150, List.size_toArray, List.length_cons, List.length_nil, Nat.reduceAdd, Nat.reduceSub, Array.replicate_succ, Array.replicate_zero, List.push_toArray, List.append_toArray, List.nil_append, List.cons_append]
 go_wp2
 refine wp_region_staged (sz := 34) (by kernel_rfl) [0, 1, 2, 3, 4, 5] [(6, [], [0, 1, 2, 4])] rfl (by kernel_rfl) (by kernel_rfl) (by kernel_rfl) ?_
 iterate 6 (refine wpQ_step rfl rfl (fun K hK => ?_); go_simp; refine hK _ ?_; clear hK K)
 refine wpQ_nil ?_
 refine wpRest_act rfl ?_
 go_wp2_with fail
 refine U.out.mono ?_
 rintro e w1 ⟨rfl, h3, hst⟩
 have h4 : Sat ((Pr.pts w.heap.size (.cells #[.pointer (some ⟨v, 0, none⟩)] 35)).star ((Pr.pts (w.heap.size + 1) (.cells #[.int .i64 (s.pool.floor + m), .slice aw ws.length cw] 158)).star ((Pr.pts v (.cells #[.pointer (some ⟨x.p, 0, none⟩), .map (some x.mb), x.av, .int .i64 s.floor] 71)).star ((PoolA x.p { s.pool with counts := cm, acts := s.pool.acts.take m }).star ((MapA Tryz.prog 3 x.mb x.f).star ((Row 158 2 x.av s.acts.length (actCells x.axs)).star ((Pr.own x.h).star F))))))) w1 := h3.perm (by ac_rfl)
 have r0 : w1.cell? ⟨w.heap.size, 0, none⟩ = some (.pointer (some ⟨v, 0, none⟩)) := by rw [cell_of_heap h4.pts_heap]; rfl
 have r1 : w1.cell? ⟨w.heap.size + 1, 1, none⟩ = some (.slice aw ws.length cw) := by rw [cell_of_heap h4.right.pts_heap]; rfl
 have y0 := h4.lt
 have y1 := h4.right.lt
 have yv := h4.right.right.lt
 have H4 := Lib.hid h4
 have HST1 := Lib.hid (HST.out.drew.trans hst)
 clear h3 h4 hst HST U qv zv
 go_wp2
 refine onN_mk (wpQ_nil ⟨?_, wpRest_nil ?_⟩)
 · refine chk_cons ?_ (chk_cons ?_ (chk_cons ?_ (chk_cons ?_ chk_nil))) <;> (refine yieldF_of rfl rfl rfl rfl ?_; go_simp; try omega)
 go_wp2_with fail
 refine (backward_any _ _ _ _).mono ?_
 rintro e w2 ⟨rfl, rfl⟩
 have h5 := H4.out.alloc (.cells #[.slice aw ws.length cw] 156)
 have H5 := Lib.hid h5
 have HST2 := Lib.hid (HST1.out.alloc (.cells #[.slice aw ws.length cw] 156))
 clear h5 H4 HST1 y0 y1 yv r0 r1
 generalize w1.heap.size = sb at *
 generalize w1.alloc (.cells #[.slice aw ws.length cw] 156) = w2 at *
 go_wp2
 refine wp_rangeFunc_sl 9 (gf := 169) rfl (enters_of Tryz.func169 (by kernel_rfl) rfl) (backward1 sb (.slice aw ws.length cw) x.h ws HROW.out hl) (fun _ => rfl)
  (fun pre => (Pr.pts w.heap.size (.cells #[.pointer (some ⟨v, 0, none⟩)] 35)).star ((Pr.pts (w.heap.size + 1) (.cells #[.int .i64 (s.pool.floor + m), .slice aw ws.length cw] 158)).star ((Pr.pts v (.cells #[.pointer (some ⟨x.p, 0, none⟩), .map (some x.mb), x.av, .int .i64 s.floor] 71)).star ((PoolA x.p { s.pool with counts := cm, acts := s.pool.acts.take m }).star ((MapA Tryz.prog 3 x.mb (struck x.f pre)).star ((Row 158 2 x.av s.acts.length (actCells x.axs)).star F)))))) (fun _ _ => Pr.pure False) ?start ?round ?done ?stop
 case start =>
  rw [struck_nil]
  exact H5.out.perm (by unfold BackOwn; ac_rfl)
 case round =>
  intro l' pre y W1 F1 hpre hs
  have hmem := HWS.out y.2 (backs_mem (hpre.subset (List.mem_append_right _ (List.mem_singleton_self y))))
  obtain ⟨i, no, pk, pl, vi, vd, nx, th⟩ := y
  obtain ⟨hth, hno, ⟨a1, m1, c1, e1⟩, ⟨a2, m2, c2, e2⟩⟩ := hmem
  dsimp only at hth hno e1 e2
  subst hth
  subst e1
  subst e2
  have HS1 := Lib.hid hs
  clear hs
  simp only [encW, WasX.cells]
  gi_wp2
  have hsA := HS1.out.alloc (.cells #[.int .i64 no, .int .i64 pk, .int .i64 pl, .slice a1 m1 c1, .slice a2 m2 c2, .int .i64 nx, .bool false] 172)
  obtain ⟨B, hB⟩ : ∃ B, W1.heap.size = B := ⟨_, rfl⟩
  rw [hB] at hsA ⊢
  refine ⟨(Stays.refl _).alloc _, (Pr.pts B (.cells #[.int .i64 no, .int .i64 pk, .int .i64 pl, .slice a1 m1 c1, .slice a2 m2 c2, .int .i64 nx, .bool false] 172)).star (((Pr.pts w.heap.size (.cells #[.pointer (some ⟨v, 0, none⟩)] 35)).star ((Pr.pts (w.heap.size + 1) (.cells #[.int .i64 (s.pool.floor + m), .slice aw ws.length cw] 158)).star ((Pr.pts v (.cells #[.pointer (some ⟨x.p, 0, none⟩), .map (some x.mb), x.av, .int .i64 s.floor] 71)).star ((PoolA x.p { s.pool with counts := cm, acts := s.pool.acts.take m }).star ((MapA Tryz.prog 3 x.mb (struck x.f pre)).star ((Row 158 2 x.av s.acts.length (actCells x.axs)).star F)))))).star (BackOwn sb (.slice aw ws.length cw) x.h)), hsA.perm (by ac_rfl), ?_⟩
  clear hsA HS1 hB
  intro F2 W2 _ hs2
  have h1 : Sat ((MapA Tryz.prog 3 x.mb (struck x.f pre)).star ((Pr.pts B (.cells #[.int .i64 no, .int .i64 pk, .int .i64 pl, .slice a1 m1 c1, .slice a2 m2 c2, .int .i64 nx, .bool false] 172)).star ((Pr.pts w.heap.size (.cells #[.pointer (some ⟨v, 0, none⟩)] 35)).star ((Pr.pts v (.cells #[.pointer (some ⟨x.p, 0, none⟩), .map (some x.mb), x.av, .int .i64 s.floor] 71)).star (((Pr.pts (w.heap.size + 1) (.cells #[.int .i64 (s.pool.floor + m), .slice aw ws.length cw] 158)).star ((PoolA x.p { s.pool with counts := cm, acts := s.pool.acts.take m }).star ((Row 158 2 x.av s.acts.length (actCells x.axs)).star F))).star ((BackOwn sb (.slice aw ws.length cw) x.h).star F2)))))) W2 := hs2.perm (by ac_rfl)
  have g6 : W2.cell? ⟨B, 6, none⟩ = some (.bool false) := by rw [cell_of_heap h1.right.pts_heap]; rfl
  have g0 : W2.cell? ⟨B, 0, none⟩ = some (.int .i64 no) := by rw [cell_of_heap h1.right.pts_heap]; rfl
  have gV : W2.cell? ⟨w.heap.size, 0, none⟩ = some (.pointer (some ⟨v, 0, none⟩)) := by rw [cell_of_heap h1.right.right.pts_heap]; rfl
  have gm : W2.cell? ⟨v, 1, none⟩ = some (.map (some x.mb)) := by rw [cell_of_heap h1.right.right.right.pts_heap]; rfl
  have zB := h1.right.lt
  have zV := h1.right.right.lt
  have zv := h1.right.right.right.lt
  have H1 := Lib.hid h1
  clear h1 hs2
  gi_wp2
  obtain ⟨w4, hrun, hs4, hg4⟩ := map_del (ty := 0) Tryz.underlying3 Tryz.underlying68 hno H1.out.drew
  have HS4 := Lib.hid hs4
  have HG4 := Lib.hid hg4
  clear hs4 hg4
  gi_region
  all_goals (
   refine ⟨(Stays.refl W2).drew.of_grown HG4.out, ?_⟩
   dsimp only
   rw [struck_snoc]
   have h9 : Sat ((Pr.pts B (.cells #[.int .i64 no, .int .i64 pk, .int .i64 pl, .slice a1 m1 c1, .slice a2 m2 c2, .int .i64 nx, .bool false] 172)).star ((((Pr.pts w.heap.size (.cells #[.pointer (some ⟨v, 0, none⟩)] 35)).star ((Pr.pts (w.heap.size + 1) (.cells #[.int .i64 (s.pool.floor + m), .slice aw ws.length cw] 158)).star ((Pr.pts v (.cells #[.pointer (some ⟨x.p, 0, none⟩), .map (some x.mb), x.av, .int .i64 s.floor] 71)).star ((PoolA x.p { s.pool with counts := cm, acts := s.pool.acts.take m }).star ((MapA Tryz.prog 3 x.mb (fun m => if m = no then none else struck x.f pre m)).star ((Row 158 2 x.av s.acts.length (actCells x.axs)).star F)))))).star (BackOwn sb (.slice aw ws.length cw) x.h)).star F2)) w4 := HS4.out.perm (by ac_rfl)
   exact h9.right)
 case done =>
  intro D xs W2 hxs hst hs
  subst hxs
  have h10 : Sat ((Pr.pts D (.deferred (some []))).star ((Pr.pts w.heap.size (.cells #[.pointer (some ⟨v, 0, none⟩)] 35)).star ((Pr.pts (w.heap.size + 1) (.cells #[.int .i64 (s.pool.floor + m), .slice aw ws.length cw] 158)).star ((Pr.pts sb (.cells #[.slice aw ws.length cw] 156)).star (((Pr.pts v (.cells #[.pointer (some ⟨x.p, 0, none⟩), .map (some x.mb), x.av, .int .i64 s.floor] 71)).star ((PoolA x.p { s.pool with counts := cm, acts := s.pool.acts.take m }).star ((MapA Tryz.prog 3 x.mb (struck x.f (backs ws))).star ((Row 158 2 x.av s.acts.length (actCells x.axs)).star (Pr.own x.h))))).star F))))) W2 := hs.perm (by unfold BackOwn; ac_rfl)
  have H10 := Lib.hid h10
  have HST3 := Lib.hid (HST2.out.trans hst)
  clear hs h10 hst
  go_wp2
  refine marks_end1 (D := D) rfl H10.out.pts_heap ⟨_, results_none rfl _ _ _, rfl, (H10.out.putObj (.deferred none)).right.right.right.right, HST3.out.putObj _ _⟩
 case stop =>
  intro D c pre W2 _ hst hs
  exact (Sat.pure.1 (hs.perm (Pr.star_assoc _ _ _))).1.elim
end Go.Proofs.YtbobcmimkonnoaaGreat.back2
namespace Go.Proofs.YtbobcmimkonnoaaGreat.vault7
open ChangeShapes WideShapes ChangeAt RowKit Sl Cop pool1 pool2 pool5 pool9 clone page vault1 vault2 vault3 vault4 vault5 vault6 back1 back2
set_option maxRecDepth 100000 in
set_option maxHeartbeats 4000000 in
theorem do_full (v : Nat) (s : VaultS) (g : Nat) (caps : Array Value) (F2 : Pr) (F : Pr) (w : World) (hF : Sat ((VaultA v s).star F) w)
 (eg : ∀ args w, (callFunc g args).run Tryz.prog w = .ok (.enter g args) w)
 (hc : ∀ ab w1, Sat ((VMA v s ab s.pool.mark []).star F) w1 → Calls Tryz.prog g (#[.pointer (some ⟨ab, 0, none⟩)] ++ caps) w1 fun e w' =>
  Stays w1 w' ∧ e = .returned (.int .i64 12) ∧ Sat ((VMA v s ab s.pool.mark []).star F2) w') :
 Calls Tryz.prog 98 #[.pointer (some ⟨v, 0, none⟩), .func (.func g) #[] caps] w fun e w' =>
  Stays w w' ∧ e = .returned (.int .i64 12) ∧ Sat ((VaultA v s).star F2) w' := by
 obtain ⟨x, ok, hF⟩ := vaultA_iff.1 hF
 have h1 : Sat ((PoolA x.p s.pool).star ((Pr.pts v (.cells #[.pointer (some ⟨x.p, 0, none⟩), .map (some x.mb), x.av, .int .i64 s.floor] 71)).star
  ((((MapA Tryz.prog 3 x.mb x.f).star ((Row 158 2 x.av s.acts.length (actCells x.axs)).star (Pr.own x.h)))).star F))) w := hF.perm (by unfold VaultAt; ac_rfl)
 have qv : w.cell? ⟨v, 0, none⟩ = some (.pointer (some ⟨x.p, 0, none⟩)) := by rw [cell_of_heap h1.right.pts_heap]; rfl
 have C := Lib.hid (mark_A x.p s.pool _ w h1)
 have HF := Lib.hid hF
 have OK := Lib.hid ok
 clear h1 hF ok
 go_enter Tryz.func98, Tryz.ntmps98
 go_wp2_with fail
 refine C.out.mono ?_
 rintro e w1 ⟨rfl, hst, hh⟩
 have h2 := (HF.out.ext (w' := w1) (fun _ _ => by rw [hh])).alloc (.cells #[.int .i64 s.pool.mark, .slice none 0 0] 158)
 have h3 : Sat ((VMA v s w1.heap.size s.pool.mark []).star F) _ := vma_iff.2 ⟨x, .slice none 0 0, [], OK.out, ⟨rfl, fun i h => absurd h (by simp)⟩, h2.perm (by
  unfold VMAt
  rw [show (Row 172 7 (.slice none 0 0) ([] : List WasX).length (([] : List WasX).flatMap WasX.cells)) = Pr.emp from Row.nil _ _, Pr.star_emp]
  ac_rfl)⟩
 have D := Lib.hid (hc _ _ h3)
 have HST := Lib.hid (hst.alloc (.cells #[.int .i64 s.pool.mark, .slice none 0 0] 158))
 clear h2 h3 hst hh HF C qv hc OK
 go_wp2_with fail
 refine (D.out).mono ?_
 rintro e w2 ⟨hst2, rfl, h4⟩
 obtain ⟨x2, wv, ws, ok2, hws, h5⟩ := vma_iff.1 h4
 have hwl : ws = [] := List.eq_nil_of_length_eq_zero hws.1
 subst hwl
 have h6 : Sat ((Row 172 7 wv 0 []).star ((Pr.pts w1.heap.size (.cells #[.int .i64 s.pool.mark, wv] 158)).star ((VaultAt v s x2).star F2))) w2 := h5.perm (by unfold VMAt; show (Pr.star _ ((Pr.pts _ _).star (Row 172 7 wv 0 []))).star _ = _; ac_rfl)
 obtain ⟨aw, cw, ew, _, _⟩ := Row.read h6
 subst ew
 have hcw := Row.bd h6
 have q0 : w2.cell? ⟨w1.heap.size, 0, none⟩ = some (.int .i64 s.pool.mark) := by rw [cell_of_heap h6.right.pts_heap]; rfl
 have q1 : w2.cell? ⟨w1.heap.size, 1, none⟩ = some (.slice aw 0 cw) := by rw [cell_of_heap h6.right.pts_heap]; rfl
 have h7 := h6.right.right
 have B := back_none v s x2 s.pool.acts.length s.pool.counts (.slice aw 0 cw) [] ⟨by simp, aw, cw, rfl, Nat.zero_le _, hcw, fun h => absurd h (by simp)⟩ (by simp) (fun X hX => by cases hX) F2 w2 h7 (Nat.le_refl _) (by rw [List.drop_length]; rfl)
 have HB := Lib.hid B
 have HOK := Lib.hid ok2
 have HST2 := Lib.hid (HST.out.trans hst2)
 clear B h4 h5 h6 h7 D hst2 HST ok2 hws
 go_wp2_with fail
 refine HB.out.mono ?_
 rintro e w3 ⟨rfl, h8, hst3⟩
 have e1 : ({ s with pool := { s.pool with counts := s.pool.counts, acts := s.pool.acts.take s.pool.acts.length } } : VaultS) = s := by rw [List.take_length]
 have e2 : ({ x2 with f := struck x2.f (backs []) } : VX) = x2 := by
  rw [show backs [] = [] from rfl, struck_nil]
 rw [e1, e2] at h8
 have H8 := Lib.hid h8
 clear h8 HB e1 e2
 go_wp2
 go_ret
 exact ⟨HST2.out.trans hst3, rfl, vaultA_iff.2 ⟨x2, HOK.out, H8.out⟩⟩
set_option maxRecDepth 100000 in
set_option maxHeartbeats 4000000 in
theorem make_full (v : Nat) (s : VaultS) (hp : Hp) (vi vd : Value) (d : List Int) (next : Int) (hd : 1 ≤ d.length ∧ d.length ≤ 480) (hx : next = 0 ∨ 1 ≤ next ∧ next ≤ 65536) (hg : PageIn hp (.agg (blobCells vi vd next)) (blobV d next)) (F : Pr) (w : World)
 (hF : Sat ((VaultA v s).star ((Pr.own hp).star F)) w) (hno : ∀ m, s.pool.state m ≠ 1) (hm : s.pool.floor + s.pool.acts.length < 1099511627776) :
 Calls Tryz.prog 64 #[.pointer (some ⟨v, 0, none⟩), .agg (blobCells vi vd next)] w fun e w' =>
  Stays w w' ∧ e = .returned (.tuple #[.int .i64 0, .int .i64 12]) ∧ Sat ((VaultA v s).star ((Pr.own hp).star F)) w' := by
 obtain ⟨vi0, vd0, ee, hi0, hb0⟩ := id hg
 simp only [blobCells, pageV, Value.agg.injEq, Array.mk.injEq, List.cons.injEq, and_true, true_and] at ee
 obtain ⟨rfl, rfl⟩ := ee
 obtain ⟨ai, ci, rfl, _⟩ := items_none hi0
 obtain ⟨_, ad, cd, rfl, _⟩ := id hb0
 clear hi0 hb0
 have es : (w.alloc (.cells #[.pointer (some ⟨v, 0, none⟩)] 35)).heap.size = w.heap.size + 1 := by simp
 have h1 := (hF.alloc (.cells #[.pointer (some ⟨v, 0, none⟩)] 35)).alloc (.cells (blobCells (.slice ai 0 ci) (.slice ad d.length cd) next) 31)
 rw [es] at h1
 have HC := fun wx => Lib.hid (check_blob ai ad ci d.length cd next hd hx wx)
 have H1 := Lib.hid h1
 clear h1 hF es
 go_enter Tryz.func64, Tryz.ntmps64
 go_wp2_with fail
 refine (HC _).out.mono ?_
 rintro e w1 ⟨rfl, ho⟩
 have h2 := H1.out.only ho
 have h3 := h2.alloc (.cells #[.int .i64 0] 3)
 have h4 := h3.perm (B := (VaultA v s).star ((Pr.pts w.heap.size (.cells #[.pointer (some ⟨v, 0, none⟩)] 35)).star ((Pr.pts w1.heap.size (.cells #[.int .i64 0] 3)).star ((Pr.pts (w.heap.size + 1) (.cells (blobCells (.slice ai 0 ci) (.slice ad d.length cd) next) 31)).star ((Pr.own hp).star F))))) (by ac_rfl)
 have q0 : (w1.alloc (.cells #[.int .i64 0] 3)).cell? ⟨w.heap.size, 0, none⟩ = some (.pointer (some ⟨v, 0, none⟩)) := by rw [cell_of_heap h4.right.pts_heap]; rfl
 have D := do_full v s 124 #[.pointer (some ⟨w.heap.size, 0, none⟩), .pointer (some ⟨w1.heap.size, 0, none⟩), .pointer (some ⟨w.heap.size + 1, 0, none⟩)]
  ((Pr.pts w1.heap.size (.cells #[.int .i64 0] 3)).star ((Pr.own hp).star F)) _ _ h4 (fun _ _ => rfl) (fun ab wx hwx =>
   (make1_A v s ab s.pool.mark w.heap.size w1.heap.size (w.heap.size + 1) 0 hp (.slice ai 0 ci) (.slice ad d.length cd) d next (by omega) hg F wx hwx hm).mono (by
    rintro e w' ⟨hst, (⟨e1, _, e2⟩ | ⟨n, _, e2, _, _⟩)⟩
    · exact ⟨hst, e1, e2⟩
    · exact absurd e2 (hno n)))
 have HD := Lib.hid D
 have HST := Lib.hid (((((Stays.refl w).alloc (.cells #[.pointer (some ⟨v, 0, none⟩)] 35)).alloc (.cells (blobCells (.slice ai 0 ci) (.slice ad d.length cd) next) 31)).trans ho.st).alloc (.cells #[.int .i64 0] 3))
 clear D h4 h3 h2 ho H1 HC
 go_wp2_with fail
 refine HD.out.mono ?_
 rintro e w2 ⟨hst2, rfl, h5⟩
 have h6 := h5.perm (Pr.left_comm _ _ _)
 have q1 : w2.cell? ⟨w1.heap.size, 0, none⟩ = some (.int .i64 0) := by rw [cell_of_heap h6.pts_heap]; rfl
 have H6 := Lib.hid h6.right
 clear h5 h6
 go_wp2
 go_ret2
 exact ⟨HST.out.trans hst2, rfl, H6.out⟩
end Go.Proofs.YtbobcmimkonnoaaGreat.vault7
namespace Go.Cop
/-- Free pages bear nothing. -/
def Bare (s : VaultS) : Prop := ∀ n, s.pool.state n = 1 → s.on n = none
theorem Bare.make {s : VaultS} (h : Bare s) {n : Int} (hn : s.pool.state n = 1) (h0 : s.pool.count n = 0) (g : PageV) : Bare (s.make n g) := by
 intro m hm
 have hs := did_state (s := s.pool) (b := 1) (m := m) (there_of_state (by omega : s.pool.state n ≠ 0))
 have hm' : (s.pool.did n 1).state m = 1 := hm
 rw [hm'] at hs
 by_cases hmn : m = n
 · rw [if_pos hmn, h0] at hs
   unfold stateOf at hs
   simp at hs
   split at hs <;> omega
 · rw [if_neg hmn] at hs
   show (if m = n then some g else s.on m) = none
   rw [if_neg hmn]
   exact h m hs.symm
end Go.Cop
namespace Go.Proofs.YtbobcmimkonnoaaGreat.vault8
open ChangeShapes WideShapes ChangeAt RowKit Sl Cop pool1 pool2 pool5 pool9 clone page vault1 vault2 vault3 vault4 vault5 vault6 back1 back2 blob1
theorem row_cutk {T k n c m : Nat} {a : Option Addr} {xs : List Value} {F : Pr} {w : World} (h : Sat ((Row T k (.slice a n c) n xs).star F) w) (hm : m ≤ n) : Sat ((Row T k (.slice a m c) m (xs.take (m * k))).star F) w := by
 refine h.mono fun x hx => ?_
 have hmk : m * k ≤ n * k := Nat.mul_le_mul_right _ hm
 obtain ⟨hl, (⟨e, hn, hx⟩ | ⟨b, cap, sp, e, h1, h2, h3, h4⟩)⟩ := hx
 · cases e
   have : m = 0 := by omega
   subst this
   exact ⟨by simp, .inl ⟨rfl, rfl, hx⟩⟩
 · cases e
   refine ⟨by rw [List.length_take]; omega, .inr ⟨b, c, xs.drop (m * k) ++ sp, rfl, by rw [List.length_take, List.length_append, List.length_drop]; omega, by omega, h3, ?_⟩⟩
   rw [← List.append_assoc, List.take_append_drop]
   exact h4
theorem actCells_snoc (l : List (Int × Value)) (x : Int × Value) : actCells (l ++ [x]) = actCells l ++ [.int .i64 x.1, x.2] := by
 unfold actCells; rw [List.flatMap_append]; rfl
theorem actCells_len (l : List (Int × Value)) : (actCells l).length = l.length * 2 := by
 induction l with
 | nil => rfl
 | cons a l ih => simp only [actCells, List.flatMap_cons, List.length_append, List.length_cons] at ih ⊢; simp at ih ⊢; omega
/-- The last act taken off. -/
theorem acts_unsnoc {h : Hp} {axs : List (Int × Value)} {acts : List ActV} {a : ActV} (ha : ActsIn2 h axs (acts ++ [a])) : ∃ axs' x, axs = axs' ++ [x] ∧ ActsIn2 h axs' acts ∧ ActRel h x a := by
 have hl := ha.1
 rw [List.length_append] at hl
 have hne : axs ≠ [] := fun e => by rw [e] at hl; simp at hl
 obtain ⟨axs', x, rfl⟩ : ∃ axs' x, axs = axs' ++ [x] := ⟨axs.dropLast, axs.getLast hne, (List.dropLast_concat_getLast hne).symm⟩
 have hl2 : axs'.length = acts.length := by simpa using hl
 refine ⟨axs', x, rfl, ⟨hl2, fun i h1 h2 => ?_⟩, ?_⟩
 · have := ha.2 i (by simp; omega) (by simp; omega)
   rw [List.getElem_append_left h1, List.getElem_append_left h2] at this
   exact this
 · have := ha.2 acts.length (by simp; omega) (by simp)
   rw [List.getElem_append_right (by omega), List.getElem_append_right (Nat.le_refl _)] at this
   simpa [hl2] using this
theorem steps_acts {s0 s : VaultS} (h : Go.Cop.Steps s0 s) : s.floor = s0.floor ∧ s0.acts.length ≤ s.acts.length := by
 induction h with
 | refl => exact ⟨rfl, Nat.le_refl _⟩
 | step n g h hn h0 ih =>
  refine ⟨ih.1, Nat.le_trans ih.2 ?_⟩
  show _ ≤ (_ ++ [_]).length
  rw [List.length_append]
  exact Nat.le_add_right _ _
theorem steps_bare {s0 s : VaultS} (h : Go.Cop.Steps s0 s) (hb : Bare s0) : Bare s := by
 induction h with
 | refl => exact hb
 | step n g h hn h0 ih => exact ih.make hn h0 g
set_option maxRecDepth 100000 in
set_option maxHeartbeats 4000000 in
theorem vundo_A (v : Nat) (s0 s : VaultS) (hst : Go.Cop.Steps s0 s) (hb : Bare s0) (F : Pr) (w : World) (hF : Sat ((VaultA v s).star F) w) :
 Calls Tryz.prog 118 #[.pointer (some ⟨v, 0, none⟩), .int .i64 (s0.floor + s0.acts.length)] w fun e w' =>
  e = .returned (.bool true) ∧ Sat ((VaultA v s0).star F) w' ∧ Stays w w' := by
 obtain ⟨okp, b1, b2⟩ := vault_ok hF
 obtain ⟨e1, e2⟩ : s.floor = s0.floor ∧ s0.acts.length ≤ s.acts.length := steps_acts hst
 have q3 : w.cell? ⟨v, 3, none⟩ = some (.int .i64 s.floor) := by
  obtain ⟨x, ok, h1⟩ := vaultA_iff.1 hF
  have h2 : Sat ((Pr.pts v (.cells #[.pointer (some ⟨x.p, 0, none⟩), .map (some x.mb), x.av, .int .i64 s.floor] 71)).star
   ((((MapA Tryz.prog 3 x.mb x.f).star ((PoolA x.p s.pool).star ((Row 158 2 x.av s.acts.length (actCells x.axs)).star (Pr.own x.h))))).star F)) w := h1.perm (by unfold VaultAt; ac_rfl)
  rw [cell_of_heap h2.pts_heap]; rfl
 have M := Lib.hid (vmark_A v s F w hF)
 have HF := Lib.hid hF
 have HS := Lib.hid hst
 have HE := Lib.hid e1
 rw [e1] at q3 M b1 b2
 clear hF hst e1
 have d1 : decide (s0.floor + (s0.acts.length : Int) < s0.floor) = false := by rw [decide_eq_false_iff_not]; omega
 have d2 : ¬ s.acts.length < s0.acts.length := by omega
 go_enter Tryz.func118, Tryz.ntmps118
 go_wp2_with fail
 refine M.out.mono ?_
 rintro e w1 ⟨rfl, ho⟩
 have h1 := HF.out.only ho
 have H1 := Lib.hid h1
 have HO := Lib.hid ho
 clear h1 ho M HF q3
 go_wp2
 go_loopw [5] (fun _ wr => ∃ s1 : VaultS, Go.Cop.Steps s0 s1 ∧ Stays w wr ∧ Sat ((VaultA v s1).star F) wr) (fun _ wr => match wr.cell? ⟨v, 2, none⟩ with | some (.slice _ n _) => n | _ => 0)
 case atStart => exact ⟨s, HS.out, HO.out.st, H1.out⟩
 case round =>
  obtain ⟨s1, hs1, hst, hinv⟩ := hrel
  cases hs1 with
  | refl =>
   have M := Lib.hid (vmark_A v s0 F wr hinv)
   have HINV := Lib.hid hinv
   clear hinv
   go_wp2_with fail
   refine M.out.mono ?_
   rintro e w2 ⟨rfl, ho⟩
   have HR := Lib.hid (And.intro (HINV.out.only ho) (hst.trans ho.st))
   clear ho
   go_wp2
   go_ret
   exact ⟨rfl, HR.out.1, HR.out.2⟩
  | @step t n g hs1 hn h0 =>
   have M := vmark_A v (t.make n g) F wr hinv
   obtain ⟨okp1, f1, f2⟩ := vault_ok hinv
   obtain ⟨t1, t2⟩ := steps_acts hs1
   have hbare := steps_bare hs1 hb n hn
   have eL : (t.make n g).acts.length = t.acts.length + 1 := by
    show (t.acts ++ [_]).length = _
    rw [List.length_append]; rfl
   have eF : (t.make n g).floor = t.floor := rfl
   rw [eL, eF] at M f2
   rw [eF] at f1
   rw [show t.floor + ((t.acts.length + 1 : Nat) : Int) = s0.floor + (t.acts.length : Int) + 1 by omega] at M
   obtain ⟨x, ok, hx⟩ := vaultA_iff.1 hinv
   obtain ⟨axs', ax, eax, ha1, ha2⟩ := acts_unsnoc ok.acts
   obtain ⟨em, xs, hrow, hwas⟩ := ha2
   have hx2 : Sat ((Row 158 2 x.av (t.make n g).acts.length (actCells x.axs)).star ((Pr.pts v (.cells #[.pointer (some ⟨x.p, 0, none⟩), .map (some x.mb), x.av, .int .i64 (t.make n g).floor] 71)).star
    ((((MapA Tryz.prog 3 x.mb x.f).star ((PoolA x.p (t.make n g).pool).star (Pr.own x.h)))).star F))) wr := hx.perm (by unfold VaultAt; ac_rfl)
   rw [eL] at hx2
   obtain ⟨aa, ca, ea, hlen, hcells⟩ := Row.read hx2
   obtain ⟨b, eb, hc⟩ := hcells (by omega)
   subst eb
   have hal : axs'.length = t.acts.length := ha1.1
   have hac : (actCells axs').length = t.acts.length * 2 := by rw [actCells_len, hal]
   have k0 := (hc (t.acts.length * 2) (by omega)).1
   have k1 := (hc (t.acts.length * 2 + 1) (by omega)).1
   rw [eax, actCells_snoc, List.getElem?_append_right (by omega), hac] at k0 k1
   rw [show t.acts.length * 2 - t.acts.length * 2 = 0 by omega] at k0
   rw [show t.acts.length * 2 + 1 - t.acts.length * 2 = 1 by omega] at k1
   rw [em] at k0
   have q2 : wr.cell? ⟨v, 2, none⟩ = some x.av := by rw [cell_of_heap hx2.right.pts_heap]; rfl
   rw [ea] at q2
   have hx1 : xs.length = 1 := hwas.1
   obtain ⟨X, rfl⟩ : ∃ X, xs = [X] := by
    cases xs with
    | nil => simp at hx1
    | cons X l => cases l with
     | nil => exact ⟨X, rfl⟩
     | cons _ _ => simp at hx1
   obtain ⟨w1', w2', w3', w4'⟩ := hwas.2 0 (by simp) (by simp)
   simp only [List.getElem_cons_zero] at w1' w2' w3' w4'
   rw [hbare] at w4'
   have hrow' : RowIn x.h 7 ax.2 1 ([X].flatMap WasX.cells) := hrow
   obtain ⟨_, aw, cw, ew, _, _, _⟩ := id hrow'
   rw [ew] at hrow'
   have k0' : wr.cell? ⟨b, t.acts.length * 2, none⟩ = some (.int .i64 (t.pool.floor + t.pool.acts.length)) := k0
   have k1' : wr.cell? ⟨b, t.acts.length * 2 + 1, none⟩ = some (.slice aw 1 cw) := by rw [k1, ← ew]; rfl
   have hth := there_of_state (by omega : t.pool.state n ≠ 0)
   have htr : Trail (t.make n g).pool t.pool.counts ((t.make n g).pool.acts.drop t.pool.acts.length) (t.make n g).pool.counts := by
    rw [show (t.make n g).pool.acts = t.pool.acts ++ [(n, 1)] from rfl, List.drop_left]
    exact ⟨hth, by show 0 ≤ t.pool.count n; omega, by show t.pool.count n ≤ _; omega, by dsimp only; omega, rfl⟩
   have hpe : ({ (t.make n g).pool with counts := t.pool.counts, acts := (t.make n g).pool.acts.take t.pool.acts.length } : PoolS) = t.pool := by
    show ({ t.pool with counts := t.pool.counts, acts := (t.pool.acts ++ [(n, 1)]).take t.pool.acts.length } : PoolS) = t.pool
    rw [List.take_left]
   have B := fun wx hwx => back_none v (t.make n g) x t.pool.acts.length t.pool.counts (.slice aw 1 cw) [X] hrow' (by simp) (fun Y hY => by
    rw [List.mem_singleton] at hY
    subst hY
    exact ⟨w4', by rw [w1']; exact ⟨hth.1, by have h3 := hth.2; have h4 := okp1.n2; have h5 : (t.make n g).pool.counts.length = t.pool.counts.length := List.length_set; omega⟩, w2', w3'⟩) F wx hwx (by show _ ≤ (t.pool.acts ++ [_]).length; rw [List.length_append]; omega) htr
   rw [hpe] at B
   have hon : OnIn x.h (struck x.f (backs [X])) t.on := by
    intro m
    have h3 := ok.on m
    have h4 : struck x.f (backs [X]) m = if m = n then none else x.f m := by
     rw [show backs [X] = [] ++ [((0 : Int), X)] from rfl, struck_snoc, struck_nil]
     dsimp only
     rw [w1']
    rw [h4]
    by_cases hmn : m = n
    · rw [hmn, hbare, if_pos rfl]
    · rw [if_neg hmn]
      rw [show (t.make n g).on m = if m = n then some g else t.on m from rfl, if_neg hmn] at h3
      exact h3
   have HB := Lib.hid B
   have HX := Lib.hid hx
   have HM := Lib.hid M
   have HFIN := Lib.hid (And.intro hon ha1)
   have HEA := Lib.hid (And.intro ea eax)
   have HS1 := Lib.hid hs1
   have HAC := Lib.hid hac
   have hLb : t.acts.length ≤ 1099511627776 := by omega
   have hLc : s0.acts.length ≤ t.acts.length := t2
   have htf : t.floor = s0.floor := t1
   have HTF := Lib.hid htf
   have HEL := Lib.hid eL
   have hca := Row.bd (ea ▸ hx2)
   have hcl : t.acts.length ≤ ca := by
    have hx3 := hx2
    rw [ea] at hx3
    obtain ⟨_, (⟨e5, _, _⟩ | ⟨_, _, _, e5, _, h5, _, _⟩)⟩ := Row.open' hx3
    · cases e5
    · cases e5; omega
   clear B M hinv hx hx2 hc hcells hrow hrow' hwas ha1 hon ok eax hac hal k0 k1 htr hpe okp1 eL eF w1' w2' w3' w4' ea em hs1 htf
   have HQ2 := Lib.hid q2
   generalize hLL : t.acts.length = L at *
   have HLL := Lib.hid hLL
   clear hLL
   go_wp2_with fail
   refine HM.out.mono ?_
   rintro e w2 ⟨rfl, ho⟩
   have g2 := ho.cell q2
   have g0 := ho.cell k0'
   have g1 := ho.cell k1'
   have HB2 := Lib.hid (HB.out w2 (HX.out.only ho))
   have HST2 := Lib.hid (hst.trans ho.st)
   clear ho q2 k0' k1' hst
   go_wp2_with fail
   refine HB2.out.mono ?_
   rintro e w3 ⟨rfl, h3, hst3⟩
   have h4 : Sat ((Row 158 2 x.av (t.make n g).acts.length (actCells x.axs)).star ((Pr.pts v (.cells #[.pointer (some ⟨x.p, 0, none⟩), .map (some x.mb), x.av, .int .i64 t.floor] 71)).star (((MapA Tryz.prog 3 x.mb (struck x.f (backs [X]))).star ((PoolA x.p t.pool).star (Pr.own x.h))).star F))) w3 := h3.perm (by unfold VaultAt; show ((Pr.pts v (.cells #[.pointer (some ⟨x.p, 0, none⟩), .map (some x.mb), x.av, .int .i64 t.floor] _)).star ((PoolA x.p t.pool).star ((MapA Tryz.prog 3 x.mb (struck x.f (backs [X]))).star ((Row _ 2 x.av (t.make n g).acts.length (actCells x.axs)).star (Pr.own x.h))))).star F = _; ac_rfl)
   rw [HEL.out, HEA.out.1] at h4
   have j2 : w3.cell? ⟨v, 2, none⟩ = some (.slice (some ⟨b, 0, none⟩) (L + 1) ca) := by rw [cell_of_heap h4.right.pts_heap]; rfl
   have jz := frozen_of_heap h4.right.pts_heap 2
   have h5 := row_cutk h4 (Nat.le_succ L)
   have h6 : Sat ((Pr.pts v (.cells #[.pointer (some ⟨x.p, 0, none⟩), .map (some x.mb), .slice (some ⟨b, 0, none⟩) L ca, .int .i64 t.floor] 71)).star ((Row 158 2 (.slice (some ⟨b, 0, none⟩) L ca) L ((actCells x.axs).take (L * 2))).star (((MapA Tryz.prog 3 x.mb (struck x.f (backs [X]))).star ((PoolA x.p t.pool).star (Pr.own x.h))).star F))) (w3.setCell ⟨v, 2, none⟩ (.slice (some ⟨b, 0, none⟩) L ca)) := (h5.perm (Pr.left_comm _ _ _)).setCell (i := 2) (.slice (some ⟨b, 0, none⟩) L ca)
   have H6 := Lib.hid h6
   have HST3 := Lib.hid ((HST2.out.trans hst3).setCell ⟨v, 2, none⟩ (.slice (some ⟨b, 0, none⟩) L ca))
   clear h3 h4 h5 h6 hst3 HB2 g2 g0 g1 HB HX HM
   go_wp2
   go_roundw
   case rel =>
    refine ⟨t, HS1.out, HST3.out, vaultA_iff.2 ⟨{ x with f := struck x.f (backs [X]), av := .slice (some ⟨b, 0, none⟩) L ca, axs := axs' }, ⟨HFIN.out.1, HFIN.out.2, by have := HTF.out; omega, ?_⟩, ?_⟩⟩
    · rw [HLL.out]; omega
    · have e6 : (actCells x.axs).take (L * 2) = actCells axs' := by rw [HEA.out.2, actCells_snoc, ← HAC.out, List.take_left]
      have h7 := H6.out
      rw [e6] at h7
      refine h7.perm ?_
      unfold VaultAt
      dsimp only
      rw [HLL.out]
      ac_rfl
   case measure =>
    have e7 := cell_of_heap H6.out.pts_heap 2
    rw [show (#[.pointer (some ⟨x.p, 0, none⟩), .map (some x.mb), .slice (some ⟨b, 0, none⟩) L ca, .int .i64 t.floor] : Array Value)[2]? = some (.slice (some ⟨b, 0, none⟩) L ca) from rfl] at e7
    rw [e7, HQ2.out]
    exact Nat.lt_succ_self L
end Go.Proofs.YtbobcmimkonnoaaGreat.vault8
