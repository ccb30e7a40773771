/- (*Vault).back, where nothing stood on the pages before; the conditions stand as hypotheses. -/
import Derived.Test.YtbobcmimkonnoaaBack1
import Derived.Maps.OwnIn
namespace Go.Sl
open Go.Maps
theorem wpListIn_del {Fn : Fence} {nF : Nat} {P : Program} {k : TypeId} {b : Nat} {f : Int → Option Value} {F : Pr} {w : World} {ops : Array Oper} {rest : List Oper} {o : Oper} {a : Act} {Q : Exit → Act → World → Prop} (hgd : o.guard = none) (m x : Operand) (t : TypeId)
    (hop : o.op = .call { callee := .builtin .delete, args := #[m, x], argTypes := #[t, k] })
    (hk : P.underlying k = some (.int .i64)) {e : TypeId} (ht : P.underlying t = some (.map k e)) (n : Int) (hn : 1 ≤ n ∧ n ≤ 65536)
    (hm : a.eval m = .map (some b)) (hx : a.eval x = .int .i64 n) (h : Sat ((MapA P k b f).star F) w)
    (hK : ∀ w', Sat ((MapA P k b (fun m => if m = n then none else f m)).star F) w' → w.grownBy w' (some b) → wpListIn Fn nF P ops Q rest (a.put o.dst (.tuple #[])) w') : wpListIn Fn nF P ops Q (o :: rest) a w := by
  refine wpListIn_plain hgd fun K' hK' => ?_
  obtain ⟨w', hrun, h1, h2⟩ := map_del (ty := o.type) hk ht hn h
  unfold Oper.wpIn
  refine ⟨by simp [Oper.about, hop, resolve, Target.leads, Sem.run_pure], ?_⟩
  rw [Oper.semAt_plain Fn _ _ (by rw [hop]; intro c hc'; cases hc')]
  simp [execOp, hop, resolve, invoke, builtin, hm, hx, hrun, Result.andThen]
  exact hK' _ _ (hK w' h1 h2)
end Go.Sl
namespace Go.Proofs.Ytbobcmimkonnoaa.back2
open Go.ChangeShapes Go.WideShapes Go.ChangeAt Go.RowKit Go.Sl Go.Cop Go.Shelf Go.Proofs.Ytbobcmimkonnoaa.pool1 Go.Proofs.Ytbobcmimkonnoaa.pool2 Go.Proofs.Ytbobcmimkonnoaa.pool5 Go.Proofs.Ytbobcmimkonnoaa.pool6 Go.Proofs.Ytbobcmimkonnoaa.pool7 Go.Proofs.Ytbobcmimkonnoaa.pool9 Go.Proofs.Ytbobcmimkonnoaa.clone Go.Proofs.Ytbobcmimkonnoaa.page Go.Proofs.Ytbobcmimkonnoaa.vault1 Go.Proofs.Ytbobcmimkonnoaa.vault2 Go.Proofs.Ytbobcmimkonnoaa.vault3 Go.Proofs.Ytbobcmimkonnoaa.vault4 Go.Proofs.Ytbobcmimkonnoaa.vault5 Go.Proofs.Ytbobcmimkonnoaa.vault6 Go.Proofs.Ytbobcmimkonnoaa.back1
attribute [local go_sem] Oper.semAt_some

set_option maxRecDepth 100000 in
set_option maxHeartbeats 400000 in
theorem backward_any (a : Option Addr) (n c : Nat) (w : World) : Calls Try.prog 73 #[.slice a n c] w fun e w' =>
    e = .returned (.func (.func 97) #[] #[.pointer (some ⟨w.heap.size, 0, none⟩)]) ∧ w' = w.alloc (.cells #[.slice a n c] 92) := by
  go_enter Try.func73, Try.ntmps73
  go_wp2
  go_ret
  exact ⟨rfl, rfl⟩

/-- What is struck. -/
def struck (f : Int → Option Value) (l : List (Int × WasX)) : Int → Option Value := fun m => if m ∈ l.map (fun x => x.2.no) then none else f m

theorem struck_nil (f : Int → Option Value) : struck f [] = f := by funext m; simp [struck]
theorem struck_snoc (f : Int → Option Value) (l : List (Int × WasX)) (y : Int × WasX) : struck f (l ++ [y]) = fun m => if m = y.2.no then none else struck f l m := by
  funext m
  simp only [struck, List.map_append, List.map_cons, List.map_nil, List.mem_append, List.mem_singleton]
  by_cases h : m = y.2.no
  · rw [if_pos (Or.inr h), if_pos h]
  · rw [if_neg h]
    by_cases h2 : m ∈ l.map (fun x => x.2.no)
    · rw [if_pos (Or.inl h2), if_pos h2]
    · rw [if_neg (fun h3 => h3.elim h2 h), if_neg h2]
theorem backs_mem {ws : List WasX} {y : Int × WasX} (h : y ∈ backs ws) : y.2 ∈ ws := by
  unfold backs at h
  rw [List.mem_reverse, List.mem_map] at h
  obtain ⟨⟨X, i⟩, h1, rfl⟩ := h
  have := (List.mem_zipIdx h1).2.2
  dsimp only at this ⊢
  rw [this]
  exact List.getElem_mem _

set_option maxRecDepth 100000 in
set_option maxHeartbeats 4000000 in
theorem back_none (v : Nat) (s : VaultS) (x : VX) (m : Nat) (cm : List Int) (wv : Value) (ws : List WasX) (hrow : RowIn x.h 7 wv ws.length (ws.flatMap WasX.cells)) (hl : ws.length ≤ 65536) (hws : ∀ X ∈ ws, X.th = false ∧ (1 ≤ X.no ∧ X.no ≤ 65536) ∧ IsSl X.vi ∧ IsSl X.vd)
    (F : Pr) (w : World) (hF : Sat ((VaultAt v s x).star F) w) (hm : m ≤ s.pool.acts.length) (ht : Trail s.pool cm (s.pool.acts.drop m) s.pool.counts) :
    Calls Try.prog 48 #[.pointer (some ⟨v, 0, none⟩), .agg #[.int .i64 (s.pool.floor + m), wv]] w fun e w' =>
      e = .returned (.tuple #[]) ∧ Sat ((VaultAt v { s with pool := { s.pool with counts := cm, acts := s.pool.acts.take m } } { x with f := struck x.f (backs ws) }).star F) w' ∧ Stays w w' := by
  have es : (w.alloc (.cells #[.pointer (some ⟨v, 0, none⟩)] 26)).heap.size = w.heap.size + 1 := by simp
  have h1 := (hF.alloc (.cells #[.pointer (some ⟨v, 0, none⟩)] 26)).alloc (.cells #[.int .i64 (s.pool.floor + m), wv] 94)
  rw [es] at h1
  have h2 : Sat ((PoolA x.p s.pool).star ((Pr.pts v (.cells #[.pointer (some ⟨x.p, 0, none⟩), .map (some x.mb), x.av, .int .i64 s.floor] 43)).star ((Pr.pts w.heap.size (.cells #[.pointer (some ⟨v, 0, none⟩)] 26)).star ((Pr.pts (w.heap.size + 1) (.cells #[.int .i64 (s.pool.floor + m), wv] 94)).star
    ((((MapA Try.prog 3 x.mb x.f).star ((Row 94 2 x.av s.acts.length (actCells x.axs)).star (Pr.own x.h)))).star F))))) _ := h1.perm (by unfold VaultAt; ac_rfl)
  have qv := cell_of_heap h2.right.pts_heap 0
  have zv := h2.right.lt
  have U := Lib.hid (undo_any x.p s.pool m cm _ _ h2.drew hm ht)
  have HST := Lib.hid (((Stays.refl w).alloc (.cells #[.pointer (some ⟨v, 0, none⟩)] 26)).alloc (.cells #[.int .i64 (s.pool.floor + m), wv] 94))
  obtain ⟨_, aw, cw, rfl, _, _, _⟩ := id hrow
  have HROW := Lib.hid hrow
  have HWS := Lib.hid hws
  clear h1 h2 hF es ht hrow hws
  refine calls_of_wp_marks (n := 9) Try.func48 rfl ?_
  simp only [Try.ntmps48, List.size_toArray, List.length_cons, List.length_nil, Nat.reduceAdd, Nat.reduceSub, Array.replicate_succ, Array.replicate_zero, List.push_toArray, List.append_toArray, List.nil_append, List.cons_append]
  go_wp2
  refine wp_region_staged (sz := 34) (by kernel_rfl) [0, 1, 2, 3, 4, 5] [(6, [], [0, 1, 2, 4])] rfl (by kernel_rfl) (by kernel_rfl) (by kernel_rfl) ?_
  iterate 6 (refine wpQ_step rfl rfl (fun K hK => ?_); go_simp; refine hK _ ?_; clear hK K)
  refine wpQ_nil ?_
  refine wpRest_act rfl ?_
  go_wp2_with fail
  refine U.out.mono ?_
  rintro e w1 ⟨rfl, h3, hst⟩
  have h4 : Sat ((Pr.pts w.heap.size (.cells #[.pointer (some ⟨v, 0, none⟩)] 26)).star ((Pr.pts (w.heap.size + 1) (.cells #[.int .i64 (s.pool.floor + m), .slice aw ws.length cw] 94)).star ((Pr.pts v (.cells #[.pointer (some ⟨x.p, 0, none⟩), .map (some x.mb), x.av, .int .i64 s.floor] 43)).star ((PoolA x.p { s.pool with counts := cm, acts := s.pool.acts.take m }).star ((MapA Try.prog 3 x.mb x.f).star ((Row 94 2 x.av s.acts.length (actCells x.axs)).star ((Pr.own x.h).star F))))))) w1 := h3.perm (by ac_rfl)
  have r0 : w1.cell? ⟨w.heap.size, 0, none⟩ = some (.pointer (some ⟨v, 0, none⟩)) := by rw [cell_of_heap h4.pts_heap]; rfl
  have r1 : w1.cell? ⟨w.heap.size + 1, 1, none⟩ = some (.slice aw ws.length cw) := by rw [cell_of_heap h4.right.pts_heap]; rfl
  have y0 := h4.lt
  have y1 := h4.right.lt
  have yv := h4.right.right.lt
  have H4 := Lib.hid h4
  have HST1 := Lib.hid (HST.out.drew.trans hst)
  clear h3 h4 hst HST U qv zv
  go_wp2
  refine onN_mk (wpQ_nil ⟨?_, wpRest_nil ?_⟩)
  · refine chk_cons ?_ (chk_cons ?_ (chk_cons ?_ (chk_cons ?_ chk_nil))) <;> (refine yieldF_of rfl rfl rfl rfl ?_; go_simp; try omega)
  go_wp2_with fail
  refine (backward_any _ _ _ _).mono ?_
  rintro e w2 ⟨rfl, rfl⟩
  have h5 := H4.out.alloc (.cells #[.slice aw ws.length cw] 92)
  have H5 := Lib.hid h5
  have HST2 := Lib.hid (HST1.out.alloc (.cells #[.slice aw ws.length cw] 92))
  clear h5 H4 HST1 y0 y1 yv r0 r1
  generalize w1.heap.size = sb at *
  generalize w1.alloc (.cells #[.slice aw ws.length cw] 92) = w2 at *
  go_wp2
  refine wp_rangeFunc_sl 9 (gf := 97) rfl (enters_of Try.func97 (by kernel_rfl) rfl) (backward1 sb (.slice aw ws.length cw) x.h ws HROW.out hl) (fun _ => rfl)
    (fun pre => (Pr.pts w.heap.size (.cells #[.pointer (some ⟨v, 0, none⟩)] 26)).star ((Pr.pts (w.heap.size + 1) (.cells #[.int .i64 (s.pool.floor + m), .slice aw ws.length cw] 94)).star ((Pr.pts v (.cells #[.pointer (some ⟨x.p, 0, none⟩), .map (some x.mb), x.av, .int .i64 s.floor] 43)).star ((PoolA x.p { s.pool with counts := cm, acts := s.pool.acts.take m }).star ((MapA Try.prog 3 x.mb (struck x.f pre)).star ((Row 94 2 x.av s.acts.length (actCells x.axs)).star F)))))) (fun _ _ => Pr.pure False) ?start ?round ?done ?stop
  case start =>
    rw [struck_nil]
    exact H5.out.perm (by unfold BackOwn; ac_rfl)
  case round =>
    intro l' pre y W1 F1 hpre hs
    have hmem := HWS.out y.2 (backs_mem (hpre.subset (List.mem_append_right _ (List.mem_singleton_self y))))
    obtain ⟨i, no, pk, pl, vi, vd, nx, th⟩ := y
    obtain ⟨hth, hno, ⟨a1, m1, c1, e1⟩, ⟨a2, m2, c2, e2⟩⟩ := hmem
    dsimp only at hth hno e1 e2
    subst hth
    subst e1
    subst e2
    have HS1 := Lib.hid hs
    clear hs
    simp only [encW, WasX.cells]
    gi_wp2
    have hsA := HS1.out.alloc (.cells #[.int .i64 no, .int .i64 pk, .int .i64 pl, .slice a1 m1 c1, .slice a2 m2 c2, .int .i64 nx, .bool false] 116)
    obtain ⟨B, hB⟩ : ∃ B, W1.heap.size = B := ⟨_, rfl⟩
    rw [hB] at hsA ⊢
    refine ⟨(Stays.refl _).alloc _, (Pr.pts B (.cells #[.int .i64 no, .int .i64 pk, .int .i64 pl, .slice a1 m1 c1, .slice a2 m2 c2, .int .i64 nx, .bool false] 116)).star (((Pr.pts w.heap.size (.cells #[.pointer (some ⟨v, 0, none⟩)] 26)).star ((Pr.pts (w.heap.size + 1) (.cells #[.int .i64 (s.pool.floor + m), .slice aw ws.length cw] 94)).star ((Pr.pts v (.cells #[.pointer (some ⟨x.p, 0, none⟩), .map (some x.mb), x.av, .int .i64 s.floor] 43)).star ((PoolA x.p { s.pool with counts := cm, acts := s.pool.acts.take m }).star ((MapA Try.prog 3 x.mb (struck x.f pre)).star ((Row 94 2 x.av s.acts.length (actCells x.axs)).star F)))))).star (BackOwn sb (.slice aw ws.length cw) x.h)), hsA.perm (by ac_rfl), ?_⟩
    clear hsA HS1 hB
    intro F2 W2 _ hs2
    have h1 : Sat ((MapA Try.prog 3 x.mb (struck x.f pre)).star ((Pr.pts B (.cells #[.int .i64 no, .int .i64 pk, .int .i64 pl, .slice a1 m1 c1, .slice a2 m2 c2, .int .i64 nx, .bool false] 116)).star ((Pr.pts w.heap.size (.cells #[.pointer (some ⟨v, 0, none⟩)] 26)).star ((Pr.pts v (.cells #[.pointer (some ⟨x.p, 0, none⟩), .map (some x.mb), x.av, .int .i64 s.floor] 43)).star (((Pr.pts (w.heap.size + 1) (.cells #[.int .i64 (s.pool.floor + m), .slice aw ws.length cw] 94)).star ((PoolA x.p { s.pool with counts := cm, acts := s.pool.acts.take m }).star ((Row 94 2 x.av s.acts.length (actCells x.axs)).star F))).star ((BackOwn sb (.slice aw ws.length cw) x.h).star F2)))))) W2 := hs2.perm (by ac_rfl)
    have g6 : W2.cell? ⟨B, 6, none⟩ = some (.bool false) := by rw [cell_of_heap h1.right.pts_heap]; rfl
    have g0 : W2.cell? ⟨B, 0, none⟩ = some (.int .i64 no) := by rw [cell_of_heap h1.right.pts_heap]; rfl
    have gV : W2.cell? ⟨w.heap.size, 0, none⟩ = some (.pointer (some ⟨v, 0, none⟩)) := by rw [cell_of_heap h1.right.right.pts_heap]; rfl
    have gm : W2.cell? ⟨v, 1, none⟩ = some (.map (some x.mb)) := by rw [cell_of_heap h1.right.right.right.pts_heap]; rfl
    have zB := h1.right.lt
    have zV := h1.right.right.lt
    have zv := h1.right.right.right.lt
    have H1 := Lib.hid h1
    clear h1 hs2
    gi_wp2
    obtain ⟨w4, hrun, hs4, hg4⟩ := map_del (ty := 0) Try.underlying3 Try.underlying40 hno H1.out.drew
    have HS4 := Lib.hid hs4
    have HG4 := Lib.hid hg4
    clear hs4 hg4
    gi_region
    all_goals (
      refine ⟨(Stays.refl W2).drew.of_grown HG4.out, ?_⟩
      dsimp only
      rw [struck_snoc]
      have h9 : Sat ((Pr.pts B (.cells #[.int .i64 no, .int .i64 pk, .int .i64 pl, .slice a1 m1 c1, .slice a2 m2 c2, .int .i64 nx, .bool false] 116)).star ((((Pr.pts w.heap.size (.cells #[.pointer (some ⟨v, 0, none⟩)] 26)).star ((Pr.pts (w.heap.size + 1) (.cells #[.int .i64 (s.pool.floor + m), .slice aw ws.length cw] 94)).star ((Pr.pts v (.cells #[.pointer (some ⟨x.p, 0, none⟩), .map (some x.mb), x.av, .int .i64 s.floor] 43)).star ((PoolA x.p { s.pool with counts := cm, acts := s.pool.acts.take m }).star ((MapA Try.prog 3 x.mb (fun m => if m = no then none else struck x.f pre m)).star ((Row 94 2 x.av s.acts.length (actCells x.axs)).star F)))))).star (BackOwn sb (.slice aw ws.length cw) x.h)).star F2)) w4 := HS4.out.perm (by ac_rfl)
      exact h9.right)
  case done =>
    intro D xs W2 hxs hst hs
    subst hxs
    have h10 : Sat ((Pr.pts D (.deferred (some []))).star ((Pr.pts w.heap.size (.cells #[.pointer (some ⟨v, 0, none⟩)] 26)).star ((Pr.pts (w.heap.size + 1) (.cells #[.int .i64 (s.pool.floor + m), .slice aw ws.length cw] 94)).star ((Pr.pts sb (.cells #[.slice aw ws.length cw] 92)).star (((Pr.pts v (.cells #[.pointer (some ⟨x.p, 0, none⟩), .map (some x.mb), x.av, .int .i64 s.floor] 43)).star ((PoolA x.p { s.pool with counts := cm, acts := s.pool.acts.take m }).star ((MapA Try.prog 3 x.mb (struck x.f (backs ws))).star ((Row 94 2 x.av s.acts.length (actCells x.axs)).star (Pr.own x.h))))).star F))))) W2 := hs.perm (by unfold BackOwn; ac_rfl)
    have H10 := Lib.hid h10
    have HST3 := Lib.hid (HST2.out.trans hst)
    clear hs h10 hst
    go_wp2
    refine marks_end1 (D := D) rfl H10.out.pts_heap ⟨_, results_none rfl _ _ _, rfl, (H10.out.putObj (.deferred none)).right.right.right.right, HST3.out.putObj _ _⟩
  case stop =>
    intro D c pre W2 _ hst hs
    exact (Sat.pure.1 (hs.perm (Pr.star_assoc _ _ _))).1.elim
end Go.Proofs.Ytbobcmimkonnoaa.back2
