/- What the pool's small functions answer, read off its cells. Each by its own walk; the conditions stand as hypotheses of each. -/
import Derived.Test.YtbobcmimkonnoaaRows
import Derived.Test.YtbobcmimkonnoaaSl
import Derived.Test.YtbobcmimkonnoaaDefs
import Derived.ProofKit
import Derived.OpenShut
import Derived.WalkSpells
import Derived.WalkLawsBesides
namespace Go.Proofs.Ytbobcmimkonnoaa.pool1
open Go.ChangeShapes Go.WideShapes Go.ChangeAt Go.RowKit Go.Sl Go.Cop

/-- The cells of a pool, as one that reads it wants them. -/
structure PoolRd (w : World) (p : Nat) (s : PoolS) : Prop where
  len : s.counts.length ≤ 65536
  len' : s.last.length = s.counts.length
  refs : w.cell? ⟨p, 0, none⟩ = some (.int .i64 s.refs)
  cs : ∃ b c, w.cell? ⟨p, 1, none⟩ = some (.slice (some ⟨b, 0, none⟩) s.counts.length c) ∧ ∀ i, i < s.counts.length → w.cell? ⟨b, i, none⟩ = some (.int .i64 (s.counts.getD i 0))
  ls : ∃ b c, w.cell? ⟨p, 2, none⟩ = some (.slice (some ⟨b, 0, none⟩) s.counts.length c) ∧ ∀ i, i < s.counts.length → w.cell? ⟨b, i, none⟩ = some (.bool (s.last.getD i false))

set_option maxHeartbeats 400000 in
theorem there_no (p : Nat) (n : Int) (w : World) (b c l : Nat) (h1 : w.cell? ⟨p, 1, none⟩ = some (.slice (some ⟨b, 0, none⟩) l c)) (h : n < 1 ∨ l < n) :
    Calls Try.prog 68 #[.pointer (some ⟨p, 0, none⟩), .int .i64 n] w fun e w' => e = .returned (.bool false) ∧ w = w' := by
  by_cases h0 : 1 ≤ n
  all_goals
    go_enter Try.func68, Try.ntmps68
    go_wp2
    go_ret
    refine ⟨?_, rfl⟩
    first | rfl | (have hd : decide (n ≤ (l : Int)) = false := by { simp; omega }; exact congrArg (fun x => Ending.returned (.bool x)) hd)

set_option maxHeartbeats 400000 in
theorem there_yes (p : Nat) (n : Int) (w : World) (b c l : Nat) (h1 : w.cell? ⟨p, 1, none⟩ = some (.slice (some ⟨b, 0, none⟩) l c)) (h0 : 1 ≤ n) (h : n ≤ l) :
    Calls Try.prog 68 #[.pointer (some ⟨p, 0, none⟩), .int .i64 n] w fun e w' => e = .returned (.bool true) ∧ w = w' := by
  go_enter Try.func68, Try.ntmps68
  go_wp2
  go_ret
  exact ⟨rfl, rfl⟩

set_option maxHeartbeats 400000 in
theorem count_no (p : Nat) (n : Int) (w : World) (s : PoolS) (hp : PoolRd w p s) (h : ¬ s.there n) :
    Calls Try.prog 55 #[.pointer (some ⟨p, 0, none⟩), .int .i64 n] w fun e w' => e = .returned (.int .i64 0) ∧ w = w' := by
  obtain ⟨b, c, h1, h2⟩ := hp.cs
  have hn : n < 1 ∨ s.counts.length < n := by unfold PoolS.there at h; omega
  go_enter Try.func55, Try.ntmps55
  go_wp2_with (go_at_call 68; refine (there_no _ _ _ _ _ _ h1 hn).mono ?_; rintro e w' ⟨rfl, rfl⟩)
  go_ret
  exact ⟨rfl, rfl⟩

set_option maxHeartbeats 400000 in
theorem count_yes (p : Nat) (n : Int) (w : World) (s : PoolS) (hp : PoolRd w p s) (h : s.there n) :
    Calls Try.prog 55 #[.pointer (some ⟨p, 0, none⟩), .int .i64 n] w fun e w' => e = .returned (.int .i64 (s.counts.getD (n.toNat - 1) 0)) ∧ w = w' := by
  obtain ⟨b, c, h1, h2⟩ := hp.cs
  have hl := hp.len
  obtain ⟨h3, h4⟩ := h
  have h5 := h2 (n.toNat - 1) (by omega)
  clear h2
  generalize s.counts.getD (n.toNat - 1) 0 = v at *
  go_enter Try.func55, Try.ntmps55
  go_wp2_with (go_at_call 68; refine (there_yes _ _ _ _ _ _ h1 h3 h4).mono ?_; rintro e w' ⟨rfl, rfl⟩)
  go_ret
  exact ⟨rfl, rfl⟩

set_option maxHeartbeats 400000 in
theorem state_no (p : Nat) (n : Int) (w : World) (s : PoolS) (hp : PoolRd w p s) (h : ¬ s.there n) :
    Calls Try.prog 43 #[.pointer (some ⟨p, 0, none⟩), .int .i64 n] w fun e w' => e = .returned (.int .i64 0) ∧ w = w' := by
  obtain ⟨b, c, h1, h2⟩ := hp.cs
  have hn : n < 1 ∨ s.counts.length < n := by unfold PoolS.there at h; omega
  go_enter Try.func43, Try.ntmps43
  go_wp2_with (go_at_call 68; refine (there_no _ _ _ _ _ _ h1 hn).mono ?_; rintro e w' ⟨rfl, rfl⟩)
  go_ret
  exact ⟨rfl, rfl⟩

set_option maxHeartbeats 400000 in
theorem state_yes (p : Nat) (n : Int) (w : World) (s : PoolS) (hp : PoolRd w p s) (h : s.there n) :
    Calls Try.prog 43 #[.pointer (some ⟨p, 0, none⟩), .int .i64 n] w fun e w' => e = .returned (.int .i64 (stateOf (s.counts.getD (n.toNat - 1) 0) (s.last.getD (n.toNat - 1) false))) ∧ w = w' := by
  obtain ⟨b, c, h1, h2⟩ := hp.cs
  obtain ⟨b', c', h1', h2'⟩ := hp.ls
  have hl := hp.len
  obtain ⟨h3, h4⟩ := h
  have h5 := h2 (n.toNat - 1) (by omega)
  have h5' := h2' (n.toNat - 1) (by omega)
  clear h2 h2'
  generalize s.counts.getD (n.toNat - 1) 0 = v at *
  generalize s.last.getD (n.toNat - 1) false = u at *
  by_cases hv : 0 < v <;> cases u
  all_goals
    go_enter Try.func43, Try.ntmps43
    go_wp2_with (go_at_call 68; refine (there_yes _ _ _ _ _ _ h1 h3 h4).mono ?_; rintro e w' ⟨rfl, rfl⟩)
    go_ret
    exact ⟨by simp [stateOf, hv], rfl⟩

theorem count_any (p : Nat) (n : Int) (w : World) (s : PoolS) (hp : PoolRd w p s) :
    Calls Try.prog 55 #[.pointer (some ⟨p, 0, none⟩), .int .i64 n] w fun e w' => e = .returned (.int .i64 (s.count n)) ∧ w = w' := by
  unfold PoolS.count
  by_cases h : s.there n
  · rw [if_pos h]; exact count_yes p n w s hp h
  · rw [if_neg h]; exact count_no p n w s hp h

theorem state_any (p : Nat) (n : Int) (w : World) (s : PoolS) (hp : PoolRd w p s) :
    Calls Try.prog 43 #[.pointer (some ⟨p, 0, none⟩), .int .i64 n] w fun e w' => e = .returned (.int .i64 (s.state n)) ∧ w = w' := by
  unfold PoolS.state PoolS.count PoolS.lasts
  by_cases h : s.there n
  · rw [if_pos h, if_pos h]; exact state_yes p n w s hp h
  · rw [if_neg h]; exact state_no p n w s hp h
end Go.Proofs.Ytbobcmimkonnoaa.pool1
