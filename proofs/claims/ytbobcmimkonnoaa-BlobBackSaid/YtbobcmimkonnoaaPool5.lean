/- The pool: Mark, Count, Alloc, Dec, over what it owns; the conditions stand as hypotheses. -/
import Derived.Test.YtbobcmimkonnoaaPool4
namespace Go.Cop
/-- What can be undone has been done. -/
def PoolS.did (s : PoolS) (n b : Int) : PoolS := { s.turn n b with acts := s.acts ++ [(n, b)] }
theorem did_there {s : PoolS} {n b m : Int} : (s.did n b).there m ↔ s.there m := turn_there
theorem did_count {s : PoolS} {n b m : Int} (h : s.there n) : (s.did n b).count m = if m = n then s.count n + b else s.count m := turn_count h
theorem did_state {s : PoolS} {n b m : Int} (h : s.there n) : (s.did n b).state m = if m = n then stateOf (s.count n + b) (s.lasts n) else s.state m := turn_state h
theorem there_of_state {s : PoolS} {n : Int} (h : s.state n ≠ 0) : s.there n := by
  unfold PoolS.state at h
  by_cases ht : s.there n
  · exact ht
  · rw [if_neg ht] at h; exact absurd rfl h
theorem there_of_count {s : PoolS} {n : Int} (h : s.count n ≠ 0) : s.there n := by
  unfold PoolS.count at h
  by_cases ht : s.there n
  · exact ht
  · rw [if_neg ht] at h; exact absurd rfl h
theorem count_of_free {s : PoolS} (ok : PoolOk s) {n : Int} (h : s.state n = 1) : s.count n = 0 := by
  have h1 := (count_bd ok n).1
  rw [state_there (there_of_state (by omega))] at h
  unfold stateOf at h
  by_cases hc : 0 < s.count n
  · rw [if_pos hc] at h; split at h <;> omega
  · omega
end Go.Cop
namespace Go.Proofs.Ytbobcmimkonnoaa.pool5
open Go.ChangeShapes Go.WideShapes Go.ChangeAt Go.RowKit Go.Sl Go.Cop Go.Proofs.Ytbobcmimkonnoaa.pool1 Go.Proofs.Ytbobcmimkonnoaa.pool2 Go.Proofs.Ytbobcmimkonnoaa.pool3 Go.Proofs.Ytbobcmimkonnoaa.pool4

theorem poolA_rd {p : Nat} {s : PoolS} {F : Pr} {w : World} (h : Sat ((PoolA p s).star F) w) : PoolOk s ∧ PoolRd w p s ∧
    w.cell? ⟨p, 10, none⟩ = some (.int .i64 s.floor) ∧ (∃ a c, w.cell? ⟨p, 9, none⟩ = some (.slice a s.acts.length c)) ∧
    (∃ fb, w.cell? ⟨p, 3, none⟩ = some (.pointer (some ⟨fb, 0, none⟩)) ∧ ∃ G, Sat ((SetOf fb fun m => s.state m = 1).star G) w) := by
  obtain ⟨ok, cv, lv, fb, av, hA⟩ := poolA_iff.1 h
  have hA1 : Sat ((Pr.pts p (.cells (poolCells s cv lv fb av) 74)).star ((IntsRow cv s.counts).star ((BoolsRow lv s.last).star ((SetOf fb fun m => s.state m = 1).star ((ActsA p av s.acts).star F))))) w := hA.perm (by unfold PoolAt; ac_rfl)
  have hs := hA1.right.right.right
  have ha := hs.right
  unfold ActsA at ha
  obtain ⟨⟨fs, hx⟩, h2⟩ := Sat.ex.1 ha
  rw [Pr.star_assoc] at h2
  obtain ⟨_, h3⟩ := Sat.pure.1 h2
  dsimp only at h3
  rw [Pr.star_assoc] at h3
  obtain ⟨a, c, hav, _, _⟩ := Row.read h3
  subst hav
  refine ⟨ok, pool_rd ok.len ok.n1 ok.n2 rfl rfl rfl hA1, by rw [cell_of_heap hA1.pts_heap]; rfl, ⟨a, c, by rw [cell_of_heap hA1.pts_heap]; rfl⟩, fb, by rw [cell_of_heap hA1.pts_heap]; rfl, _, hs⟩

theorem count_A (p : Nat) (s : PoolS) (n : Int) (F : Pr) (w : World) (hF : Sat ((PoolA p s).star F) w) :
    Calls Try.prog 55 #[.pointer (some ⟨p, 0, none⟩), .int .i64 n] w fun e w' => e = .returned (.int .i64 (s.count n)) ∧ w = w' :=
  count_any p n w s (poolA_rd hF).2.1

set_option maxHeartbeats 400000 in
theorem mark_A (p : Nat) (s : PoolS) (F : Pr) (w : World) (hF : Sat ((PoolA p s).star F) w) :
    Calls Try.prog 78 #[.pointer (some ⟨p, 0, none⟩)] w fun e w' => e = .returned (.int .i64 s.mark) ∧ Stays w w' ∧ w'.heap = w.heap := by
  obtain ⟨ok, _, h10, ⟨a, c, h9⟩, _⟩ := poolA_rd hF
  have b1 := ok.fl
  have b2 := ok.mb
  clear hF ok
  have e : s.mark = s.floor + s.acts.length := rfl
  rw [e]
  clear e
  generalize s.floor = fl at *
  generalize s.acts.length = al at *
  go_enter Try.func78, Try.ntmps78
  go_wp2
  go_region
  go_wp2
  go_ret
  exact ⟨rfl, ⟨rfl, rfl, rfl, Nat.le_refl _⟩, rfl⟩

set_option maxHeartbeats 400000 in
theorem len_A (p : Nat) (s : PoolS) (F : Pr) (w : World) (hF : Sat ((PoolA p s).star F) w) :
    Calls Try.prog 39 #[.pointer (some ⟨p, 0, none⟩)] w fun e w' => e = .returned (.int .i64 s.counts.length) ∧ w = w' := by
  obtain ⟨ok, rd, _, _, _⟩ := poolA_rd hF
  obtain ⟨b, c, h1, _⟩ := rd.cs
  clear hF ok rd
  go_enter Try.func39, Try.ntmps39
  go_wp2
  go_ret
  exact ⟨rfl, rfl⟩

set_option maxHeartbeats 400000 in
theorem alloc_A (p : Nat) (s : PoolS) (F : Pr) (w : World) (hF : Sat ((PoolA p s).star F) w) (hm : s.floor + s.acts.length < 1099511627776) :
    Calls Try.prog 52 #[.pointer (some ⟨p, 0, none⟩)] w fun e w' =>
      (e = .returned (.tuple #[.int .i64 0, .int .i64 12]) ∧ (∀ m, s.state m ≠ 1) ∧ w = w') ∨
      ∃ n, e = .returned (.tuple #[.int .i64 n, .int .i64 0]) ∧ s.state n = 1 ∧ (∀ m, s.state m = 1 → n ≤ m) ∧ Sat ((PoolA p (s.did n 1)).star F) w' ∧ Stays w w' := by
  obtain ⟨ok, _, _, _, fb, h3, G, hs⟩ := poolA_rd hF
  have C := Lib.hid (set_lowest fb _ G w hs)
  have HF := Lib.hid hF
  clear hs hF
  go_enter Try.func52, Try.ntmps52
  go_wp2_with fail
  refine C.out.mono ?_
  rintro e w' ⟨rfl, (⟨rfl, hno⟩ | ⟨n, rfl, hn, hle⟩)⟩
  · go_wp2
    go_ret2
    exact .inl ⟨rfl, hno, rfl⟩
  · have hc := count_of_free ok hn
    have A := Lib.hid (act_any p s n 1 F w HF.out (there_of_state (by omega)) (by omega) (by omega) hm)
    have HN := Lib.hid (And.intro hn hle)
    clear hn hle hc
    go_wp2_with fail
    refine A.out.mono ?_
    rintro e w' ⟨rfl, hs, hst⟩
    go_wp2
    go_ret2
    exact .inr ⟨n, rfl, HN.out.1, HN.out.2, hs, hst⟩

set_option maxHeartbeats 400000 in
theorem dec_A (p : Nat) (s : PoolS) (n : Int) (F : Pr) (w : World) (hF : Sat ((PoolA p s).star F) w) (hm : s.floor + s.acts.length < 1099511627776) :
    Calls Try.prog 84 #[.pointer (some ⟨p, 0, none⟩), .int .i64 n] w fun e w' =>
      (e = .returned (.tuple #[.int .i64 0, .int .i64 15]) ∧ s.count n = 0 ∧ w = w') ∨
      (e = .returned (.tuple #[.int .i64 (s.count n - 1), .int .i64 0]) ∧ s.count n ≠ 0 ∧ Sat ((PoolA p (s.did n (-1))).star F) w' ∧ Stays w w') := by
  have ok := (poolA_rd hF).1
  have C := Lib.hid (count_A p s n F w hF)
  have HF := Lib.hid hF
  obtain ⟨b1, b2⟩ := count_bd ok n
  clear hF
  by_cases h0 : s.count n = 0
  · rw [h0] at C
    go_enter Try.func84, Try.ntmps84
    go_wp2_with fail
    refine C.out.mono ?_
    rintro e w' ⟨rfl, rfl⟩
    go_wp2
    go_ret2
    exact .inl ⟨rfl, h0, rfl⟩
  · have ht := there_of_count h0
    have A := Lib.hid (act_any p s n (-1) F w HF.out ht (by omega) (by omega) hm)
    have hd := did_count (b := -1) (m := n) ht
    rw [if_pos rfl] at hd
    have HT := Lib.hid hd
    clear ht hd
    have hne : (s.count n == 0) = false := by simpa using h0
    generalize hk : s.count n = k at *
    have HK := Lib.hid hk
    clear hk
    go_enter Try.func84, Try.ntmps84
    go_wp2_with fail
    refine C.out.mono ?_
    rintro e w' ⟨rfl, rfl⟩
    go_wp2_with fail
    refine A.out.mono ?_
    rintro e w' ⟨rfl, hs, hst⟩
    have C2 := count_A p (s.did n (-1)) n F _ hs
    rw [HT.out] at C2
    have D := Lib.hid C2
    have HS := Lib.hid hs
    clear C2 hs
    go_wp2_with fail
    refine D.out.mono ?_
    rintro e w' ⟨rfl, rfl⟩
    go_wp2
    go_ret2
    exact .inr ⟨rfl, h0, HS.out, hst⟩
end Go.Proofs.Ytbobcmimkonnoaa.pool5
