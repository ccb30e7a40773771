/- The pool: Undo; the conditions stand as hypotheses. -/
import Derived.Test.YtbobcmimkonnoaaPool5
namespace Go.Cop
/-- The counts c1 come of c0 by these acts. -/
def Trail (s : PoolS) : List Int → List (Int × Int) → List Int → Prop
  | c0, [], c1 => c0 = c1
  | c0, a :: l, c1 => ({ s with counts := c0 } : PoolS).there a.1 ∧ 0 ≤ ({ s with counts := c0 } : PoolS).count a.1 ∧ ({ s with counts := c0 } : PoolS).count a.1 ≤ 65536 ∧ (-65536 ≤ a.2 ∧ a.2 ≤ 65536) ∧
      Trail s (({ s with counts := c0 } : PoolS).turn a.1 a.2).counts l c1
theorem trail_snoc {s : PoolS} {a : Int × Int} : ∀ {l : List (Int × Int)} {c0 c : List Int}, Trail s c0 (l ++ [a]) c → ∃ c', Trail s c0 l c' ∧ ({ s with counts := c' } : PoolS).there a.1 ∧
    0 ≤ ({ s with counts := c' } : PoolS).count a.1 ∧ ({ s with counts := c' } : PoolS).count a.1 ≤ 65536 ∧ (-65536 ≤ a.2 ∧ a.2 ≤ 65536) ∧ c = (({ s with counts := c' } : PoolS).turn a.1 a.2).counts := by
  intro l
  induction l with
  | nil => intro c0 c h; obtain ⟨h1, h2, h3, h4, h5⟩ := h; exact ⟨c0, rfl, h1, h2, h3, h4, h5.symm⟩
  | cons x l ih =>
    intro c0 c h
    obtain ⟨h1, h2, h3, h4, h5⟩ := h
    obtain ⟨c', h6, h7⟩ := ih h5
    exact ⟨c', ⟨h1, h2, h3, h4, h6⟩, h7⟩
theorem trail_then {s : PoolS} {a : Int × Int} : ∀ {l : List (Int × Int)} {c0 c : List Int}, Trail s c0 l c → ({ s with counts := c } : PoolS).there a.1 →
    0 ≤ ({ s with counts := c } : PoolS).count a.1 → ({ s with counts := c } : PoolS).count a.1 ≤ 65536 → (-65536 ≤ a.2 ∧ a.2 ≤ 65536) → Trail s c0 (l ++ [a]) (({ s with counts := c } : PoolS).turn a.1 a.2).counts := by
  intro l
  induction l with
  | nil => intro c0 c h h1 h2 h3 h4; cases h; exact ⟨h1, h2, h3, h4, rfl⟩
  | cons x l ih =>
    intro c0 c h h1 h2 h3 h4
    obtain ⟨g1, g2, g3, g4, g5⟩ := h
    exact ⟨g1, g2, g3, g4, ih g5 h1 h2 h3 h4⟩
theorem turn_back {s : PoolS} {n b : Int} (h : s.there n) : (s.turn n b).turn n (-b) = s := by
  have hc := turn_count (b := b) (m := n) h
  rw [if_pos rfl] at hc
  have hx : s.count n = s.counts.getD (n.toNat - 1) 0 := by unfold PoolS.count; rw [if_pos h]
  obtain ⟨h1, h2⟩ := h
  have : (s.turn n b).turn n (-b) = { s with counts := ((s.turn n b).counts).set (n.toNat - 1) ((s.turn n b).count n + -b) } := rfl
  rw [this, hc]
  have e : (s.turn n b).counts.set (n.toNat - 1) (s.count n + b + -b) = s.counts := by
    show (s.counts.set _ _).set _ _ = _
    rw [List.set_set, show s.count n + b + -b = s.count n by omega, hx]
    apply List.ext_getElem?
    intro i
    by_cases hi : i = n.toNat - 1
    · subst hi
      rw [List.getElem?_set_self (by omega), List.getD_eq_getElem?_getD, List.getElem?_eq_getElem (by omega)]
      rfl
    · rw [List.getElem?_set_ne (by omega)]
  rw [e]
end Go.Cop
namespace Go.Proofs.Ytbobcmimkonnoaa.pool6
open Go.ChangeShapes Go.WideShapes Go.ChangeAt Go.RowKit Go.Sl Go.Cop Go.Proofs.Ytbobcmimkonnoaa.pool1 Go.Proofs.Ytbobcmimkonnoaa.pool2 Go.Proofs.Ytbobcmimkonnoaa.pool3 Go.Proofs.Ytbobcmimkonnoaa.pool4 Go.Proofs.Ytbobcmimkonnoaa.pool5

/-- One act, to be undone. -/
theorem poolA_act {p : Nat} {s : PoolS} {F : Pr} {w : World} (h : Sat ((PoolA p s).star F) w) {k : Nat} (hk : k < s.acts.length) :
    ∃ ab c bp bn bb, ∃ h0 : Hp, h0.le w ∧ w.cell? ⟨p, 9, none⟩ = some (.slice (some ⟨ab, 0, none⟩) s.acts.length c) ∧
      w.cell? ⟨ab, k, none⟩ = some (.func (.func 100) #[] #[.pointer (some ⟨bp, 0, none⟩), .pointer (some ⟨bn, 0, none⟩), .pointer (some ⟨bb, 0, none⟩)]) ∧
      h0.cell bp 0 = some (.pointer (some ⟨p, 0, none⟩)) ∧ h0.cell bn 0 = some (.int .i64 s.acts[k].1) ∧ h0.cell bb 0 = some (.int .i64 s.acts[k].2) := by
  obtain ⟨ok, cv, lv, fb, av, hA⟩ := poolA_iff.1 h
  have hA1 : Sat ((ActsA p av s.acts).star ((Pr.pts p (.cells (poolCells s cv lv fb av) 74)).star ((IntsRow cv s.counts).star ((BoolsRow lv s.last).star ((SetOf fb fun m => s.state m = 1).star F))))) w := hA.perm (by unfold PoolAt; ac_rfl)
  unfold ActsA at hA1
  obtain ⟨⟨fs, hx⟩, h2⟩ := Sat.ex.1 hA1
  rw [Pr.star_assoc] at h2
  obtain ⟨⟨l1, l2⟩, h3⟩ := Sat.pure.1 h2
  dsimp only at h3 l1 l2
  rw [Pr.star_assoc] at h3
  obtain ⟨a, c, hav, _, hrow⟩ := Row.read h3
  obtain ⟨ab, hab, hc⟩ := hrow (by omega)
  subst hab
  subst hav
  obtain ⟨bp, bn, bb, e, g1, g2, g3⟩ := l2 k hk (by omega)
  refine ⟨ab, c, bp, bn, bb, hx, h3.right.own, by rw [cell_of_heap h3.right.right.pts_heap]; rfl, ?_, g1, g2, g3⟩
  rw [(hc k (by omega)).1, List.getElem?_eq_getElem (by omega), e]

theorem undo_bad (p : Nat) (s : PoolS) (m : Int) (F : Pr) (w : World) (hF : Sat ((PoolA p s).star F) w) (hm : m < s.floor ∨ s.mark < m) :
    Calls Try.prog 72 #[.pointer (some ⟨p, 0, none⟩), .int .i64 m] w fun e w' => e = .returned (.bool false) ∧ Stays w w' ∧ w'.heap = w.heap := by
  obtain ⟨ok, _, h10, _, _⟩ := poolA_rd hF
  have C := Lib.hid (mark_A p s F w hF)
  have b1 := ok.fl
  have b3 : s.floor ≤ s.mark := by unfold PoolS.mark; omega
  clear hF ok
  generalize s.floor = fl at *
  generalize s.mark = mk at *
  by_cases h1 : m < fl
  · go_enter Try.func72, Try.ntmps72
    go_wp2
    go_ret
    exact ⟨rfl, Stays.refl _, rfl⟩
  · have h2 : mk < m := by omega
    go_enter Try.func72, Try.ntmps72
    go_wp2_with fail
    refine C.out.mono ?_
    rintro e w' ⟨rfl, hst, hh⟩
    go_wp2
    go_ret
    exact ⟨rfl, hst, hh⟩
end Go.Proofs.Ytbobcmimkonnoaa.pool6
