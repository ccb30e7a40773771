/- The set of runs: the lowest number, a new set. By walks; the conditions stand as hypotheses. -/
import Derived.Test.YtbobcmimkonnoaaRuns5
namespace Go.Proofs.Ytbobcmimkonnoaa.runs6
open Go.ChangeShapes Go.WideShapes Go.ChangeAt Go.RowKit Go.Sl Go.Proofs.Ytbobcmimkonnoaa.runs1

def lowVal : List (Int × Int) → Value
  | [] => .tuple #[.int .i64 0, .bool false]
  | x :: _ => .tuple #[.int .i64 x.1, .bool true]

set_option maxHeartbeats 400000 in
theorem lowest_any (p : Nat) (v : Value) (rs : List (Int × Int)) (F : Pr) (w : World) (hF : Sat ((SetAt p v rs).star F) w) :
    Calls Try.prog 79 #[.pointer (some ⟨p, 0, none⟩)] w fun e w' =>
      e = .returned (lowVal rs) ∧ w = w' := by
  have h1 : Sat ((Pr.pts p (.cells #[v] 136)).star ((Row 138 2 v rs.length (runCells rs)).star F)) w := hF.perm (by unfold SetAt; ac_rfl)
  have r1 : w.cell? ⟨p, 0, none⟩ = some v := by rw [cell_of_heap h1.pts_heap]; rfl
  obtain ⟨a, c, rfl, _, hrow⟩ := Row.read h1.right
  clear h1 hF
  cases rs with
  | nil =>
    clear hrow
    go_enter Try.func79, Try.ntmps79
    go_wp2
    go_ret2
    exact ⟨rfl, rfl⟩
  | cons x rs =>
    obtain ⟨b, rfl, hc⟩ := hrow (by simp)
    have q1 := (hc 0 (by simp)).1
    have q2 : w.cell? ⟨b, 0, none⟩ = some (.int .i64 x.1) := q1
    have hne : (((x :: rs).length : Int) == 0) = false := by simp; omega
    have hpos : 0 < (x :: rs).length := by simp
    clear q1 hc hrow
    generalize (x :: rs).length = n at *
    have hv : lowVal (x :: rs) = .tuple #[.int .i64 x.1, .bool true] := rfl
    rw [hv]
    clear hv
    generalize x.1 = x1 at *
    go_enter Try.func79, Try.ntmps79
    go_wp2
    go_ret2
    exact ⟨rfl, rfl⟩

set_option maxHeartbeats 400000 in
theorem new_nil (F : Pr) (w : World) (hF : Sat F w) :
    Calls Try.prog 95 #[.slice none 0 0] w fun e w' =>
      ∃ p, e = .returned (.pointer (some ⟨p, 0, none⟩)) ∧ Sat ((SetAt p (.slice none 0 0) []).star F) w' ∧ Stays w w' := by
  have h2 : Sat ((SetAt w.heap.size (.slice none 0 0) []).star F) (w.alloc (.cells #[.slice none 0 0] 136)) := by
    have := hF.alloc (.cells #[.slice none 0 0] 136)
    unfold SetAt
    show Sat (((Pr.pts _ _).star (Row _ 2 (.slice none 0 0) 0 [])).star F) _
    rw [Row.nil, Pr.star_emp]
    exact this
  have H2 := Lib.hid h2
  clear h2 hF
  go_enter Try.func95, Try.ntmps95
  go_wp2
  go_loop [5, 10] (fun _ i => i = .int .i64 0) (fun _ _ => 0)
  case atStart => rfl
  case round =>
    subst hrel
    go_wp2
    go_ret
    exact ⟨_, rfl, H2.out, (Stays.refl w).alloc _⟩
end Go.Proofs.Ytbobcmimkonnoaa.runs6
