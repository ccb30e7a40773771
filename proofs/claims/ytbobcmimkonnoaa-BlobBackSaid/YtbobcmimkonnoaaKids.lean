/- The page's Kids at pages of values; the conditions stand as hypotheses. -/
import Derived.Test.YtbobcmimkonnoaaOpen
import Derived.Test.YtbobcmimkonnoaaBlob5
namespace Go.Cop
def kidsB (next : Int) : List Int := if next = 0 then [] else [next]
end Go.Cop
namespace Go.Proofs.Ytbobcmimkonnoaa.kids
open Go.ChangeShapes Go.WideShapes Go.ChangeAt Go.RowKit Go.Sl Go.Cop Go.Proofs.Ytbobcmimkonnoaa.pool1 Go.Proofs.Ytbobcmimkonnoaa.pool2 Go.Proofs.Ytbobcmimkonnoaa.pool5 Go.Proofs.Ytbobcmimkonnoaa.pool9 Go.Proofs.Ytbobcmimkonnoaa.clone Go.Proofs.Ytbobcmimkonnoaa.page Go.Proofs.Ytbobcmimkonnoaa.vault1 Go.Proofs.Ytbobcmimkonnoaa.vault2

set_option maxRecDepth 100000 in
set_option maxHeartbeats 2000000 in
theorem kids_blob (ai ad : Option Addr) (ci md cd : Nat) (next : Int) (F : Pr) (w : World) (hF : Sat F w) :
    Calls Try.prog 85 #[pageV 3 0 (.slice ai 0 ci) (.slice ad md cd) next] w fun e w' => ∃ v, e = .returned v ∧ Sat ((Row 3 1 v (kidsB next).length ((kidsB next).map (Value.int .i64))).star F) w' ∧ Stays w w' := by
  have h1 := hF.alloc (.cells #[.int .i64 3, .int .i64 0, .slice ai 0 ci, .slice ad md cd, .int .i64 next] 65)
  have hb := h1.pts_heap
  have H1 := Lib.hid h1
  generalize hw1 : w.alloc (.cells #[.int .i64 3, .int .i64 0, .slice ai 0 ci, .slice ad md cd, .int .i64 next] 65) = w1 at *
  have p0 : w1.cell? ⟨w.heap.size, 0, none⟩ = some (.int .i64 3) := by rw [cell_of_heap hb]; rfl
  have p2 : w1.cell? ⟨w.heap.size, 2, none⟩ = some (.slice ai 0 ci) := by rw [cell_of_heap hb]; rfl
  have p4 : w1.cell? ⟨w.heap.size, 4, none⟩ = some (.int .i64 next) := by rw [cell_of_heap hb]; rfl
  have hst : Stays w w1 := hw1 ▸ ((Stays.refl w).alloc _)
  have HST := Lib.hid hst
  clear hF h1 hb hst
  by_cases hn : next = 0
  · subst hn
    go_enter Try.func85, Try.ntmps85
    go_wp2
    go_loopw [3, 9] (fun l i wr => l = .slice none 0 0 ∧ i = .int .i64 0 ∧ wr = w1) (fun _ _ _ => 0)
    case atStart => exact ⟨rfl, rfl, rfl⟩
    case round =>
      obtain ⟨rfl, rfl, rfl⟩ := hrel
      go_wp2
      go_ret
      refine ⟨_, rfl, ?_, HST.out⟩
      show Sat ((Row _ 1 (.slice none 0 0) 0 []).star F) _
      rw [Row.nil, Pr.emp_star]
      exact H1.out.right
  · have hb0 : (next == 0) = false := by rw [beq_eq_false_iff_ne]; exact hn
    obtain ⟨i0, hi, hz0, hz1, hz2⟩ := info_parts infoInt
    have H2 := Lib.hid (H1.out.alloc (.cells #[.int .i64 next] 3)).right
    have hnew := Lib.hid (new_cells w1 [.int .i64 next] 3 _ rfl)
    go_enter Try.func85, Try.ntmps85
    go_wp2
    go_loopw [3, 9] (fun l i wr => l = .slice none 0 0 ∧ i = .int .i64 0 ∧ wr = w1) (fun _ _ _ => 0)
    case atStart => exact ⟨rfl, rfl, rfl⟩
    case round =>
      obtain ⟨rfl, rfl, rfl⟩ := hrel
      go_wp2_with (at_builtin; refine wpList_append_sl rfl _ _ _ rfl 3 i0 (.int .i64 0) 1 8 Try.underlying45 hi hz0 hz1 hz2 rfl _ 0 [] rfl (show Sat ((Row 3 1 (.slice none 0 0) 0 []).star _) _ from by rw [Row.nil, Pr.emp_star]; exact H2.out) ⟨wr.heap.size, 0, none⟩ 1 1 [.int .i64 next] rfl rfl hnew.out (by simp [Value.oneCell']) (by simp [maxLen]) (by omega) ?_; intro v7 w4 hs4 hg4 _; obtain ⟨a7', c7', e7', _, _⟩ := Row.read hs4; subst e7'; have HS4 := Lib.hid hs4; have HG4 := Lib.hid hg4; clear hs4 hg4)
      go_ret
      refine ⟨_, rfl, ?_, (HST.out.alloc _).of_grown HG4.out⟩
      have ek : kidsB next = [next] := if_neg hn
      rw [ek]
      exact (HS4.out.perm (Pr.left_comm _ _ _)).right
end Go.Proofs.Ytbobcmimkonnoaa.kids
