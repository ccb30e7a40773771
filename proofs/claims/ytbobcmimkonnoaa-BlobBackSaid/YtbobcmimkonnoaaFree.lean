/- The vault: free, in the midst of an act; the conditions stand as hypotheses. -/
import Derived.Test.YtbobcmimkonnoaaKids
import Derived.Test.YtbobcmimkonnoaaVault8
namespace Go.Cop
/-- A page to which nothing leads any longer. -/
def VaultS.freed (s : VaultS) (n : Int) : VaultS := { s with pool := s.pool.did n (-1), on := fun m => if m = n then none else s.on m }
end Go.Cop
namespace Go.Proofs.Ytbobcmimkonnoaa.free
open Go.ChangeShapes Go.WideShapes Go.ChangeAt Go.RowKit Go.Sl Go.Cop Go.Proofs.Ytbobcmimkonnoaa.pool1 Go.Proofs.Ytbobcmimkonnoaa.pool2 Go.Proofs.Ytbobcmimkonnoaa.pool5 Go.Proofs.Ytbobcmimkonnoaa.pool9 Go.Proofs.Ytbobcmimkonnoaa.clone Go.Proofs.Ytbobcmimkonnoaa.page Go.Proofs.Ytbobcmimkonnoaa.vault1 Go.Proofs.Ytbobcmimkonnoaa.vault2 Go.Proofs.Ytbobcmimkonnoaa.vault3 Go.Proofs.Ytbobcmimkonnoaa.vault4

theorem onIn_del {h : Hp} {f : Int → Option Value} {on : Int → Option PageV} (hO : OnIn h f on) (n : Int) : OnIn h (fun m => if m = n then none else f m) (fun m => if m = n then none else on m) := by
  intro m
  dsimp only
  by_cases hm : m = n
  · simp only [hm, if_true]
  · simp only [hm, if_false]; exact hO m

theorem was_snoc {h : Hp} {ws : List WasX} {was : List (Int × Option PageV)} (hw : WasIn h ws was) {X : WasX} {y : Int × Option PageV} (hr : WasRel h X y) : WasIn h (ws ++ [X]) (was ++ [y]) := by
  refine ⟨by simp [hw.1], fun i h1 h2 => ?_⟩
  rcases Nat.lt_or_ge i was.length with hlt | hge
  · have hx : i < ws.length := by rw [hw.1]; exact hlt
    rw [List.getElem_append_left hx, List.getElem_append_left hlt]
    exact hw.2 i hx hlt
  · have h3 : i = was.length := by simp at h2; omega
    subst h3
    have hx : ws.length ≤ was.length := by rw [hw.1]; omega
    rw [List.getElem_append_right hx, List.getElem_append_right hge]
    simpa using hr

theorem pool_state (p : Nat) (s : PoolS) (n : Int) (F : Pr) (w : World) (hF : Sat ((PoolA p s).star F) w) :
    Calls Try.prog 43 #[.pointer (some ⟨p, 0, none⟩), .int .i64 n] w fun e w' => e = .returned (.int .i64 (s.state n)) ∧ w = w' :=
  state_any p n w s (poolA_rd hF).2.1

set_option maxRecDepth 100000 in
set_option maxHeartbeats 2000000 in
theorem free_A (v : Nat) (s : VaultS) (ab : Nat) (mark : Int) (was : List (Int × Option PageV)) (n : Int) (hn : 1 ≤ n ∧ n ≤ 65536) (hs : s.pool.state n = 1) (hl : was.length ≤ 65536) (F : Pr) (w : World)
    (hF : Sat ((VMA v s ab mark was).star F) w) :
    Calls Try.prog 86 #[.pointer (some ⟨v, 0, none⟩), .pointer (some ⟨ab, 0, none⟩), .int .i64 n] w fun e w' =>
      e = .returned (.tuple #[]) ∧ Sat ((VMA v { s with on := fun m => if m = n then none else s.on m } ab mark (was ++ [(n, s.on n)])).star F) w' ∧ Stays w w' := by
  obtain ⟨x, wv, ws, ok, hws, hF⟩ := vma_iff.1 hF
  have h1 : Sat ((PoolA x.p s.pool).star ((Pr.pts v (.cells #[.pointer (some ⟨x.p, 0, none⟩), .map (some x.mb), x.av, .int .i64 s.floor] 43)).star
    ((((MapA Try.prog 3 x.mb x.f).star ((Row 94 2 x.av s.acts.length (actCells x.axs)).star (Pr.own x.h)))).star (((Pr.pts ab (.cells #[.int .i64 mark, wv] 94)).star (Row 116 7 wv ws.length (ws.flatMap WasX.cells))).star F)))) w := hF.perm (by unfold VMAt VaultAt; ac_rfl)
  have qv : w.cell? ⟨v, 0, none⟩ = some (.pointer (some ⟨x.p, 0, none⟩)) := by rw [cell_of_heap h1.right.pts_heap]; rfl
  have P := pool_state x.p s.pool n _ w h1
  rw [hs] at P
  have HP := Lib.hid P
  have N := Lib.hid (note_at v s x ab mark wv ws n hn ok.on (by rw [hws.1]; exact hl) F w hF)
  clear h1 P hF
  go_enter Try.func86, Try.ntmps86
  go_wp2_with fail
  refine HP.out.mono ?_
  rintro e w1 ⟨rfl, rfl⟩
  go_wp2_with fail
  refine N.out.mono ?_
  rintro e w1 ⟨rfl, ⟨wv', X, hX, h4⟩, hst⟩
  have h5 : Sat ((MapA Try.prog 3 x.mb x.f).star ((Pr.pts v (.cells #[.pointer (some ⟨x.p, 0, none⟩), .map (some x.mb), x.av, .int .i64 s.floor] 43)).star
    (((PoolA x.p s.pool).star ((Row 94 2 x.av s.acts.length (actCells x.axs)).star (Pr.own x.h))).star (((Pr.pts ab (.cells #[.int .i64 mark, wv'] 94)).star (Row 116 7 wv' (ws ++ [X]).length ((ws ++ [X]).flatMap WasX.cells))).star F)))) w1 := h4.perm (by unfold VMAt VaultAt; ac_rfl)
  have q1 : w1.cell? ⟨v, 1, none⟩ = some (.map (some x.mb)) := by rw [cell_of_heap h5.right.pts_heap]; rfl
  have H5 := Lib.hid h5
  clear h5 h4 qv N HP
  go_wp2_with (refine wpList_del rfl _ _ _ rfl Try.underlying3 Try.underlying40 n hn rfl rfl H5.out ?_; intro w2 hs2 hg2; have HS2 := Lib.hid hs2; have HG2 := Lib.hid hg2; clear hs2 hg2)
  trace_state
  first | refine bodyPost_ret (results_none rfl _ _ _) rfl ?_ | go_end0
  refine ⟨rfl, vma_iff.2 ⟨{ x with f := fun m => if m = n then none else x.f m }, wv', ws ++ [X], ⟨onIn_del ok.on n, ok.acts, ok.f0, ok.fb⟩, was_snoc hws hX, ?_⟩, hst.of_grown HG2.out⟩
  exact HS2.out.perm (by unfold VMAt VaultAt; dsimp only; ac_rfl)
end Go.Proofs.Ytbobcmimkonnoaa.free
