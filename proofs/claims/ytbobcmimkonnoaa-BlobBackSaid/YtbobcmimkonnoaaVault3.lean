/- The vault: put, Make's closure, do; the conditions stand as hypotheses. -/
import Derived.Test.YtbobcmimkonnoaaVault2
namespace Go.Proofs.Ytbobcmimkonnoaa.vault3
open Go.ChangeShapes Go.WideShapes Go.ChangeAt Go.RowKit Go.Sl Go.Cop Go.Proofs.Ytbobcmimkonnoaa.pool1 Go.Proofs.Ytbobcmimkonnoaa.pool2 Go.Proofs.Ytbobcmimkonnoaa.pool5 Go.Proofs.Ytbobcmimkonnoaa.pool9 Go.Proofs.Ytbobcmimkonnoaa.clone Go.Proofs.Ytbobcmimkonnoaa.page Go.Proofs.Ytbobcmimkonnoaa.vault1 Go.Proofs.Ytbobcmimkonnoaa.vault2

theorem page_shape {h : Hp} {pv : Value} {g : PageV} (hg : PageIn h pv g) : ∃ pk pl ai mi ci ad md cd nx, pv = pageV pk pl (.slice ai mi ci) (.slice ad md cd) nx := by
  obtain ⟨vi, vd, e3, e4, e5⟩ := id hg
  obtain ⟨xs, _, ⟨_, ai, ci, e6, _⟩, _⟩ := id e4
  obtain ⟨_, ad, cd, e7, _⟩ := id e5
  subst e6
  subst e7
  exact ⟨_, _, ai, _, ci, ad, _, cd, _, e3⟩

set_option maxRecDepth 100000 in
set_option maxHeartbeats 2000000 in
theorem put_at (v : Nat) (s : VaultS) (x : VX) (ab : Nat) (mark : Int) (wv : Value) (ws : List WasX) (n : Int) (hn : 1 ≤ n ∧ n ≤ 65536) (pv : Value) (g : PageV) (hg : PageIn x.h pv g) (hO : OnIn x.h x.f s.on) (hl : ws.length ≤ 65536) (F : Pr) (w : World)
    (hF : Sat ((VMAt v s x ab mark wv ws).star F) w) :
    Calls Try.prog 53 #[.pointer (some ⟨v, 0, none⟩), .pointer (some ⟨ab, 0, none⟩), .int .i64 n, pv] w fun e w' =>
      e = .returned (.tuple #[]) ∧ (∃ wv' X, WasRel x.h X (n, s.on n) ∧ Sat ((VMAt v s { x with f := fun m => if m = n then some pv else x.f m } ab mark wv' (ws ++ [X])).star F) w') ∧ Stays w w' := by
  obtain ⟨pk, pl, ai, mi, ci, ad, md, cd, nx, rfl⟩ := page_shape hg
  have h2 := hF.alloc (.cells #[.int .i64 pk, .int .i64 pl, .slice ai mi ci, .slice ad md cd, .int .i64 nx] 65)
  have h3 := h2.perm (B := (VMAt v s x ab mark wv ws).star ((Pr.pts w.heap.size (.cells #[.int .i64 pk, .int .i64 pl, .slice ai mi ci, .slice ad md cd, .int .i64 nx] 65)).star F)) (by ac_rfl)
  have C := Lib.hid (note_at v s x ab mark wv ws n hn hO hl _ _ h3)
  clear h2 h3 hF hO
  go_enter Try.func53, Try.ntmps53
  go_wp2_with fail
  refine C.out.mono ?_
  rintro e w1 ⟨rfl, ⟨wv', X, hX, h4⟩, hst⟩
  have h5 : Sat ((MapA Try.prog 3 x.mb x.f).star ((Pr.pts v (.cells #[.pointer (some ⟨x.p, 0, none⟩), .map (some x.mb), x.av, .int .i64 s.floor] 43)).star ((Pr.pts w.heap.size (.cells #[.int .i64 pk, .int .i64 pl, .slice ai mi ci, .slice ad md cd, .int .i64 nx] 65)).star
    (((PoolA x.p s.pool).star ((Row 94 2 x.av s.acts.length (actCells x.axs)).star (Pr.own x.h))).star (((Pr.pts ab (.cells #[.int .i64 mark, wv'] 94)).star (Row 116 7 wv' (ws ++ [X]).length ((ws ++ [X]).flatMap WasX.cells))).star F))))) w1 := h4.perm (by unfold VMAt VaultAt; ac_rfl)
  have q1 : w1.cell? ⟨v, 1, none⟩ = some (.map (some x.mb)) := by rw [cell_of_heap h5.right.pts_heap]; rfl
  have hb := h5.right.right.pts_heap
  have p0 : w1.cell? ⟨w.heap.size, 0, none⟩ = some (.int .i64 pk) := by rw [cell_of_heap hb]; rfl
  have p1 : w1.cell? ⟨w.heap.size, 1, none⟩ = some (.int .i64 pl) := by rw [cell_of_heap hb]; rfl
  have p2 : w1.cell? ⟨w.heap.size, 2, none⟩ = some (.slice ai mi ci) := by rw [cell_of_heap hb]; rfl
  have p3 : w1.cell? ⟨w.heap.size, 3, none⟩ = some (.slice ad md cd) := by rw [cell_of_heap hb]; rfl
  have p4 : w1.cell? ⟨w.heap.size, 4, none⟩ = some (.int .i64 nx) := by rw [cell_of_heap hb]; rfl
  have H5 := Lib.hid h5
  have HX := Lib.hid hX
  have HST := Lib.hid (((Stays.refl w).alloc _).trans hst)
  clear h5 h4 hb hX hst C
  go_wp2
  refine wp_region_staged (sz := 18) (by kernel_rfl) [0, 1, 2, 3, 4, 5] [(6, [], [])] rfl (by kernel_rfl) (by kernel_rfl) (by kernel_rfl) ?_
  iterate 6 (refine wpQ_step rfl rfl (fun K hK => ?_); go_simp; refine hK _ ?_; clear hK K)
  refine wpQ_nil ?_
  refine wpRest_act rfl ?_
  refine wpList_put rfl _ _ _ _ rfl Try.underlying3 Try.underlying40 n hn _ rfl rfl rfl H5.out ?_
  intro w2 hs2 hg2
  have HS2 := Lib.hid hs2
  have HG := Lib.hid ((HST.out.drew).of_grown hg2)
  clear hs2 hg2
  go_wp2
  refine onN_mk (wpQ_nil ⟨chk_nil, wpRest_nil ?_⟩)
  go_wp2
  first | refine bodyPost_ret (results_none rfl _ _ _) rfl ?_ | go_end0
  refine ⟨rfl, ⟨wv', X, HX.out, ?_⟩, HG.out⟩
  have h6 : Sat ((Pr.pts w.heap.size (.cells #[.int .i64 pk, .int .i64 pl, .slice ai mi ci, .slice ad md cd, .int .i64 nx] 65)).star ((VMAt v s { x with f := fun m => if m = n then some (pageV pk pl (.slice ai mi ci) (.slice ad md cd) nx) else x.f m } ab mark wv' (ws ++ [X])).star F)) w2 := HS2.out.perm (by unfold VMAt VaultAt; dsimp only; ac_rfl)
  exact h6.right
end Go.Proofs.Ytbobcmimkonnoaa.vault3
