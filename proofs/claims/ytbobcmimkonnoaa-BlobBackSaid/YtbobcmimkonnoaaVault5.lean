/- The vault: do, when the act is done; the conditions stand as hypotheses. -/
import Derived.Test.YtbobcmimkonnoaaVault4
namespace Go.Cop
def VaultS.acted (s : VaultS) (a : ActV) : VaultS := { s with acts := s.acts ++ [a] }
end Go.Cop
namespace Go.Proofs.Ytbobcmimkonnoaa.vault5
open Go.ChangeShapes Go.WideShapes Go.ChangeAt Go.RowKit Go.Sl Go.Cop Go.Proofs.Ytbobcmimkonnoaa.pool1 Go.Proofs.Ytbobcmimkonnoaa.pool2 Go.Proofs.Ytbobcmimkonnoaa.pool5 Go.Proofs.Ytbobcmimkonnoaa.pool9 Go.Proofs.Ytbobcmimkonnoaa.clone Go.Proofs.Ytbobcmimkonnoaa.page Go.Proofs.Ytbobcmimkonnoaa.vault1 Go.Proofs.Ytbobcmimkonnoaa.vault2 Go.Proofs.Ytbobcmimkonnoaa.vault3 Go.Proofs.Ytbobcmimkonnoaa.vault4

theorem acts_snoc {h : Hp} {xs : List (Int × Value)} {acts : List ActV} (ha : ActsIn2 h xs acts) {x : Int × Value} {y : ActV} (hr : ActRel h x y) : ActsIn2 h (xs ++ [x]) (acts ++ [y]) := by
  refine ⟨by simp [ha.1], fun i h1 h2 => ?_⟩
  rcases Nat.lt_or_ge i acts.length with hlt | hge
  · have hx : i < xs.length := by rw [ha.1]; exact hlt
    rw [List.getElem_append_left hx, List.getElem_append_left hlt]
    exact ha.2 i hx hlt
  · have h3 : i = acts.length := by simp at h2; omega
    subst h3
    have hx : xs.length ≤ acts.length := by rw [ha.1]; omega
    rw [List.getElem_append_right hx, List.getElem_append_right hge]
    simpa using hr

set_option maxRecDepth 100000 in
set_option maxHeartbeats 4000000 in
theorem do_ok {α : Type} (v : Nat) (s : VaultS) (g : Nat) (caps : Array Value) (R : α → Prop) (S : α → VaultS) (W : α → List (Int × Option PageV)) (F' : α → Pr) (F : Pr) (w : World) (hF : Sat ((VaultA v s).star F) w)
    (hm : s.floor + s.acts.length < 1099511627776) (eg : ∀ args w, (callFunc g args).run Try.prog w = .ok (.enter g args) w) (hS : ∀ z, R z → (S z).acts = s.acts ∧ (S z).floor = s.floor)
    (hc : ∀ ab w1, Sat ((VMA v s ab s.pool.mark []).star F) w1 → Calls Try.prog g (#[.pointer (some ⟨ab, 0, none⟩)] ++ caps) w1 fun e w' =>
      Stays w1 w' ∧ e = .returned (.int .i64 0) ∧ ∃ z, R z ∧ Sat ((VMA v (S z) ab s.pool.mark (W z)).star (F' z)) w') :
    Calls Try.prog 50 #[.pointer (some ⟨v, 0, none⟩), .func (.func g) #[] caps] w fun e w' =>
      Stays w w' ∧ e = .returned (.int .i64 0) ∧ ∃ z, R z ∧ Sat ((VaultA v ((S z).acted ⟨s.pool.mark, W z⟩)).star (F' z)) w' := by
  obtain ⟨x, ok, hF⟩ := vaultA_iff.1 hF
  have h1 : Sat ((PoolA x.p s.pool).star ((Pr.pts v (.cells #[.pointer (some ⟨x.p, 0, none⟩), .map (some x.mb), x.av, .int .i64 s.floor] 43)).star
    ((((MapA Try.prog 3 x.mb x.f).star ((Row 94 2 x.av s.acts.length (actCells x.axs)).star (Pr.own x.h)))).star F))) w := hF.perm (by unfold VaultAt; ac_rfl)
  have qv : w.cell? ⟨v, 0, none⟩ = some (.pointer (some ⟨x.p, 0, none⟩)) := by rw [cell_of_heap h1.right.pts_heap]; rfl
  have C := Lib.hid (mark_A x.p s.pool _ w h1)
  have HF := Lib.hid hF
  have OK := Lib.hid ok
  have hfl := ok.f0
  clear h1 hF ok
  go_enter Try.func50, Try.ntmps50
  go_wp2_with fail
  refine C.out.mono ?_
  rintro e w1 ⟨rfl, hst, hh⟩
  have h2 := (HF.out.ext (w' := w1) (fun _ _ => by rw [hh])).alloc (.cells #[.int .i64 s.pool.mark, .slice none 0 0] 94)
  have h3 : Sat ((VMA v s w1.heap.size s.pool.mark []).star F) _ := vma_iff.2 ⟨x, .slice none 0 0, [], OK.out, ⟨rfl, fun i h => absurd h (by simp)⟩, h2.perm (by
    unfold VMAt
    rw [show (Row 116 7 (.slice none 0 0) ([] : List WasX).length (([] : List WasX).flatMap WasX.cells)) = Pr.emp from Row.nil _ _, Pr.star_emp]
    ac_rfl)⟩
  have D := Lib.hid (hc _ _ h3)
  have HST := Lib.hid (hst.alloc (.cells #[.int .i64 s.pool.mark, .slice none 0 0] 94))
  clear h2 h3 hst hh HF C qv hc OK
  go_wp2_with fail
  refine (D.out).mono ?_
  rintro e w2 ⟨hst2, rfl, z, hR, h4⟩
  obtain ⟨x2, wv, ws, ok2, hws, h5⟩ := vma_iff.1 h4
  obtain ⟨eA, eF⟩ := hS z hR
  have h6 : Sat ((Row 94 2 x2.av (S z).acts.length (actCells x2.axs)).star ((Pr.pts v (.cells #[.pointer (some ⟨x2.p, 0, none⟩), .map (some x2.mb), x2.av, .int .i64 (S z).floor] 43)).star ((Pr.pts w1.heap.size (.cells #[.int .i64 s.pool.mark, wv] 94)).star ((Row 116 7 wv ws.length (ws.flatMap WasX.cells)).star (((PoolA x2.p (S z).pool).star ((MapA Try.prog 3 x2.mb x2.f).star (Pr.own x2.h))).star (F' z)))))) w2 := h5.perm (by unfold VMAt VaultAt; ac_rfl)
  rw [eA, eF] at h6
  obtain ⟨aw, cw, ew, _, _⟩ := Row.read h6.right.right.right
  obtain ⟨aa, ca, ea, _, _⟩ := Row.read h6
  have qa : w2.cell? ⟨v, 2, none⟩ = some x2.av := by rw [cell_of_heap h6.right.pts_heap]; rfl
  have q0 : w2.cell? ⟨w1.heap.size, 0, none⟩ = some (.int .i64 s.pool.mark) := by rw [cell_of_heap h6.right.right.pts_heap]; rfl
  have q1 : w2.cell? ⟨w1.heap.size, 1, none⟩ = some wv := by rw [cell_of_heap h6.right.right.pts_heap]; rfl
  have z0 := h6.right.lt
  have z1 := h6.right.right.lt
  rw [ea] at qa h6
  have H6 := Lib.hid h6
  have HO := Lib.hid (And.intro ok2 hws)
  have HST2 := Lib.hid (HST.out.trans hst2)
  have HEA := Lib.hid (And.intro eA eF)
  have HRZ := Lib.hid hR
  have HEW := Lib.hid ew
  have HEV := Lib.hid ea
  have e1 : wv = .slice aw ws.length cw := ew
  clear h4 h5 h6 D hst2 HST ok2 hws hS eA eF hR ew ea
  subst e1
  have hnew := Lib.hid (new_cells w2 [.int .i64 s.pool.mark, .slice aw ws.length cw] 94 _ rfl)
  have H7 := Lib.hid (H6.out.alloc (.cells #[.int .i64 s.pool.mark, .slice aw ws.length cw] 94)).right
  clear H6
  go_wp2
  refine wp_region_staged (sz := 31) (by kernel_rfl) [0, 1, 2, 3, 4, 5] [(6, [], [0, 1, 2, 3, 4]), (7, [8, 9], [0, 1, 2, 3]), (10, [], [8])] rfl (by kernel_rfl) (by kernel_rfl) (by kernel_rfl) ?_
  iterate 6 (refine wpQ_step rfl rfl (fun K hK => ?_); go_simp; refine hK _ ?_; clear hK K)
  refine wpQ_nil ?_
  refine wpRest_act rfl ?_
  go_wp2
  refine onN_mk (wpQ_nil ⟨?_, ?_⟩)
  · refine chk_cons ?_ (chk_cons ?_ (chk_cons ?_ (chk_cons ?_ (chk_cons ?_ chk_nil)))) <;> (refine yieldF_of rfl rfl rfl rfl ?_; go_simp; try omega)
  refine wpRest_act rfl ?_
  obtain ⟨i0, hi, hz0, hz1, hz2⟩ := info_parts infoVAct
  refine wpList_append_sl rfl _ _ _ rfl 94 i0 (.agg #[.int .i64 0, .slice none 0 0]) 2 32 Try.underlying41 hi hz0 hz1 hz2 rfl _ _ _ rfl H7.out ⟨w2.heap.size, 0, none⟩ 1 1 _ rfl rfl hnew.out (by simp [Value.oneCell']) (by simp only [maxLen]; omega) (by omega) ?_
  intro v' w3 hsat hgr _
  obtain ⟨a2, c2, hv2, _, _⟩ := Row.read hsat
  subst hv2
  have hp := hsat.right
  have y2 := frozen_of_heap hp.pts_heap 2
  have y2c : w3.cell? ⟨v, 2, none⟩ = some (.slice aa s.acts.length ca) := by rw [cell_of_heap hp.pts_heap]; rfl
  have yp := hp.lt
  have HSAT := Lib.hid hsat
  have HG := Lib.hid (((HST2.out.alloc (.cells #[.int .i64 s.pool.mark, .slice aw ws.length cw] 94)).drew).of_grown hgr)
  clear hsat hp hgr q0 q1 qa z0 z1 H7 hnew
  go_wp2
  refine onN_mk ?_
  iterate 2 (refine wpQ_step rfl rfl (fun K hK => ?_); go_simp; refine hK _ ?_; clear hK K)
  refine wpQ_nil ⟨?_, ?_⟩
  · refine chk_cons ?_ (chk_cons ?_ (chk_cons ?_ (chk_cons ?_ chk_nil))) <;> (refine yieldF_of rfl rfl rfl rfl ?_; go_simp; try omega)
  refine wpRest_act rfl ?_
  go_wp2
  refine onN_mk (wpQ_nil ⟨?_, wpRest_nil ?_⟩)
  · refine chk_cons ?_ chk_nil <;> (refine yieldF_of rfl rfl rfl rfl ?_; go_simp; try omega)
  go_wp2
  go_ret
  refine ⟨HG.out.setCell _ _, rfl, z, HRZ.out, ?_⟩
  have h8 : Sat ((Pr.pts v (.cells #[.pointer (some ⟨x2.p, 0, none⟩), .map (some x2.mb), .slice a2 (s.acts.length + 1) c2, .int .i64 s.floor] 43)).star ((Row 94 2 (.slice a2 (s.acts.length + 1) c2) (s.acts.length + 1) (actCells x2.axs ++ [.int .i64 s.pool.mark, .slice aw ws.length cw])).star ((Pr.pts w1.heap.size (.cells #[.int .i64 s.pool.mark, .slice aw ws.length cw] 94)).star ((Row 116 7 (.slice aw ws.length cw) ws.length (ws.flatMap WasX.cells)).star (((PoolA x2.p (S z).pool).star ((MapA Try.prog 3 x2.mb x2.f).star (Pr.own x2.h))).star (F' z)))))) _ := (HSAT.out.perm (Pr.left_comm _ _ _)).setCell (i := 2) (.slice a2 (s.acts.length + 1) c2)
  have h9 : Sat ((Row 116 7 (.slice aw ws.length cw) ws.length (ws.flatMap WasX.cells)).star ((Pr.own x2.h).star ((Pr.pts v (.cells #[.pointer (some ⟨x2.p, 0, none⟩), .map (some x2.mb), .slice a2 (s.acts.length + 1) c2, .int .i64 s.floor] 43)).star ((Row 94 2 (.slice a2 (s.acts.length + 1) c2) (s.acts.length + 1) (actCells x2.axs ++ [.int .i64 s.pool.mark, .slice aw ws.length cw])).star ((Pr.pts w1.heap.size (.cells #[.int .i64 s.pool.mark, .slice aw ws.length cw] 94)).star ((PoolA x2.p (S z).pool).star ((MapA Try.prog 3 x2.mb x2.f).star (F' z)))))))) _ := h8.perm (by ac_rfl)
  obtain ⟨h2, hrow, h10⟩ := toArena (Q := fun y => RowIn y 7 (.slice aw ws.length cw) ws.length (ws.flatMap WasX.cells)) h9 (fun y hy => Row.rowIn hy)
  obtain ⟨hdis, h11⟩ := Sat.own_join (h10.perm (Pr.left_comm _ _ _))
  have h12 : Sat ((Pr.pts w1.heap.size (.cells #[.int .i64 s.pool.mark, .slice aw ws.length cw] 94)).star ((Pr.own (x2.h.un h2)).star (((Pr.pts v (.cells #[.pointer (some ⟨x2.p, 0, none⟩), .map (some x2.mb), .slice a2 (s.acts.length + 1) c2, .int .i64 s.floor] 43)).star ((Row 94 2 (.slice a2 (s.acts.length + 1) c2) (s.acts.length + 1) (actCells x2.axs ++ [.int .i64 s.pool.mark, .slice aw ws.length cw])).star ((PoolA x2.p (S z).pool).star (MapA Try.prog 3 x2.mb x2.f)))).star (F' z)))) _ := h11.perm (by ac_rfl)
  obtain ⟨ok2, hws⟩ := HO.out
  obtain ⟨eA, eF⟩ := HEA.out
  refine vaultA_iff.2 ⟨{ x2 with av := .slice a2 (s.acts.length + 1) c2, axs := x2.axs ++ [(s.pool.mark, .slice aw ws.length cw)], h := x2.h.un h2 }, ⟨ok2.on.sub (Hp.sub_un_left _ _), ?_, ?_, ?_⟩, ?_⟩
  · refine acts_snoc (ok2.acts.sub (Hp.sub_un_left _ _)) ⟨rfl, ws, ?_, hws.sub (Hp.sub_un_left _ _)⟩
    have hl : (W z).length = ws.length := hws.1.symm
    dsimp only
    rw [hl]
    exact hrow.sub (Hp.sub_un_right hdis)
  · exact ok2.f0
  · show (S z).floor + (((S z).acts ++ [_]).length : Nat) ≤ _
    rw [eA, eF, List.length_append]
    simp only [List.length_cons, List.length_nil]
    omega
  · refine h12.right.perm ?_
    unfold VaultAt
    have e1 : ((S z).acted ⟨s.pool.mark, W z⟩).acts.length = s.acts.length + 1 := by
      show ((S z).acts ++ [_]).length = _
      rw [eA, List.length_append]; rfl
    have e2 : ((S z).acted ⟨s.pool.mark, W z⟩).floor = s.floor := eF
    have e3 : actCells (x2.axs ++ [(s.pool.mark, .slice aw ws.length cw)]) = actCells x2.axs ++ [.int .i64 s.pool.mark, .slice aw ws.length cw] := by
      unfold actCells; rw [List.flatMap_append]; rfl
    dsimp only
    rw [e1, e2, e3]
    show _ = (Pr.star _ ((PoolA x2.p (S z).pool).star _)).star _
    ac_rfl
end Go.Proofs.Ytbobcmimkonnoaa.vault5
