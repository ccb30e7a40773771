/- The vault: Make where no page is free; the conditions stand as hypotheses. -/
import Derived.Test.YtbobcmimkonnoaaBack2
import Derived.Test.YtbobcmimkonnoaaBlob1
namespace Go.Proofs.Ytbobcmimkonnoaa.vault7
open Go.ChangeShapes Go.WideShapes Go.ChangeAt Go.RowKit Go.Sl Go.Cop Go.Proofs.Ytbobcmimkonnoaa.pool1 Go.Proofs.Ytbobcmimkonnoaa.pool2 Go.Proofs.Ytbobcmimkonnoaa.pool5 Go.Proofs.Ytbobcmimkonnoaa.pool9 Go.Proofs.Ytbobcmimkonnoaa.clone Go.Proofs.Ytbobcmimkonnoaa.page Go.Proofs.Ytbobcmimkonnoaa.vault1 Go.Proofs.Ytbobcmimkonnoaa.vault2 Go.Proofs.Ytbobcmimkonnoaa.vault3 Go.Proofs.Ytbobcmimkonnoaa.vault4 Go.Proofs.Ytbobcmimkonnoaa.vault5 Go.Proofs.Ytbobcmimkonnoaa.vault6 Go.Proofs.Ytbobcmimkonnoaa.back1 Go.Proofs.Ytbobcmimkonnoaa.back2

set_option maxRecDepth 100000 in
set_option maxHeartbeats 4000000 in
theorem do_full (v : Nat) (s : VaultS) (g : Nat) (caps : Array Value) (F2 : Pr) (F : Pr) (w : World) (hF : Sat ((VaultA v s).star F) w)
    (eg : ∀ args w, (callFunc g args).run Try.prog w = .ok (.enter g args) w)
    (hc : ∀ ab w1, Sat ((VMA v s ab s.pool.mark []).star F) w1 → Calls Try.prog g (#[.pointer (some ⟨ab, 0, none⟩)] ++ caps) w1 fun e w' =>
      Stays w1 w' ∧ e = .returned (.int .i64 12) ∧ Sat ((VMA v s ab s.pool.mark []).star F2) w') :
    Calls Try.prog 50 #[.pointer (some ⟨v, 0, none⟩), .func (.func g) #[] caps] w fun e w' =>
      Stays w w' ∧ e = .returned (.int .i64 12) ∧ Sat ((VaultA v s).star F2) w' := by
  obtain ⟨x, ok, hF⟩ := vaultA_iff.1 hF
  have h1 : Sat ((PoolA x.p s.pool).star ((Pr.pts v (.cells #[.pointer (some ⟨x.p, 0, none⟩), .map (some x.mb), x.av, .int .i64 s.floor] 43)).star
    ((((MapA Try.prog 3 x.mb x.f).star ((Row 94 2 x.av s.acts.length (actCells x.axs)).star (Pr.own x.h)))).star F))) w := hF.perm (by unfold VaultAt; ac_rfl)
  have qv : w.cell? ⟨v, 0, none⟩ = some (.pointer (some ⟨x.p, 0, none⟩)) := by rw [cell_of_heap h1.right.pts_heap]; rfl
  have C := Lib.hid (mark_A x.p s.pool _ w h1)
  have HF := Lib.hid hF
  have OK := Lib.hid ok
  clear h1 hF ok
  go_enter Try.func50, Try.ntmps50
  go_wp2_with fail
  refine C.out.mono ?_
  rintro e w1 ⟨rfl, hst, hh⟩
  have h2 := (HF.out.ext (w' := w1) (fun _ _ => by rw [hh])).alloc (.cells #[.int .i64 s.pool.mark, .slice none 0 0] 94)
  have h3 : Sat ((VMA v s w1.heap.size s.pool.mark []).star F) _ := vma_iff.2 ⟨x, .slice none 0 0, [], OK.out, ⟨rfl, fun i h => absurd h (by simp)⟩, h2.perm (by
    unfold VMAt
    rw [show (Row 116 7 (.slice none 0 0) ([] : List WasX).length (([] : List WasX).flatMap WasX.cells)) = Pr.emp from Row.nil _ _, Pr.star_emp]
    ac_rfl)⟩
  have D := Lib.hid (hc _ _ h3)
  have HST := Lib.hid (hst.alloc (.cells #[.int .i64 s.pool.mark, .slice none 0 0] 94))
  clear h2 h3 hst hh HF C qv hc OK
  go_wp2_with fail
  refine (D.out).mono ?_
  rintro e w2 ⟨hst2, rfl, h4⟩
  obtain ⟨x2, wv, ws, ok2, hws, h5⟩ := vma_iff.1 h4
  have hwl : ws = [] := List.eq_nil_of_length_eq_zero hws.1
  subst hwl
  have h6 : Sat ((Row 116 7 wv 0 []).star ((Pr.pts w1.heap.size (.cells #[.int .i64 s.pool.mark, wv] 94)).star ((VaultAt v s x2).star F2))) w2 := h5.perm (by unfold VMAt; show (Pr.star _ ((Pr.pts _ _).star (Row 116 7 wv 0 []))).star _ = _; ac_rfl)
  obtain ⟨aw, cw, ew, _, _⟩ := Row.read h6
  subst ew
  have hcw := Row.bd h6
  have q0 : w2.cell? ⟨w1.heap.size, 0, none⟩ = some (.int .i64 s.pool.mark) := by rw [cell_of_heap h6.right.pts_heap]; rfl
  have q1 : w2.cell? ⟨w1.heap.size, 1, none⟩ = some (.slice aw 0 cw) := by rw [cell_of_heap h6.right.pts_heap]; rfl
  have h7 := h6.right.right
  have B := back_none v s x2 s.pool.acts.length s.pool.counts (.slice aw 0 cw) [] ⟨by simp, aw, cw, rfl, Nat.zero_le _, hcw, fun h => absurd h (by simp)⟩ (by simp) (fun X hX => by cases hX) F2 w2 h7 (Nat.le_refl _) (by rw [List.drop_length]; rfl)
  have HB := Lib.hid B
  have HOK := Lib.hid ok2
  have HST2 := Lib.hid (HST.out.trans hst2)
  clear B h4 h5 h6 h7 D hst2 HST ok2 hws
  go_wp2_with fail
  refine HB.out.mono ?_
  rintro e w3 ⟨rfl, h8, hst3⟩
  have e1 : ({ s with pool := { s.pool with counts := s.pool.counts, acts := s.pool.acts.take s.pool.acts.length } } : VaultS) = s := by rw [List.take_length]
  have e2 : ({ x2 with f := struck x2.f (backs []) } : VX) = x2 := by
    rw [show backs [] = [] from rfl, struck_nil]
  rw [e1, e2] at h8
  have H8 := Lib.hid h8
  clear h8 HB e1 e2
  go_wp2
  go_ret
  exact ⟨HST2.out.trans hst3, rfl, vaultA_iff.2 ⟨x2, HOK.out, H8.out⟩⟩

set_option maxRecDepth 100000 in
set_option maxHeartbeats 4000000 in
theorem make_full (v : Nat) (s : VaultS) (hp : Hp) (vi vd : Value) (d : List Int) (next : Int) (hd : 1 ≤ d.length ∧ d.length ≤ 480) (hx : next = 0 ∨ 1 ≤ next ∧ next ≤ 65536) (hg : PageIn hp (.agg (blobCells vi vd next)) (blobV d next)) (F : Pr) (w : World)
    (hF : Sat ((VaultA v s).star ((Pr.own hp).star F)) w) (hno : ∀ m, s.pool.state m ≠ 1) (hm : s.pool.floor + s.pool.acts.length < 1099511627776) :
    Calls Try.prog 26 #[.pointer (some ⟨v, 0, none⟩), .agg (blobCells vi vd next)] w fun e w' =>
      Stays w w' ∧ e = .returned (.tuple #[.int .i64 0, .int .i64 12]) ∧ Sat ((VaultA v s).star ((Pr.own hp).star F)) w' := by
  obtain ⟨vi0, vd0, ee, hi0, hb0⟩ := id hg
  simp only [blobCells, pageV, Value.agg.injEq, Array.mk.injEq, List.cons.injEq, and_true, true_and] at ee
  obtain ⟨rfl, rfl⟩ := ee
  obtain ⟨ai, ci, rfl, _⟩ := items_none hi0
  obtain ⟨_, ad, cd, rfl, _⟩ := id hb0
  clear hi0 hb0
  have es : (w.alloc (.cells #[.pointer (some ⟨v, 0, none⟩)] 26)).heap.size = w.heap.size + 1 := by simp
  have h1 := (hF.alloc (.cells #[.pointer (some ⟨v, 0, none⟩)] 26)).alloc (.cells (blobCells (.slice ai 0 ci) (.slice ad d.length cd) next) 65)
  rw [es] at h1
  have HC := fun wx => Lib.hid (check_blob ai ad ci d.length cd next hd hx wx)
  have H1 := Lib.hid h1
  clear h1 hF es
  go_enter Try.func26, Try.ntmps26
  go_wp2_with fail
  refine (HC _).out.mono ?_
  rintro e w1 ⟨rfl, ho⟩
  have h2 := H1.out.only ho
  have h3 := h2.alloc (.cells #[.int .i64 0] 3)
  have h4 := h3.perm (B := (VaultA v s).star ((Pr.pts w.heap.size (.cells #[.pointer (some ⟨v, 0, none⟩)] 26)).star ((Pr.pts w1.heap.size (.cells #[.int .i64 0] 3)).star ((Pr.pts (w.heap.size + 1) (.cells (blobCells (.slice ai 0 ci) (.slice ad d.length cd) next) 65)).star ((Pr.own hp).star F))))) (by ac_rfl)
  have q0 : (w1.alloc (.cells #[.int .i64 0] 3)).cell? ⟨w.heap.size, 0, none⟩ = some (.pointer (some ⟨v, 0, none⟩)) := by rw [cell_of_heap h4.right.pts_heap]; rfl
  have D := do_full v s 51 #[.pointer (some ⟨w.heap.size, 0, none⟩), .pointer (some ⟨w1.heap.size, 0, none⟩), .pointer (some ⟨w.heap.size + 1, 0, none⟩)]
    ((Pr.pts w1.heap.size (.cells #[.int .i64 0] 3)).star ((Pr.own hp).star F)) _ _ h4 (fun _ _ => rfl) (fun ab wx hwx =>
      (make1_A v s ab s.pool.mark w.heap.size w1.heap.size (w.heap.size + 1) 0 hp (.slice ai 0 ci) (.slice ad d.length cd) d next (by omega) hg F wx hwx hm).mono (by
        rintro e w' ⟨hst, (⟨e1, _, e2⟩ | ⟨n, _, e2, _, _⟩)⟩
        · exact ⟨hst, e1, e2⟩
        · exact absurd e2 (hno n)))
  have HD := Lib.hid D
  have HST := Lib.hid (((((Stays.refl w).alloc (.cells #[.pointer (some ⟨v, 0, none⟩)] 26)).alloc (.cells (blobCells (.slice ai 0 ci) (.slice ad d.length cd) next) 65)).trans ho.st).alloc (.cells #[.int .i64 0] 3))
  clear D h4 h3 h2 ho H1 HC
  go_wp2_with fail
  refine HD.out.mono ?_
  rintro e w2 ⟨hst2, rfl, h5⟩
  have h6 := h5.perm (Pr.left_comm _ _ _)
  have q1 : w2.cell? ⟨w1.heap.size, 0, none⟩ = some (.int .i64 0) := by rw [cell_of_heap h6.pts_heap]; rfl
  have H6 := Lib.hid h6.right
  clear h5 h6
  go_wp2
  go_ret2
  exact ⟨HST.out.trans hst2, rfl, H6.out⟩
end Go.Proofs.Ytbobcmimkonnoaa.vault7
