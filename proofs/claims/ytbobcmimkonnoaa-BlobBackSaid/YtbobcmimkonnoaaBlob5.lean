/- blob.Store and Load of short values; too long ones; the conditions stand as hypotheses. -/
import Derived.Test.YtbobcmimkonnoaaBlob4
namespace Go.Proofs.Ytbobcmimkonnoaa.blob5
open Go.ChangeShapes Go.WideShapes Go.ChangeAt Go.RowKit Go.Sl Go.Cop Go.Proofs.Ytbobcmimkonnoaa.pool1 Go.Proofs.Ytbobcmimkonnoaa.pool2 Go.Proofs.Ytbobcmimkonnoaa.pool5 Go.Proofs.Ytbobcmimkonnoaa.pool9 Go.Proofs.Ytbobcmimkonnoaa.clone Go.Proofs.Ytbobcmimkonnoaa.page Go.Proofs.Ytbobcmimkonnoaa.vault1 Go.Proofs.Ytbobcmimkonnoaa.vault2 Go.Proofs.Ytbobcmimkonnoaa.vault3 Go.Proofs.Ytbobcmimkonnoaa.vault4 Go.Proofs.Ytbobcmimkonnoaa.vault5 Go.Proofs.Ytbobcmimkonnoaa.vault6 Go.Proofs.Ytbobcmimkonnoaa.blob1 Go.Proofs.Ytbobcmimkonnoaa.blob4

set_option maxRecDepth 100000 in
set_option maxHeartbeats 4000000 in
theorem store_val (v : Nat) (kv vv : Value) (hp : Hp) (K V : List Int) (hK : Bytes hp kv K) (hV : Bytes hp vv V) (hk : 1 ≤ K.length ∧ K.length ≤ 24) (hv : 3840 < V.length) (w : World) :
    Calls Try.prog 11 #[.pointer (some ⟨v, 0, none⟩), kv, vv] w fun e w' => e = .returned (.tuple #[zeroItem, .int .i64 8]) ∧ Only w w' := by
  obtain ⟨_, ak, ck, rfl, _⟩ := id hK
  obtain ⟨_, av, cv, rfl, _, _, _⟩ := id hV
  have es : (w.alloc (.cells #[.pointer (some ⟨v, 0, none⟩)] 26)).heap.size = w.heap.size + 1 := by simp
  have es2 : ((w.alloc (.cells #[.pointer (some ⟨v, 0, none⟩)] 26)).alloc (.cells #[.slice none 0 0, .slice none 0 0, .int .i64 0, .int .i64 0] 33)).heap.size = w.heap.size + 1 + 1 := by simp
  have h1 := (((sat_emp w).alloc (.cells #[.pointer (some ⟨v, 0, none⟩)] 26)).alloc (.cells #[.slice none 0 0, .slice none 0 0, .int .i64 0, .int .i64 0] 33)).alloc (.cells #[.int .i64 8] 27)
  rw [es2, es] at h1
  have HO := Lib.hid ((((Only.refl w).alloc (.cells #[.pointer (some ⟨v, 0, none⟩)] 26)).alloc (.cells #[.slice none 0 0, .slice none 0 0, .int .i64 0, .int .i64 0] 33)).alloc (.cells #[.int .i64 8] 27))
  have H1 := Lib.hid h1
  clear h1 es es2 hK hV
  go_enter Try.func11, Try.ntmps11
  go_wp2
  have h2 := H1.out.perm (Pr.left_comm _ _ _)
  refine bodyPost_ret (results_cell_cell rfl _ _ (w.heap.size + 1) _ rfl (run_loadVar_row _ (w.heap.size + 1) _ _ _ _ _ h2.pts_heap Try.underlying33 rfl infoItemS) (w.heap.size + 1 + 1) (.int .i64 8) rfl (load_errno H1.out.pts_heap)) rfl ?_
  exact ⟨rfl, HO.out⟩

set_option maxRecDepth 100000 in
set_option maxHeartbeats 4000000 in
theorem store_short (v : Nat) (kv vv : Value) (hp : Hp) (K V : List Int) (hK : Bytes hp kv K) (hV : Bytes hp vv V) (hk : 1 ≤ K.length ∧ K.length ≤ 24) (hv : V.length ≤ 32) (F : Pr) (w : World) (hF : Sat ((Pr.own hp).star F) w) :
    Calls Try.prog 11 #[.pointer (some ⟨v, 0, none⟩), kv, vv] w fun e w' => Stays w w' ∧ ∃ kv' vv' h', e = .returned (.tuple #[.agg #[kv', vv', .int .i64 0, .int .i64 V.length], .int .i64 0]) ∧ Bytes h' kv' K ∧ Bytes h' vv' V ∧
      Sat ((Pr.own h').star ((Pr.own hp).star F)) w' := by
  obtain ⟨_, ak, ck, rfl, _⟩ := id hK
  obtain ⟨_, av, cv, rfl, _, _, _⟩ := id hV
  have es : (w.alloc (.cells #[.pointer (some ⟨v, 0, none⟩)] 26)).heap.size = w.heap.size + 1 := by simp
  have es2 : ((w.alloc (.cells #[.pointer (some ⟨v, 0, none⟩)] 26)).alloc (.cells #[.slice none 0 0, .slice none 0 0, .int .i64 0, .int .i64 0] 33)).heap.size = w.heap.size + 1 + 1 := by simp
  have h1 := ((hF.alloc (.cells #[.pointer (some ⟨v, 0, none⟩)] 26)).alloc (.cells #[.slice none 0 0, .slice none 0 0, .int .i64 0, .int .i64 0] 33)).alloc (.cells #[.int .i64 0] 27)
  rw [es2, es] at h1
  have hle := (h1.perm (B := (Pr.own hp).star ((Pr.pts (w.heap.size + 1 + 1) (.cells #[.int .i64 0] 27)).star ((Pr.pts (w.heap.size + 1) (.cells #[.slice none 0 0, .slice none 0 0, .int .i64 0, .int .i64 0] 33)).star ((Pr.pts w.heap.size (.cells #[.pointer (some ⟨v, 0, none⟩)] 26)).star F)))) (by ac_rfl)).own
  have C := Lib.hid (bclone_any hp _ K _ _ h1 hle hK (by omega))
  have HST := Lib.hid ((((Stays.refl w).alloc (.cells #[.pointer (some ⟨v, 0, none⟩)] 26)).alloc (.cells #[.slice none 0 0, .slice none 0 0, .int .i64 0, .int .i64 0] 33)).alloc (.cells #[.int .i64 0] 27))
  have HV := Lib.hid hV
  clear h1 hle hF es es2 hK hV
  go_enter Try.func11, Try.ntmps11
  go_wp2_with fail
  refine C.out.mono ?_
  rintro e w1 ⟨kv', rfl, h1, hst⟩
  obtain ⟨ak', ck', ek, _, _⟩ := Row.read h1
  subst ek
  have h2 : Sat ((Pr.pts (w.heap.size + 1) (.cells #[.slice none 0 0, .slice none 0 0, .int .i64 0, .int .i64 0] 33)).star ((BytesRow (.slice ak' K.length ck') K).star ((Pr.pts (w.heap.size + 1 + 1) (.cells #[.int .i64 0] 27)).star ((Pr.pts w.heap.size (.cells #[.pointer (some ⟨v, 0, none⟩)] 26)).star ((Pr.own hp).star F))))) w1 := h1.perm (by ac_rfl)
  have f0 : w1.cell? ⟨w.heap.size + 1, 0, none⟩ = some (.slice none 0 0) := by rw [cell_of_heap h2.pts_heap]; rfl
  have f1 : w1.cell? ⟨w.heap.size + 1, 1, none⟩ = some (.slice none 0 0) := by rw [cell_of_heap h2.pts_heap]; rfl
  have f2 : w1.cell? ⟨w.heap.size + 1, 2, none⟩ = some (.int .i64 0) := by rw [cell_of_heap h2.pts_heap]; rfl
  have f3 : w1.cell? ⟨w.heap.size + 1, 3, none⟩ = some (.int .i64 0) := by rw [cell_of_heap h2.pts_heap]; rfl
  have z0 := frozen_of_heap h2.pts_heap 0
  have z1 := frozen_of_heap h2.pts_heap 1
  have z2 := frozen_of_heap h2.pts_heap 2
  have z3 := frozen_of_heap h2.pts_heap 3
  have s3 : Sat ((Pr.pts (w.heap.size + 1) (.cells #[.slice ak' K.length ck', .slice none 0 0, .int .i64 0, .int .i64 V.length] 33)).star ((BytesRow (.slice ak' K.length ck') K).star ((Pr.pts (w.heap.size + 1 + 1) (.cells #[.int .i64 0] 27)).star ((Pr.pts w.heap.size (.cells #[.pointer (some ⟨v, 0, none⟩)] 26)).star ((Pr.own hp).star F))))) _ := (((h2.setCell (i := 0) (.slice ak' K.length ck')).setCell (i := 1) (.slice none 0 0)).setCell (i := 2) (.int .i64 0)).setCell (i := 3) (.int .i64 V.length)
  have hle2 := s3.right.right.right.right.own
  have D := Lib.hid (bclone_any hp _ V _ _ s3 hle2 HV.out (by omega))
  have HST2 := Lib.hid ((((HST.out.trans hst).setCell ⟨w.heap.size + 1, 0, none⟩ (.slice ak' K.length ck')).setCell ⟨w.heap.size + 1, 1, none⟩ (.slice none 0 0)).setCell ⟨w.heap.size + 1, 2, none⟩ (.int .i64 0) |>.setCell ⟨w.heap.size + 1, 3, none⟩ (.int .i64 V.length))
  clear h1 h2 s3 hle2 hst HST C
  go_wp2_with fail
  refine D.out.mono ?_
  rintro e w2 ⟨vv', rfl, h4, hst2⟩
  obtain ⟨av', cv', ev, _, _⟩ := Row.read h4
  subst ev
  have h5 : Sat ((Pr.pts (w.heap.size + 1) (.cells #[.slice ak' K.length ck', .slice none 0 0, .int .i64 0, .int .i64 V.length] 33)).star ((Pr.pts (w.heap.size + 1 + 1) (.cells #[.int .i64 0] 27)).star ((BytesRow (.slice ak' K.length ck') K).star ((BytesRow (.slice av' V.length cv') V).star ((Pr.pts w.heap.size (.cells #[.pointer (some ⟨v, 0, none⟩)] 26)).star ((Pr.own hp).star F)))))) w2 := h4.perm (by ac_rfl)
  have g0 : w2.cell? ⟨w.heap.size + 1, 0, none⟩ = some (.slice ak' K.length ck') := by rw [cell_of_heap h5.pts_heap]; rfl
  have g1 : w2.cell? ⟨w.heap.size + 1, 1, none⟩ = some (.slice none 0 0) := by rw [cell_of_heap h5.pts_heap]; rfl
  have g2 : w2.cell? ⟨w.heap.size + 1, 2, none⟩ = some (.int .i64 0) := by rw [cell_of_heap h5.pts_heap]; rfl
  have g3 : w2.cell? ⟨w.heap.size + 1, 3, none⟩ = some (.int .i64 V.length) := by rw [cell_of_heap h5.pts_heap]; rfl
  have ge : w2.cell? ⟨w.heap.size + 1 + 1, 0, none⟩ = some (.int .i64 0) := by rw [cell_of_heap h5.right.pts_heap]; rfl
  have y0 := frozen_of_heap h5.pts_heap 0
  have y1 := frozen_of_heap h5.pts_heap 1
  have y2 := frozen_of_heap h5.pts_heap 2
  have y3 := frozen_of_heap h5.pts_heap 3
  have ye := frozen_of_heap h5.right.pts_heap 0
  have s6 : Sat ((Pr.pts (w.heap.size + 1) (.cells #[.slice ak' K.length ck', .slice av' V.length cv', .int .i64 0, .int .i64 V.length] 33)).star ((Pr.pts (w.heap.size + 1 + 1) (.cells #[.int .i64 0] 27)).star ((BytesRow (.slice ak' K.length ck') K).star ((BytesRow (.slice av' V.length cv') V).star ((Pr.pts w.heap.size (.cells #[.pointer (some ⟨v, 0, none⟩)] 26)).star ((Pr.own hp).star F)))))) _ := ((((h5.setCell (i := 1) (.slice av' V.length cv')).setCell (i := 0) (.slice ak' K.length ck')).setCell (i := 1) (.slice av' V.length cv')).setCell (i := 2) (.int .i64 0)).setCell (i := 3) (.int .i64 V.length)
  have s7 : Sat ((Pr.pts (w.heap.size + 1 + 1) (.cells #[.int .i64 0] 27)).star ((Pr.pts (w.heap.size + 1) (.cells #[.slice ak' K.length ck', .slice av' V.length cv', .int .i64 0, .int .i64 V.length] 33)).star ((BytesRow (.slice ak' K.length ck') K).star ((BytesRow (.slice av' V.length cv') V).star ((Pr.pts w.heap.size (.cells #[.pointer (some ⟨v, 0, none⟩)] 26)).star ((Pr.own hp).star F)))))) _ := (s6.perm (Pr.left_comm _ _ _)).setCell (i := 0) (.int .i64 0)
  have S7 := Lib.hid s7
  have HST3 := Lib.hid ((HST2.out.trans hst2).setCell ⟨w.heap.size + 1, 1, none⟩ (.slice av' V.length cv') |>.setCell ⟨w.heap.size + 1, 0, none⟩ (.slice ak' K.length ck') |>.setCell ⟨w.heap.size + 1, 1, none⟩ (.slice av' V.length cv') |>.setCell ⟨w.heap.size + 1, 2, none⟩ (.int .i64 0) |>.setCell ⟨w.heap.size + 1, 3, none⟩ (.int .i64 V.length) |>.setCell ⟨w.heap.size + 1 + 1, 0, none⟩ (.int .i64 0))
  clear h4 h5 s6 s7 hst2 HST2 D f0 f1 f2 f3 z0 z1 z2 z3
  go_wp2
  have l1 := run_loadVar_row (P := Try.prog) _ (w.heap.size + 1) _ _ _ _ _ S7.out.right.pts_heap Try.underlying33 rfl infoItemS
  refine bodyPost_ret (results_cell_cell rfl _ _ (w.heap.size + 1) _ rfl l1 (w.heap.size + 1 + 1) (.int .i64 0) rfl (load_errno S7.out.pts_heap)) rfl ?_
  have s8 : Sat (((BytesRow (.slice ak' K.length ck') K).star (BytesRow (.slice av' V.length cv') V)).star ((Pr.pts w.heap.size (.cells #[.pointer (some ⟨v, 0, none⟩)] 26)).star ((Pr.own hp).star F))) _ := S7.out.right.right.perm (Pr.star_assoc _ _ _).symm
  obtain ⟨h', ⟨e1, e2⟩, s9⟩ := toArena (Q := fun x => Bytes x (.slice ak' K.length ck') K ∧ Bytes x (.slice av' V.length cv') V) s8 (by
    intro x hx
    obtain ⟨a, b, ha, hb, s1, s2⟩ := star_sub hx
    exact ⟨(Row.rowIn ha).sub s1, (Row.rowIn hb).sub s2⟩)
  have s10 : Sat ((Pr.pts w.heap.size (.cells #[.pointer (some ⟨v, 0, none⟩)] 26)).star ((Pr.own h').star ((Pr.own hp).star F))) _ := s9.perm (Pr.left_comm _ _ _)
  exact ⟨HST3.out, _, _, h', rfl, e1, e2, s10.right⟩

set_option maxRecDepth 100000 in
set_option maxHeartbeats 4000000 in
theorem load_short (v : Nat) (ak : Option Addr) (mk ck : Nat) (c : Int) (vv : Value) (hp : Hp) (V : List Int) (hV : Bytes hp vv V) (hv : V.length ≤ 32) (F : Pr) (w : World) (hF : Sat F w) (hle : hp.le w) :
    Calls Try.prog 12 #[.pointer (some ⟨v, 0, none⟩), .agg #[.slice ak mk ck, vv, .int .i64 c, .int .i64 V.length]] w fun e w' =>
      Stays w w' ∧ ∃ o, e = .returned (.tuple #[o, .int .i64 0]) ∧ Sat ((BytesRow o V).star F) w' := by
  obtain ⟨_, av, cv, rfl, _, _, _⟩ := id hV
  have h1 := hF.alloc (.cells #[.slice ak mk ck, .slice av V.length cv, .int .i64 c, .int .i64 V.length] 33)
  have hle2 : hp.le (w.alloc (.cells #[.slice ak mk ck, .slice av V.length cv, .int .i64 c, .int .i64 V.length] 33)) :=
    fun k o e => (((Only.refl w).alloc _).heap k (Array.getElem?_eq_some_iff.1 (hle k o e)).1).trans (hle k o e)
  have C := Lib.hid (bclone_any hp _ V _ _ h1 hle2 hV (by omega))
  clear h1 hle2 hF hle hV
  go_enter Try.func12, Try.ntmps12
  go_wp2_with fail
  refine C.out.mono ?_
  rintro e w1 ⟨o, rfl, h2, hst⟩
  have H2 := Lib.hid (h2.perm (Pr.left_comm _ _ _)).right
  clear h2 C
  go_wp2
  go_ret2
  exact ⟨((Stays.refl w).alloc _).trans hst, o, rfl, H2.out⟩
end Go.Proofs.Ytbobcmimkonnoaa.blob5
