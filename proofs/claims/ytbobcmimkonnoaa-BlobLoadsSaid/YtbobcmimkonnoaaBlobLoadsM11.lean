/- blob.Store of a long value, room or not; the conditions stand as hypotheses. blob.Store and Load of short values; too long ones; the conditions stand as hypotheses. The page's Kids at pages of values; the conditions stand as hypotheses. The vault: free, in the midst of an act; the conditions stand as hypotheses. -/
import Derived.Test.YtbobcmimkonnoaaBlobLoadsM10
import Derived.Test.YtbobcmimkonnoaaBlobLoadsM09
namespace Go.Cop
theorem none_free {s : PoolS} (ok : PoolOk s) (h : s.many 1 = 0) : ∀ m, s.state m ≠ 1 := by
  intro m hm
  have h1 := did_many ok hm
  omega
end Go.Cop
namespace Go.Proofs.Ytbobcmimkonnoaa.blob4
open Go.ChangeShapes Go.WideShapes Go.ChangeAt Go.RowKit Go.Sl Go.Cop Go.Proofs.Ytbobcmimkonnoaa.pool1 Go.Proofs.Ytbobcmimkonnoaa.pool2 Go.Proofs.Ytbobcmimkonnoaa.pool5 Go.Proofs.Ytbobcmimkonnoaa.pool9 Go.Proofs.Ytbobcmimkonnoaa.clone Go.Proofs.Ytbobcmimkonnoaa.page Go.Proofs.Ytbobcmimkonnoaa.vault1 Go.Proofs.Ytbobcmimkonnoaa.vault2 Go.Proofs.Ytbobcmimkonnoaa.vault3 Go.Proofs.Ytbobcmimkonnoaa.vault4 Go.Proofs.Ytbobcmimkonnoaa.vault5 Go.Proofs.Ytbobcmimkonnoaa.vault6 Go.Proofs.Ytbobcmimkonnoaa.vault7 Go.Proofs.Ytbobcmimkonnoaa.vault8 Go.Proofs.Ytbobcmimkonnoaa.blob1

abbrev zeroItem : Value := .agg #[.slice none 0 0, .slice none 0 0, .int .i64 0, .int .i64 0]

set_option maxRecDepth 100000 in
set_option maxHeartbeats 1000000 in
theorem store1_err (EB VB MB IB v : Nat) (s0 s : VaultS) (c0 c1 : Value) (x2 x3 : Int) (hst : Go.Cop.Steps s0 s) (hb : Bare s0) (a0 : Option Addr) (m0 k0 : Nat) (ec : c0 = .slice a0 m0 k0) (ec1 : c1 = .slice none 0 0) (u : FrameMode) (F : Pr) (w : World)
    (hF : Sat ((VaultA v s).star ((Pr.pts IB (.cells #[c0, c1, .int .i64 x2, .int .i64 x3] 33)).star ((Pr.pts EB (.cells #[.int .i64 12] 27)).star ((Pr.pts VB (.cells #[.pointer (some ⟨v, 0, none⟩)] 26)).star ((Pr.pts MB (.cells #[.int .i64 (s0.floor + s0.acts.length)] 3)).star F))))) w) :
    CallsD Try.prog 24 #[.pointer (some ⟨EB, 0, none⟩), .pointer (some ⟨VB, 0, none⟩), .pointer (some ⟨MB, 0, none⟩), .pointer (some ⟨IB, 0, none⟩)] u w fun e u' w' => u' = u ∧ (e = .returned (.tuple #[]) ∧ Stays w w' ∧
      Sat ((Pr.pts IB (.cells #[.slice none 0 0, .slice none 0 0, .int .i64 0, .int .i64 0] 33)).star ((Pr.pts EB (.cells #[.int .i64 12] 27)).star ((VaultA v s0).star F))) w') := by
  subst ec
  subst ec1
  have e0 : w.cell? ⟨EB, 0, none⟩ = some (.int .i64 12) := by rw [cell_of_heap hF.right.right.pts_heap]; rfl
  have v0 : w.cell? ⟨VB, 0, none⟩ = some (.pointer (some ⟨v, 0, none⟩)) := by rw [cell_of_heap hF.right.right.right.pts_heap]; rfl
  have m0' : w.cell? ⟨MB, 0, none⟩ = some (.int .i64 (s0.floor + s0.acts.length)) := by rw [cell_of_heap hF.right.right.right.right.pts_heap]; rfl
  have U := Lib.hid (vundo_A v s0 s hst hb _ w hF)
  clear hF
  go_enter_d Try.func24, Try.ntmps24
  go_wp2_with fail
  refine U.out.mono ?_
  rintro e w1 ⟨rfl, h1, hst1⟩
  have h2 := h1.right
  have f0 : w1.cell? ⟨IB, 0, none⟩ = some (.slice a0 m0 k0) := by rw [cell_of_heap h2.pts_heap]; rfl
  have f1 : w1.cell? ⟨IB, 1, none⟩ = some (.slice none 0 0) := by rw [cell_of_heap h2.pts_heap]; rfl
  have f2 : w1.cell? ⟨IB, 2, none⟩ = some (.int .i64 x2) := by rw [cell_of_heap h2.pts_heap]; rfl
  have f3 : w1.cell? ⟨IB, 3, none⟩ = some (.int .i64 x3) := by rw [cell_of_heap h2.pts_heap]; rfl
  have z0 := frozen_of_heap h2.pts_heap 0
  have z1 := frozen_of_heap h2.pts_heap 1
  have z2 := frozen_of_heap h2.pts_heap 2
  have z3 := frozen_of_heap h2.pts_heap 3
  have h3 := ((((h1.perm (Pr.left_comm _ _ _)).setCell (i := 0) (.slice none 0 0)).setCell (i := 1) (.slice none 0 0)).setCell (i := 2) (.int .i64 0)).setCell (i := 3) (.int .i64 0)
  have h4 : Sat ((Pr.pts VB (.cells #[.pointer (some ⟨v, 0, none⟩)] 26)).star ((Pr.pts MB (.cells #[.int .i64 (s0.floor + s0.acts.length)] 3)).star ((Pr.pts IB (.cells #[.slice none 0 0, .slice none 0 0, .int .i64 0, .int .i64 0] 33)).star ((Pr.pts EB (.cells #[.int .i64 12] 27)).star ((VaultA v s0).star F))))) _ := h3.perm (show (Pr.pts IB (.cells #[.slice none 0 0, .slice none 0 0, .int .i64 0, .int .i64 0] 33)).star _ = _ from by ac_rfl)
  have H4 := Lib.hid h4.right.right
  have HST := Lib.hid ((((hst1.setCell ⟨IB, 0, none⟩ (.slice none 0 0)).setCell ⟨IB, 1, none⟩ (.slice none 0 0)).setCell ⟨IB, 2, none⟩ (.int .i64 0)).setCell ⟨IB, 3, none⟩ (.int .i64 0))
  clear h1 h2 h3 h4 hst1 U
  go_wp2
  first | refine bodyPost_ret (results_none rfl _ _ _) rfl ?_ | go_end0
  exact ⟨rfl, HST.out, H4.out⟩

set_option maxRecDepth 100000 in
set_option maxHeartbeats 4000000 in
theorem store_any (v : Nat) (s : VaultS) (kv vv : Value) (hp : Hp) (K V : List Int) (hK : Bytes hp kv K) (hV : Bytes hp vv V) (hk : 1 ≤ K.length ∧ K.length ≤ 24) (hv : 32 < V.length ∧ V.length ≤ 3840) (F : Pr) (w : World)
    (hF : Sat ((VaultA v s).star ((Pr.own hp).star F)) w) (hbare : Bare s) (hm : s.pool.floor + s.pool.acts.length + chunks V ≤ 1099511627776) (hm2 : s.floor + s.acts.length + chunks V ≤ 1099511627776) :
    Calls Try.prog 11 #[.pointer (some ⟨v, 0, none⟩), kv, vv] w fun e w' =>
      Stays w w' ∧ ((chunks V ≤ s.pool.many 1 ∧ ∃ kv' c s' ns h', e = .returned (.tuple #[.agg #[kv', .slice none 0 0, .int .i64 c, .int .i64 V.length], .int .i64 0]) ∧ Bytes h' kv' K ∧ Taken s s' ns ∧ ChainAt s' V (chunks V) 0 c ns ∧
        Sat ((Pr.own h').star ((VaultA v s').star ((Pr.own hp).star F))) w') ∨
        (s.pool.many 1 < chunks V ∧ e = .returned (.tuple #[.agg #[.slice none 0 0, .slice none 0 0, .int .i64 0, .int .i64 0], .int .i64 12]) ∧ Sat ((VaultA v s).star ((Pr.own hp).star F)) w')) := by
  obtain ⟨_, ak, ck, rfl, _⟩ := id hK
  obtain ⟨_, av, cv, rfl, hcv, hcv2, hcell⟩ := id hV
  obtain ⟨bv, ov, eav, _⟩ := hcell (by omega)
  subst eav
  have es : (w.alloc (.cells #[.pointer (some ⟨v, 0, none⟩)] 26)).heap.size = w.heap.size + 1 := by simp
  have es2 : ((w.alloc (.cells #[.pointer (some ⟨v, 0, none⟩)] 26)).alloc (.cells #[.slice none 0 0, .slice none 0 0, .int .i64 0, .int .i64 0] 33)).heap.size = w.heap.size + 1 + 1 := by simp
  have h1 := ((hF.alloc (.cells #[.pointer (some ⟨v, 0, none⟩)] 26)).alloc (.cells #[.slice none 0 0, .slice none 0 0, .int .i64 0, .int .i64 0] 33)).alloc (.cells #[.int .i64 0] 27)
  rw [es2, es] at h1
  have hle := (h1.perm (B := (Pr.own hp).star ((VaultA v s).star ((Pr.pts (w.heap.size + 1 + 1) (.cells #[.int .i64 0] 27)).star ((Pr.pts (w.heap.size + 1) (.cells #[.slice none 0 0, .slice none 0 0, .int .i64 0, .int .i64 0] 33)).star ((Pr.pts w.heap.size (.cells #[.pointer (some ⟨v, 0, none⟩)] 26)).star F))))) (by ac_rfl)).own
  have C := Lib.hid (bclone_any hp _ K _ _ h1 hle hK (by omega))
  have HST := Lib.hid ((((Stays.refl w).alloc (.cells #[.pointer (some ⟨v, 0, none⟩)] 26)).alloc (.cells #[.slice none 0 0, .slice none 0 0, .int .i64 0, .int .i64 0] 33)).alloc (.cells #[.int .i64 0] 27))
  have HV := Lib.hid hV
  clear h1 hle hF es es2 hK hV hcell
  go_enter_defers Try.func11, Try.ntmps11
  go_wp2_with fail
  refine C.out.mono ?_
  rintro e w1 ⟨kv', rfl, h1, hst⟩
  obtain ⟨ak', ck', ek, _, _⟩ := Row.read h1
  have h2 : Sat ((Pr.pts (w.heap.size + 1) (.cells #[.slice none 0 0, .slice none 0 0, .int .i64 0, .int .i64 0] 33)).star ((BytesRow kv' K).star ((Pr.pts (w.heap.size + 1 + 1) (.cells #[.int .i64 0] 27)).star ((Pr.pts w.heap.size (.cells #[.pointer (some ⟨v, 0, none⟩)] 26)).star
    ((VaultA v s).star ((Pr.own hp).star F)))))) w1 := h1.perm (by ac_rfl)
  subst ek
  have f0 : w1.cell? ⟨w.heap.size + 1, 0, none⟩ = some (.slice none 0 0) := by rw [cell_of_heap h2.pts_heap]; rfl
  have f1 : w1.cell? ⟨w.heap.size + 1, 1, none⟩ = some (.slice none 0 0) := by rw [cell_of_heap h2.pts_heap]; rfl
  have f2 : w1.cell? ⟨w.heap.size + 1, 2, none⟩ = some (.int .i64 0) := by rw [cell_of_heap h2.pts_heap]; rfl
  have f3 : w1.cell? ⟨w.heap.size + 1, 3, none⟩ = some (.int .i64 0) := by rw [cell_of_heap h2.pts_heap]; rfl
  have z0 := frozen_of_heap h2.pts_heap 0
  have z1 := frozen_of_heap h2.pts_heap 1
  have z2 := frozen_of_heap h2.pts_heap 2
  have z3 := frozen_of_heap h2.pts_heap 3
  have s3 := (((h2.setCell (i := 0) (.slice ak' K.length ck')).setCell (i := 1) (.slice none 0 0)).setCell (i := 2) (.int .i64 0)).setCell (i := 3) (.int .i64 V.length)
  have h3 : Sat ((VaultA v s).star ((Pr.pts (w.heap.size + 1) (.cells #[.slice ak' K.length ck', .slice none 0 0, .int .i64 0, .int .i64 V.length] 33)).star ((BytesRow (.slice ak' K.length ck') K).star ((Pr.pts (w.heap.size + 1 + 1) (.cells #[.int .i64 0] 27)).star ((Pr.pts w.heap.size (.cells #[.pointer (some ⟨v, 0, none⟩)] 26)).star
    ((Pr.own hp).star F)))))) _ := s3.perm (show (Pr.pts (w.heap.size + 1) (.cells #[.slice ak' K.length ck', .slice none 0 0, .int .i64 0, .int .i64 V.length] 33)).star _ = _ from by ac_rfl)
  have q0 := cell_of_heap h3.right.right.right.right.pts_heap 0
  have M := Lib.hid (vmark_A v s _ _ h3)
  have H3 := Lib.hid h3
  have HST2 := Lib.hid ((((HST.out.trans hst).setCell ⟨w.heap.size + 1, 0, none⟩ (.slice ak' K.length ck')).setCell ⟨w.heap.size + 1, 1, none⟩ (.slice none 0 0)).setCell ⟨w.heap.size + 1, 2, none⟩ (.int .i64 0) |>.setCell ⟨w.heap.size + 1, 3, none⟩ (.int .i64 V.length))
  clear h1 h2 h3 s3 hst HST C
  go_wp2_with fail
  refine M.out.mono ?_
  rintro e w2 ⟨rfl, ho⟩
  have h4 := (H3.out.only ho)
  have HST3 := Lib.hid (HST2.out.trans ho.st)
  clear M H3 HST2 ho f0 f1 f2 f3 z0 z1 z2 z3 q0
  have h5 := h4.alloc (.cells #[.int .i64 (s.floor + s.acts.length)] 3)
  have H5 := Lib.hid h5
  clear h4 h5
  have hN : V.length ≤ 480 * chunks V ∧ 480 * chunks V < V.length + 480 := by unfold chunks; omega
  go_wp2
  go_loopw [9] (fun e wr => ∃ (j : Nat) (c : Int) (s' : VaultS) (ns : List Int), j ≤ chunks V ∧ e = .int .i64 (min V.length (480 * j) : Nat) ∧ Stays w wr ∧ Taken s s' ns ∧ ChainAt s' V (chunks V - j) j c ns ∧
      Sat ((VaultA v s').star ((Pr.pts (w.heap.size + 1) (.cells #[.slice ak' K.length ck', .slice none 0 0, .int .i64 c, .int .i64 V.length] 33)).star ((BytesRow (.slice ak' K.length ck') K).star ((Pr.pts (w.heap.size + 1 + 1) (.cells #[.int .i64 0] 27)).star ((Pr.pts w.heap.size (.cells #[.pointer (some ⟨v, 0, none⟩)] 26)).star ((Pr.pts w2.heap.size (.cells #[.int .i64 (s.floor + s.acts.length)] 3)).star ((Pr.own hp).star F))))))) wr) (fun e _ => (intOf e).toNat)
  case atStart =>
    refine ⟨chunks V, 0, s, [], Nat.le_refl _, by rw [Nat.min_eq_left hN.1], HST3.out.alloc _, Taken.refl s, ?_, ?_⟩
    · rw [Nat.sub_self]; exact ⟨rfl, rfl⟩
    · exact H5.out.perm (by ac_rfl)
  case round =>
    obtain ⟨j, c, s', ns, hj, rfl, hst, ht, hch, hinv⟩ := hrel
    have hi : Sat ((Pr.pts (w.heap.size + 1) (.cells #[.slice ak' K.length ck', .slice none 0 0, .int .i64 c, .int .i64 V.length] 33)).star ((Pr.pts (w.heap.size + 1 + 1) (.cells #[.int .i64 0] 27)).star ((Pr.pts w.heap.size (.cells #[.pointer (some ⟨v, 0, none⟩)] 26)).star ((BytesRow (.slice ak' K.length ck') K).star ((VaultA v s').star ((Pr.pts w2.heap.size (.cells #[.int .i64 (s.floor + s.acts.length)] 3)).star ((Pr.own hp).star F))))))) wr := hinv.perm (by ac_rfl)
    have f0 : wr.cell? ⟨w.heap.size + 1, 0, none⟩ = some (.slice ak' K.length ck') := by rw [cell_of_heap hi.pts_heap]; rfl
    have f1 : wr.cell? ⟨w.heap.size + 1, 1, none⟩ = some (.slice none 0 0) := by rw [cell_of_heap hi.pts_heap]; rfl
    have f2 : wr.cell? ⟨w.heap.size + 1, 2, none⟩ = some (.int .i64 c) := by rw [cell_of_heap hi.pts_heap]; rfl
    have f3 : wr.cell? ⟨w.heap.size + 1, 3, none⟩ = some (.int .i64 V.length) := by rw [cell_of_heap hi.pts_heap]; rfl
    have e0 : wr.cell? ⟨w.heap.size + 1 + 1, 0, none⟩ = some (.int .i64 0) := by rw [cell_of_heap hi.right.pts_heap]; rfl
    have b0 : wr.cell? ⟨w.heap.size, 0, none⟩ = some (.pointer (some ⟨v, 0, none⟩)) := by rw [cell_of_heap hi.right.right.pts_heap]; rfl
    cases j with
    | zero =>
      have z0 := frozen_of_heap hi.pts_heap 0
      have z1 := frozen_of_heap hi.pts_heap 1
      have z2 := frozen_of_heap hi.pts_heap 2
      have z3 := frozen_of_heap hi.pts_heap 3
      have ze := frozen_of_heap hi.right.pts_heap 0
      have s3 := (((hi.setCell (i := 0) (.slice ak' K.length ck')).setCell (i := 1) (.slice none 0 0)).setCell (i := 2) (.int .i64 c)).setCell (i := 3) (.int .i64 V.length)
      have s4 : Sat ((Pr.pts (w.heap.size + 1 + 1) (.cells #[.int .i64 0] 27)).star ((Pr.pts (w.heap.size + 1) (.cells #[.slice ak' K.length ck', .slice none 0 0, .int .i64 c, .int .i64 V.length] 33)).star ((Pr.pts w.heap.size (.cells #[.pointer (some ⟨v, 0, none⟩)] 26)).star ((BytesRow (.slice ak' K.length ck') K).star ((VaultA v s').star ((Pr.pts w2.heap.size (.cells #[.int .i64 (s.floor + s.acts.length)] 3)).star ((Pr.own hp).star F))))))) _ := s3.perm (show (Pr.pts (w.heap.size + 1) (.cells #[.slice ak' K.length ck', .slice none 0 0, .int .i64 c, .int .i64 V.length] 33)).star _ = _ from Pr.left_comm _ _ _)
      have s5 : Sat ((Pr.pts (w.heap.size + 1 + 1) (.cells #[.int .i64 0] 27)).star ((Pr.pts (w.heap.size + 1) (.cells #[.slice ak' K.length ck', .slice none 0 0, .int .i64 c, .int .i64 V.length] 33)).star ((Pr.pts w.heap.size (.cells #[.pointer (some ⟨v, 0, none⟩)] 26)).star ((BytesRow (.slice ak' K.length ck') K).star ((VaultA v s').star ((Pr.pts w2.heap.size (.cells #[.int .i64 (s.floor + s.acts.length)] 3)).star ((Pr.own hp).star F))))))) _ := s4.setCell (i := 0) (.int .i64 0)
      have S5 := Lib.hid s5
      have HST4 := Lib.hid ((((hst.setCell ⟨w.heap.size + 1, 0, none⟩ (.slice ak' K.length ck')).setCell ⟨w.heap.size + 1, 1, none⟩ (.slice none 0 0)).setCell ⟨w.heap.size + 1, 2, none⟩ (.int .i64 c)).setCell ⟨w.heap.size + 1, 3, none⟩ (.int .i64 V.length) |>.setCell ⟨w.heap.size + 1 + 1, 0, none⟩ (.int .i64 0))
      rw [Nat.sub_zero] at hch
      clear hi hinv s3 s4 s5 hst
      rw [show min V.length (480 * 0) = 0 by omega] at *
      go_wp2
      refine leaves_cons (f := 24) (args := #[.pointer (some ⟨w.heap.size + 1 + 1, 0, none⟩), .pointer (some ⟨w.heap.size, 0, none⟩), .pointer (some ⟨w2.heap.size, 0, none⟩), .pointer (some ⟨w.heap.size + 1, 0, none⟩)]) (by simp) (by simp [go_sem]) ?_
      refine (store1_ok _ _ _ _ .returning _ (by rw [cell_of_heap S5.out.pts_heap]; rfl)).mono ?_
      rintro e u' w'' ⟨rfl, rfl, rfl⟩
      refine ⟨_, results_cell_cell rfl _ _ (w.heap.size + 1) _ rfl (run_loadVar_row _ (w.heap.size + 1) _ _ _ _ _ S5.out.right.pts_heap Try.underlying33 rfl infoItemS) (w.heap.size + 1 + 1) (.int .i64 0) rfl ?_, HST4.out, .inl ⟨by have := ht.many; have := chain_len hch; omega, .slice ak' K.length ck', c, s', ns, ?_⟩⟩
      · exact load_errno S5.out.pts_heap
      · obtain ⟨h', e1, e2⟩ := toArena (Q := fun x => Bytes x (.slice ak' K.length ck') K) (S5.out.right.right.right) (fun x hx => Row.rowIn hx)
        refine ⟨h', rfl, e1, ht, hch, ?_⟩
        have e3 : Sat ((Pr.pts w2.heap.size (.cells #[.int .i64 (s.floor + s.acts.length)] 3)).star ((Pr.own h').star ((VaultA v s').star ((Pr.own hp).star F)))) _ := e2.perm (by ac_rfl)
        exact e3.right
    | succ j =>
      have hE : ∃ E : Nat, E = min V.length (480 * (j + 1)) := ⟨_, rfl⟩
      obtain ⟨E, hE⟩ := hE
      have hE1 : 480 * j < E ∧ E ≤ 480 * j + 480 ∧ E ≤ V.length := by omega
      rw [← hE]
      have hq : Int.tdiv ((E : Int) - 1) 480 = j := by rw [Int.tdiv_eq_ediv_of_nonneg (by omega)]; omega
      have hcl : (chunk V j).length = E - 480 * j := by rw [chunk_len, hE]; omega
      have hce : chunk V j = (V.drop (480 * j)).take (E - 480 * j) := by
        unfold chunk
        rw [List.take_eq_take_iff, List.length_drop]
        omega
      have hpg : PageIn hp (.agg (blobCells (.slice none 0 0) (.slice (some ⟨bv, ov + 480 * j, none⟩) (E - 480 * j) (cv - 480 * j)) c)) (blobV (chunk V j) c) := by
        refine ⟨_, _, rfl, items_mk (Nat.zero_le _), ?_⟩
        show RowIn _ _ _ (chunk V j).length _
        rw [hcl, hce]
        exact bytes_sub HV.out (by omega) hE1.2.2
      obtain ⟨okp, _, _⟩ := vault_ok hinv
      have hnl := chain_len hch
      have hmn := ht.many
      have C1 : s'.pool.many 1 ≠ 0 → _ := fun hmm => make_ok v s' hp _ _ (chunk V j) c (by omega) (chain_next hch) hpg ((Pr.pts (w.heap.size + 1) (.cells #[.slice ak' K.length ck', .slice none 0 0, .int .i64 c, .int .i64 V.length] 33)).star ((Pr.pts (w.heap.size + 1 + 1) (.cells #[.int .i64 0] 27)).star ((Pr.pts w.heap.size (.cells #[.pointer (some ⟨v, 0, none⟩)] 26)).star ((BytesRow (.slice ak' K.length ck') K).star ((Pr.pts w2.heap.size (.cells #[.int .i64 (s.floor + s.acts.length)] 3)).star F))))) wr.drew (hinv.drew.perm (by ac_rfl)) (free_of_many okp hmm) (by have := ht.pf; have := ht.pa; omega) (by have := ht.vf; have := ht.va; omega)
      have C0 : s'.pool.many 1 = 0 → _ := fun hmm => make_full v s' hp _ _ (chunk V j) c (by omega) (chain_next hch) hpg ((Pr.pts (w.heap.size + 1) (.cells #[.slice ak' K.length ck', .slice none 0 0, .int .i64 c, .int .i64 V.length] 33)).star ((Pr.pts (w.heap.size + 1 + 1) (.cells #[.int .i64 0] 27)).star ((Pr.pts w.heap.size (.cells #[.pointer (some ⟨v, 0, none⟩)] 26)).star ((BytesRow (.slice ak' K.length ck') K).star ((Pr.pts w2.heap.size (.cells #[.int .i64 (s.floor + s.acts.length)] 3)).star F))))) wr.drew (hinv.drew.perm (by ac_rfl)) (none_free okp hmm) (by have := ht.pf; have := ht.pa; omega)
      have HC1 := Lib.hid C1
      have HC0 := Lib.hid C0
      have hlt : s'.pool.many 1 = 0 → s.pool.many 1 < chunks V := fun hmm => by omega
      have HLT := Lib.hid hlt
      have HOK := Lib.hid okp
      clear C1 C0 hlt okp hpg hcl hce hnl hmn
      have HIN := Lib.hid hinv
      have HCH := Lib.hid hch
      have HT := Lib.hid ht
      have HTE := Lib.hid hE
      clear hinv hch ht hE
      obtain ⟨B, hB⟩ : ∃ B : Nat, B = 480 * j := ⟨_, rfl⟩
      go_wp2
      rw [show (j : Int) * 480 = (B : Int) by omega]
      rw [← hB] at hE1
      have HB := Lib.hid hB
      clear hB
      have hne : ¬ cv = B := by omega
      have hEc : E ≤ cv := by omega
      have hBE : B ≤ E := by omega
      refine wp_region_staged (sz := 68) (by kernel_rfl) [0, 1, 2, 3, 4, 5, 6, 7] [(8, [9, 10, 11, 12], [1, 2, 3, 4, 5, 6]), (13, [], [11]), (14, [], [])] rfl (by kernel_rfl) (by kernel_rfl) (by kernel_rfl) ?_
      iterate 8 (refine wpQ_step rfl rfl (fun K hK => ?_); go_simp; refine hK _ ?_; clear hK K)
      refine wpQ_nil ?_
      refine wpRest_act rfl ?_
      go_wp2_with fail
      by_cases hmm : s'.pool.many 1 = 0
      · have HC2 := HC0.out hmm
        rw [← HB.out] at HC2
        refine HC2.mono ?_
        rintro e w3 ⟨hst3, rfl, h6⟩
        have h7 : Sat ((Pr.pts (w.heap.size + 1) (.cells #[.slice ak' K.length ck', .slice none 0 0, .int .i64 c, .int .i64 V.length] 33)).star ((Pr.pts (w.heap.size + 1 + 1) (.cells #[.int .i64 0] 27)).star ((Pr.pts w.heap.size (.cells #[.pointer (some ⟨v, 0, none⟩)] 26)).star ((BytesRow (.slice ak' K.length ck') K).star ((VaultA v s').star ((Pr.pts w2.heap.size (.cells #[.int .i64 (s.floor + s.acts.length)] 3)).star ((Pr.own hp).star F))))))) w3 := h6.perm (show (VaultA v s').star _ = _ from by ac_rfl)
        have g0 : w3.cell? ⟨w.heap.size, 0, none⟩ = some (.pointer (some ⟨v, 0, none⟩)) := by rw [cell_of_heap h7.right.right.pts_heap]; rfl
        have g2 : w3.cell? ⟨w.heap.size + 1, 2, none⟩ = some (.int .i64 c) := by rw [cell_of_heap h7.pts_heap]; rfl
        have ge : w3.cell? ⟨w.heap.size + 1 + 1, 0, none⟩ = some (.int .i64 0) := by rw [cell_of_heap h7.right.pts_heap]; rfl
        have y2 := frozen_of_heap h7.pts_heap 2
        have ye := frozen_of_heap h7.right.pts_heap 0
        have s8 : Sat ((Pr.pts (w.heap.size + 1 + 1) (.cells #[.int .i64 0] 27)).star ((Pr.pts (w.heap.size + 1) (.cells #[.slice ak' K.length ck', .slice none 0 0, .int .i64 0, .int .i64 V.length] 33)).star ((Pr.pts w.heap.size (.cells #[.pointer (some ⟨v, 0, none⟩)] 26)).star ((BytesRow (.slice ak' K.length ck') K).star ((VaultA v s').star ((Pr.pts w2.heap.size (.cells #[.int .i64 (s.floor + s.acts.length)] 3)).star ((Pr.own hp).star F))))))) _ := (h7.setCell (i := 2) (.int .i64 0)).perm (show (Pr.pts (w.heap.size + 1) (.cells #[.slice ak' K.length ck', .slice none 0 0, .int .i64 0, .int .i64 V.length] 33)).star _ = _ from Pr.left_comm _ _ _)
        have s9 : Sat ((Pr.pts (w.heap.size + 1 + 1) (.cells #[.int .i64 12] 27)).star ((Pr.pts (w.heap.size + 1) (.cells #[.slice ak' K.length ck', .slice none 0 0, .int .i64 0, .int .i64 V.length] 33)).star ((Pr.pts w.heap.size (.cells #[.pointer (some ⟨v, 0, none⟩)] 26)).star ((BytesRow (.slice ak' K.length ck') K).star ((VaultA v s').star ((Pr.pts w2.heap.size (.cells #[.int .i64 (s.floor + s.acts.length)] 3)).star ((Pr.own hp).star F))))))) ((w3.setCell ⟨w.heap.size + 1, 2, none⟩ (.int .i64 0)).setCell ⟨w.heap.size + 1 + 1, 0, none⟩ (.int .i64 12)) := s8.setCell (i := 0) (.int .i64 12)
        have S9 := Lib.hid s9
        have HST5 := Lib.hid ((hst.drew.trans hst3).setCell ⟨w.heap.size + 1, 2, none⟩ (.int .i64 0) |>.setCell ⟨w.heap.size + 1 + 1, 0, none⟩ (.int .i64 12))
        have HLT2 := Lib.hid (HLT.out hmm)
        clear h6 h7 s8 s9 hst3 HC0 HC1 HC2 HLT hmm
        go_wp2
        refine onN_mk ?_
        iterate 4 (refine wpQ_step rfl rfl (fun K hK => ?_); go_simp; refine hK _ ?_; clear hK K)
        refine wpQ_nil ⟨?_, ?_⟩
        · refine chk_cons ?_ (chk_cons ?_ (chk_cons ?_ (chk_cons ?_ (chk_cons ?_ (chk_cons ?_ chk_nil))))) <;> (refine yieldF_of rfl rfl rfl rfl ?_; go_simp; try omega)
        refine wpRest_act rfl ?_
        go_wp2
        refine onN_mk (wpQ_nil ⟨?_, ?_⟩)
        · refine chk_cons ?_ chk_nil <;> (refine yieldF_of rfl rfl rfl rfl ?_; go_simp; try omega)
        refine wpRest_act rfl ?_
        go_wp2
        refine onN_mk (wpQ_nil ⟨chk_nil, wpRest_nil ?_⟩)
        generalize ((w3.setCell ⟨w.heap.size + 1, 2, none⟩ (.int .i64 0)).setCell ⟨w.heap.size + 1 + 1, 0, none⟩ (.int .i64 12)) = w5 at *
        have i0 : w5.cell? ⟨w.heap.size + 1, 0, none⟩ = some (.slice ak' K.length ck') := by rw [cell_of_heap S9.out.right.pts_heap]; rfl
        have i1 : w5.cell? ⟨w.heap.size + 1, 1, none⟩ = some (.slice none 0 0) := by rw [cell_of_heap S9.out.right.pts_heap]; rfl
        have i2 : w5.cell? ⟨w.heap.size + 1, 2, none⟩ = some (.int .i64 0) := by rw [cell_of_heap S9.out.right.pts_heap]; rfl
        have i3 : w5.cell? ⟨w.heap.size + 1, 3, none⟩ = some (.int .i64 V.length) := by rw [cell_of_heap S9.out.right.pts_heap]; rfl
        have ie : w5.cell? ⟨w.heap.size + 1 + 1, 0, none⟩ = some (.int .i64 12) := by rw [cell_of_heap S9.out.pts_heap]; rfl
        have x0 := frozen_of_heap S9.out.right.pts_heap 0
        have x1 := frozen_of_heap S9.out.right.pts_heap 1
        have x2 := frozen_of_heap S9.out.right.pts_heap 2
        have x3 := frozen_of_heap S9.out.right.pts_heap 3
        have xe := frozen_of_heap S9.out.pts_heap 0
        clear g0 g2 ge y2 ye f0 f1 f2 f3 e0 b0
        go_wp2
        refine wp_region_staged (sz := 68) (by kernel_rfl) [0, 1] [(2, [], [1]), (3, [], [])] rfl (by kernel_rfl) (by kernel_rfl) (by kernel_rfl) ?_
        iterate 2 (refine wpQ_step rfl rfl (fun K hK => ?_); go_simp; refine hK _ ?_; clear hK K)
        refine wpQ_nil ?_
        refine wpRest_act rfl ?_
        go_wp2
        refine onN_mk (wpQ_nil ⟨?_, ?_⟩)
        · refine chk_cons ?_ chk_nil <;> (refine yieldF_of rfl rfl rfl rfl ?_; go_simp; try omega)
        refine wpRest_act rfl ?_
        go_wp2
        refine onN_mk (wpQ_nil ⟨chk_nil, wpRest_nil ?_⟩)
        have t3 := ((((S9.out.drew.perm (Pr.left_comm _ _ _)).setCell (i := 0) (.slice ak' K.length ck')).setCell (i := 1) (.slice none 0 0)).setCell (i := 2) (.int .i64 0)).setCell (i := 3) (.int .i64 V.length)
        have t4 : Sat ((Pr.pts (w.heap.size + 1 + 1) (.cells #[.int .i64 12] 27)).star ((Pr.pts (w.heap.size + 1) (.cells #[.slice ak' K.length ck', .slice none 0 0, .int .i64 0, .int .i64 V.length] 33)).star ((Pr.pts w.heap.size (.cells #[.pointer (some ⟨v, 0, none⟩)] 26)).star ((BytesRow (.slice ak' K.length ck') K).star ((VaultA v s').star ((Pr.pts w2.heap.size (.cells #[.int .i64 (s.floor + s.acts.length)] 3)).star ((Pr.own hp).star F))))))) _ := t3.perm (show (Pr.pts (w.heap.size + 1) (.cells #[.slice ak' K.length ck', .slice none 0 0, .int .i64 0, .int .i64 V.length] 33)).star _ = _ from Pr.left_comm _ _ _)
        have t5 : Sat ((Pr.pts (w.heap.size + 1 + 1) (.cells #[.int .i64 12] 27)).star ((Pr.pts (w.heap.size + 1) (.cells #[.slice ak' K.length ck', .slice none 0 0, .int .i64 0, .int .i64 V.length] 33)).star ((Pr.pts w.heap.size (.cells #[.pointer (some ⟨v, 0, none⟩)] 26)).star ((BytesRow (.slice ak' K.length ck') K).star ((VaultA v s').star ((Pr.pts w2.heap.size (.cells #[.int .i64 (s.floor + s.acts.length)] 3)).star ((Pr.own hp).star F))))))) _ := t4.setCell (i := 0) (.int .i64 12)
        have t6 : Sat ((VaultA v s').star ((Pr.pts (w.heap.size + 1) (.cells #[.slice ak' K.length ck', .slice none 0 0, .int .i64 0, .int .i64 V.length] 33)).star ((Pr.pts (w.heap.size + 1 + 1) (.cells #[.int .i64 12] 27)).star ((Pr.pts w.heap.size (.cells #[.pointer (some ⟨v, 0, none⟩)] 26)).star ((Pr.pts w2.heap.size (.cells #[.int .i64 (s.floor + s.acts.length)] 3)).star ((BytesRow (.slice ak' K.length ck') K).star ((Pr.own hp).star F))))))) _ := t5.perm (by ac_rfl)
        have HST6 := Lib.hid (((((HST5.out.drew.setCell ⟨w.heap.size + 1, 0, none⟩ (.slice ak' K.length ck')).setCell ⟨w.heap.size + 1, 1, none⟩ (.slice none 0 0)).setCell ⟨w.heap.size + 1, 2, none⟩ (.int .i64 0)).setCell ⟨w.heap.size + 1, 3, none⟩ (.int .i64 V.length)).setCell ⟨w.heap.size + 1 + 1, 0, none⟩ (.int .i64 12))
        have T6 := Lib.hid t6
        clear t3 t4 t5 t6 S9 HST5 i0 i1 i2 i3 ie x0 x1 x2 x3 xe
        go_wp2
        have HD := Lib.hid (store1_err (w.heap.size + 1 + 1) w.heap.size w2.heap.size (w.heap.size + 1) v s s' _ _ 0 V.length HT.out.steps hbare ak' K.length ck' rfl rfl .returning ((BytesRow (.slice ak' K.length ck') K).star ((Pr.own hp).star F)) _ T6.out)
        refine leaves_cons (f := 24) (args := #[.pointer (some ⟨w.heap.size + 1 + 1, 0, none⟩), .pointer (some ⟨w.heap.size, 0, none⟩), .pointer (some ⟨w2.heap.size, 0, none⟩), .pointer (some ⟨w.heap.size + 1, 0, none⟩)]) (by simp) (by simp [go_sem]) ?_
        refine HD.out.mono ?_
        rintro e u' w'' ⟨rfl, rfl, hst6, h8⟩
        have l1 := run_loadVar_row (P := Try.prog) w'' (w.heap.size + 1) _ _ _ _ _ h8.pts_heap Try.underlying33 rfl infoItemS
        have l2 := load_errno h8.right.pts_heap
        have h9 : Sat ((BytesRow (.slice ak' K.length ck') K).star ((VaultA v s).star ((Pr.own hp).star F))) w'' := h8.right.right.perm (Pr.left_comm _ _ _)
        exact ⟨_, results_cell_cell rfl _ _ (w.heap.size + 1) _ rfl l1 (w.heap.size + 1 + 1) (.int .i64 12) rfl l2, HST6.out.trans hst6, .inr ⟨HLT2.out, rfl, h9.right⟩⟩
      have HC2 := HC1.out hmm
      rw [← HB.out] at HC2
      refine HC2.mono ?_
      rintro e w3 ⟨hst3, n, rfl, ⟨hn, hle⟩, h6⟩
      have h7 : Sat ((Pr.pts (w.heap.size + 1) (.cells #[.slice ak' K.length ck', .slice none 0 0, .int .i64 c, .int .i64 V.length] 33)).star ((Pr.pts (w.heap.size + 1 + 1) (.cells #[.int .i64 0] 27)).star ((Pr.pts w.heap.size (.cells #[.pointer (some ⟨v, 0, none⟩)] 26)).star ((BytesRow (.slice ak' K.length ck') K).star ((VaultA v (s'.make n (blobV (chunk V j) c))).star ((Pr.pts w2.heap.size (.cells #[.int .i64 (s.floor + s.acts.length)] 3)).star ((Pr.own hp).star F))))))) w3 := h6.perm (show (VaultA v (s'.make n (blobV (chunk V j) c))).star _ = _ from by ac_rfl)
      have g0 : w3.cell? ⟨w.heap.size, 0, none⟩ = some (.pointer (some ⟨v, 0, none⟩)) := by rw [cell_of_heap h7.right.right.pts_heap]; rfl
      have g2 : w3.cell? ⟨w.heap.size + 1, 2, none⟩ = some (.int .i64 c) := by rw [cell_of_heap h7.pts_heap]; rfl
      have ge : w3.cell? ⟨w.heap.size + 1 + 1, 0, none⟩ = some (.int .i64 0) := by rw [cell_of_heap h7.right.pts_heap]; rfl
      have y2 := frozen_of_heap h7.pts_heap 2
      have ye := frozen_of_heap h7.right.pts_heap 0
      have s8 : Sat ((Pr.pts (w.heap.size + 1 + 1) (.cells #[.int .i64 0] 27)).star ((Pr.pts (w.heap.size + 1) (.cells #[.slice ak' K.length ck', .slice none 0 0, .int .i64 n, .int .i64 V.length] 33)).star ((Pr.pts w.heap.size (.cells #[.pointer (some ⟨v, 0, none⟩)] 26)).star ((BytesRow (.slice ak' K.length ck') K).star ((VaultA v (s'.make n (blobV (chunk V j) c))).star ((Pr.pts w2.heap.size (.cells #[.int .i64 (s.floor + s.acts.length)] 3)).star ((Pr.own hp).star F))))))) _ := (h7.setCell (i := 2) (.int .i64 n)).perm (show (Pr.pts (w.heap.size + 1) (.cells #[.slice ak' K.length ck', .slice none 0 0, .int .i64 n, .int .i64 V.length] 33)).star _ = _ from Pr.left_comm _ _ _)
      have s9 : Sat ((Pr.pts (w.heap.size + 1 + 1) (.cells #[.int .i64 0] 27)).star ((Pr.pts (w.heap.size + 1) (.cells #[.slice ak' K.length ck', .slice none 0 0, .int .i64 n, .int .i64 V.length] 33)).star ((Pr.pts w.heap.size (.cells #[.pointer (some ⟨v, 0, none⟩)] 26)).star ((BytesRow (.slice ak' K.length ck') K).star ((VaultA v (s'.make n (blobV (chunk V j) c))).star ((Pr.pts w2.heap.size (.cells #[.int .i64 (s.floor + s.acts.length)] 3)).star ((Pr.own hp).star F))))))) _ := s8.setCell (i := 0) (.int .i64 0)
      have S9 := Lib.hid s9
      have HNL := Lib.hid (And.intro hn hle)
      have HST5 := Lib.hid ((hst.drew.trans hst3).setCell ⟨w.heap.size + 1, 2, none⟩ (.int .i64 n) |>.setCell ⟨w.heap.size + 1 + 1, 0, none⟩ (.int .i64 0))
      clear h6 h7 s8 s9 hst3 hn hle HC0 HC1 HC2 HLT
      go_wp2
      refine onN_mk ?_
      iterate 4 (refine wpQ_step rfl rfl (fun K hK => ?_); go_simp; refine hK _ ?_; clear hK K)
      refine wpQ_nil ⟨?_, ?_⟩
      · refine chk_cons ?_ (chk_cons ?_ (chk_cons ?_ (chk_cons ?_ (chk_cons ?_ (chk_cons ?_ chk_nil))))) <;> (refine yieldF_of rfl rfl rfl rfl ?_; go_simp; try omega)
      refine wpRest_act rfl ?_
      go_wp2
      refine onN_mk (wpQ_nil ⟨?_, ?_⟩)
      · refine chk_cons ?_ chk_nil <;> (refine yieldF_of rfl rfl rfl rfl ?_; go_simp; try omega)
      refine wpRest_act rfl ?_
      go_wp2
      refine onN_mk (wpQ_nil ⟨chk_nil, wpRest_nil ?_⟩)
      go_wp2
      go_roundw
      case rel =>
        have hth := there_of_state (by have := HNL.out.1; omega : s'.pool.state n ≠ 0)
        have hb : 1 ≤ n ∧ n ≤ 65536 := ⟨hth.1, by have := hth.2; have := HOK.out.n2; omega⟩
        have hch2 := chain_make HOK.out HCH.out HT.out.cnt HNL.out.1 hb
        rw [show chunks V - (j + 1) + 1 = chunks V - j by omega] at hch2
        refine ⟨j, n, s'.make n (blobV (chunk V j) c), n :: ns, by omega, ?_, HST5.out, HT.out.step HOK.out HNL.out.1 HNL.out.2 _, hch2, S9.out.perm (by ac_rfl)⟩
        have := HB.out
        congr 1
        omega
      case measure => simp [intOf]; omega
end Go.Proofs.Ytbobcmimkonnoaa.blob4

namespace Go.Proofs.Ytbobcmimkonnoaa.blob5
open Go.ChangeShapes Go.WideShapes Go.ChangeAt Go.RowKit Go.Sl Go.Cop Go.Proofs.Ytbobcmimkonnoaa.pool1 Go.Proofs.Ytbobcmimkonnoaa.pool2 Go.Proofs.Ytbobcmimkonnoaa.pool5 Go.Proofs.Ytbobcmimkonnoaa.pool9 Go.Proofs.Ytbobcmimkonnoaa.clone Go.Proofs.Ytbobcmimkonnoaa.page Go.Proofs.Ytbobcmimkonnoaa.vault1 Go.Proofs.Ytbobcmimkonnoaa.vault2 Go.Proofs.Ytbobcmimkonnoaa.vault3 Go.Proofs.Ytbobcmimkonnoaa.vault4 Go.Proofs.Ytbobcmimkonnoaa.vault5 Go.Proofs.Ytbobcmimkonnoaa.vault6 Go.Proofs.Ytbobcmimkonnoaa.blob1 Go.Proofs.Ytbobcmimkonnoaa.blob4

set_option maxRecDepth 100000 in
set_option maxHeartbeats 4000000 in
theorem store_val (v : Nat) (kv vv : Value) (hp : Hp) (K V : List Int) (hK : Bytes hp kv K) (hV : Bytes hp vv V) (hk : 1 ≤ K.length ∧ K.length ≤ 24) (hv : 3840 < V.length) (w : World) :
    Calls Try.prog 11 #[.pointer (some ⟨v, 0, none⟩), kv, vv] w fun e w' => e = .returned (.tuple #[zeroItem, .int .i64 8]) ∧ Only w w' := by
  obtain ⟨_, ak, ck, rfl, _⟩ := id hK
  obtain ⟨_, av, cv, rfl, _, _, _⟩ := id hV
  have es : (w.alloc (.cells #[.pointer (some ⟨v, 0, none⟩)] 26)).heap.size = w.heap.size + 1 := by simp
  have es2 : ((w.alloc (.cells #[.pointer (some ⟨v, 0, none⟩)] 26)).alloc (.cells #[.slice none 0 0, .slice none 0 0, .int .i64 0, .int .i64 0] 33)).heap.size = w.heap.size + 1 + 1 := by simp
  have h1 := (((sat_emp w).alloc (.cells #[.pointer (some ⟨v, 0, none⟩)] 26)).alloc (.cells #[.slice none 0 0, .slice none 0 0, .int .i64 0, .int .i64 0] 33)).alloc (.cells #[.int .i64 8] 27)
  rw [es2, es] at h1
  have HO := Lib.hid ((((Only.refl w).alloc (.cells #[.pointer (some ⟨v, 0, none⟩)] 26)).alloc (.cells #[.slice none 0 0, .slice none 0 0, .int .i64 0, .int .i64 0] 33)).alloc (.cells #[.int .i64 8] 27))
  have H1 := Lib.hid h1
  clear h1 es es2 hK hV
  go_enter Try.func11, Try.ntmps11
  go_wp2
  have h2 := H1.out.perm (Pr.left_comm _ _ _)
  refine bodyPost_ret (results_cell_cell rfl _ _ (w.heap.size + 1) _ rfl (run_loadVar_row _ (w.heap.size + 1) _ _ _ _ _ h2.pts_heap Try.underlying33 rfl infoItemS) (w.heap.size + 1 + 1) (.int .i64 8) rfl (load_errno H1.out.pts_heap)) rfl ?_
  exact ⟨rfl, HO.out⟩

set_option maxRecDepth 100000 in
set_option maxHeartbeats 4000000 in
theorem store_short (v : Nat) (kv vv : Value) (hp : Hp) (K V : List Int) (hK : Bytes hp kv K) (hV : Bytes hp vv V) (hk : 1 ≤ K.length ∧ K.length ≤ 24) (hv : V.length ≤ 32) (F : Pr) (w : World) (hF : Sat ((Pr.own hp).star F) w) :
    Calls Try.prog 11 #[.pointer (some ⟨v, 0, none⟩), kv, vv] w fun e w' => Stays w w' ∧ ∃ kv' vv' h', e = .returned (.tuple #[.agg #[kv', vv', .int .i64 0, .int .i64 V.length], .int .i64 0]) ∧ Bytes h' kv' K ∧ Bytes h' vv' V ∧
      Sat ((Pr.own h').star ((Pr.own hp).star F)) w' := by
  obtain ⟨_, ak, ck, rfl, _⟩ := id hK
  obtain ⟨_, av, cv, rfl, _, _, _⟩ := id hV
  have es : (w.alloc (.cells #[.pointer (some ⟨v, 0, none⟩)] 26)).heap.size = w.heap.size + 1 := by simp
  have es2 : ((w.alloc (.cells #[.pointer (some ⟨v, 0, none⟩)] 26)).alloc (.cells #[.slice none 0 0, .slice none 0 0, .int .i64 0, .int .i64 0] 33)).heap.size = w.heap.size + 1 + 1 := by simp
  have h1 := ((hF.alloc (.cells #[.pointer (some ⟨v, 0, none⟩)] 26)).alloc (.cells #[.slice none 0 0, .slice none 0 0, .int .i64 0, .int .i64 0] 33)).alloc (.cells #[.int .i64 0] 27)
  rw [es2, es] at h1
  have hle := (h1.perm (B := (Pr.own hp).star ((Pr.pts (w.heap.size + 1 + 1) (.cells #[.int .i64 0] 27)).star ((Pr.pts (w.heap.size + 1) (.cells #[.slice none 0 0, .slice none 0 0, .int .i64 0, .int .i64 0] 33)).star ((Pr.pts w.heap.size (.cells #[.pointer (some ⟨v, 0, none⟩)] 26)).star F)))) (by ac_rfl)).own
  have C := Lib.hid (bclone_any hp _ K _ _ h1 hle hK (by omega))
  have HST := Lib.hid ((((Stays.refl w).alloc (.cells #[.pointer (some ⟨v, 0, none⟩)] 26)).alloc (.cells #[.slice none 0 0, .slice none 0 0, .int .i64 0, .int .i64 0] 33)).alloc (.cells #[.int .i64 0] 27))
  have HV := Lib.hid hV
  clear h1 hle hF es es2 hK hV
  go_enter Try.func11, Try.ntmps11
  go_wp2_with fail
  refine C.out.mono ?_
  rintro e w1 ⟨kv', rfl, h1, hst⟩
  obtain ⟨ak', ck', ek, _, _⟩ := Row.read h1
  subst ek
  have h2 : Sat ((Pr.pts (w.heap.size + 1) (.cells #[.slice none 0 0, .slice none 0 0, .int .i64 0, .int .i64 0] 33)).star ((BytesRow (.slice ak' K.length ck') K).star ((Pr.pts (w.heap.size + 1 + 1) (.cells #[.int .i64 0] 27)).star ((Pr.pts w.heap.size (.cells #[.pointer (some ⟨v, 0, none⟩)] 26)).star ((Pr.own hp).star F))))) w1 := h1.perm (by ac_rfl)
  have f0 : w1.cell? ⟨w.heap.size + 1, 0, none⟩ = some (.slice none 0 0) := by rw [cell_of_heap h2.pts_heap]; rfl
  have f1 : w1.cell? ⟨w.heap.size + 1, 1, none⟩ = some (.slice none 0 0) := by rw [cell_of_heap h2.pts_heap]; rfl
  have f2 : w1.cell? ⟨w.heap.size + 1, 2, none⟩ = some (.int .i64 0) := by rw [cell_of_heap h2.pts_heap]; rfl
  have f3 : w1.cell? ⟨w.heap.size + 1, 3, none⟩ = some (.int .i64 0) := by rw [cell_of_heap h2.pts_heap]; rfl
  have z0 := frozen_of_heap h2.pts_heap 0
  have z1 := frozen_of_heap h2.pts_heap 1
  have z2 := frozen_of_heap h2.pts_heap 2
  have z3 := frozen_of_heap h2.pts_heap 3
  have s3 : Sat ((Pr.pts (w.heap.size + 1) (.cells #[.slice ak' K.length ck', .slice none 0 0, .int .i64 0, .int .i64 V.length] 33)).star ((BytesRow (.slice ak' K.length ck') K).star ((Pr.pts (w.heap.size + 1 + 1) (.cells #[.int .i64 0] 27)).star ((Pr.pts w.heap.size (.cells #[.pointer (some ⟨v, 0, none⟩)] 26)).star ((Pr.own hp).star F))))) _ := (((h2.setCell (i := 0) (.slice ak' K.length ck')).setCell (i := 1) (.slice none 0 0)).setCell (i := 2) (.int .i64 0)).setCell (i := 3) (.int .i64 V.length)
  have hle2 := s3.right.right.right.right.own
  have D := Lib.hid (bclone_any hp _ V _ _ s3 hle2 HV.out (by omega))
  have HST2 := Lib.hid ((((HST.out.trans hst).setCell ⟨w.heap.size + 1, 0, none⟩ (.slice ak' K.length ck')).setCell ⟨w.heap.size + 1, 1, none⟩ (.slice none 0 0)).setCell ⟨w.heap.size + 1, 2, none⟩ (.int .i64 0) |>.setCell ⟨w.heap.size + 1, 3, none⟩ (.int .i64 V.length))
  clear h1 h2 s3 hle2 hst HST C
  go_wp2_with fail
  refine D.out.mono ?_
  rintro e w2 ⟨vv', rfl, h4, hst2⟩
  obtain ⟨av', cv', ev, _, _⟩ := Row.read h4
  subst ev
  have h5 : Sat ((Pr.pts (w.heap.size + 1) (.cells #[.slice ak' K.length ck', .slice none 0 0, .int .i64 0, .int .i64 V.length] 33)).star ((Pr.pts (w.heap.size + 1 + 1) (.cells #[.int .i64 0] 27)).star ((BytesRow (.slice ak' K.length ck') K).star ((BytesRow (.slice av' V.length cv') V).star ((Pr.pts w.heap.size (.cells #[.pointer (some ⟨v, 0, none⟩)] 26)).star ((Pr.own hp).star F)))))) w2 := h4.perm (by ac_rfl)
  have g0 : w2.cell? ⟨w.heap.size + 1, 0, none⟩ = some (.slice ak' K.length ck') := by rw [cell_of_heap h5.pts_heap]; rfl
  have g1 : w2.cell? ⟨w.heap.size + 1, 1, none⟩ = some (.slice none 0 0) := by rw [cell_of_heap h5.pts_heap]; rfl
  have g2 : w2.cell? ⟨w.heap.size + 1, 2, none⟩ = some (.int .i64 0) := by rw [cell_of_heap h5.pts_heap]; rfl
  have g3 : w2.cell? ⟨w.heap.size + 1, 3, none⟩ = some (.int .i64 V.length) := by rw [cell_of_heap h5.pts_heap]; rfl
  have ge : w2.cell? ⟨w.heap.size + 1 + 1, 0, none⟩ = some (.int .i64 0) := by rw [cell_of_heap h5.right.pts_heap]; rfl
  have y0 := frozen_of_heap h5.pts_heap 0
  have y1 := frozen_of_heap h5.pts_heap 1
  have y2 := frozen_of_heap h5.pts_heap 2
  have y3 := frozen_of_heap h5.pts_heap 3
  have ye := frozen_of_heap h5.right.pts_heap 0
  have s6 : Sat ((Pr.pts (w.heap.size + 1) (.cells #[.slice ak' K.length ck', .slice av' V.length cv', .int .i64 0, .int .i64 V.length] 33)).star ((Pr.pts (w.heap.size + 1 + 1) (.cells #[.int .i64 0] 27)).star ((BytesRow (.slice ak' K.length ck') K).star ((BytesRow (.slice av' V.length cv') V).star ((Pr.pts w.heap.size (.cells #[.pointer (some ⟨v, 0, none⟩)] 26)).star ((Pr.own hp).star F)))))) _ := ((((h5.setCell (i := 1) (.slice av' V.length cv')).setCell (i := 0) (.slice ak' K.length ck')).setCell (i := 1) (.slice av' V.length cv')).setCell (i := 2) (.int .i64 0)).setCell (i := 3) (.int .i64 V.length)
  have s7 : Sat ((Pr.pts (w.heap.size + 1 + 1) (.cells #[.int .i64 0] 27)).star ((Pr.pts (w.heap.size + 1) (.cells #[.slice ak' K.length ck', .slice av' V.length cv', .int .i64 0, .int .i64 V.length] 33)).star ((BytesRow (.slice ak' K.length ck') K).star ((BytesRow (.slice av' V.length cv') V).star ((Pr.pts w.heap.size (.cells #[.pointer (some ⟨v, 0, none⟩)] 26)).star ((Pr.own hp).star F)))))) _ := (s6.perm (Pr.left_comm _ _ _)).setCell (i := 0) (.int .i64 0)
  have S7 := Lib.hid s7
  have HST3 := Lib.hid ((HST2.out.trans hst2).setCell ⟨w.heap.size + 1, 1, none⟩ (.slice av' V.length cv') |>.setCell ⟨w.heap.size + 1, 0, none⟩ (.slice ak' K.length ck') |>.setCell ⟨w.heap.size + 1, 1, none⟩ (.slice av' V.length cv') |>.setCell ⟨w.heap.size + 1, 2, none⟩ (.int .i64 0) |>.setCell ⟨w.heap.size + 1, 3, none⟩ (.int .i64 V.length) |>.setCell ⟨w.heap.size + 1 + 1, 0, none⟩ (.int .i64 0))
  clear h4 h5 s6 s7 hst2 HST2 D f0 f1 f2 f3 z0 z1 z2 z3
  go_wp2
  have l1 := run_loadVar_row (P := Try.prog) _ (w.heap.size + 1) _ _ _ _ _ S7.out.right.pts_heap Try.underlying33 rfl infoItemS
  refine bodyPost_ret (results_cell_cell rfl _ _ (w.heap.size + 1) _ rfl l1 (w.heap.size + 1 + 1) (.int .i64 0) rfl (load_errno S7.out.pts_heap)) rfl ?_
  have s8 : Sat (((BytesRow (.slice ak' K.length ck') K).star (BytesRow (.slice av' V.length cv') V)).star ((Pr.pts w.heap.size (.cells #[.pointer (some ⟨v, 0, none⟩)] 26)).star ((Pr.own hp).star F))) _ := S7.out.right.right.perm (Pr.star_assoc _ _ _).symm
  obtain ⟨h', ⟨e1, e2⟩, s9⟩ := toArena (Q := fun x => Bytes x (.slice ak' K.length ck') K ∧ Bytes x (.slice av' V.length cv') V) s8 (by
    intro x hx
    obtain ⟨a, b, ha, hb, s1, s2⟩ := star_sub hx
    exact ⟨(Row.rowIn ha).sub s1, (Row.rowIn hb).sub s2⟩)
  have s10 : Sat ((Pr.pts w.heap.size (.cells #[.pointer (some ⟨v, 0, none⟩)] 26)).star ((Pr.own h').star ((Pr.own hp).star F))) _ := s9.perm (Pr.left_comm _ _ _)
  exact ⟨HST3.out, _, _, h', rfl, e1, e2, s10.right⟩

set_option maxRecDepth 100000 in
set_option maxHeartbeats 4000000 in
theorem load_short (v : Nat) (ak : Option Addr) (mk ck : Nat) (c : Int) (vv : Value) (hp : Hp) (V : List Int) (hV : Bytes hp vv V) (hv : V.length ≤ 32) (F : Pr) (w : World) (hF : Sat F w) (hle : hp.le w) :
    Calls Try.prog 12 #[.pointer (some ⟨v, 0, none⟩), .agg #[.slice ak mk ck, vv, .int .i64 c, .int .i64 V.length]] w fun e w' =>
      Stays w w' ∧ ∃ o, e = .returned (.tuple #[o, .int .i64 0]) ∧ Sat ((BytesRow o V).star F) w' := by
  obtain ⟨_, av, cv, rfl, _, _, _⟩ := id hV
  have h1 := hF.alloc (.cells #[.slice ak mk ck, .slice av V.length cv, .int .i64 c, .int .i64 V.length] 33)
  have hle2 : hp.le (w.alloc (.cells #[.slice ak mk ck, .slice av V.length cv, .int .i64 c, .int .i64 V.length] 33)) :=
    fun k o e => (((Only.refl w).alloc _).heap k (Array.getElem?_eq_some_iff.1 (hle k o e)).1).trans (hle k o e)
  have C := Lib.hid (bclone_any hp _ V _ _ h1 hle2 hV (by omega))
  clear h1 hle2 hF hle hV
  go_enter Try.func12, Try.ntmps12
  go_wp2_with fail
  refine C.out.mono ?_
  rintro e w1 ⟨o, rfl, h2, hst⟩
  have H2 := Lib.hid (h2.perm (Pr.left_comm _ _ _)).right
  clear h2 C
  go_wp2
  go_ret2
  exact ⟨((Stays.refl w).alloc _).trans hst, o, rfl, H2.out⟩
end Go.Proofs.Ytbobcmimkonnoaa.blob5

namespace Go.Cop
def kidsB (next : Int) : List Int := if next = 0 then [] else [next]
end Go.Cop
namespace Go.Proofs.Ytbobcmimkonnoaa.kids
open Go.ChangeShapes Go.WideShapes Go.ChangeAt Go.RowKit Go.Sl Go.Cop Go.Proofs.Ytbobcmimkonnoaa.pool1 Go.Proofs.Ytbobcmimkonnoaa.pool2 Go.Proofs.Ytbobcmimkonnoaa.pool5 Go.Proofs.Ytbobcmimkonnoaa.pool9 Go.Proofs.Ytbobcmimkonnoaa.clone Go.Proofs.Ytbobcmimkonnoaa.page Go.Proofs.Ytbobcmimkonnoaa.vault1 Go.Proofs.Ytbobcmimkonnoaa.vault2

set_option maxRecDepth 100000 in
set_option maxHeartbeats 2000000 in
theorem kids_blob (ai ad : Option Addr) (ci md cd : Nat) (next : Int) (F : Pr) (w : World) (hF : Sat F w) :
    Calls Try.prog 85 #[pageV 3 0 (.slice ai 0 ci) (.slice ad md cd) next] w fun e w' => ∃ v, e = .returned v ∧ Sat ((Row 3 1 v (kidsB next).length ((kidsB next).map (Value.int .i64))).star F) w' ∧ Stays w w' := by
  have h1 := hF.alloc (.cells #[.int .i64 3, .int .i64 0, .slice ai 0 ci, .slice ad md cd, .int .i64 next] 65)
  have hb := h1.pts_heap
  have H1 := Lib.hid h1
  generalize hw1 : w.alloc (.cells #[.int .i64 3, .int .i64 0, .slice ai 0 ci, .slice ad md cd, .int .i64 next] 65) = w1 at *
  have p0 : w1.cell? ⟨w.heap.size, 0, none⟩ = some (.int .i64 3) := by rw [cell_of_heap hb]; rfl
  have p2 : w1.cell? ⟨w.heap.size, 2, none⟩ = some (.slice ai 0 ci) := by rw [cell_of_heap hb]; rfl
  have p4 : w1.cell? ⟨w.heap.size, 4, none⟩ = some (.int .i64 next) := by rw [cell_of_heap hb]; rfl
  have hst : Stays w w1 := hw1 ▸ ((Stays.refl w).alloc _)
  have HST := Lib.hid hst
  clear hF h1 hb hst
  by_cases hn : next = 0
  · subst hn
    go_enter Try.func85, Try.ntmps85
    go_wp2
    go_loopw [3, 9] (fun l i wr => l = .slice none 0 0 ∧ i = .int .i64 0 ∧ wr = w1) (fun _ _ _ => 0)
    case atStart => exact ⟨rfl, rfl, rfl⟩
    case round =>
      obtain ⟨rfl, rfl, rfl⟩ := hrel
      go_wp2
      go_ret
      refine ⟨_, rfl, ?_, HST.out⟩
      show Sat ((Row _ 1 (.slice none 0 0) 0 []).star F) _
      rw [Row.nil, Pr.emp_star]
      exact H1.out.right
  · have hb0 : (next == 0) = false := by rw [beq_eq_false_iff_ne]; exact hn
    obtain ⟨i0, hi, hz0, hz1, hz2⟩ := info_parts infoInt
    have H2 := Lib.hid (H1.out.alloc (.cells #[.int .i64 next] 3)).right
    have hnew := Lib.hid (new_cells w1 [.int .i64 next] 3 _ rfl)
    go_enter Try.func85, Try.ntmps85
    go_wp2
    go_loopw [3, 9] (fun l i wr => l = .slice none 0 0 ∧ i = .int .i64 0 ∧ wr = w1) (fun _ _ _ => 0)
    case atStart => exact ⟨rfl, rfl, rfl⟩
    case round =>
      obtain ⟨rfl, rfl, rfl⟩ := hrel
      go_wp2_with (at_builtin; refine wpList_append_sl rfl _ _ _ rfl 3 i0 (.int .i64 0) 1 8 Try.underlying45 hi hz0 hz1 hz2 rfl _ 0 [] rfl (show Sat ((Row 3 1 (.slice none 0 0) 0 []).star _) _ from by rw [Row.nil, Pr.emp_star]; exact H2.out) ⟨wr.heap.size, 0, none⟩ 1 1 [.int .i64 next] rfl rfl hnew.out (by simp [Value.oneCell']) (by simp [maxLen]) (by omega) ?_; intro v7 w4 hs4 hg4 _; obtain ⟨a7', c7', e7', _, _⟩ := Row.read hs4; subst e7'; have HS4 := Lib.hid hs4; have HG4 := Lib.hid hg4; clear hs4 hg4)
      go_ret
      refine ⟨_, rfl, ?_, (HST.out.alloc _).of_grown HG4.out⟩
      have ek : kidsB next = [next] := if_neg hn
      rw [ek]
      exact (HS4.out.perm (Pr.left_comm _ _ _)).right
end Go.Proofs.Ytbobcmimkonnoaa.kids

namespace Go.Cop
/-- A page to which nothing leads any longer. -/
def VaultS.freed (s : VaultS) (n : Int) : VaultS := { s with pool := s.pool.did n (-1), on := fun m => if m = n then none else s.on m }
end Go.Cop
namespace Go.Proofs.Ytbobcmimkonnoaa.free
open Go.ChangeShapes Go.WideShapes Go.ChangeAt Go.RowKit Go.Sl Go.Cop Go.Proofs.Ytbobcmimkonnoaa.pool1 Go.Proofs.Ytbobcmimkonnoaa.pool2 Go.Proofs.Ytbobcmimkonnoaa.pool5 Go.Proofs.Ytbobcmimkonnoaa.pool9 Go.Proofs.Ytbobcmimkonnoaa.clone Go.Proofs.Ytbobcmimkonnoaa.page Go.Proofs.Ytbobcmimkonnoaa.vault1 Go.Proofs.Ytbobcmimkonnoaa.vault2 Go.Proofs.Ytbobcmimkonnoaa.vault3 Go.Proofs.Ytbobcmimkonnoaa.vault4

theorem onIn_del {h : Hp} {f : Int → Option Value} {on : Int → Option PageV} (hO : OnIn h f on) (n : Int) : OnIn h (fun m => if m = n then none else f m) (fun m => if m = n then none else on m) := by
  intro m
  dsimp only
  by_cases hm : m = n
  · simp only [hm, if_true]
  · simp only [hm, if_false]; exact hO m

theorem was_snoc {h : Hp} {ws : List WasX} {was : List (Int × Option PageV)} (hw : WasIn h ws was) {X : WasX} {y : Int × Option PageV} (hr : WasRel h X y) : WasIn h (ws ++ [X]) (was ++ [y]) := by
  refine ⟨by simp [hw.1], fun i h1 h2 => ?_⟩
  rcases Nat.lt_or_ge i was.length with hlt | hge
  · have hx : i < ws.length := by rw [hw.1]; exact hlt
    rw [List.getElem_append_left hx, List.getElem_append_left hlt]
    exact hw.2 i hx hlt
  · have h3 : i = was.length := by simp at h2; omega
    subst h3
    have hx : ws.length ≤ was.length := by rw [hw.1]; omega
    rw [List.getElem_append_right hx, List.getElem_append_right hge]
    simpa using hr

theorem pool_state (p : Nat) (s : PoolS) (n : Int) (F : Pr) (w : World) (hF : Sat ((PoolA p s).star F) w) :
    Calls Try.prog 43 #[.pointer (some ⟨p, 0, none⟩), .int .i64 n] w fun e w' => e = .returned (.int .i64 (s.state n)) ∧ w = w' :=
  state_any p n w s (poolA_rd hF).2.1

set_option maxRecDepth 100000 in
set_option maxHeartbeats 2000000 in
theorem free_A (v : Nat) (s : VaultS) (ab : Nat) (mark : Int) (was : List (Int × Option PageV)) (n : Int) (hn : 1 ≤ n ∧ n ≤ 65536) (hs : s.pool.state n = 1) (hl : was.length ≤ 65536) (F : Pr) (w : World)
    (hF : Sat ((VMA v s ab mark was).star F) w) :
    Calls Try.prog 86 #[.pointer (some ⟨v, 0, none⟩), .pointer (some ⟨ab, 0, none⟩), .int .i64 n] w fun e w' =>
      e = .returned (.tuple #[]) ∧ Sat ((VMA v { s with on := fun m => if m = n then none else s.on m } ab mark (was ++ [(n, s.on n)])).star F) w' ∧ Stays w w' := by
  obtain ⟨x, wv, ws, ok, hws, hF⟩ := vma_iff.1 hF
  have h1 : Sat ((PoolA x.p s.pool).star ((Pr.pts v (.cells #[.pointer (some ⟨x.p, 0, none⟩), .map (some x.mb), x.av, .int .i64 s.floor] 43)).star
    ((((MapA Try.prog 3 x.mb x.f).star ((Row 94 2 x.av s.acts.length (actCells x.axs)).star (Pr.own x.h)))).star (((Pr.pts ab (.cells #[.int .i64 mark, wv] 94)).star (Row 116 7 wv ws.length (ws.flatMap WasX.cells))).star F)))) w := hF.perm (by unfold VMAt VaultAt; ac_rfl)
  have qv : w.cell? ⟨v, 0, none⟩ = some (.pointer (some ⟨x.p, 0, none⟩)) := by rw [cell_of_heap h1.right.pts_heap]; rfl
  have P := pool_state x.p s.pool n _ w h1
  rw [hs] at P
  have HP := Lib.hid P
  have N := Lib.hid (note_at v s x ab mark wv ws n hn ok.on (by rw [hws.1]; exact hl) F w hF)
  clear h1 P hF
  go_enter Try.func86, Try.ntmps86
  go_wp2_with fail
  refine HP.out.mono ?_
  rintro e w1 ⟨rfl, rfl⟩
  go_wp2_with fail
  refine N.out.mono ?_
  rintro e w1 ⟨rfl, ⟨wv', X, hX, h4⟩, hst⟩
  have h5 : Sat ((MapA Try.prog 3 x.mb x.f).star ((Pr.pts v (.cells #[.pointer (some ⟨x.p, 0, none⟩), .map (some x.mb), x.av, .int .i64 s.floor] 43)).star
    (((PoolA x.p s.pool).star ((Row 94 2 x.av s.acts.length (actCells x.axs)).star (Pr.own x.h))).star (((Pr.pts ab (.cells #[.int .i64 mark, wv'] 94)).star (Row 116 7 wv' (ws ++ [X]).length ((ws ++ [X]).flatMap WasX.cells))).star F)))) w1 := h4.perm (by unfold VMAt VaultAt; ac_rfl)
  have q1 : w1.cell? ⟨v, 1, none⟩ = some (.map (some x.mb)) := by rw [cell_of_heap h5.right.pts_heap]; rfl
  have H5 := Lib.hid h5
  clear h5 h4 qv N HP
  go_wp2_with (refine wpList_del rfl _ _ _ rfl Try.underlying3 Try.underlying40 n hn rfl rfl H5.out ?_; intro w2 hs2 hg2; have HS2 := Lib.hid hs2; have HG2 := Lib.hid hg2; clear hs2 hg2)
  trace_state
  first | refine bodyPost_ret (results_none rfl _ _ _) rfl ?_ | go_end0
  refine ⟨rfl, vma_iff.2 ⟨{ x with f := fun m => if m = n then none else x.f m }, wv', ws ++ [X], ⟨onIn_del ok.on n, ok.acts, ok.f0, ok.fb⟩, was_snoc hws hX, ?_⟩, hst.of_grown HG2.out⟩
  exact HS2.out.perm (by unfold VMAt VaultAt; dsimp only; ac_rfl)
end Go.Proofs.Ytbobcmimkonnoaa.free
