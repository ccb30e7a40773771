/- blob.Store of a long value, room or not; the conditions stand as hypotheses. -/
import Derived.Test.YtbobcmimkonnoaaGreatBlobAnswersM14
import Derived.Test.YtbobcmimkonnoaaGreatBlobAnswersM12
import Derived.Test.YtbobcmimkonnoaaGreatBlobAnswersM13
namespace Go.Cop
theorem none_free {s : PoolS} (ok : PoolOk s) (h : s.many 1 = 0) : ∀ m, s.state m ≠ 1 := by
 intro m hm
 have h1 := did_many ok hm
 omega
end Go.Cop
namespace Go.Proofs.YtbobcmimkonnoaaGreat.blob4
open ChangeShapes WideShapes ChangeAt RowKit Sl Cop pool1 pool2 pool5 pool9 clone page vault1 vault2 vault3 vault4 vault5 vault6 vault7 vault8 blob1
abbrev zeroItem : Value := .agg #[.slice none 0 0, .slice none 0 0, .int .i64 0, .int .i64 0]
set_option maxRecDepth 100000 in
set_option maxHeartbeats 1000000 in
theorem store1_err (EB VB MB IB v : Nat) (s0 s : VaultS) (c0 c1 : Value) (x2 x3 : Int) (hst : Go.Cop.Steps s0 s) (hb : Bare s0) (a0 : Option Addr) (m0 k0 : Nat) (ec : c0 = .slice a0 m0 k0) (ec1 : c1 = .slice none 0 0) (u : FrameMode) (F : Pr) (w : World)
 (hF : Sat ((VaultA v s).star ((Pr.pts IB (.cells #[c0, c1, .int .i64 x2, .int .i64 x3] 58)).star ((Pr.pts EB (.cells #[.int .i64 12] 36)).star ((Pr.pts VB (.cells #[.pointer (some ⟨v, 0, none⟩)] 35)).star ((Pr.pts MB (.cells #[.int .i64 (s0.floor + s0.acts.length)] 3)).star F))))) w) :
 CallsD Tryz.prog 126 #[.pointer (some ⟨EB, 0, none⟩), .pointer (some ⟨VB, 0, none⟩), .pointer (some ⟨MB, 0, none⟩), .pointer (some ⟨IB, 0, none⟩)] u w fun e u' w' => u' = u ∧ (e = .returned (.tuple #[]) ∧ Stays w w' ∧
  Sat ((Pr.pts IB (.cells #[.slice none 0 0, .slice none 0 0, .int .i64 0, .int .i64 0] 58)).star ((Pr.pts EB (.cells #[.int .i64 12] 36)).star ((VaultA v s0).star F))) w') := by
 subst ec
 subst ec1
 have e0 : w.cell? ⟨EB, 0, none⟩ = some (.int .i64 12) := by rw [cell_of_heap hF.right.right.pts_heap]; rfl
 have v0 : w.cell? ⟨VB, 0, none⟩ = some (.pointer (some ⟨v, 0, none⟩)) := by rw [cell_of_heap hF.right.right.right.pts_heap]; rfl
 have m0' : w.cell? ⟨MB, 0, none⟩ = some (.int .i64 (s0.floor + s0.acts.length)) := by rw [cell_of_heap hF.right.right.right.right.pts_heap]; rfl
 have U := Lib.hid (vundo_A v s0 s hst hb _ w hF)
 clear hF
 go_enter_d Tryz.func126, Tryz.ntmps126
 go_wp2_with fail
 refine U.out.mono ?_
 rintro e w1 ⟨rfl, h1, hst1⟩
 have h2 := h1.right
 have f0 : w1.cell? ⟨IB, 0, none⟩ = some (.slice a0 m0 k0) := by rw [cell_of_heap h2.pts_heap]; rfl
 have f1 : w1.cell? ⟨IB, 1, none⟩ = some (.slice none 0 0) := by rw [cell_of_heap h2.pts_heap]; rfl
 have f2 : w1.cell? ⟨IB, 2, none⟩ = some (.int .i64 x2) := by rw [cell_of_heap h2.pts_heap]; rfl
 have f3 : w1.cell? ⟨IB, 3, none⟩ = some (.int .i64 x3) := by rw [cell_of_heap h2.pts_heap]; rfl
 have z0 := frozen_of_heap h2.pts_heap 0
 have z1 := frozen_of_heap h2.pts_heap 1
 have z2 := frozen_of_heap h2.pts_heap 2
 have z3 := frozen_of_heap h2.pts_heap 3
 have h3 := ((((h1.perm (Pr.left_comm _ _ _)).setCell (i := 0) (.slice none 0 0)).setCell (i := 1) (.slice none 0 0)).setCell (i := 2) (.int .i64 0)).setCell (i := 3) (.int .i64 0)
 have h4 : Sat ((Pr.pts VB (.cells #[.pointer (some ⟨v, 0, none⟩)] 35)).star ((Pr.pts MB (.cells #[.int .i64 (s0.floor + s0.acts.length)] 3)).star ((Pr.pts IB (.cells #[.slice none 0 0, .slice none 0 0, .int .i64 0, .int .i64 0] 58)).star ((Pr.pts EB (.cells #[.int .i64 12] 36)).star ((VaultA v s0).star F))))) _ := h3.perm (show (Pr.pts IB (.cells #[.slice none 0 0, .slice none 0 0, .int .i64 0, .int .i64 0] 58)).star _ = _ from by ac_rfl)
 have H4 := Lib.hid h4.right.right
 have HST := Lib.hid ((((hst1.setCell ⟨IB, 0, none⟩ (.slice none 0 0)).setCell ⟨IB, 1, none⟩ (.slice none 0 0)).setCell ⟨IB, 2, none⟩ (.int .i64 0)).setCell ⟨IB, 3, none⟩ (.int .i64 0))
 clear h1 h2 h3 h4 hst1 U
 go_wp2
 first | refine bodyPost_ret (results_none rfl _ _ _) rfl ?_ | go_end0
 exact ⟨rfl, HST.out, H4.out⟩
set_option maxRecDepth 100000 in
set_option maxHeartbeats 4000000 in
theorem store_any_row (v : Nat) (s : VaultS) (kv vv : Value) (hp : Hp) (K V : List Int) (hK : Bytes hp kv K) (hV : Bytes hp vv V) (hk : 1 ≤ K.length ∧ K.length ≤ 24) (hv : 32 < V.length ∧ V.length ≤ 3840) (F : Pr) (w : World)
 (hF : Sat ((VaultA v s).star ((Pr.own hp).star F)) w) (hbare : Bare s) (hm : s.pool.floor + s.pool.acts.length + chunks V ≤ 1099511627776) (hm2 : s.floor + s.acts.length + chunks V ≤ 1099511627776) :
 Calls Tryz.prog 70 #[.pointer (some ⟨v, 0, none⟩), kv, vv] w fun e w' =>
  Stays w w' ∧ ((chunks V ≤ s.pool.many 1 ∧ ∃ kv' c s' ns, e = .returned (.tuple #[.agg #[kv', .slice none 0 0, .int .i64 c, .int .i64 V.length], .int .i64 0]) ∧ Taken s s' ns ∧ ChainAt s' V (chunks V) 0 c ns ∧
   Sat ((BytesRow kv' K).star ((VaultA v s').star ((Pr.own hp).star F))) w') ∨
   (s.pool.many 1 < chunks V ∧ e = .returned (.tuple #[.agg #[.slice none 0 0, .slice none 0 0, .int .i64 0, .int .i64 0], .int .i64 12]) ∧ Sat ((VaultA v s).star ((Pr.own hp).star F)) w')) := by
 obtain ⟨_, ak, ck, rfl, _⟩ := id hK
 obtain ⟨_, av, cv, rfl, hcv, hcv2, hcell⟩ := id hV
 obtain ⟨bv, ov, eav, _⟩ := hcell (by omega)
 subst eav
 have es : (w.alloc (.cells #[.pointer (some ⟨v, 0, none⟩)] 35)).heap.size = w.heap.size + 1 := by simp
 have es2 : ((w.alloc (.cells #[.pointer (some ⟨v, 0, none⟩)] 35)).alloc (.cells #[.slice none 0 0, .slice none 0 0, .int .i64 0, .int .i64 0] 58)).heap.size = w.heap.size + 1 + 1 := by simp
 have h1 := ((hF.alloc (.cells #[.pointer (some ⟨v, 0, none⟩)] 35)).alloc (.cells #[.slice none 0 0, .slice none 0 0, .int .i64 0, .int .i64 0] 58)).alloc (.cells #[.int .i64 0] 36)
 rw [es2, es] at h1
 have hle := (h1.perm (B := (Pr.own hp).star ((VaultA v s).star ((Pr.pts (w.heap.size + 1 + 1) (.cells #[.int .i64 0] 36)).star ((Pr.pts (w.heap.size + 1) (.cells #[.slice none 0 0, .slice none 0 0, .int .i64 0, .int .i64 0] 58)).star ((Pr.pts w.heap.size (.cells #[.pointer (some ⟨v, 0, none⟩)] 35)).star F))))) (by ac_rfl)).own
 have C := Lib.hid (bclone_any hp _ K _ _ h1 hle hK (by omega))
 have HST := Lib.hid ((((Stays.refl w).alloc (.cells #[.pointer (some ⟨v, 0, none⟩)] 35)).alloc (.cells #[.slice none 0 0, .slice none 0 0, .int .i64 0, .int .i64 0] 58)).alloc (.cells #[.int .i64 0] 36))
 have HV := Lib.hid hV
 clear h1 hle hF es es2 hK hV hcell
 go_enter_defers Tryz.func70, Tryz.ntmps70
 go_wp2_with fail
 refine C.out.mono ?_
 rintro e w1 ⟨kv', rfl, h1, hst⟩
 obtain ⟨ak', ck', ek, _, _⟩ := Row.read h1
 have h2 : Sat ((Pr.pts (w.heap.size + 1) (.cells #[.slice none 0 0, .slice none 0 0, .int .i64 0, .int .i64 0] 58)).star ((BytesRow kv' K).star ((Pr.pts (w.heap.size + 1 + 1) (.cells #[.int .i64 0] 36)).star ((Pr.pts w.heap.size (.cells #[.pointer (some ⟨v, 0, none⟩)] 35)).star
  ((VaultA v s).star ((Pr.own hp).star F)))))) w1 := h1.perm (by ac_rfl)
 subst ek
 have f0 : w1.cell? ⟨w.heap.size + 1, 0, none⟩ = some (.slice none 0 0) := by rw [cell_of_heap h2.pts_heap]; rfl
 have f1 : w1.cell? ⟨w.heap.size + 1, 1, none⟩ = some (.slice none 0 0) := by rw [cell_of_heap h2.pts_heap]; rfl
 have f2 : w1.cell? ⟨w.heap.size + 1, 2, none⟩ = some (.int .i64 0) := by rw [cell_of_heap h2.pts_heap]; rfl
 have f3 : w1.cell? ⟨w.heap.size + 1, 3, none⟩ = some (.int .i64 0) := by rw [cell_of_heap h2.pts_heap]; rfl
 have z0 := frozen_of_heap h2.pts_heap 0
 have z1 := frozen_of_heap h2.pts_heap 1
 have z2 := frozen_of_heap h2.pts_heap 2
 have z3 := frozen_of_heap h2.pts_heap 3
 have s3 := (((h2.setCell (i := 0) (.slice ak' K.length ck')).setCell (i := 1) (.slice none 0 0)).setCell (i := 2) (.int .i64 0)).setCell (i := 3) (.int .i64 V.length)
 have h3 : Sat ((VaultA v s).star ((Pr.pts (w.heap.size + 1) (.cells #[.slice ak' K.length ck', .slice none 0 0, .int .i64 0, .int .i64 V.length] 58)).star ((BytesRow (.slice ak' K.length ck') K).star ((Pr.pts (w.heap.size + 1 + 1) (.cells #[.int .i64 0] 36)).star ((Pr.pts w.heap.size (.cells #[.pointer (some ⟨v, 0, none⟩)] 35)).star
  ((Pr.own hp).star F)))))) _ := s3.perm (show (Pr.pts (w.heap.size + 1) (.cells #[.slice ak' K.length ck', .slice none 0 0, .int .i64 0, .int .i64 V.length] 58)).star _ = _ from by ac_rfl)
 have q0 := cell_of_heap h3.right.right.right.right.pts_heap 0
 have M := Lib.hid (vmark_A v s _ _ h3)
 have H3 := Lib.hid h3
 have HST2 := Lib.hid ((((HST.out.trans hst).setCell ⟨w.heap.size + 1, 0, none⟩ (.slice ak' K.length ck')).setCell ⟨w.heap.size + 1, 1, none⟩ (.slice none 0 0)).setCell ⟨w.heap.size + 1, 2, none⟩ (.int .i64 0) |>.setCell ⟨w.heap.size + 1, 3, none⟩ (.int .i64 V.length))
 clear h1 h2 h3 s3 hst HST C
 go_wp2_with fail
 refine M.out.mono ?_
 rintro e w2 ⟨rfl, ho⟩
 have h4 := (H3.out.only ho)
 have HST3 := Lib.hid (HST2.out.trans ho.st)
 clear M H3 HST2 ho f0 f1 f2 f3 z0 z1 z2 z3 q0
 have h5 := h4.alloc (.cells #[.int .i64 (s.floor + s.acts.length)] 3)
 have H5 := Lib.hid h5
 clear h4 h5
 have hN : V.length ≤ 480 * chunks V ∧ 480 * chunks V < V.length + 480 := by unfold chunks; omega
 go_wp2
 go_loopw [9] (fun e wr => ∃ (j : Nat) (c : Int) (s' : VaultS) (ns : List Int), j ≤ chunks V ∧ e = .int .i64 (min V.length (480 * j) : Nat) ∧ Stays w wr ∧ Taken s s' ns ∧ ChainAt s' V (chunks V - j) j c ns ∧
  Sat ((VaultA v s').star ((Pr.pts (w.heap.size + 1) (.cells #[.slice ak' K.length ck', .slice none 0 0, .int .i64 c, .int .i64 V.length] 58)).star ((BytesRow (.slice ak' K.length ck') K).star ((Pr.pts (w.heap.size + 1 + 1) (.cells #[.int .i64 0] 36)).star ((Pr.pts w.heap.size (.cells #[.pointer (some ⟨v, 0, none⟩)] 35)).star ((Pr.pts w2.heap.size (.cells #[.int .i64 (s.floor + s.acts.length)] 3)).star ((Pr.own hp).star F))))))) wr) (fun e _ => (intOf e).toNat)
 case atStart =>
  refine ⟨chunks V, 0, s, [], Nat.le_refl _, by rw [Nat.min_eq_left hN.1], HST3.out.alloc _, Taken.refl s, ?_, ?_⟩
  · rw [Nat.sub_self]; exact ⟨rfl, rfl⟩
  · exact H5.out.perm (by ac_rfl)
 case round =>
  obtain ⟨j, c, s', ns, hj, rfl, hst, ht, hch, hinv⟩ := hrel
  have hi : Sat ((Pr.pts (w.heap.size + 1) (.cells #[.slice ak' K.length ck', .slice none 0 0, .int .i64 c, .int .i64 V.length] 58)).star ((Pr.pts (w.heap.size + 1 + 1) (.cells #[.int .i64 0] 36)).star ((Pr.pts w.heap.size (.cells #[.pointer (some ⟨v, 0, none⟩)] 35)).star ((BytesRow (.slice ak' K.length ck') K).star ((VaultA v s').star ((Pr.pts w2.heap.size (.cells #[.int .i64 (s.floor + s.acts.length)] 3)).star ((Pr.own hp).star F))))))) wr := hinv.perm (by ac_rfl)
  have f0 : wr.cell? ⟨w.heap.size + 1, 0, none⟩ = some (.slice ak' K.length ck') := by rw [cell_of_heap hi.pts_heap]; rfl
  have f1 : wr.cell? ⟨w.heap.size + 1, 1, none⟩ = some (.slice none 0 0) := by rw [cell_of_heap hi.pts_heap]; rfl
  have f2 : wr.cell? ⟨w.heap.size + 1, 2, none⟩ = some (.int .i64 c) := by rw [cell_of_heap hi.pts_heap]; rfl
  have f3 : wr.cell? ⟨w.heap.size + 1, 3, none⟩ = some (.int .i64 V.length) := by rw [cell_of_heap hi.pts_heap]; rfl
  have e0 : wr.cell? ⟨w.heap.size + 1 + 1, 0, none⟩ = some (.int .i64 0) := by rw [cell_of_heap hi.right.pts_heap]; rfl
  have b0 : wr.cell? ⟨w.heap.size, 0, none⟩ = some (.pointer (some ⟨v, 0, none⟩)) := by rw [cell_of_heap hi.right.right.pts_heap]; rfl
  cases j with
  | zero =>
   have z0 := frozen_of_heap hi.pts_heap 0
   have z1 := frozen_of_heap hi.pts_heap 1
   have z2 := frozen_of_heap hi.pts_heap 2
   have z3 := frozen_of_heap hi.pts_heap 3
   have ze := frozen_of_heap hi.right.pts_heap 0
   have s3 := (((hi.setCell (i := 0) (.slice ak' K.length ck')).setCell (i := 1) (.slice none 0 0)).setCell (i := 2) (.int .i64 c)).setCell (i := 3) (.int .i64 V.length)
   have s4 : Sat ((Pr.pts (w.heap.size + 1 + 1) (.cells #[.int .i64 0] 36)).star ((Pr.pts (w.heap.size + 1) (.cells #[.slice ak' K.length ck', .slice none 0 0, .int .i64 c, .int .i64 V.length] 58)).star ((Pr.pts w.heap.size (.cells #[.pointer (some ⟨v, 0, none⟩)] 35)).star ((BytesRow (.slice ak' K.length ck') K).star ((VaultA v s').star ((Pr.pts w2.heap.size (.cells #[.int .i64 (s.floor + s.acts.length)] 3)).star ((Pr.own hp).star F))))))) _ := s3.perm (show (Pr.pts (w.heap.size + 1) (.cells #[.slice ak' K.length ck', .slice none 0 0, .int .i64 c, .int .i64 V.length] 58)).star _ = _ from Pr.left_comm _ _ _)
   have s5 : Sat ((Pr.pts (w.heap.size + 1 + 1) (.cells #[.int .i64 0] 36)).star ((Pr.pts (w.heap.size + 1) (.cells #[.slice ak' K.length ck', .slice none 0 0, .int .i64 c, .int .i64 V.length] 58)).star ((Pr.pts w.heap.size (.cells #[.pointer (some ⟨v, 0, none⟩)] 35)).star ((BytesRow (.slice ak' K.length ck') K).star ((VaultA v s').star ((Pr.pts w2.heap.size (.cells #[.int .i64 (s.floor + s.acts.length)] 3)).star ((Pr.own hp).star F))))))) _ := s4.setCell (i := 0) (.int .i64 0)
   have S5 := Lib.hid s5
   have HST4 := Lib.hid ((((hst.setCell ⟨w.heap.size + 1, 0, none⟩ (.slice ak' K.length ck')).setCell ⟨w.heap.size + 1, 1, none⟩ (.slice none 0 0)).setCell ⟨w.heap.size + 1, 2, none⟩ (.int .i64 c)).setCell ⟨w.heap.size + 1, 3, none⟩ (.int .i64 V.length) |>.setCell ⟨w.heap.size + 1 + 1, 0, none⟩ (.int .i64 0))
   rw [Nat.sub_zero] at hch
   clear hi hinv s3 s4 s5 hst
   rw [show min V.length (480 * 0) = 0 by omega] at *
   go_wp2
   refine leaves_cons (f := 126) (args := #[.pointer (some ⟨w.heap.size + 1 + 1, 0, none⟩), .pointer (some ⟨w.heap.size, 0, none⟩), .pointer (some ⟨w2.heap.size, 0, none⟩), .pointer (some ⟨w.heap.size + 1, 0, none⟩)]) (by simp) (by simp [go_sem]) ?_
   refine (store1_ok _ _ _ _ .returning _ (by rw [cell_of_heap S5.out.pts_heap]; rfl)).mono ?_
   rintro e u' w'' ⟨rfl, rfl, rfl⟩
   refine ⟨_, results_cell_cell rfl _ _ (w.heap.size + 1) _ rfl (run_loadVar_row _ (w.heap.size + 1) _ _ _ _ _ S5.out.right.pts_heap Tryz.underlying58 rfl infoItemS) (w.heap.size + 1 + 1) (.int .i64 0) rfl ?_, HST4.out, .inl ⟨by have := ht.many; have := chain_len hch; omega, .slice ak' K.length ck', c, s', ns, ?_⟩⟩
   · exact load_errno S5.out.pts_heap
   · refine ⟨rfl, ht, hch, ?_⟩
     have e3 : Sat ((Pr.pts w2.heap.size (.cells #[.int .i64 (s.floor + s.acts.length)] 3)).star ((BytesRow (.slice ak' K.length ck') K).star ((VaultA v s').star ((Pr.own hp).star F)))) _ := (S5.out.right.right.right).perm (by ac_rfl)
     exact e3.right
  | succ j =>
   have hE : ∃ E : Nat, E = min V.length (480 * (j + 1)) := ⟨_, rfl⟩
   obtain ⟨E, hE⟩ := hE
   have hE1 : 480 * j < E ∧ E ≤ 480 * j + 480 ∧ E ≤ V.length := by omega
   rw [← hE]
   have hq : Int.tdiv ((E : Int) - 1) 480 = j := by rw [Int.tdiv_eq_ediv_of_nonneg (by omega)]; omega
   have hcl : (chunk V j).length = E - 480 * j := by rw [chunk_len, hE]; omega
   have hce : chunk V j = (V.drop (480 * j)).take (E - 480 * j) := by
    unfold chunk
    rw [List.take_eq_take_iff, List.length_drop]
    omega
   have hpg : PageIn hp (.agg (blobCells (.slice none 0 0) (.slice (some ⟨bv, ov + 480 * j, none⟩) (E - 480 * j) (cv - 480 * j)) c)) (blobV (chunk V j) c) := by
    refine ⟨_, _, rfl, items_mk (Nat.zero_le _), ?_⟩
    show RowIn _ _ _ (chunk V j).length _
    rw [hcl, hce]
    exact bytes_sub HV.out (by omega) hE1.2.2
   obtain ⟨okp, _, _⟩ := vault_ok hinv
   have hnl := chain_len hch
   have hmn := ht.many
   have C1 : s'.pool.many 1 ≠ 0 → _ := fun hmm => make_ok v s' hp _ _ (chunk V j) c (by omega) (chain_next hch) hpg ((Pr.pts (w.heap.size + 1) (.cells #[.slice ak' K.length ck', .slice none 0 0, .int .i64 c, .int .i64 V.length] 58)).star ((Pr.pts (w.heap.size + 1 + 1) (.cells #[.int .i64 0] 36)).star ((Pr.pts w.heap.size (.cells #[.pointer (some ⟨v, 0, none⟩)] 35)).star ((BytesRow (.slice ak' K.length ck') K).star ((Pr.pts w2.heap.size (.cells #[.int .i64 (s.floor + s.acts.length)] 3)).star F))))) wr.drew (hinv.drew.perm (by ac_rfl)) (free_of_many okp hmm) (by have := ht.pf; have := ht.pa; omega) (by have := ht.vf; have := ht.va; omega)
   have C0 : s'.pool.many 1 = 0 → _ := fun hmm => make_full v s' hp _ _ (chunk V j) c (by omega) (chain_next hch) hpg ((Pr.pts (w.heap.size + 1) (.cells #[.slice ak' K.length ck', .slice none 0 0, .int .i64 c, .int .i64 V.length] 58)).star ((Pr.pts (w.heap.size + 1 + 1) (.cells #[.int .i64 0] 36)).star ((Pr.pts w.heap.size (.cells #[.pointer (some ⟨v, 0, none⟩)] 35)).star ((BytesRow (.slice ak' K.length ck') K).star ((Pr.pts w2.heap.size (.cells #[.int .i64 (s.floor + s.acts.length)] 3)).star F))))) wr.drew (hinv.drew.perm (by ac_rfl)) (none_free okp hmm) (by have := ht.pf; have := ht.pa; omega)
   have HC1 := Lib.hid C1
   have HC0 := Lib.hid C0
   have hlt : s'.pool.many 1 = 0 → s.pool.many 1 < chunks V := fun hmm => by omega
   have HLT := Lib.hid hlt
   have HOK := Lib.hid okp
   clear C1 C0 hlt okp hpg hcl hce hnl hmn
   have HIN := Lib.hid hinv
   have HCH := Lib.hid hch
   have HT := Lib.hid ht
   have HTE := Lib.hid hE
   clear hinv hch ht hE
   obtain ⟨B, hB⟩ : ∃ B : Nat, B = 480 * j := ⟨_, rfl⟩
   go_wp2
   rw [show (j : Int) * 480 = (B : Int) by omega]
   rw [← hB] at hE1
   have HB := Lib.hid hB
   clear hB
   have hne : ¬ cv = B := by omega
   have hEc : E ≤ cv := by omega
   have hBE : B ≤ E := by omega
   refine wp_region_staged (sz := 68) (by kernel_rfl) [0, 1, 2, 3, 4, 5, 6, 7] [(8, [9, 10, 11, 12], [1, 2, 3, 4, 5, 6]), (13, [], [11]), (14, [], [])] rfl (by kernel_rfl) (by kernel_rfl) (by kernel_rfl) ?_
   iterate 8 (refine wpQ_step rfl rfl (fun K hK => ?_); go_simp; refine hK _ ?_; clear hK K)
   refine wpQ_nil ?_
   refine wpRest_act rfl ?_
   go_wp2_with fail
   by_cases hmm : s'.pool.many 1 = 0
   · have HC2 := HC0.out hmm
     rw [← HB.out] at HC2
     refine HC2.mono ?_
     rintro e w3 ⟨hst3, rfl, h6⟩
     have h7 : Sat ((Pr.pts (w.heap.size + 1) (.cells #[.slice ak' K.length ck', .slice none 0 0, .int .i64 c, .int .i64 V.length] 58)).star ((Pr.pts (w.heap.size + 1 + 1) (.cells #[.int .i64 0] 36)).star ((Pr.pts w.heap.size (.cells #[.pointer (some ⟨v, 0, none⟩)] 35)).star ((BytesRow (.slice ak' K.length ck') K).star ((VaultA v s').star ((Pr.pts w2.heap.size (.cells #[.int .i64 (s.floor + s.acts.length)] 3)).star ((Pr.own hp).star F))))))) w3 := h6.perm (show (VaultA v s').star _ = _ from by ac_rfl)
     have g0 : w3.cell? ⟨w.heap.size, 0, none⟩ = some (.pointer (some ⟨v, 0, none⟩)) := by rw [cell_of_heap h7.right.right.pts_heap]; rfl
     have g2 : w3.cell? ⟨w.heap.size + 1, 2, none⟩ = some (.int .i64 c) := by rw [cell_of_heap h7.pts_heap]; rfl
     have ge : w3.cell? ⟨w.heap.size + 1 + 1, 0, none⟩ = some (.int .i64 0) := by rw [cell_of_heap h7.right.pts_heap]; rfl
     have y2 := frozen_of_heap h7.pts_heap 2
     have ye := frozen_of_heap h7.right.pts_heap 0
     have s8 : Sat ((Pr.pts (w.heap.size + 1 + 1) (.cells #[.int .i64 0] 36)).star ((Pr.pts (w.heap.size + 1) (.cells #[.slice ak' K.length ck', .slice none 0 0, .int .i64 0, .int .i64 V.length] 58)).star ((Pr.pts w.heap.size (.cells #[.pointer (some ⟨v, 0, none⟩)] 35)).star ((BytesRow (.slice ak' K.length ck') K).star ((VaultA v s').star ((Pr.pts w2.heap.size (.cells #[.int .i64 (s.floor + s.acts.length)] 3)).star ((Pr.own hp).star F))))))) _ := (h7.setCell (i := 2) (.int .i64 0)).perm (show (Pr.pts (w.heap.size + 1) (.cells #[.slice ak' K.length ck', .slice none 0 0, .int .i64 0, .int .i64 V.length] 58)).star _ = _ from Pr.left_comm _ _ _)
     have s9 : Sat ((Pr.pts (w.heap.size + 1 + 1) (.cells #[.int .i64 12] 36)).star ((Pr.pts (w.heap.size + 1) (.cells #[.slice ak' K.length ck', .slice none 0 0, .int .i64 0, .int .i64 V.length] 58)).star ((Pr.pts w.heap.size (.cells #[.pointer (some ⟨v, 0, none⟩)] 35)).star ((BytesRow (.slice ak' K.length ck') K).star ((VaultA v s').star ((Pr.pts w2.heap.size (.cells #[.int .i64 (s.floor + s.acts.length)] 3)).star ((Pr.own hp).star F))))))) ((w3.setCell ⟨w.heap.size + 1, 2, none⟩ (.int .i64 0)).setCell ⟨w.heap.size + 1 + 1, 0, none⟩ (.int .i64 12)) := s8.setCell (i := 0) (.int .i64 12)
     have S9 := Lib.hid s9
     have HST5 := Lib.hid ((hst.drew.trans hst3).setCell ⟨w.heap.size + 1, 2, none⟩ (.int .i64 0) |>.setCell ⟨w.heap.size + 1 + 1, 0, none⟩ (.int .i64 12))
     have HLT2 := Lib.hid (HLT.out hmm)
     clear h6 h7 s8 s9 hst3 HC0 HC1 HC2 HLT hmm
     go_wp2
     refine onN_mk ?_
     iterate 4 (refine wpQ_step rfl rfl (fun K hK => ?_); go_simp; refine hK _ ?_; clear hK K)
     refine wpQ_nil ⟨?_, ?_⟩
     · refine chk_cons ?_ (chk_cons ?_ (chk_cons ?_ (chk_cons ?_ (chk_cons ?_ (chk_cons ?_ chk_nil))))) <;> (refine yieldF_of rfl rfl rfl rfl ?_; go_simp; try omega)
     refine wpRest_act rfl ?_
     go_wp2
     refine onN_mk (wpQ_nil ⟨?_, ?_⟩)
     · refine chk_cons ?_ chk_nil <;> (refine yieldF_of rfl rfl rfl rfl ?_; go_simp; try omega)
     refine wpRest_act rfl ?_
     go_wp2
     refine onN_mk (wpQ_nil ⟨chk_nil, wpRest_nil ?_⟩)
     generalize ((w3.setCell ⟨w.heap.size + 1, 2, none⟩ (.int .i64 0)).setCell ⟨w.heap.size + 1 + 1, 0, none⟩ (.int .i64 12)) = w5 at *
     have i0 : w5.cell? ⟨w.heap.size + 1, 0, none⟩ = some (.slice ak' K.length ck') := by rw [cell_of_heap S9.out.right.pts_heap]; rfl
     have i1 : w5.cell? ⟨w.heap.size + 1, 1, none⟩ = some (.slice none 0 0) := by rw [cell_of_heap S9.out.right.pts_heap]; rfl
     have i2 : w5.cell? ⟨w.heap.size + 1, 2, none⟩ = some (.int .i64 0) := by rw [cell_of_heap S9.out.right.pts_heap]; rfl
     have i3 : w5.cell? ⟨w.heap.size + 1, 3, none⟩ = some (.int .i64 V.length) := by rw [cell_of_heap S9.out.right.pts_heap]; rfl
     have ie : w5.cell? ⟨w.heap.size + 1 + 1, 0, none⟩ = some (.int .i64 12) := by rw [cell_of_heap S9.out.pts_heap]; rfl
     have x0 := frozen_of_heap S9.out.right.pts_heap 0
     have x1 := frozen_of_heap S9.out.right.pts_heap 1
     have x2 := frozen_of_heap S9.out.right.pts_heap 2
     have x3 := frozen_of_heap S9.out.right.pts_heap 3
     have xe := frozen_of_heap S9.out.pts_heap 0
     clear g0 g2 ge y2 ye f0 f1 f2 f3 e0 b0
     go_wp2
     refine wp_region_staged (sz := 68) (by kernel_rfl) [0, 1] [(2, [], [1]), (3, [], [])] rfl (by kernel_rfl) (by kernel_rfl) (by kernel_rfl) ?_
     iterate 2 (refine wpQ_step rfl rfl (fun K hK => ?_); go_simp; refine hK _ ?_; clear hK K)
     refine wpQ_nil ?_
     refine wpRest_act rfl ?_
     go_wp2
     refine onN_mk (wpQ_nil ⟨?_, ?_⟩)
     · refine chk_cons ?_ chk_nil <;> (refine yieldF_of rfl rfl rfl rfl ?_; go_simp; try omega)
     refine wpRest_act rfl ?_
     go_wp2
     refine onN_mk (wpQ_nil ⟨chk_nil, wpRest_nil ?_⟩)
     have t3 := ((((S9.out.drew.perm (Pr.left_comm _ _ _)).setCell (i := 0) (.slice ak' K.length ck')).setCell (i := 1) (.slice none 0 0)).setCell (i := 2) (.int .i64 0)).setCell (i := 3) (.int .i64 V.length)
     have t4 : Sat ((Pr.pts (w.heap.size + 1 + 1) (.cells #[.int .i64 12] 36)).star ((Pr.pts (w.heap.size + 1) (.cells #[.slice ak' K.length ck', .slice none 0 0, .int .i64 0, .int .i64 V.length] 58)).star ((Pr.pts w.heap.size (.cells #[.pointer (some ⟨v, 0, none⟩)] 35)).star ((BytesRow (.slice ak' K.length ck') K).star ((VaultA v s').star ((Pr.pts w2.heap.size (.cells #[.int .i64 (s.floor + s.acts.length)] 3)).star ((Pr.own hp).star F))))))) _ := t3.perm (show (Pr.pts (w.heap.size + 1) (.cells #[.slice ak' K.length ck', .slice none 0 0, .int .i64 0, .int .i64 V.length] 58)).star _ = _ from Pr.left_comm _ _ _)
     have t5 : Sat ((Pr.pts (w.heap.size + 1 + 1) (.cells #[.int .i64 12] 36)).star ((Pr.pts (w.heap.size + 1) (.cells #[.slice ak' K.length ck', .slice none 0 0, .int .i64 0, .int .i64 V.length] 58)).star ((Pr.pts w.heap.size (.cells #[.pointer (some ⟨v, 0, none⟩)] 35)).star ((BytesRow (.slice ak' K.length ck') K).star ((VaultA v s').star ((Pr.pts w2.heap.size (.cells #[.int .i64 (s.floor + s.acts.length)] 3)).star ((Pr.own hp).star F))))))) _ := t4.setCell (i := 0) (.int .i64 12)
     have t6 : Sat ((VaultA v s').star ((Pr.pts (w.heap.size + 1) (.cells #[.slice ak' K.length ck', .slice none 0 0, .int .i64 0, .int .i64 V.length] 58)).star ((Pr.pts (w.heap.size + 1 + 1) (.cells #[.int .i64 12] 36)).star ((Pr.pts w.heap.size (.cells #[.pointer (some ⟨v, 0, none⟩)] 35)).star ((Pr.pts w2.heap.size (.cells #[.int .i64 (s.floor + s.acts.length)] 3)).star ((BytesRow (.slice ak' K.length ck') K).star ((Pr.own hp).star F))))))) _ := t5.perm (by ac_rfl)
     have HST6 := Lib.hid (((((HST5.out.drew.setCell ⟨w.heap.size + 1, 0, none⟩ (.slice ak' K.length ck')).setCell ⟨w.heap.size + 1, 1, none⟩ (.slice none 0 0)).setCell ⟨w.heap.size + 1, 2, none⟩ (.int .i64 0)).setCell ⟨w.heap.size + 1, 3, none⟩ (.int .i64 V.length)).setCell ⟨w.heap.size + 1 + 1, 0, none⟩ (.int .i64 12))
     have T6 := Lib.hid t6
     clear t3 t4 t5 t6 S9 HST5 i0 i1 i2 i3 ie x0 x1 x2 x3 xe
     go_wp2
     have HD := Lib.hid (store1_err (w.heap.size + 1 + 1) w.heap.size w2.heap.size (w.heap.size + 1) v s s' _ _ 0 V.length HT.out.steps hbare ak' K.length ck' rfl rfl .returning ((BytesRow (.slice ak' K.length ck') K).star ((Pr.own hp).star F)) _ T6.out)
     refine leaves_cons (f := 126) (args := #[.pointer (some ⟨w.heap.size + 1 + 1, 0, none⟩), .pointer (some ⟨w.heap.size, 0, none⟩), .pointer (some ⟨w2.heap.size, 0, none⟩), .pointer (some ⟨w.heap.size + 1, 0, none⟩)]) (by simp) (by simp [go_sem]) ?_
     refine HD.out.mono ?_
     rintro e u' w'' ⟨rfl, rfl, hst6, h8⟩
     have l1 := run_loadVar_row (P := Tryz.prog) w'' (w.heap.size + 1) _ _ _ _ _ h8.pts_heap Tryz.underlying58 rfl infoItemS
     have l2 := load_errno h8.right.pts_heap
     have h9 : Sat ((BytesRow (.slice ak' K.length ck') K).star ((VaultA v s).star ((Pr.own hp).star F))) w'' := h8.right.right.perm (Pr.left_comm _ _ _)
     exact ⟨_, results_cell_cell rfl _ _ (w.heap.size + 1) _ rfl l1 (w.heap.size + 1 + 1) (.int .i64 12) rfl l2, HST6.out.trans hst6, .inr ⟨HLT2.out, rfl, h9.right⟩⟩
   have HC2 := HC1.out hmm
   rw [← HB.out] at HC2
   refine HC2.mono ?_
   rintro e w3 ⟨hst3, n, rfl, ⟨hn, hle⟩, h6⟩
   have h7 : Sat ((Pr.pts (w.heap.size + 1) (.cells #[.slice ak' K.length ck', .slice none 0 0, .int .i64 c, .int .i64 V.length] 58)).star ((Pr.pts (w.heap.size + 1 + 1) (.cells #[.int .i64 0] 36)).star ((Pr.pts w.heap.size (.cells #[.pointer (some ⟨v, 0, none⟩)] 35)).star ((BytesRow (.slice ak' K.length ck') K).star ((VaultA v (s'.make n (blobV (chunk V j) c))).star ((Pr.pts w2.heap.size (.cells #[.int .i64 (s.floor + s.acts.length)] 3)).star ((Pr.own hp).star F))))))) w3 := h6.perm (show (VaultA v (s'.make n (blobV (chunk V j) c))).star _ = _ from by ac_rfl)
   have g0 : w3.cell? ⟨w.heap.size, 0, none⟩ = some (.pointer (some ⟨v, 0, none⟩)) := by rw [cell_of_heap h7.right.right.pts_heap]; rfl
   have g2 : w3.cell? ⟨w.heap.size + 1, 2, none⟩ = some (.int .i64 c) := by rw [cell_of_heap h7.pts_heap]; rfl
   have ge : w3.cell? ⟨w.heap.size + 1 + 1, 0, none⟩ = some (.int .i64 0) := by rw [cell_of_heap h7.right.pts_heap]; rfl
   have y2 := frozen_of_heap h7.pts_heap 2
   have ye := frozen_of_heap h7.right.pts_heap 0
   have s8 : Sat ((Pr.pts (w.heap.size + 1 + 1) (.cells #[.int .i64 0] 36)).star ((Pr.pts (w.heap.size + 1) (.cells #[.slice ak' K.length ck', .slice none 0 0, .int .i64 n, .int .i64 V.length] 58)).star ((Pr.pts w.heap.size (.cells #[.pointer (some ⟨v, 0, none⟩)] 35)).star ((BytesRow (.slice ak' K.length ck') K).star ((VaultA v (s'.make n (blobV (chunk V j) c))).star ((Pr.pts w2.heap.size (.cells #[.int .i64 (s.floor + s.acts.length)] 3)).star ((Pr.own hp).star F))))))) _ := (h7.setCell (i := 2) (.int .i64 n)).perm (show (Pr.pts (w.heap.size + 1) (.cells #[.slice ak' K.length ck', .slice none 0 0, .int .i64 n, .int .i64 V.length] 58)).star _ = _ from Pr.left_comm _ _ _)
   have s9 : Sat ((Pr.pts (w.heap.size + 1 + 1) (.cells #[.int .i64 0] 36)).star ((Pr.pts (w.heap.size + 1) (.cells #[.slice ak' K.length ck', .slice none 0 0, .int .i64 n, .int .i64 V.length] 58)).star ((Pr.pts w.heap.size (.cells #[.pointer (some ⟨v, 0, none⟩)] 35)).star ((BytesRow (.slice ak' K.length ck') K).star ((VaultA v (s'.make n (blobV (chunk V j) c))).star ((Pr.pts w2.heap.size (.cells #[.int .i64 (s.floor + s.acts.length)] 3)).star ((Pr.own hp).star F))))))) _ := s8.setCell (i := 0) (.int .i64 0)
   have S9 := Lib.hid s9
   have HNL := Lib.hid (And.intro hn hle)
   have HST5 := Lib.hid ((hst.drew.trans hst3).setCell ⟨w.heap.size + 1, 2, none⟩ (.int .i64 n) |>.setCell ⟨w.heap.size + 1 + 1, 0, none⟩ (.int .i64 0))
   clear h6 h7 s8 s9 hst3 hn hle HC0 HC1 HC2 HLT
   go_wp2
   refine onN_mk ?_
   iterate 4 (refine wpQ_step rfl rfl (fun K hK => ?_); go_simp; refine hK _ ?_; clear hK K)
   refine wpQ_nil ⟨?_, ?_⟩
   · refine chk_cons ?_ (chk_cons ?_ (chk_cons ?_ (chk_cons ?_ (chk_cons ?_ (chk_cons ?_ chk_nil))))) <;> (refine yieldF_of rfl rfl rfl rfl ?_; go_simp; try omega)
   refine wpRest_act rfl ?_
   go_wp2
   refine onN_mk (wpQ_nil ⟨?_, ?_⟩)
   · refine chk_cons ?_ chk_nil <;> (refine yieldF_of rfl rfl rfl rfl ?_; go_simp; try omega)
   refine wpRest_act rfl ?_
   go_wp2
   refine onN_mk (wpQ_nil ⟨chk_nil, wpRest_nil ?_⟩)
   go_wp2
   go_roundw
   case rel =>
    have hth := there_of_state (by have := HNL.out.1; omega : s'.pool.state n ≠ 0)
    have hb : 1 ≤ n ∧ n ≤ 65536 := ⟨hth.1, by have := hth.2; have := HOK.out.n2; omega⟩
    have hch2 := chain_make HOK.out HCH.out HT.out.cnt HNL.out.1 hb
    rw [show chunks V - (j + 1) + 1 = chunks V - j by omega] at hch2
    refine ⟨j, n, s'.make n (blobV (chunk V j) c), n :: ns, by omega, ?_, HST5.out, HT.out.step HOK.out HNL.out.1 HNL.out.2 _, hch2, S9.out.perm (by ac_rfl)⟩
    have := HB.out
    congr 1
    omega
   case measure => simp [intOf]; omega
end Go.Proofs.YtbobcmimkonnoaaGreat.blob4
namespace Go.Proofs.YtbobcmimkonnoaaGreat.blob5
open ChangeShapes WideShapes ChangeAt RowKit Sl Cop pool1 pool2 pool5 pool9 clone page vault1 vault2 vault3 vault4 vault5 vault6 blob1 blob4
set_option maxRecDepth 100000 in
set_option maxHeartbeats 4000000 in
theorem store_val (v : Nat) (kv vv : Value) (hp : Hp) (K V : List Int) (hK : Bytes hp kv K) (hV : Bytes hp vv V) (hk : 1 ≤ K.length ∧ K.length ≤ 24) (hv : 3840 < V.length) (w : World) :
 Calls Tryz.prog 70 #[.pointer (some ⟨v, 0, none⟩), kv, vv] w fun e w' => e = .returned (.tuple #[zeroItem, .int .i64 8]) ∧ Only w w' := by
 obtain ⟨_, ak, ck, rfl, _⟩ := id hK
 obtain ⟨_, av, cv, rfl, _, _, _⟩ := id hV
 have es : (w.alloc (.cells #[.pointer (some ⟨v, 0, none⟩)] 35)).heap.size = w.heap.size + 1 := by simp
 have es2 : ((w.alloc (.cells #[.pointer (some ⟨v, 0, none⟩)] 35)).alloc (.cells #[.slice none 0 0, .slice none 0 0, .int .i64 0, .int .i64 0] 58)).heap.size = w.heap.size + 1 + 1 := by simp
 have h1 := (((sat_emp w).alloc (.cells #[.pointer (some ⟨v, 0, none⟩)] 35)).alloc (.cells #[.slice none 0 0, .slice none 0 0, .int .i64 0, .int .i64 0] 58)).alloc (.cells #[.int .i64 8] 36)
 rw [es2, es] at h1
 have HO := Lib.hid ((((Only.refl w).alloc (.cells #[.pointer (some ⟨v, 0, none⟩)] 35)).alloc (.cells #[.slice none 0 0, .slice none 0 0, .int .i64 0, .int .i64 0] 58)).alloc (.cells #[.int .i64 8] 36))
 have H1 := Lib.hid h1
 clear h1 es es2 hK hV
 go_enter Tryz.func70, Tryz.ntmps70
 go_wp2
 have h2 := H1.out.perm (Pr.left_comm _ _ _)
 refine bodyPost_ret (results_cell_cell rfl _ _ (w.heap.size + 1) _ rfl (run_loadVar_row _ (w.heap.size + 1) _ _ _ _ _ h2.pts_heap Tryz.underlying58 rfl infoItemS) (w.heap.size + 1 + 1) (.int .i64 8) rfl (load_errno H1.out.pts_heap)) rfl ?_
 exact ⟨rfl, HO.out⟩
set_option maxRecDepth 100000 in
set_option maxHeartbeats 4000000 in
theorem store_short_row (v : Nat) (kv vv : Value) (hp : Hp) (K V : List Int) (hK : Bytes hp kv K) (hV : Bytes hp vv V) (hk : 1 ≤ K.length ∧ K.length ≤ 24) (hv : V.length ≤ 32) (F : Pr) (w : World) (hF : Sat ((Pr.own hp).star F) w) :
 Calls Tryz.prog 70 #[.pointer (some ⟨v, 0, none⟩), kv, vv] w fun e w' => Stays w w' ∧ ∃ kv' vv', e = .returned (.tuple #[.agg #[kv', vv', .int .i64 0, .int .i64 V.length], .int .i64 0]) ∧
  Sat ((BytesRow kv' K).star ((BytesRow vv' V).star ((Pr.own hp).star F))) w' := by
 obtain ⟨_, ak, ck, rfl, _⟩ := id hK
 obtain ⟨_, av, cv, rfl, _, _, _⟩ := id hV
 have es : (w.alloc (.cells #[.pointer (some ⟨v, 0, none⟩)] 35)).heap.size = w.heap.size + 1 := by simp
 have es2 : ((w.alloc (.cells #[.pointer (some ⟨v, 0, none⟩)] 35)).alloc (.cells #[.slice none 0 0, .slice none 0 0, .int .i64 0, .int .i64 0] 58)).heap.size = w.heap.size + 1 + 1 := by simp
 have h1 := ((hF.alloc (.cells #[.pointer (some ⟨v, 0, none⟩)] 35)).alloc (.cells #[.slice none 0 0, .slice none 0 0, .int .i64 0, .int .i64 0] 58)).alloc (.cells #[.int .i64 0] 36)
 rw [es2, es] at h1
 have hle := (h1.perm (B := (Pr.own hp).star ((Pr.pts (w.heap.size + 1 + 1) (.cells #[.int .i64 0] 36)).star ((Pr.pts (w.heap.size + 1) (.cells #[.slice none 0 0, .slice none 0 0, .int .i64 0, .int .i64 0] 58)).star ((Pr.pts w.heap.size (.cells #[.pointer (some ⟨v, 0, none⟩)] 35)).star F)))) (by ac_rfl)).own
 have C := Lib.hid (bclone_any hp _ K _ _ h1 hle hK (by omega))
 have HST := Lib.hid ((((Stays.refl w).alloc (.cells #[.pointer (some ⟨v, 0, none⟩)] 35)).alloc (.cells #[.slice none 0 0, .slice none 0 0, .int .i64 0, .int .i64 0] 58)).alloc (.cells #[.int .i64 0] 36))
 have HV := Lib.hid hV
 clear h1 hle hF es es2 hK hV
 go_enter Tryz.func70, Tryz.ntmps70
 go_wp2_with fail
 refine C.out.mono ?_
 rintro e w1 ⟨kv', rfl, h1, hst⟩
 obtain ⟨ak', ck', ek, _, _⟩ := Row.read h1
 subst ek
 have h2 : Sat ((Pr.pts (w.heap.size + 1) (.cells #[.slice none 0 0, .slice none 0 0, .int .i64 0, .int .i64 0] 58)).star ((BytesRow (.slice ak' K.length ck') K).star ((Pr.pts (w.heap.size + 1 + 1) (.cells #[.int .i64 0] 36)).star ((Pr.pts w.heap.size (.cells #[.pointer (some ⟨v, 0, none⟩)] 35)).star ((Pr.own hp).star F))))) w1 := h1.perm (by ac_rfl)
 have f0 : w1.cell? ⟨w.heap.size + 1, 0, none⟩ = some (.slice none 0 0) := by rw [cell_of_heap h2.pts_heap]; rfl
 have f1 : w1.cell? ⟨w.heap.size + 1, 1, none⟩ = some (.slice none 0 0) := by rw [cell_of_heap h2.pts_heap]; rfl
 have f2 : w1.cell? ⟨w.heap.size + 1, 2, none⟩ = some (.int .i64 0) := by rw [cell_of_heap h2.pts_heap]; rfl
 have f3 : w1.cell? ⟨w.heap.size + 1, 3, none⟩ = some (.int .i64 0) := by rw [cell_of_heap h2.pts_heap]; rfl
 have z0 := frozen_of_heap h2.pts_heap 0
 have z1 := frozen_of_heap h2.pts_heap 1
 have z2 := frozen_of_heap h2.pts_heap 2
 have z3 := frozen_of_heap h2.pts_heap 3
 have s3 : Sat ((Pr.pts (w.heap.size + 1) (.cells #[.slice ak' K.length ck', .slice none 0 0, .int .i64 0, .int .i64 V.length] 58)).star ((BytesRow (.slice ak' K.length ck') K).star ((Pr.pts (w.heap.size + 1 + 1) (.cells #[.int .i64 0] 36)).star ((Pr.pts w.heap.size (.cells #[.pointer (some ⟨v, 0, none⟩)] 35)).star ((Pr.own hp).star F))))) _ := (((h2.setCell (i := 0) (.slice ak' K.length ck')).setCell (i := 1) (.slice none 0 0)).setCell (i := 2) (.int .i64 0)).setCell (i := 3) (.int .i64 V.length)
 have hle2 := s3.right.right.right.right.own
 have D := Lib.hid (bclone_any hp _ V _ _ s3 hle2 HV.out (by omega))
 have HST2 := Lib.hid ((((HST.out.trans hst).setCell ⟨w.heap.size + 1, 0, none⟩ (.slice ak' K.length ck')).setCell ⟨w.heap.size + 1, 1, none⟩ (.slice none 0 0)).setCell ⟨w.heap.size + 1, 2, none⟩ (.int .i64 0) |>.setCell ⟨w.heap.size + 1, 3, none⟩ (.int .i64 V.length))
 clear h1 h2 s3 hle2 hst HST C
 go_wp2_with fail
 refine D.out.mono ?_
 rintro e w2 ⟨vv', rfl, h4, hst2⟩
 obtain ⟨av', cv', ev, _, _⟩ := Row.read h4
 subst ev
 have h5 : Sat ((Pr.pts (w.heap.size + 1) (.cells #[.slice ak' K.length ck', .slice none 0 0, .int .i64 0, .int .i64 V.length] 58)).star ((Pr.pts (w.heap.size + 1 + 1) (.cells #[.int .i64 0] 36)).star ((BytesRow (.slice ak' K.length ck') K).star ((BytesRow (.slice av' V.length cv') V).star ((Pr.pts w.heap.size (.cells #[.pointer (some ⟨v, 0, none⟩)] 35)).star ((Pr.own hp).star F)))))) w2 := h4.perm (by ac_rfl)
 have g0 : w2.cell? ⟨w.heap.size + 1, 0, none⟩ = some (.slice ak' K.length ck') := by rw [cell_of_heap h5.pts_heap]; rfl
 have g1 : w2.cell? ⟨w.heap.size + 1, 1, none⟩ = some (.slice none 0 0) := by rw [cell_of_heap h5.pts_heap]; rfl
 have g2 : w2.cell? ⟨w.heap.size + 1, 2, none⟩ = some (.int .i64 0) := by rw [cell_of_heap h5.pts_heap]; rfl
 have g3 : w2.cell? ⟨w.heap.size + 1, 3, none⟩ = some (.int .i64 V.length) := by rw [cell_of_heap h5.pts_heap]; rfl
 have ge : w2.cell? ⟨w.heap.size + 1 + 1, 0, none⟩ = some (.int .i64 0) := by rw [cell_of_heap h5.right.pts_heap]; rfl
 have y0 := frozen_of_heap h5.pts_heap 0
 have y1 := frozen_of_heap h5.pts_heap 1
 have y2 := frozen_of_heap h5.pts_heap 2
 have y3 := frozen_of_heap h5.pts_heap 3
 have ye := frozen_of_heap h5.right.pts_heap 0
 have s6 : Sat ((Pr.pts (w.heap.size + 1) (.cells #[.slice ak' K.length ck', .slice av' V.length cv', .int .i64 0, .int .i64 V.length] 58)).star ((Pr.pts (w.heap.size + 1 + 1) (.cells #[.int .i64 0] 36)).star ((BytesRow (.slice ak' K.length ck') K).star ((BytesRow (.slice av' V.length cv') V).star ((Pr.pts w.heap.size (.cells #[.pointer (some ⟨v, 0, none⟩)] 35)).star ((Pr.own hp).star F)))))) _ := ((((h5.setCell (i := 1) (.slice av' V.length cv')).setCell (i := 0) (.slice ak' K.length ck')).setCell (i := 1) (.slice av' V.length cv')).setCell (i := 2) (.int .i64 0)).setCell (i := 3) (.int .i64 V.length)
 have s7 : Sat ((Pr.pts (w.heap.size + 1 + 1) (.cells #[.int .i64 0] 36)).star ((Pr.pts (w.heap.size + 1) (.cells #[.slice ak' K.length ck', .slice av' V.length cv', .int .i64 0, .int .i64 V.length] 58)).star ((BytesRow (.slice ak' K.length ck') K).star ((BytesRow (.slice av' V.length cv') V).star ((Pr.pts w.heap.size (.cells #[.pointer (some ⟨v, 0, none⟩)] 35)).star ((Pr.own hp).star F)))))) _ := (s6.perm (Pr.left_comm _ _ _)).setCell (i := 0) (.int .i64 0)
 have S7 := Lib.hid s7
 have HST3 := Lib.hid ((HST2.out.trans hst2).setCell ⟨w.heap.size + 1, 1, none⟩ (.slice av' V.length cv') |>.setCell ⟨w.heap.size + 1, 0, none⟩ (.slice ak' K.length ck') |>.setCell ⟨w.heap.size + 1, 1, none⟩ (.slice av' V.length cv') |>.setCell ⟨w.heap.size + 1, 2, none⟩ (.int .i64 0) |>.setCell ⟨w.heap.size + 1, 3, none⟩ (.int .i64 V.length) |>.setCell ⟨w.heap.size + 1 + 1, 0, none⟩ (.int .i64 0))
 clear h4 h5 s6 s7 hst2 HST2 D f0 f1 f2 f3 z0 z1 z2 z3
 go_wp2
 have l1 := run_loadVar_row (P := Tryz.prog) _ (w.heap.size + 1) _ _ _ _ _ S7.out.right.pts_heap Tryz.underlying58 rfl infoItemS
 refine bodyPost_ret (results_cell_cell rfl _ _ (w.heap.size + 1) _ rfl l1 (w.heap.size + 1 + 1) (.int .i64 0) rfl (load_errno S7.out.pts_heap)) rfl ?_
 have s8 : Sat ((Pr.pts w.heap.size (.cells #[.pointer (some ⟨v, 0, none⟩)] 35)).star ((BytesRow (.slice ak' K.length ck') K).star ((BytesRow (.slice av' V.length cv') V).star ((Pr.own hp).star F)))) _ := S7.out.right.right.perm (by ac_rfl)
 exact ⟨HST3.out, _, _, rfl, s8.right⟩
end Go.Proofs.YtbobcmimkonnoaaGreat.blob5
namespace Go.Cop
def kidsB (next : Int) : List Int := if next = 0 then [] else [next]
end Go.Cop
namespace Go.Proofs.YtbobcmimkonnoaaGreat.kids
open ChangeShapes WideShapes ChangeAt RowKit Sl Cop pool1 pool2 pool5 pool9 clone page vault1 vault2
end Go.Proofs.YtbobcmimkonnoaaGreat.kids
