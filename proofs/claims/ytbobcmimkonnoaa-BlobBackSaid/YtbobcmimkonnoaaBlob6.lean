/- blob.Store of bad keys, Load of what is gone, Store whatever is given; the conditions stand as hypotheses. -/
import Derived.Test.YtbobcmimkonnoaaCounts
namespace Go.Proofs.Ytbobcmimkonnoaa.blob6
open Go.ChangeShapes Go.WideShapes Go.ChangeAt Go.RowKit Go.Sl Go.Cop Go.Proofs.Ytbobcmimkonnoaa.pool1 Go.Proofs.Ytbobcmimkonnoaa.pool2 Go.Proofs.Ytbobcmimkonnoaa.pool5 Go.Proofs.Ytbobcmimkonnoaa.pool9 Go.Proofs.Ytbobcmimkonnoaa.clone Go.Proofs.Ytbobcmimkonnoaa.page Go.Proofs.Ytbobcmimkonnoaa.vault1 Go.Proofs.Ytbobcmimkonnoaa.vault2 Go.Proofs.Ytbobcmimkonnoaa.vault3 Go.Proofs.Ytbobcmimkonnoaa.vault4 Go.Proofs.Ytbobcmimkonnoaa.vault5 Go.Proofs.Ytbobcmimkonnoaa.vault6 Go.Proofs.Ytbobcmimkonnoaa.blob1 Go.Proofs.Ytbobcmimkonnoaa.blob2 Go.Proofs.Ytbobcmimkonnoaa.blob4 Go.Proofs.Ytbobcmimkonnoaa.blob5 Go.Proofs.Ytbobcmimkonnoaa.dropA Go.Proofs.Ytbobcmimkonnoaa.apart1

set_option maxRecDepth 100000 in
set_option maxHeartbeats 4000000 in
theorem store_key (v : Nat) (kv vv : Value) (hp : Hp) (K V : List Int) (hK : Bytes hp kv K) (hV : Bytes hp vv V) (hk : K.length < 1 ∨ 24 < K.length) (w : World) :
    Calls Try.prog 11 #[.pointer (some ⟨v, 0, none⟩), kv, vv] w fun e w' => e = .returned (.tuple #[zeroItem, .int .i64 7]) ∧ Only w w' := by
  obtain ⟨_, ak, ck, rfl, _⟩ := id hK
  obtain ⟨_, av, cv, rfl, _, _, _⟩ := id hV
  have es : (w.alloc (.cells #[.pointer (some ⟨v, 0, none⟩)] 26)).heap.size = w.heap.size + 1 := by simp
  have es2 : ((w.alloc (.cells #[.pointer (some ⟨v, 0, none⟩)] 26)).alloc (.cells #[.slice none 0 0, .slice none 0 0, .int .i64 0, .int .i64 0] 33)).heap.size = w.heap.size + 1 + 1 := by simp
  have h1 := (((sat_emp w).alloc (.cells #[.pointer (some ⟨v, 0, none⟩)] 26)).alloc (.cells #[.slice none 0 0, .slice none 0 0, .int .i64 0, .int .i64 0] 33)).alloc (.cells #[.int .i64 7] 27)
  rw [es2, es] at h1
  have HO := Lib.hid ((((Only.refl w).alloc (.cells #[.pointer (some ⟨v, 0, none⟩)] 26)).alloc (.cells #[.slice none 0 0, .slice none 0 0, .int .i64 0, .int .i64 0] 33)).alloc (.cells #[.int .i64 7] 27))
  have H1 := Lib.hid h1
  clear h1 es es2 hK hV
  rcases hk with hk | hk
  · have hd : decide ((K.length : Int) < 1) = true := decide_eq_true (by omega)
    go_enter Try.func11, Try.ntmps11
    go_wp2
    have h2 := H1.out.perm (Pr.left_comm _ _ _)
    refine bodyPost_ret (results_cell_cell rfl _ _ (w.heap.size + 1) _ rfl (run_loadVar_row _ (w.heap.size + 1) _ _ _ _ _ h2.pts_heap Try.underlying33 rfl infoItemS) (w.heap.size + 1 + 1) (.int .i64 7) rfl (load_errno H1.out.pts_heap)) rfl ?_
    exact ⟨rfl, HO.out⟩
  · have hd : decide ((24 : Int) < (K.length : Int)) = true := decide_eq_true (by omega)
    go_enter Try.func11, Try.ntmps11
    go_wp2
    have h2 := H1.out.perm (Pr.left_comm _ _ _)
    refine bodyPost_ret (results_cell_cell rfl _ _ (w.heap.size + 1) _ rfl (run_loadVar_row _ (w.heap.size + 1) _ _ _ _ _ h2.pts_heap Try.underlying33 rfl infoItemS) (w.heap.size + 1 + 1) (.int .i64 7) rfl (load_errno H1.out.pts_heap)) rfl ?_
    exact ⟨rfl, HO.out⟩

theorem store_full (v : Nat) (s : VaultS) (kv vv : Value) (hp : Hp) (K V : List Int) (hK : Bytes hp kv K) (hV : Bytes hp vv V) (hk : 1 ≤ K.length ∧ K.length ≤ 24) (F : Pr) (w : World)
    (hF : Sat ((VaultA v s).star ((Pr.own hp).star F)) w) (hbare : Bare s) (hm : s.pool.floor + s.pool.acts.length + 8 ≤ 1099511627776) (hm2 : s.floor + s.acts.length + 8 ≤ 1099511627776) :
    Calls Try.prog 11 #[.pointer (some ⟨v, 0, none⟩), kv, vv] w fun e w' =>
      Stays w w' ∧ ((V.length ≤ 3840 ∧ ∃ kv' vv' c s' ns h', e = .returned (.tuple #[.agg #[kv', vv', .int .i64 c, .int .i64 V.length], .int .i64 0]) ∧ Taken s s' ns ∧ ns.length = pagesV V ∧ Bytes h' kv' K ∧ StoredAt s' h' kv' vv' c V ∧ nsOf s' c V ns ∧
          Sat ((Pr.own h').star ((VaultA v s').star ((Pr.own hp).star F))) w') ∨
        (∃ x : Int, e = .returned (.tuple #[zeroItem, .int .i64 x]) ∧ ((x = 12 ∧ s.pool.many 1 < pagesV V ∧ V.length ≤ 3840) ∨ (x = 8 ∧ 3840 < V.length)) ∧ Sat ((VaultA v s).star ((Pr.own hp).star F)) w')) := by
  by_cases h1 : V.length ≤ 32
  · refine (store_short v kv vv hp K V hK hV hk h1 ((VaultA v s).star F) w (hF.perm (by ac_rfl))).mono ?_
    rintro e w' ⟨hst, kv', vv', h', rfl, b1, b2, h2⟩
    refine ⟨hst, .inl ⟨by omega, kv', vv', 0, s, [], h', rfl, Taken.refl s, by unfold pagesV; rw [if_pos h1]; rfl, b1, ⟨?_, ?_, .inl ⟨h1, b2⟩⟩, .inl ⟨h1, rfl⟩, h2.perm (by ac_rfl)⟩⟩
    · obtain ⟨_, a, c, e, _⟩ := b1; exact ⟨a, _, c, e⟩
    · obtain ⟨_, a, c, e, _⟩ := b2; exact ⟨a, _, c, e⟩
  · by_cases h2 : V.length ≤ 3840
    · have hc : chunks V ≤ 8 := by unfold chunks; omega
      have hpv : pagesV V = chunks V := if_neg h1
      refine (store_any v s kv vv hp K V hK hV hk ⟨by omega, h2⟩ F w hF hbare (by omega) (by omega)).mono ?_
      rintro e w' ⟨hst, (⟨_, kv', c, s', ns, h', rfl, b1, ht, hch, h3⟩ | ⟨h3, rfl, h4⟩)⟩
      · refine ⟨hst, .inl ⟨h2, kv', .slice none 0 0, c, s', ns, h', rfl, ht, by rw [hpv]; exact chain_len hch, b1, ⟨?_, ⟨_, _, _, rfl⟩, .inr ⟨⟨by omega, h2⟩, rfl, ns, hch⟩⟩, .inr ⟨⟨by omega, h2⟩, hch⟩, h3⟩⟩
        obtain ⟨_, a, c, e, _⟩ := b1; exact ⟨a, _, c, e⟩
      · exact ⟨hst, .inr ⟨12, rfl, .inl ⟨rfl, by rw [hpv]; exact h3, h2⟩, h4⟩⟩
    · refine (store_val v kv vv hp K V hK hV hk (by omega) w).mono ?_
      rintro e w' ⟨rfl, ho⟩
      exact ⟨ho.st, .inr ⟨8, rfl, .inr ⟨rfl, by omega⟩, hF.only ho⟩⟩

set_option maxRecDepth 100000 in
set_option maxHeartbeats 4000000 in
theorem load_gone (v : Nat) (s : VaultS) (ak av : Option Addr) (mk ck mv cv : Nat) (c : Int) (V : List Int) (h0 : s.pool.count c = 0) (hv : 32 < V.length ∧ V.length ≤ 3840) (F : Pr) (w : World) (hF : Sat ((VaultA v s).star F) w) :
    Calls Try.prog 12 #[.pointer (some ⟨v, 0, none⟩), .agg #[.slice ak mk ck, .slice av mv cv, .int .i64 c, .int .i64 V.length]] w fun e w' =>
      Stays w w' ∧ e = .returned (.tuple #[.slice none 0 0, .int .i64 15]) ∧ Sat ((VaultA v s).star F) w' := by
  have h1 := hF.alloc (.cells #[.slice ak mk ck, .slice av mv cv, .int .i64 c, .int .i64 V.length] 33)
  have es : (w.alloc (.cells #[.slice ak mk ck, .slice av mv cv, .int .i64 c, .int .i64 V.length] 33)).heap.size = w.heap.size + 1 := by simp
  have h2 := row_room 5 (.int .u8 0) V.length (by simp only [maxLen]; omega) h1
  rw [es] at h2
  obtain ⟨i0, hi, hz0, hz1, hz2⟩ := info_parts infoByte
  have hmk : ∀ wx : World, (Instr.makeSlice 31 (.int .i64 0) (.int .i64 (V.length : Int))).run Try.prog wx = .ok (.slice (some ⟨wx.heap.size, 0, none⟩) 0 V.length) (wx.alloc (.cells (madeCells #[.int .u8 0] V.length) 5)) := by
    intro wx
    have := run_makeSlice (P := Try.prog) wx 31 5 i0 (.int .u8 0) Try.underlying31 hi hz0 .i64 .i64 0 V.length (by omega) (by omega) (by rw [hz1]; omega) (by rw [hz2]; omega) (by omega)
    rw [hz1, Int.toNat_natCast, Nat.mul_one] at this
    exact this
  have h3 : Sat ((Pr.pts w.heap.size (.cells #[.slice ak mk ck, .slice av mv cv, .int .i64 c, .int .i64 V.length] 33)).star ((VaultA v s).star F)) _ := h2.right
  have HST := Lib.hid (((Stays.refl w).alloc (.cells #[.slice ak mk ck, .slice av mv cv, .int .i64 c, .int .i64 V.length] 33)).alloc (.cells (madeCells #[.int .u8 0] V.length) 5))
  have H3 := Lib.hid h3
  clear h1 h2 h3 hF es
  go_enter Try.func12, Try.ntmps12
  go_wp2
  go_loopw [6, 7] (fun o n wr => o = .slice (some ⟨w.heap.size + 1, 0, none⟩) 0 V.length ∧ n = .int .i64 c ∧ Stays w wr ∧ Sat ((Pr.pts w.heap.size (.cells #[.slice ak mk ck, .slice av mv cv, .int .i64 c, .int .i64 V.length] 33)).star ((VaultA v s).star F)) wr) (fun _ _ _ => 0)
  case atStart => exact ⟨rfl, rfl, HST.out, H3.out⟩
  case round =>
    obtain ⟨rfl, rfl, hst, hinv⟩ := hrel
    have f3 : wr.cell? ⟨w.heap.size, 3, none⟩ = some (.int .i64 V.length) := by rw [cell_of_heap hinv.pts_heap]; rfl
    have hlt : (0 : Int) < (V.length : Int) := by omega
    have C := Lib.hid (read_none v s c _ wr (hinv.perm (Pr.left_comm _ _ _)) h0)
    have HI := Lib.hid hinv
    clear hinv H3
    go_wp2_with fail
    refine C.out.mono ?_
    rintro e w3 ⟨rfl, ho⟩
    have H4 := Lib.hid (((HI.out.right.only ho).alloc (.cells #[.int .i64 0, .int .i64 0, .slice none 0 0, .slice none 0 0, .int .i64 0] 65)).right)
    have HS := Lib.hid ((hst.trans ho.st).alloc (.cells #[.int .i64 0, .int .i64 0, .slice none 0 0, .slice none 0 0, .int .i64 0] 65))
    clear ho C HI f3
    go_wp2
    go_ret2
    exact ⟨HS.out, rfl, H4.out⟩
end Go.Proofs.Ytbobcmimkonnoaa.blob6
