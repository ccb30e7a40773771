/- How many pages a value takes; the calls whose answers are fixed. -/
import Derived.Test.YtbobcmimkonnoaaBlob2
import Derived.Lib.SmallJoins
namespace Go.Proofs.Ytbobcmimkonnoaa.blob3
open Go.ChangeShapes Go.WideShapes Go.ChangeAt Go.RowKit Go.Sl Go.Cop Go.Proofs.Ytbobcmimkonnoaa.pool1 Go.Proofs.Ytbobcmimkonnoaa.pool2 Go.Proofs.Ytbobcmimkonnoaa.pool5 Go.Proofs.Ytbobcmimkonnoaa.pool9 Go.Proofs.Ytbobcmimkonnoaa.clone Go.Proofs.Ytbobcmimkonnoaa.page Go.Proofs.Ytbobcmimkonnoaa.vault1 Go.Proofs.Ytbobcmimkonnoaa.vault2 Go.Proofs.Ytbobcmimkonnoaa.vault3 Go.Proofs.Ytbobcmimkonnoaa.vault4 Go.Proofs.Ytbobcmimkonnoaa.vault5 Go.Proofs.Ytbobcmimkonnoaa.vault6 Go.Proofs.Ytbobcmimkonnoaa.blob1 Go.Proofs.Ytbobcmimkonnoaa.blob2

def pagesOf (n : Int) : Int := if n ≤ 32 then 0 else (n - 1) / 480 + 1

set_option maxRecDepth 100000 in
set_option maxHeartbeats 400000 in
theorem pages_any (n : Int) (hn : n ≤ 9223372036854775807) (w : World) : Calls Try.prog 8 #[.int .i64 n] w fun e w' => e = .returned (.int .i64 (pagesOf n)) ∧ w = w' := by
  unfold pagesOf
  by_cases h : n ≤ 32
  · rw [if_pos h]
    go_enter Try.func8, Try.ntmps8
    go_wp2
    go_ret
    exact ⟨rfl, rfl⟩
  · rw [if_neg h]
    have hq : Int.tdiv (n - 1) 480 = (n - 1) / 480 := by rw [Int.tdiv_eq_ediv_of_nonneg (by omega)]
    have hb : 0 ≤ (n - 1) / 480 ∧ (n - 1) / 480 ≤ 9223372036854775000 := by omega
    generalize (n - 1) / 480 = q at *
    go_enter Try.func8, Try.ntmps8
    go_wp2
    go_ret
    exact ⟨rfl, rfl⟩

set_option maxRecDepth 100000 in
set_option maxHeartbeats 400000 in
theorem rpages_any (n : Int) (hn : n ≤ 9223372036854775807) (w : World) : Calls Try.prog 9 #[.int .i64 n] w fun e w' => e = .returned (.int .i64 (pagesOf n)) ∧ w = w' := by
  unfold pagesOf
  by_cases h : n ≤ 32
  · rw [if_pos h]
    go_enter Try.func9, Try.ntmps9
    go_wp2
    go_ret
    exact ⟨rfl, rfl⟩
  · rw [if_neg h]
    have hq : Int.tdiv n 480 = n / 480 := by rw [Int.tdiv_eq_ediv_of_nonneg (by omega)]
    have hr : Int.tmod n 480 = n % 480 := by rw [Int.tmod_eq_emod_of_nonneg (by omega)]
    have hb : 0 ≤ n / 480 ∧ n / 480 ≤ 9223372036854775000 := by omega
    by_cases h0 : n % 480 = 0
    · have e : (n - 1) / 480 + 1 = n / 480 := by omega
      rw [e]
      generalize n / 480 = q at *
      generalize n % 480 = r at *
      subst h0
      go_enter Try.func9, Try.ntmps9
      go_wp2
      go_ret
      exact ⟨rfl, rfl⟩
    · have e : (n - 1) / 480 + 1 = n / 480 + 1 := by omega
      rw [e]
      have hne : (n % 480 == 0) = false := by rw [beq_eq_false_iff_ne]; exact h0
      generalize n / 480 = q at *
      generalize n % 480 = r at *
      go_enter Try.func9, Try.ntmps9
      go_wp2
      go_ret
      exact ⟨rfl, rfl⟩

def longV : List Int := (List.replicate 500 0).set 499 7
theorem long_len : longV.length = 500 := by rw [longV, List.length_set, List.length_replicate]
theorem long_chunks : chunks longV = 2 := by unfold chunks; rw [long_len]
theorem new3_many : (newV 2 3).pool.many 1 = 3 := by decide
theorem child_two {s' : VaultS} {c : Int} {ns : List Int} (ok : PoolOk s'.pool) (ht : Taken (newV 2 3) s' ns) (hc : ChainAt s' longV 2 0 c ns) : c = 2 ∧ s'.pool.many 1 = 1 := by
  obtain ⟨c1, ns1, rfl, hb, _, _, c2, ns2, rfl, hb2, _, _, _, rfl⟩ := hc
  have h1 := ht.many
  rw [new3_many] at h1
  simp only [List.length_cons, List.length_nil] at h1
  have h2 := ht.desc
  simp only [List.pairwise_cons, List.mem_singleton] at h2
  have h3 := h2.1 c1 (by simp)
  obtain ⟨m, hm⟩ := free_of_many ok (k := 1) (by omega)
  have h4 := ht.low m hm c (by simp)
  have h5 := there_of_state (by omega : s'.pool.state m ≠ 0)
  have h6 := ht.len
  have h7 : (newV 2 3).pool.counts.length = 3 := rfl
  have h8 := h5.2
  omega

set_option maxRecDepth 100000 in
set_option maxHeartbeats 4000000 in
theorem fixed_yes (F : Pr) (w : World) (hF : Sat F w) : Calls Try.prog 7 #[] w fun e w' => e = .returned (.bool true) ∧ Sat F w' ∧ Stays w w' := by
  have C := Lib.hid (vnew_any 3 2 (by omega) F w hF)
  have hmk : ∀ wx : World, (Instr.makeSlice 31 (.int .i64 500) (.int .i64 500)).run Try.prog wx = .ok (.slice (some ⟨wx.heap.size, 0, none⟩) 500 500) (wx.alloc (.cells (madeCells #[.int .u8 0] 500) 5)) :=
    run_make_row' (P := Try.prog) 31 5 (.int .u8 0) 1 Try.underlying31 infoByte rfl .i64 .i64 500 (by omega) (by omega)
  clear hF
  go_enter Try.func7, Try.ntmps7
  go_wp2_with fail
  refine C.out.mono ?_
  rintro e w1 ⟨hst, v, rfl, h1⟩
  clear C
  have e3 : (madeCells #[Value.int .u8 0] 500).setIfInBounds 499 (.int .u8 7) = (longV.map (Value.int .u8)).toArray := by
    rw [made_rep, List.setIfInBounds_toArray, longV, List.map_set, List.map_replicate]
  have hl : (longV.map (Value.int .u8)).length = 500 := by rw [List.length_map, long_len]
  have qc : (w1.alloc (.cells (madeCells #[.int .u8 0] 500) 5)).cell? ⟨w1.heap.size, 499, none⟩ = some (.int .u8 0) := by
    rw [cell_of_heap (heap_new _ _), made_rep, List.getElem?_toArray, List.getElem?_replicate]; rfl
  have es : (w1.alloc (.cells ((madeCells #[Value.int .u8 0] 500).setIfInBounds 499 (.int .u8 7)) 5)).heap.size = w1.heap.size + 1 := by simp
  have h2 : Sat ((Row 5 1 (.slice (some ⟨w1.heap.size, 0, none⟩) 500 500) 500 (longV.map (Value.int .u8))).star ((VaultA v (newV 2 3)).star F)) (w1.alloc (.cells ((madeCells #[Value.int .u8 0] 500).setIfInBounds 499 (.int .u8 7)) 5)) := by
    rw [e3]
    refine Row.mk' (sp := []) (by rw [hl]) (by rw [hl]; rfl) (Nat.le_refl _) (by simp [maxLen]) ?_
    rw [List.append_nil]
    exact h1.alloc _
  have h3 := h2.alloc (.cells #[.int .u8 107] 5 (1, 2))
  rw [es] at h3
  have hcv := Go.Joins.run_convert_bytes_const_at (P := Try.prog) (w1.alloc (.cells ((madeCells #[Value.int .u8 0] 500).setIfInBounds 499 (.int .u8 7)) 5)) 31 5 #[.int .u8 107] 1 1 (w1.heap.size + 1) es.symm Try.underlying31 Try.underlying5
  obtain ⟨hp, ⟨hpk, hpv⟩, h4⟩ := toArena (F := (VaultA v (newV 2 3)).star F) (A := (Pr.pts (w1.heap.size + 1) (.cells #[.int .u8 107] 5 (1, 2))).star (Row 5 1 (.slice (some ⟨w1.heap.size, 0, none⟩) 500 500) 500 (longV.map (Value.int .u8))))
    (Q := fun x => Bytes x (.slice (some ⟨w1.heap.size + 1, 0, none⟩) 1 1) [107] ∧ Bytes x (.slice (some ⟨w1.heap.size, 0, none⟩) 500 500) longV) (h3.perm (by ac_rfl)) (by
      intro x hx
      obtain ⟨a, b, ha, hb, s1, s2⟩ := star_sub hx
      refine ⟨⟨by simp, _, _, rfl, Nat.le_refl _, by simp [maxLen], fun _ => ⟨_, _, rfl, fun i hi => ?_⟩⟩, ?_⟩
      · have : i = 0 := by simp at hi; omega
        subst this
        exact Hp.cell_sub s1 (show a.cell _ _ = _ by rw [ha]; simp [Hp.cell])
      · unfold Bytes
        rw [long_len]
        exact (Row.rowIn hb).sub s2)
  have S := store_long v (newV 2 3) (.slice (some ⟨w1.heap.size + 1, 0, none⟩) 1 1) (.slice (some ⟨w1.heap.size, 0, none⟩) 500 500) hp [107] longV hpk hpv (by simp) (by rw [long_len]; omega) F _ (h4.perm (by ac_rfl)) (by rw [long_chunks, new3_many]; omega) (by rw [long_chunks]; decide) (by rw [long_chunks]; decide)
  have HS := Lib.hid S
  have HST := Lib.hid ((hst.alloc (.cells ((madeCells #[Value.int .u8 0] 500).setIfInBounds 499 (.int .u8 7)) 5)).alloc (.cells #[.int .u8 107] 5 (1, 2)))
  clear S h1 h2 h3 h4 hpk hpv e3 es hst
  go_wp2_with fail
  refine HS.out.mono ?_
  rintro e w2 ⟨hst2, kv', c, s', ns, h', rfl, hk', ht, hc, h5⟩
  rw [long_chunks] at hc
  have h6 := h5.perm (B := (VaultA v s').star ((Pr.own h').star ((Pr.own hp).star F))) (by ac_rfl)
  obtain ⟨rfl, hmany⟩ := child_two (vault_ok h6).1 ht hc
  obtain ⟨_, ak, ck, rfl, _⟩ := hk'
  rw [long_len]
  have h7 := h6.alloc (.cells #[.slice ak [107].length ck, .slice none 0 0, .int .i64 2, .int .i64 500] 33)
  have h8 := h7.perm (B := (VaultA v s').star ((Pr.pts w2.heap.size (.cells #[.slice ak [107].length ck, .slice none 0 0, .int .i64 2, .int .i64 500] 33)).star ((Pr.own h').star ((Pr.own hp).star F)))) (by ac_rfl)
  have L := load_long v s' ak [107].length ck 2 longV ns (by rw [long_chunks]; exact hc) (by rw [long_len]; omega) _ _ h8
  rw [long_len] at L
  have HL := Lib.hid L
  have HST2 := Lib.hid ((HST.out.trans hst2).alloc (.cells #[.slice ak [107].length ck, .slice none 0 0, .int .i64 2, .int .i64 500] 33))
  have HT := Lib.hid hmany
  clear L h5 h6 h7 h8 hst2 ht hc HS hmany
  go_wp2_with fail
  refine HL.out.mono ?_
  rintro e w3 ⟨hst3, o, rfl, h9⟩
  obtain ⟨ao, co, eo, _, hrow⟩ := Row.read h9
  rw [long_len] at eo hrow
  obtain ⟨bo, ebo, hcells⟩ := hrow (by omega)
  subst ebo
  subst eo
  have q7 := (hcells 499 (by omega)).1
  rw [show (longV.map (Value.int .u8))[499]? = some (.int .u8 7) from by rw [List.getElem?_map, longV, List.getElem?_set_self (by rw [List.length_replicate]; omega)]; rfl] at q7
  have h10 := h9.right.perm (Pr.left_comm _ _ _)
  have i2 : w3.cell? ⟨w2.heap.size, 2, none⟩ = some (.int .i64 2) := by rw [cell_of_heap h10.pts_heap]; rfl
  have i3 : w3.cell? ⟨w2.heap.size, 3, none⟩ = some (.int .i64 500) := by rw [cell_of_heap h10.pts_heap]; rfl
  obtain ⟨x, ok, h11⟩ := vaultA_iff.1 h9.right
  have h12 : Sat ((PoolA x.p s'.pool).star ((Pr.pts v (.cells #[.pointer (some ⟨x.p, 0, none⟩), .map (some x.mb), x.av, .int .i64 s'.floor] 43)).star
    ((((MapA Try.prog 3 x.mb x.f).star ((Row 94 2 x.av s'.acts.length (actCells x.axs)).star (Pr.own x.h)))).star ((Pr.pts w2.heap.size (.cells #[.slice ak [107].length ck, .slice none 0 0, .int .i64 2, .int .i64 500] 33)).star ((Pr.own h').star ((Pr.own hp).star F)))))) w3 := h11.perm (by unfold VaultAt; ac_rfl)
  have qv : w3.cell? ⟨v, 0, none⟩ = some (.pointer (some ⟨x.p, 0, none⟩)) := by rw [cell_of_heap h12.right.pts_heap]; rfl
  have T := tally_A x.p s'.pool 1 (.inl rfl) _ _ h12
  have et : s'.pool.tally 1 = 1 := by
    unfold PoolS.tally
    rw [if_neg (by omega), HT.out]
    rfl
  rw [et] at T
  have HTA := Lib.hid T
  have HF := Lib.hid h9.right.right.right.right.right
  have HST3 := Lib.hid (HST2.out.trans hst3)
  clear h9 h10 h11 h12 T ok hcells hrow hst3 HL et hmk
  go_wp2_with fail
  refine HTA.out.mono ?_
  rintro e w4 ⟨rfl, rfl⟩
  go_wp2_with fail
  refine (pages_any 481 (by omega) _).mono ?_
  rintro e w4 ⟨rfl, rfl⟩
  rw [show pagesOf 481 = 2 from by decide]
  go_wp2
  go_ret
  exact ⟨rfl, HF.out, HST3.out⟩
end Go.Proofs.Ytbobcmimkonnoaa.blob3
