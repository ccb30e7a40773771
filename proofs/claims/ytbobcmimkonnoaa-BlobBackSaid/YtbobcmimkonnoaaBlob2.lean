/- blob.Load at a value that stands on pages; the conditions stand as hypotheses. -/
import Derived.Test.YtbobcmimkonnoaaBlob1
namespace Go.Proofs.Ytbobcmimkonnoaa.blob2
open Go.ChangeShapes Go.WideShapes Go.ChangeAt Go.RowKit Go.Sl Go.Cop Go.Proofs.Ytbobcmimkonnoaa.pool1 Go.Proofs.Ytbobcmimkonnoaa.pool2 Go.Proofs.Ytbobcmimkonnoaa.pool5 Go.Proofs.Ytbobcmimkonnoaa.pool9 Go.Proofs.Ytbobcmimkonnoaa.clone Go.Proofs.Ytbobcmimkonnoaa.page Go.Proofs.Ytbobcmimkonnoaa.vault1 Go.Proofs.Ytbobcmimkonnoaa.vault2 Go.Proofs.Ytbobcmimkonnoaa.vault3 Go.Proofs.Ytbobcmimkonnoaa.vault4 Go.Proofs.Ytbobcmimkonnoaa.vault5 Go.Proofs.Ytbobcmimkonnoaa.vault6 Go.Proofs.Ytbobcmimkonnoaa.blob1

theorem row_room {F : Pr} {w : World} (T : Nat) (z : Value) (n : Nat) (hn : n ≤ maxLen) (h : Sat F w) :
    Sat ((Row T 1 (.slice (some ⟨w.heap.size, 0, none⟩) 0 n) 0 []).star F) (w.alloc (.cells (madeCells #[z] n) T)) := by
  have h1 := h.alloc (.cells (madeCells #[z] n) T)
  refine Row.mk' (xs := []) (sp := List.replicate n z) (by simp) (by simp) (Nat.zero_le _) hn ?_
  rw [List.nil_append, ← made_rep]
  exact h1

set_option maxRecDepth 100000 in
set_option maxHeartbeats 4000000 in
theorem load_long (v : Nat) (s : VaultS) (ak : Option Addr) (mk ck : Nat) (c : Int) (V : List Int) (ns : List Int) (hch : ChainAt s V (chunks V) 0 c ns) (hv : 32 < V.length ∧ V.length ≤ 3840) (F : Pr) (w : World) (hF : Sat ((VaultA v s).star F) w) :
    Calls Try.prog 12 #[.pointer (some ⟨v, 0, none⟩), .agg #[.slice ak mk ck, .slice none 0 0, .int .i64 c, .int .i64 V.length]] w fun e w' =>
      Stays w w' ∧ ∃ o, e = .returned (.tuple #[o, .int .i64 0]) ∧ Sat ((BytesRow o V).star ((VaultA v s).star F)) w' := by
  have h1 := hF.alloc (.cells #[.slice ak mk ck, .slice none 0 0, .int .i64 c, .int .i64 V.length] 33)
  have es : (w.alloc (.cells #[.slice ak mk ck, .slice none 0 0, .int .i64 c, .int .i64 V.length] 33)).heap.size = w.heap.size + 1 := by simp
  have h2 := row_room 5 (.int .u8 0) V.length (by simp only [maxLen]; omega) h1
  rw [es] at h2
  obtain ⟨i0, hi, hz0, hz1, hz2⟩ := info_parts infoByte
  have hmk : ∀ wx : World, (Instr.makeSlice 31 (.int .i64 0) (.int .i64 (V.length : Int))).run Try.prog wx = .ok (.slice (some ⟨wx.heap.size, 0, none⟩) 0 V.length) (wx.alloc (.cells (madeCells #[.int .u8 0] V.length) 5)) := by
    intro wx
    have := run_makeSlice (P := Try.prog) wx 31 5 i0 (.int .u8 0) Try.underlying31 hi hz0 .i64 .i64 0 V.length (by omega) (by omega) (by rw [hz1]; omega) (by rw [hz2]; omega) (by omega)
    rw [hz1, Int.toNat_natCast, Nat.mul_one] at this
    exact this
  have hN : V.length ≤ 480 * chunks V ∧ 480 * chunks V < V.length + 480 := by unfold chunks; omega
  have H2 := Lib.hid h2
  have HCH := Lib.hid hch
  clear h1 h2 hF es hch
  go_enter Try.func12, Try.ntmps12
  go_wp2
  go_loopw [6, 7] (fun o n wr => ∃ (j : Nat) (c' : Int) (ns' : List Int), j ≤ chunks V ∧ n = .int .i64 c' ∧ Stays w wr ∧ ChainAt s V (chunks V - j) j c' ns' ∧ Sat ((BytesRow o (V.take (480 * j))).star ((Pr.pts w.heap.size (.cells #[.slice ak mk ck, .slice none 0 0, .int .i64 c, .int .i64 V.length] 33)).star ((VaultA v s).star F))) wr) (fun o _ _ => match o with | .slice _ n _ => V.length - n | _ => 0)
  case atStart =>
    exact ⟨0, c, ns, Nat.zero_le _, rfl, ((Stays.refl w).alloc _).alloc _, HCH.out, H2.out⟩
  case round =>
    obtain ⟨j, c', ns', hj, rfl, hst, hch2, hinv⟩ := hrel
    have f3 : wr.cell? ⟨w.heap.size, 3, none⟩ = some (.int .i64 V.length) := by rw [cell_of_heap hinv.right.pts_heap]; rfl
    have hA : (V.take (480 * j)).length = min (480 * j) V.length := List.length_take
    obtain ⟨ao, co, eo, _, _⟩ := Row.read hinv
    subst eo
    rcases Nat.lt_or_ge j (chunks V) with hlt | hge
    · obtain ⟨k, hk⟩ : ∃ k, chunks V - j = k + 1 := ⟨chunks V - j - 1, by omega⟩
      rw [hk] at hch2
      obtain ⟨c2, ns2, rfl, hb, hc1, hon, hch3⟩ := hch2
      have hA2 : (V.take (480 * j)).length = 480 * j := by omega
      have hD := chunk_len V j
      have hlast : (k = 0 ∧ c2 = 0 ∧ V.length - 480 * j ≤ 480) ∨ (1 ≤ c2 ∧ ¬ V.length - 480 * j ≤ 480) := by
        cases k with
        | zero => exact .inl ⟨rfl, hch3.1, by omega⟩
        | succ k =>
          obtain ⟨_, _, _, h3, _⟩ := hch3
          exact .inr ⟨h3.1, by omega⟩
      have h4 := hinv.perm (B := (VaultA v s).star ((BytesRow (.slice ao (V.take (480 * j)).length co) (V.take (480 * j))).star ((Pr.pts w.heap.size (.cells #[.slice ak mk ck, .slice none 0 0, .int .i64 c, .int .i64 V.length] 33)).star F))) (by ac_rfl)
      have C := Lib.hid (read_blob v s c' hb (chunk V j) c2 (by omega) _ _ h4 (by omega) hon)
      have HCH3 := Lib.hid hch3
      have hAL : 480 * j < V.length := by omega
      have HT := Lib.hid (show V.take (480 * (j + 1)) = V.take (480 * j) ++ chunk V j by unfold chunk; rw [show 480 * (j + 1) = 480 * j + 480 by omega, List.take_add])
      have HK := Lib.hid hk
      clear hinv h4 hch3 hon hA hk
      go_wp2_with fail
      refine C.out.mono ?_
      rintro e w3 ⟨hst3, pv, rfl, h', hpv, h5⟩
      obtain ⟨vi, vd, rfl, hi0, hb0⟩ := hpv
      obtain ⟨ai, ci, rfl, _⟩ := items_none hi0
      obtain ⟨_, ad, cd, hvd, _, _, _⟩ := id hb0
      subst hvd
      have h6 : Sat ((BytesRow (.slice ao (V.take (480 * j)).length co) (V.take (480 * j))).star ((Pr.pts w.heap.size (.cells #[.slice ak mk ck, .slice none 0 0, .int .i64 c, .int .i64 V.length] 33)).star ((Pr.own h').star ((VaultA v s).star F)))) w3 := h5.perm (by ac_rfl)
      have h7 := h6.alloc (.cells #[.int .i64 3, .int .i64 0, .slice ai 0 ci, .slice ad (chunk V j).length cd, .int .i64 c2] 65)
      have h8b : Sat ((BytesRow (.slice ao (V.take (480 * j)).length co) (V.take (480 * j))).star ((Pr.pts w.heap.size (.cells #[.slice ak mk ck, .slice none 0 0, .int .i64 c, .int .i64 V.length] 33)).star ((Pr.own h').star ((Pr.pts w3.heap.size (.cells #[.int .i64 3, .int .i64 0, .slice ai 0 ci, .slice ad (chunk V j).length cd, .int .i64 c2] 65)).star ((VaultA v s).star F))))) _ := h7.perm (by ac_rfl)
      have h8 : Sat ((Row 5 1 (.slice ao (V.take (480 * j)).length co) (V.take (480 * j)).length ((V.take (480 * j)).map (Value.int .u8))).star ((Pr.pts w.heap.size (.cells #[.slice ak mk ck, .slice none 0 0, .int .i64 c, .int .i64 V.length] 33)).star ((Pr.own h').star ((Pr.pts w3.heap.size (.cells #[.int .i64 3, .int .i64 0, .slice ai 0 ci, .slice ad (chunk V j).length cd, .int .i64 c2] 65)).star ((VaultA v s).star F))))) _ := h8b
      have g3 : w3.cell? ⟨w.heap.size, 3, none⟩ = some (.int .i64 V.length) := by rw [cell_of_heap h6.right.pts_heap]; rfl
      have zI := h6.right.lt
      have hle' := h8.right.right.own
      have H8 := Lib.hid h8
      have HLE := Lib.hid hle'
      have HB0 := Lib.hid (show RowIn h' 1 (.slice ad (chunk V j).length cd) (chunk V j).length ((chunk V j).map (Value.int .u8)) from hb0)
      have HST := Lib.hid ((hst.trans hst3).alloc (.cells #[.int .i64 3, .int .i64 0, .slice ai 0 ci, .slice ad (chunk V j).length cd, .int .i64 c2] 65))
      clear h5 h6 h7 h8 hle' hb0 hi0 C hst hst3 f3
      have hnews : ∀ u ∈ (chunk V j).map (Value.int .u8), u.oneCell' = true := by simp [Value.oneCell']
      have HN := Lib.hid hnews
      have HLEN := Lib.hid (show (V.take (480 * (j + 1))).length = (V.take (480 * j)).length + (chunk V j).length by rw [HT.out, List.length_append])
      clear hnews
      generalize (V.take (480 * j)).length = A at *
      generalize (chunk V j).length = D at *
      rcases hlast with ⟨hk0, rfl, hla⟩ | ⟨hc2, hla⟩
      · have hs : (V.length : Int) - (A : Int) = (D : Int) := by omega
        have hd1 : 1 ≤ D ∧ D ≤ 480 := by omega
        have hAb : A ≤ 3840 := by omega
        have hAl : A < V.length := by omega
        have HF := Lib.hid (And.intro hA2 hD)
        clear hA2 hD hla hAL hN
        have hm : min (D : Int) 480 = D := by omega
        have hd2 : (D : Int) ≤ 480 := by omega
        have hd3 : decide ((D : Int) ≤ 480) = true := by simpa using hd2
        go_wp2_with (at_builtin; refine wpList_append_row rfl _ _ _ rfl 5 i0 (.int .u8 0) 1 1 Try.underlying31 hi hz0 hz1 hz2 rfl _ _ _ rfl H8.out h' HLE.out _ _ _ rfl HB0.out HN.out (by simp only [maxLen]; omega) (by omega) ?_; intro v' w1 hsat hgr _; have g4 : w1.cell? ⟨w3.heap.size, 4, none⟩ = some (.int .i64 0) := (by rw [cell_of_heap hsat.right.right.right.pts_heap]; rfl); have HSAT := Lib.hid hsat; clear hsat)
        go_roundw
        case rel =>
          have hk1 := HK.out
          refine ⟨j + 1, 0, ns2, by omega, rfl, HST.out.of_grown hgr, ?_, ?_⟩
          · rw [show chunks V - (j + 1) = k by omega]; exact HCH3.out
          · have h9 := HSAT.out
            rw [← List.map_append, ← HT.out, ← HLEN.out] at h9
            change Sat ((BytesRow v' (V.take (480 * (j + 1)))).star _) _ at h9
            have h10 : Sat ((Pr.pts w3.heap.size (.cells #[.int .i64 3, .int .i64 0, .slice ai 0 ci, .slice ad D cd, .int .i64 0] 65)).star ((Pr.own h').star ((BytesRow v' (V.take (480 * (j + 1)))).star ((Pr.pts w.heap.size (.cells #[.slice ak mk ck, .slice none 0 0, .int .i64 c, .int .i64 V.length] 33)).star ((VaultA v s).star F))))) _ := h9.perm (by ac_rfl)
            exact h10.right.right
        case measure =>
          obtain ⟨a3, c3, e3, _, _⟩ := Row.read HSAT.out
          subst e3
          have hf := HF.out
          dsimp only
          rw [List.length_take]
          omega
      · have hd1 : D = 480 := by omega
        have hs : ¬ (V.length : Int) - (A : Int) ≤ 480 := by omega
        have hAb : A ≤ 3840 := by omega
        have hAl : A < V.length := by omega
        have HF := Lib.hid (And.intro hA2 hD)
        clear hA2 hD hla hAL hN
        subst hd1
        have hm : min ((V.length : Int) - (A : Int)) 480 = 480 := by omega
        have hd3 : decide ((V.length : Int) - (A : Int) ≤ 480) = false := by simpa using hs
        have hne : (c2 == 0) = false := by rw [beq_eq_false_iff_ne]; omega
        go_wp2_with (at_builtin; refine wpList_append_row rfl _ _ _ rfl 5 i0 (.int .u8 0) 1 1 Try.underlying31 hi hz0 hz1 hz2 rfl _ _ _ rfl H8.out h' HLE.out _ _ _ rfl HB0.out HN.out (by simp only [maxLen]; omega) (by omega) ?_; intro v' w1 hsat hgr _; have g4 : w1.cell? ⟨w3.heap.size, 4, none⟩ = some (.int .i64 c2) := (by rw [cell_of_heap hsat.right.right.right.pts_heap]; rfl); have HSAT := Lib.hid hsat; clear hsat)
        go_roundw
        case rel =>
          have hk1 := HK.out
          refine ⟨j + 1, c2, ns2, by omega, rfl, HST.out.of_grown hgr, ?_, ?_⟩
          · rw [show chunks V - (j + 1) = k by omega]; exact HCH3.out
          · have h9 := HSAT.out
            rw [← List.map_append, ← HT.out, ← HLEN.out] at h9
            change Sat ((BytesRow v' (V.take (480 * (j + 1)))).star _) _ at h9
            have h10 : Sat ((Pr.pts w3.heap.size (.cells #[.int .i64 3, .int .i64 0, .slice ai 0 ci, .slice ad 480 cd, .int .i64 c2] 65)).star ((Pr.own h').star ((BytesRow v' (V.take (480 * (j + 1)))).star ((Pr.pts w.heap.size (.cells #[.slice ak mk ck, .slice none 0 0, .int .i64 c, .int .i64 V.length] 33)).star ((VaultA v s).star F))))) _ := h9.perm (by ac_rfl)
            exact h10.right.right
        case measure =>
          obtain ⟨a3, c3, e3, _, _⟩ := Row.read HSAT.out
          subst e3
          have hf := HF.out
          dsimp only
          rw [List.length_take]
          omega
    · have hjN : j = chunks V := by omega
      subst hjN
      have ht : V.take (480 * chunks V) = V := List.take_of_length_le hN.1
      rw [ht] at hinv
      have HINV := Lib.hid hinv
      have HL := Lib.hid (show (V.take (480 * chunks V)).length = V.length by rw [ht])
      clear hinv hA ht
      generalize (V.take (480 * chunks V)).length = A at *
      have hAV := HL.out
      subst hAV
      go_wp2
      go_ret2
      have h9 : Sat ((Pr.pts w.heap.size (.cells #[.slice ak mk ck, .slice none 0 0, .int .i64 c, .int .i64 V.length] 33)).star ((BytesRow (.slice ao V.length co) V).star ((VaultA v s).star F))) wr := HINV.out.perm (Pr.left_comm _ _ _)
      exact ⟨hst, _, rfl, h9.right⟩
end Go.Proofs.Ytbobcmimkonnoaa.blob2
