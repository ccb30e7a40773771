/- The program's Load of any item's value over any vault; the conditions stand as hypotheses. The program's Load of any item; the conditions stand as hypotheses. The document's Load of any item's value over any vault; the conditions stand as hypotheses. The document's Load of any item; the conditions stand as hypotheses. What both loaded vaults tell is the same; the conditions stand as hypotheses. The document's EqItem, EqPage at two that are the same; the conditions stand as hypotheses. The document's copy of a vault; the conditions stand as hypotheses. -/
import Derived.Test.YtbobcmimkonnoaaBlobLoadsM17
import Derived.Test.YtbobcmimkonnoaaBlobLoadsM18
import Derived.Test.YtbobcmimkonnoaaBlobLoadsM16
import Derived.Test.YtbobcmimkonnoaaBlobLoadsM14
namespace Go.Proofs.Ytbobcmimkonnoaa.bload
open Go.ChangeShapes Go.WideShapes Go.ChangeAt Go.RowKit Go.Sl Go.Cop Go.Proofs.Ytbobcmimkonnoaa.pool1 Go.Proofs.Ytbobcmimkonnoaa.pool2 Go.Proofs.Ytbobcmimkonnoaa.pool5 Go.Proofs.Ytbobcmimkonnoaa.pool9 Go.Proofs.Ytbobcmimkonnoaa.clone Go.Proofs.Ytbobcmimkonnoaa.page Go.Proofs.Ytbobcmimkonnoaa.vault1 Go.Proofs.Ytbobcmimkonnoaa.vault2 Go.Proofs.Ytbobcmimkonnoaa.vault3 Go.Proofs.Ytbobcmimkonnoaa.vault6 Go.Proofs.Ytbobcmimkonnoaa.blob2 Go.Proofs.Ytbobcmimkonnoaa.items Go.Proofs.Ytbobcmimkonnoaa.copyP Go.Proofs.Ytbobcmimkonnoaa.vload Go.Proofs.Ytbobcmimkonnoaa.ref2

/-- What a vault has on its pages, as Read tells it. -/
structure Looks (s : VaultS) (look : Int → Option PageV) : Prop where
  none : ∀ n, look n = none → s.pool.count n = 0
  some : ∀ n g, look n = some g → (1 ≤ n ∧ n ≤ 65536) ∧ s.pool.count n ≠ 0 ∧ s.on n = some g ∧ Fit g
theorem chain_end {look : Int → Option PageV} {N k : Nat} {out : List Int} {n : Int} (h : N ≤ out.length) : chainL look N k out n = (out, 0) := by
  cases k with
  | zero => rfl
  | succ k => unfold chainL; rw [if_pos h]
theorem chain_none {look : Int → Option PageV} {N k : Nat} {out : List Int} {n : Int} (h : out.length < N) (hl : look n = none) : chainL look N (k + 1) out n = ([], 15) := by
  unfold chainL; rw [if_neg (by omega), hl]
theorem chain_kind {look : Int → Option PageV} {N k : Nat} {out : List Int} {n : Int} {g : PageV} (h : out.length < N) (hl : look n = some g) (hk : g.kind ≠ 3) : chainL look N (k + 1) out n = ([], 15) := by
  unfold chainL; rw [if_neg (by omega), hl]; dsimp only; rw [if_pos hk]
theorem chain_form {look : Int → Option PageV} {N k : Nat} {out : List Int} {n : Int} {g : PageV} (h : out.length < N) (hl : look n = some g) (hk : g.kind = 3) (hc : ¬ (g.data.length = min (N - out.length) 480 ∧ ((g.next = 0) ↔ (N - out.length ≤ 480)))) : chainL look N (k + 1) out n = ([], 5) := by
  unfold chainL; rw [if_neg (by omega), hl]; dsimp only; rw [if_neg (by simpa using hk), if_neg hc]
theorem chain_ok {look : Int → Option PageV} {N k : Nat} {out : List Int} {n : Int} {g : PageV} (h : out.length < N) (hl : look n = some g) (hk : g.kind = 3) (hc : g.data.length = min (N - out.length) 480 ∧ ((g.next = 0) ↔ (N - out.length ≤ 480))) : chainL look N (k + 1) out n = chainL look N k (out ++ g.data) g.next := by
  conv => lhs; unfold chainL
  rw [if_neg (by omega), hl]; dsimp only; rw [if_neg (by simpa using hk), if_pos hc]
def lenV : Value → Nat
  | .slice _ n _ => n
  | _ => 0

set_option maxRecDepth 100000 in
set_option maxHeartbeats 4000000 in
theorem bload_long (v : Nat) (s : VaultS) (look : Int → Option PageV) (hl : Looks s look) (kv vv : Value) (hkv : IsSl kv) (hvv : IsSl vv) (c : Int) (N : Nat) (hN : 32 < N ∧ N ≤ 3840) (F : Pr) (w : World) (hF : Sat ((VaultA v s).star F) w) :
    Calls Try.prog 12 #[.pointer (some ⟨v, 0, none⟩), itemV kv vv c N] w fun e w' =>
      Stays w w' ∧ ∃ o, e = .returned (.tuple #[o, .int .i64 (chainL look N N [] c).2]) ∧ Sat ((BytesRow o (chainL look N N [] c).1).star ((VaultA v s).star F)) w' := by
  obtain ⟨ak, mk, ck, rfl⟩ := hkv
  obtain ⟨av, mv, cv, rfl⟩ := hvv
  have h1 := hF.alloc (itemC (.slice ak mk ck) (.slice av mv cv) c N)
  have h2 := row_room 5 (.int .u8 0) N (by simp only [maxLen]; omega) h1
  rw [show (w.alloc (itemC (.slice ak mk ck) (.slice av mv cv) c N)).heap.size = w.heap.size + 1 by simp] at h2
  obtain ⟨i0, hi, hz0, hz1, hz2⟩ := info_parts infoByte
  have hmk : ∀ wx : World, (Instr.makeSlice 31 (.int .i64 0) (.int .i64 (N : Int))).run Try.prog wx = .ok (.slice (some ⟨wx.heap.size, 0, none⟩) 0 N) (wx.alloc (.cells (madeCells #[.int .u8 0] N) 5)) := by
    intro wx
    have := run_makeSlice (P := Try.prog) wx 31 5 i0 (.int .u8 0) Try.underlying31 hi hz0 .i64 .i64 0 N (by omega) (by omega) (by rw [hz1]; omega) (by rw [hz2]; omega) (by omega)
    rw [hz1, Int.toNat_natCast, Nat.mul_one] at this
    exact this
  have H2 := Lib.hid h2
  obtain ⟨R, hR⟩ : ∃ R, R = chainL look N N [] c := ⟨_, rfl⟩
  rw [← hR]
  have HR := Lib.hid hR
  clear h1 h2 hF hR
  go_enter Try.func12, Try.ntmps12
  go_wp2
  go_loopw [6, 7] (fun o n wr => ∃ (out : List Int) (c' : Int) (k : Nat), n = .int .i64 c' ∧ Stays w wr ∧ Hid (N - out.length ≤ k) ∧ Hid (out.length ≤ 3840) ∧ Hid (chainL look N k out c' = R) ∧
    Sat ((BytesRow o out).star ((Pr.pts w.heap.size (itemC (.slice ak mk ck) (.slice av mv cv) c N)).star ((VaultA v s).star F))) wr) (fun o _ _ => N - lenV o)
  case atStart => exact ⟨[], c, N, rfl, ((Stays.refl w).alloc _).alloc _, Lib.hid (by simp), Lib.hid (by simp), Lib.hid HR.out.symm, H2.out⟩
  case round =>
    obtain ⟨out, c', k, rfl, hst, hk, hob, hch, hinv⟩ := hrel
    obtain ⟨_, _, _, f3, _, zI⟩ := pts4 hinv.right
    obtain ⟨ao, co, eo, _, _⟩ := Row.read hinv
    subst eo
    rcases Nat.lt_or_ge out.length N with hlt | hge
    · obtain ⟨k, rfl⟩ : ∃ k', k = k' + 1 := ⟨k - 1, by have := hk.out; omega⟩
      have hob2 : (out.length : Int) ≤ 3840 := by have := hob.out; omega
      have h4 := hinv.perm (B := (VaultA v s).star ((BytesRow (.slice ao out.length co) out).star ((Pr.pts w.heap.size (itemC (.slice ak mk ck) (.slice av mv cv) c N)).star F))) (by ac_rfl)
      cases hlk : look c' with
      | none =>
        have HCH := Lib.hid (show R = ([], 15) from by rw [← hch.out]; exact chain_none hlt hlk)
        clear hch
        have C := Lib.hid (read_none v s c' _ _ h4 (hl.none c' hlk))
        have H4 := Lib.hid h4
        clear hinv h4
        go_wp2_with fail
        refine C.out.mono ?_
        rintro e w3 ⟨rfl, ho⟩
        have H5 := Lib.hid (H4.out.only ho)
        have HST := Lib.hid ((hst.trans ho.st).alloc (pageC 0 0 (.slice none 0 0) (.slice none 0 0) 0))
        have g3 := ho.cell f3
        have zI3 : w.heap.size < w3.heap.size := Nat.lt_of_lt_of_le zI ho.st.size
        clear H4 C f3 hst ho
        go_wp2
        go_ret2
        refine ⟨HST.out, .slice none 0 0, ?_, ?_⟩
        · rw [HCH.out]; rfl
        · rw [HCH.out]
          have h6 := (H5.out.alloc (pageC 0 0 (.slice none 0 0) (.slice none 0 0) 0)).right
          have h7 : Sat ((VaultA v s).star F) _ := (h6.perm (B := (BytesRow (.slice ao out.length co) out).star ((Pr.pts w.heap.size (itemC (.slice ak mk ck) (.slice av mv cv) c N)).star ((VaultA v s).star F))) (by ac_rfl)).right.right
          show Sat ((Row 5 1 (.slice none 0 0) 0 []).star _) _
          rw [Row.nil, Pr.emp_star]
          exact h7
      | some g =>
        obtain ⟨hb, hc1, hon, hfit⟩ := hl.some c' g hlk
        have C := Lib.hid (read_some v s c' hb g hfit _ _ h4 hc1 hon)
        have HFIT := Lib.hid hfit
        have HLK := Lib.hid hlk
        clear hinv h4 hon hc1 hfit hlk
        go_wp2_with fail
        refine C.out.mono ?_
        rintro e w3 ⟨hst3, pv, rfl, h', hpv, h5⟩
        obtain ⟨vi, vd, rfl, hi0, hb0⟩ := hpv
        obtain ⟨ai, ci, rfl, _, _⟩ := items_rd hi0
        obtain ⟨ad, cd, rfl⟩ := bytes_shape hb0
        have h6 : Sat ((BytesRow (.slice ao out.length co) out).star ((Pr.pts w.heap.size (itemC (.slice ak mk ck) (.slice av mv cv) c N)).star ((Pr.own h').star ((VaultA v s).star F)))) w3 := h5.perm (by ac_rfl)
        have h7 := h6.alloc (pageC g.kind g.level (.slice ai g.items.length ci) (.slice ad g.data.length cd) g.next)
        have h8 : Sat ((BytesRow (.slice ao out.length co) out).star ((Pr.pts w.heap.size (itemC (.slice ak mk ck) (.slice av mv cv) c N)).star ((Pr.own h').star ((Pr.pts w3.heap.size (pageC g.kind g.level (.slice ai g.items.length ci) (.slice ad g.data.length cd) g.next)).star ((VaultA v s).star F))))) (w3.alloc (pageC g.kind g.level (.slice ai g.items.length ci) (.slice ad g.data.length cd) g.next)) := h7.perm (by ac_rfl)
        obtain ⟨_, _, _, g3, _, zI3⟩ := pts4 h6.right
        have hle' := h8.right.right.own
        have H8 := Lib.hid h8
        have HLE := Lib.hid hle'
        have HB0 := Lib.hid hb0
        have HST := Lib.hid ((hst.trans hst3).alloc (pageC g.kind g.level (.slice ai g.items.length ci) (.slice ad g.data.length cd) g.next))
        clear h5 h6 h7 h8 hle' hb0 hi0 C hst hst3 f3 zI
        by_cases hkd : g.kind = 3
        · by_cases hc2 : g.data.length = min (N - out.length) 480 ∧ ((g.next = 0) ↔ (N - out.length ≤ 480))
          · have HCH := Lib.hid (show chainL look N k (out ++ g.data) g.next = R from by rw [← hch.out]; exact (chain_ok hlt HLK.out hkd hc2).symm)
            have hkn : (g.kind != 3) = false := by rw [bne_eq_false_iff_eq]; exact hkd
            have hm : min ((N : Int) - (out.length : Int)) 480 = (g.data.length : Int) := by have := hc2.1; omega
            have HDL := Lib.hid (show 1 ≤ g.data.length ∧ g.data.length ≤ 480 ∧ out.length + g.data.length ≤ N by have := hc2.1; omega)
            have hsub : ((N : Int) - (out.length : Int) ≤ 480) = (N - out.length ≤ 480) := by apply propext; omega
            have hBB : ∃ B : Bool, (g.next == 0) = B ∧ decide ((N : Int) - (out.length : Int) ≤ 480) = B := by
              by_cases hq : N - out.length ≤ 480
              · exact ⟨true, by rw [beq_iff_eq]; exact hc2.2.2 hq, by rw [decide_eq_true_eq]; omega⟩
              · exact ⟨false, by rw [beq_eq_false_iff_ne]; exact fun h => hq (hc2.2.1 h), by rw [decide_eq_false_iff_not]; omega⟩
            obtain ⟨B, hnb, hdb⟩ := hBB
            have HN := Lib.hid (show ∀ u ∈ g.data.map (Value.int .u8), u.oneCell' = true by simp [Value.oneCell'])
            have hdl := HDL.out.2.1
            have hAb : out.length ≤ 3840 := hob.out
            have HKD := Lib.hid hkd
            have HLT := Lib.hid hlt
            clear hc2 hch hsub hkd
            cases B
            all_goals
              go_wp2_with (
                at_builtin
                refine wpList_append_row rfl _ _ _ rfl 5 i0 (.int .u8 0) 1 1 Try.underlying31 hi hz0 hz1 hz2 rfl _ _ _ rfl H8.out h' HLE.out _ _ _ rfl HB0.out HN.out (by simp only [maxLen]; omega) (by omega) ?_
                intro v' w1 hsat hgr _
                have g4 : w1.cell? ⟨w3.heap.size, 4, none⟩ = some (.int .i64 g.next) := (pts5 (hsat.right.right.right)).2.2.2.2.1
                have HSAT := Lib.hid hsat
                clear hsat)
              all_goals
                refine ⟨⟨out ++ g.data, g.next, k, rfl, HST.out.of_grown hgr, Lib.hid ?_, Lib.hid ?_, HCH, ?_⟩, ?_⟩
                · have := hk.out; have := HDL.out; rw [List.length_append]; omega
                · have := HDL.out; have := HLT.out; rw [List.length_append]; omega
                · have h9 := HSAT.out
                  rw [← List.map_append, ← List.length_append] at h9
                  change Sat ((BytesRow v' (out ++ g.data)).star _) _ at h9
                  have h10 : Sat ((Pr.own h').star ((Pr.pts w3.heap.size (pageC g.kind g.level (.slice ai g.items.length ci) (.slice ad g.data.length cd) g.next)).star ((BytesRow v' (out ++ g.data)).star ((Pr.pts w.heap.size (itemC (.slice ak mk ck) (.slice av mv cv) c N)).star ((VaultA v s).star F))))) w1 := Sat.perm h9 (by ac_rfl)
                  exact h10.right.right
                · obtain ⟨a3, c3, e3, _, _⟩ := Row.read HSAT.out
                  subst e3
                  have := HDL.out
                  have := HLT.out
                  simp only [lenV]
                  omega
          · have hkn : (g.kind != 3) = false := by rw [bne_eq_false_iff_eq]; exact hkd
            obtain ⟨M, hM⟩ : ∃ M : Nat, M = min (N - out.length) 480 := ⟨_, rfl⟩
            have hm : min ((N : Int) - (out.length : Int)) 480 = (M : Int) := by omega
            have HM := Lib.hid hM
            have hdl : g.data.length ≤ 480 := HFIT.out.d
            have hAb : out.length ≤ 3840 := hob.out
            have HCH := Lib.hid (show R = ([], 5) from by rw [← hch.out]; exact chain_form hlt HLK.out hkd hc2)
            have HC2 := Lib.hid hc2
            clear hch hc2 hkd hM
            have fin : ∀ w', Sat ((VaultA v s).star F) w' → Sat ((BytesRow (.slice none 0 0) R.1).star ((VaultA v s).star F)) w' := by
              intro w' h
              rw [HCH.out]
              show Sat ((Row 5 1 (.slice none 0 0) 0 []).star _) _
              rw [Row.nil, Pr.emp_star]
              exact h
            have HR2 := Lib.hid (show R.2 = 5 by rw [HCH.out])
            by_cases hD : g.data.length = min (N - out.length) 480
            · have hm2 : min ((N : Int) - (out.length : Int)) 480 = (g.data.length : Int) := by have := HM.out; omega
              clear hm
              have hBB : ∃ B : Bool, (g.next == 0) = B ∧ decide ((N : Int) - (out.length : Int) ≤ 480) = !B := by
                have h3 : ¬ ((g.next = 0) ↔ (N - out.length ≤ 480)) := fun h => HC2.out ⟨hD, h⟩
                by_cases hq : g.next = 0
                · exact ⟨true, by rw [beq_iff_eq]; exact hq, by rw [Bool.not_true, decide_eq_false_iff_not]; intro h; exact h3 ⟨fun _ => by omega, fun _ => hq⟩⟩
                · exact ⟨false, by rw [beq_eq_false_iff_ne]; exact hq, by rw [Bool.not_false, decide_eq_true_eq]; exact Classical.byContradiction fun h => h3 ⟨fun h2 => absurd h2 hq, fun h2 => absurd (by omega) h⟩⟩
              obtain ⟨B, hnb, hdb⟩ := hBB
              have HD := Lib.hid hD
              clear hD
              cases B
              all_goals
                simp only [Bool.not_true, Bool.not_false] at hdb
                go_wp2
                all_goals
                  go_ret2
                  exact ⟨HST.out, .slice none 0 0, (by rw [HR2.out]; rfl), fin _ H8.out.right.right.right.right⟩
            · have hDn : ¬ g.data.length = M := by have := HM.out; omega
              have HD := Lib.hid hD
              clear hD
              go_wp2
              all_goals
                go_ret2
                exact ⟨HST.out, .slice none 0 0, (by rw [HR2.out]; rfl), fin _ H8.out.right.right.right.right⟩
        · have hkn : (g.kind != 3) = true := by rw [bne_iff_ne]; exact hkd
          have HCH := Lib.hid (show R = ([], 15) from by rw [← hch.out]; exact chain_kind hlt HLK.out hkd)
          clear hch
          go_wp2
          go_ret2
          refine ⟨HST.out, .slice none 0 0, ?_, ?_⟩
          · rw [HCH.out]; rfl
          · rw [HCH.out]
            show Sat ((Row 5 1 (.slice none 0 0) 0 []).star _) _
            rw [Row.nil, Pr.emp_star]
            exact H8.out.right.right.right.right
    · have HCH := Lib.hid (show R = (out, 0) from by rw [← hch.out]; exact chain_end hge)
      have HINV := Lib.hid hinv
      have hge2 : ¬ ((out.length : Int) < (N : Int)) := by omega
      clear hch hinv
      go_wp2
      go_ret2
      refine ⟨hst, .slice ao out.length co, ?_, ?_⟩
      · rw [HCH.out]; rfl
      · rw [HCH.out]
        exact (HINV.out.perm (Pr.left_comm _ _ _)).right
end Go.Proofs.Ytbobcmimkonnoaa.bload

namespace Go.Proofs.Ytbobcmimkonnoaa.bload2
open Go.ChangeShapes Go.WideShapes Go.ChangeAt Go.RowKit Go.Sl Go.Cop Go.Proofs.Ytbobcmimkonnoaa.clone Go.Proofs.Ytbobcmimkonnoaa.page Go.Proofs.Ytbobcmimkonnoaa.vault1 Go.Proofs.Ytbobcmimkonnoaa.vault2 Go.Proofs.Ytbobcmimkonnoaa.items Go.Proofs.Ytbobcmimkonnoaa.copyP Go.Proofs.Ytbobcmimkonnoaa.bload

set_option maxRecDepth 100000 in
set_option maxHeartbeats 2000000 in
theorem bload_bad (v : Nat) (x : ItemV) (ak av : Option Addr) (ck cv : Nat) (hb : x.size < 0 ∨ 3840 < x.size ∨ (x.size ≤ 32 ∧ (x.value.length : Int) ≠ x.size)) (w : World) :
    Calls Try.prog 12 #[.pointer (some ⟨v, 0, none⟩), itemV (.slice ak x.key.length ck) (.slice av x.value.length cv) x.child x.size] w fun e w' => e = .returned (.tuple #[.slice none 0 0, .int .i64 8]) ∧ Only w w' := by
  by_cases h1 : x.size < 0
  · go_enter Try.func12, Try.ntmps12
    go_wp2
    go_ret2
    exact ⟨rfl, (Only.refl w).alloc _⟩
  · by_cases h2 : 3840 < x.size
    · go_enter Try.func12, Try.ntmps12
      go_wp2
      go_ret2
      exact ⟨rfl, (Only.refl w).alloc _⟩
    · have h3 : x.size ≤ 32 := by omega
      have h4 : ((x.value.length : Int) != x.size) = true := by rw [bne_iff_ne]; omega
      go_enter Try.func12, Try.ntmps12
      go_wp2
      all_goals
        go_ret2
        exact ⟨rfl, (Only.refl w).alloc _⟩

set_option maxRecDepth 100000 in
set_option maxHeartbeats 2000000 in
theorem bload_short (v : Nat) (x : ItemV) (ak av : Option Addr) (ck cv : Nat) (h : Hp) (hv : Bytes h (.slice av x.value.length cv) x.value) (hs : 0 ≤ x.size ∧ x.size ≤ 32 ∧ (x.value.length : Int) = x.size) (F : Pr) (w : World) (hF : Sat ((Pr.own h).star F) w) :
    Calls Try.prog 12 #[.pointer (some ⟨v, 0, none⟩), itemV (.slice ak x.key.length ck) (.slice av x.value.length cv) x.child x.size] w fun e w' =>
      Stays w w' ∧ ∃ o, e = .returned (.tuple #[o, .int .i64 0]) ∧ Sat ((BytesRow o x.value).star ((Pr.own h).star F)) w' := by
  obtain ⟨h1, h2, h3⟩ := hs
  have h0 := hF.alloc (itemC (.slice ak x.key.length ck) (.slice av x.value.length cv) x.child x.size)
  have C := Lib.hid (bclone_any h _ x.value _ _ h0 h0.right.own hv (by omega))
  have hne : ((x.value.length : Int) != x.size) = false := by rw [bne_eq_false_iff_eq]; exact h3
  have HST := Lib.hid ((Stays.refl w).alloc (itemC (.slice ak x.key.length ck) (.slice av x.value.length cv) x.child x.size))
  have H3 := Lib.hid h3
  have h4 : ¬ 3840 < x.size := by omega
  have h5 : ¬ x.size < 0 := by omega
  clear hF h0 hv h3 h1
  go_enter Try.func12, Try.ntmps12
  go_wp2_with fail
  refine C.out.mono ?_
  rintro e w1 ⟨o, rfl, hs1, st1⟩
  have S1 := Lib.hid hs1
  obtain ⟨ao, co, rfl, _, _⟩ := Row.read hs1
  clear hs1
  go_wp2
  go_ret2
  exact ⟨HST.out.trans st1, _, rfl, (S1.out.perm (Pr.left_comm _ _ _)).right⟩

/-- Any item. -/
theorem bload_any (v : Nat) (s : VaultS) (look : Int → Option PageV) (hl : Looks s look) (x : ItemV) (h : Hp) (iv : Value) (hi : ItemIn h iv x) (F : Pr) (w : World) (hF : Sat ((VaultA v s).star ((Pr.own h).star F)) w) :
    Calls Try.prog 12 #[.pointer (some ⟨v, 0, none⟩), iv] w fun e w' =>
      Stays w w' ∧ ∃ o, e = .returned (.tuple #[o, .int .i64 (valueL look x.size x.child x.value).2]) ∧ Sat ((BytesRow o (valueL look x.size x.child x.value).1).star ((VaultA v s).star ((Pr.own h).star F))) w' := by
  obtain ⟨kv, vv, rfl, hk, hvv⟩ := hi
  obtain ⟨ak, ck, rfl⟩ := bytes_shape hk
  obtain ⟨av, cv, rfl⟩ := bytes_shape hvv
  unfold valueL
  by_cases hb : x.size < 0 ∨ 3840 < x.size ∨ (x.size ≤ 32 ∧ (x.value.length : Int) ≠ x.size)
  · rw [if_pos hb]
    refine (bload_bad v x ak av ck cv hb w).mono ?_
    rintro e w' ⟨rfl, ho⟩
    refine ⟨ho.st, _, rfl, ?_⟩
    show Sat ((Row 5 1 (.slice none 0 0) 0 []).star _) _
    rw [Row.nil, Pr.emp_star]
    exact hF.only ho
  · rw [if_neg hb]
    by_cases h32 : x.size ≤ 32
    · rw [if_pos h32]
      refine (bload_short v x ak av ck cv h hvv (by omega) _ w (hF.perm (Pr.left_comm _ _ _))).mono ?_
      rintro e w' ⟨st, o, rfl, h1⟩
      exact ⟨st, o, rfl, h1.perm (by ac_rfl)⟩
    · rw [if_neg h32]
      have e1 : x.size = ((x.size.toNat : Nat) : Int) := by omega
      have := bload_long v s look hl (.slice ak x.key.length ck) (.slice av x.value.length cv) ⟨_, _, _, rfl⟩ ⟨_, _, _, rfl⟩ x.child x.size.toNat (by omega) _ w hF
      rw [← e1] at this
      exact this
end Go.Proofs.Ytbobcmimkonnoaa.bload2

namespace Go.Proofs.Ytbobcmimkonnoaa.rbload
open Go.ChangeShapes Go.WideShapes Go.ChangeAt Go.RowKit Go.Sl Go.Cop Go.Proofs.Ytbobcmimkonnoaa.pool1 Go.Proofs.Ytbobcmimkonnoaa.pool2 Go.Proofs.Ytbobcmimkonnoaa.pool5 Go.Proofs.Ytbobcmimkonnoaa.pool9 Go.Proofs.Ytbobcmimkonnoaa.clone Go.Proofs.Ytbobcmimkonnoaa.page Go.Proofs.Ytbobcmimkonnoaa.vault1 Go.Proofs.Ytbobcmimkonnoaa.vault2 Go.Proofs.Ytbobcmimkonnoaa.vault3 Go.Proofs.Ytbobcmimkonnoaa.vault6 Go.Proofs.Ytbobcmimkonnoaa.blob2 Go.Proofs.Ytbobcmimkonnoaa.items Go.Proofs.Ytbobcmimkonnoaa.copyP Go.Proofs.Ytbobcmimkonnoaa.vload Go.Proofs.Ytbobcmimkonnoaa.ref1 Go.Proofs.Ytbobcmimkonnoaa.ref2 Go.Proofs.Ytbobcmimkonnoaa.bload

/-- What the document's vault has on its pages, as Read tells it. -/
structure RLooks (s : PoolS) (gs : List PageV) (look : Int → Option PageV) : Prop where
  none : ∀ n, look n = none → s.count n = 0
  some : ∀ n g, look n = some g → s.count n ≠ 0 ∧ pgAt gs n = g ∧ Fit g

set_option maxRecDepth 100000 in
set_option maxHeartbeats 4000000 in
theorem rbload_long (v : Nat) (s : PoolS) (gs : List PageV) (hush : Bool) (look : Int → Option PageV) (hl : RLooks s gs look) (kv vv : Value) (hkv : IsSl kv) (hvv : IsSl vv) (c : Int) (N : Nat) (hN : 32 < N ∧ N ≤ 3840) (F : Pr) (w : World) (hF : Sat ((RefA v s gs hush).star F) w) :
    Calls Try.prog 36 #[.pointer (some ⟨v, 0, none⟩), itemV kv vv c N] w fun e w' =>
      Stays w w' ∧ ∃ o, e = .returned (.tuple #[o, .int .i64 (chainL look N N [] c).2]) ∧ Sat ((BytesRow o (chainL look N N [] c).1).star ((RefA v s gs hush).star F)) w' := by
  obtain ⟨ak, mk, ck, rfl⟩ := hkv
  obtain ⟨av, mv, cv, rfl⟩ := hvv
  have h1 := hF.alloc (itemC (.slice ak mk ck) (.slice av mv cv) c N)
  have h2 : Sat ((Row 5 1 (.slice (some ⟨w.heap.size + 1, 0, none⟩) 0 0) 0 []).star ((Pr.pts w.heap.size (itemC (.slice ak mk ck) (.slice av mv cv) c N)).star ((RefA v s gs hush).star F))) ((w.alloc (itemC (.slice ak mk ck) (.slice av mv cv) c N)).alloc (.cells #[] 5)) := by
    have h3 := h1.alloc (.cells #[] 5)
    rw [show (w.alloc (itemC (.slice ak mk ck) (.slice av mv cv) c N)).heap.size = w.heap.size + 1 by simp] at h3
    exact Row.mk' (xs := []) (sp := []) (by simp) (by simp) (Nat.le_refl _) (by simp) (by simpa using h3)
  obtain ⟨i0, hi, hz0, hz1, hz2⟩ := info_parts infoByte
  have H2 := Lib.hid h2
  obtain ⟨R, hR⟩ : ∃ R, R = chainL look N N [] c := ⟨_, rfl⟩
  rw [← hR]
  have HR := Lib.hid hR
  clear h1 h2 hF hR
  go_enter Try.func36, Try.ntmps36
  go_wp2
  go_loopw [6, 7] (fun o n wr => ∃ (out : List Int) (c' : Int) (k : Nat), n = .int .i64 c' ∧ Stays w wr ∧ Hid (N - out.length ≤ k) ∧ Hid (out.length ≤ 3840) ∧ Hid (chainL look N k out c' = R) ∧
    Sat ((BytesRow o out).star ((Pr.pts w.heap.size (itemC (.slice ak mk ck) (.slice av mv cv) c N)).star ((RefA v s gs hush).star F))) wr) (fun o _ _ => N - lenV o)
  case atStart => exact ⟨[], c, N, rfl, ((Stays.refl w).alloc _).alloc _, Lib.hid (by simp), Lib.hid (by simp), Lib.hid HR.out.symm, H2.out⟩
  case round =>
    obtain ⟨out, c', k, rfl, hst, hk, hob, hch, hinv⟩ := hrel
    obtain ⟨_, _, _, f3, _, zI⟩ := pts4 hinv.right
    obtain ⟨ao, co, eo, _, _⟩ := Row.read hinv
    subst eo
    rcases Nat.lt_or_ge out.length N with hlt | hge
    · obtain ⟨k, rfl⟩ : ∃ k', k = k' + 1 := ⟨k - 1, by have := hk.out; omega⟩
      have hob2 : (out.length : Int) ≤ 3840 := by have := hob.out; omega
      have h4 := hinv.perm (B := (RefA v s gs hush).star ((BytesRow (.slice ao out.length co) out).star ((Pr.pts w.heap.size (itemC (.slice ak mk ck) (.slice av mv cv) c N)).star F))) (by ac_rfl)
      cases hlk : look c' with
      | none =>
        have HCH := Lib.hid (show R = ([], 15) from by rw [← hch.out]; exact chain_none hlt hlk)
        clear hch
        have C := Lib.hid (rread_none v s gs hush c' _ _ h4 (hl.none c' hlk))
        have H4 := Lib.hid h4
        clear hinv h4
        go_wp2_with fail
        refine C.out.mono ?_
        rintro e w3 ⟨rfl, ho⟩
        have H5 := Lib.hid (H4.out.only ho)
        have HST := Lib.hid ((hst.trans ho.st).alloc (pageC 0 0 (.slice none 0 0) (.slice none 0 0) 0))
        have g3 := ho.cell f3
        have zI3 : w.heap.size < w3.heap.size := Nat.lt_of_lt_of_le zI ho.st.size
        clear H4 C f3 hst ho
        go_wp2
        go_ret2
        refine ⟨HST.out, .slice none 0 0, ?_, ?_⟩
        · rw [HCH.out]; rfl
        · rw [HCH.out]
          have h6 := (H5.out.alloc (pageC 0 0 (.slice none 0 0) (.slice none 0 0) 0)).right
          have h7 : Sat ((RefA v s gs hush).star F) _ := (h6.perm (B := (BytesRow (.slice ao out.length co) out).star ((Pr.pts w.heap.size (itemC (.slice ak mk ck) (.slice av mv cv) c N)).star ((RefA v s gs hush).star F))) (by ac_rfl)).right.right
          show Sat ((Row 5 1 (.slice none 0 0) 0 []).star _) _
          rw [Row.nil, Pr.emp_star]
          exact h7
      | some g =>
        obtain ⟨hc1, hon, hfit⟩ := hl.some c' g hlk
        have C := Lib.hid (rread_some v s gs hush c' _ _ h4 hc1)
        rw [hon] at C
        have HFIT := Lib.hid hfit
        have HLK := Lib.hid hlk
        clear hinv h4 hon hc1 hfit hlk
        go_wp2_with fail
        refine C.out.mono ?_
        rintro e w3 ⟨hst3, pv, rfl, h', hpv, h5⟩
        obtain ⟨vi, vd, rfl, hi0, hb0⟩ := hpv
        obtain ⟨ai, ci, rfl, _, _⟩ := items_rd hi0
        obtain ⟨ad, cd, rfl⟩ := bytes_shape hb0
        have h6 : Sat ((BytesRow (.slice ao out.length co) out).star ((Pr.pts w.heap.size (itemC (.slice ak mk ck) (.slice av mv cv) c N)).star ((Pr.own h').star ((RefA v s gs hush).star F)))) w3 := h5.perm (by ac_rfl)
        have h7 := h6.alloc (pageC g.kind g.level (.slice ai g.items.length ci) (.slice ad g.data.length cd) g.next)
        have h8 : Sat ((BytesRow (.slice ao out.length co) out).star ((Pr.pts w.heap.size (itemC (.slice ak mk ck) (.slice av mv cv) c N)).star ((Pr.own h').star ((Pr.pts w3.heap.size (pageC g.kind g.level (.slice ai g.items.length ci) (.slice ad g.data.length cd) g.next)).star ((RefA v s gs hush).star F))))) (w3.alloc (pageC g.kind g.level (.slice ai g.items.length ci) (.slice ad g.data.length cd) g.next)) := h7.perm (by ac_rfl)
        obtain ⟨_, _, _, g3, _, zI3⟩ := pts4 h6.right
        have hle' := h8.right.right.own
        have H8 := Lib.hid h8
        have HLE := Lib.hid hle'
        have HB0 := Lib.hid hb0
        have HST := Lib.hid ((hst.trans hst3).alloc (pageC g.kind g.level (.slice ai g.items.length ci) (.slice ad g.data.length cd) g.next))
        clear h5 h6 h7 h8 hle' hb0 hi0 C hst hst3 f3 zI
        by_cases hkd : g.kind = 3
        · by_cases hc2 : g.data.length = min (N - out.length) 480 ∧ ((g.next = 0) ↔ (N - out.length ≤ 480))
          · have HCH := Lib.hid (show chainL look N k (out ++ g.data) g.next = R from by rw [← hch.out]; exact (chain_ok hlt HLK.out hkd hc2).symm)
            have hkn : (g.kind != 3) = false := by rw [bne_eq_false_iff_eq]; exact hkd
            have HDL := Lib.hid (show 1 ≤ g.data.length ∧ g.data.length ≤ 480 ∧ out.length + g.data.length ≤ N by have := hc2.1; omega)
            have hBB : (Hid (N - out.length ≤ 480) ∧ (N : Int) - (out.length : Int) = (g.data.length : Int) ∧ (g.next == 0) = true ∧ ((out.length : Int) + (g.data.length : Int) == (N : Int)) = true) ∨ ((480 : Int) < (N : Int) - (out.length : Int) ∧ ((g.data.length : Int) != 480) = false ∧ (g.next == 0) = false ∧ ((out.length : Int) + 480 == (N : Int)) = false) := by
              by_cases hq : N - out.length ≤ 480
              · exact .inl ⟨Lib.hid hq, by have := hc2.1; omega, by rw [beq_iff_eq]; exact hc2.2.2 hq, by rw [beq_iff_eq]; have := hc2.1; omega⟩
              · exact .inr ⟨by omega, by rw [bne_eq_false_iff_eq]; have := hc2.1; omega, by rw [beq_eq_false_iff_ne]; exact fun h => hq (hc2.2.1 h), by rw [beq_eq_false_iff_ne]; omega⟩
            have HN := Lib.hid (show ∀ u ∈ g.data.map (Value.int .u8), u.oneCell' = true by simp [Value.oneCell'])
            have hdl := HDL.out.2.1
            have hAb : out.length ≤ 3840 := hob.out
            have HKD := Lib.hid hkd
            have HLT := Lib.hid hlt
            clear hc2 hch hkd
            rcases hBB with ⟨_, hw1, hw2, hw3⟩ | ⟨hw1, hw4, hw2, hw3⟩
            all_goals
              go_wp2_with (
                at_builtin
                refine wpList_append_row rfl _ _ _ rfl 5 i0 (.int .u8 0) 1 1 Try.underlying31 hi hz0 hz1 hz2 rfl _ _ _ rfl H8.out h' HLE.out _ _ _ rfl HB0.out HN.out (by simp only [maxLen]; omega) (by omega) ?_
                intro v' w1 hsat hgr _
                have g4 : w1.cell? ⟨w3.heap.size, 4, none⟩ = some (.int .i64 g.next) := (pts5 (hsat.right.right.right)).2.2.2.2.1
                have HSAT := Lib.hid hsat
                clear hsat)
              all_goals
                refine ⟨⟨out ++ g.data, g.next, k, rfl, HST.out.of_grown hgr, Lib.hid ?_, Lib.hid ?_, HCH, ?_⟩, ?_⟩
                · have := hk.out; have := HDL.out; rw [List.length_append]; omega
                · have := HDL.out; have := HLT.out; rw [List.length_append]; omega
                · have h9 := HSAT.out
                  rw [← List.map_append, ← List.length_append] at h9
                  change Sat ((BytesRow v' (out ++ g.data)).star _) _ at h9
                  have h10 : Sat ((Pr.own h').star ((Pr.pts w3.heap.size (pageC g.kind g.level (.slice ai g.items.length ci) (.slice ad g.data.length cd) g.next)).star ((BytesRow v' (out ++ g.data)).star ((Pr.pts w.heap.size (itemC (.slice ak mk ck) (.slice av mv cv) c N)).star ((RefA v s gs hush).star F))))) w1 := Sat.perm h9 (by ac_rfl)
                  exact h10.right.right
                · obtain ⟨a3, c3, e3, _, _⟩ := Row.read HSAT.out
                  subst e3
                  have := HDL.out
                  have := HLT.out
                  simp only [lenV]
                  omega
          · have hkn : (g.kind != 3) = false := by rw [bne_eq_false_iff_eq]; exact hkd
            have hdl : g.data.length ≤ 480 := HFIT.out.d
            have hAb : out.length ≤ 3840 := hob.out
            have HCH := Lib.hid (show R = ([], 5) from by rw [← hch.out]; exact chain_form hlt HLK.out hkd hc2)
            have HC2 := Lib.hid hc2
            clear hch hc2 hkd
            have fin : ∀ w', Sat ((RefA v s gs hush).star F) w' → Sat ((BytesRow (.slice none 0 0) R.1).star ((RefA v s gs hush).star F)) w' := by
              intro w' h
              rw [HCH.out]
              show Sat ((Row 5 1 (.slice none 0 0) 0 []).star _) _
              rw [Row.nil, Pr.emp_star]
              exact h
            have HR2 := Lib.hid (show R.2 = 5 by rw [HCH.out])
            have HNX := Lib.hid (show g.data.length = min (N - out.length) 480 → ¬ ((g.next = 0) ↔ (N - out.length ≤ 480)) from fun h1 h2 => HC2.out ⟨h1, h2⟩)
            by_cases hq : N - out.length ≤ 480
            · by_cases hD : g.data.length = N - out.length
              · have hw1 : (N : Int) - (out.length : Int) = (g.data.length : Int) := by omega
                have hw2 : (g.next == 0) = false := by rw [beq_eq_false_iff_ne]; exact fun h => HNX.out (by omega) ⟨fun _ => hq, fun _ => h⟩
                have hw3 : ((out.length : Int) + (g.data.length : Int) == (N : Int)) = true := by rw [beq_iff_eq]; omega
                have HD := Lib.hid hD
                clear hD hq
                go_wp2
                all_goals
                  go_ret2
                  exact ⟨HST.out, .slice none 0 0, (by rw [HR2.out]; rfl), fin _ H8.out.right.right.right.right⟩
              · have hDn : ((g.data.length : Int) != (N : Int) - (out.length : Int)) = true := by rw [bne_iff_ne]; omega
                have hq1 : (N : Int) - (out.length : Int) ≤ 480 := by omega
                have HD := Lib.hid hD
                clear hD hq
                go_wp2
                all_goals
                  go_ret2
                  exact ⟨HST.out, .slice none 0 0, (by rw [HR2.out]; rfl), fin _ H8.out.right.right.right.right⟩
            · have hq1 : (480 : Int) < (N : Int) - (out.length : Int) := by omega
              by_cases hD : g.data.length = 480
              · have hw4 : ((g.data.length : Int) != 480) = false := by rw [bne_eq_false_iff_eq]; omega
                have hw2 : (g.next == 0) = true := by
                  rw [beq_iff_eq]
                  exact Decidable.byContradiction fun h => HNX.out (by omega) ⟨fun h2 => absurd h2 h, fun h2 => absurd h2 hq⟩
                have hw3 : ((out.length : Int) + 480 == (N : Int)) = false := by rw [beq_eq_false_iff_ne]; omega
                have HD := Lib.hid hD
                clear hD hq
                go_wp2
                all_goals
                  go_ret2
                  exact ⟨HST.out, .slice none 0 0, (by rw [HR2.out]; rfl), fin _ H8.out.right.right.right.right⟩
              · have hDn : ((g.data.length : Int) != 480) = true := by rw [bne_iff_ne]; omega
                have HD := Lib.hid hD
                clear hD hq
                go_wp2
                all_goals
                  go_ret2
                  exact ⟨HST.out, .slice none 0 0, (by rw [HR2.out]; rfl), fin _ H8.out.right.right.right.right⟩
        · have hkn : (g.kind != 3) = true := by rw [bne_iff_ne]; exact hkd
          have HCH := Lib.hid (show R = ([], 15) from by rw [← hch.out]; exact chain_kind hlt HLK.out hkd)
          clear hch
          go_wp2
          go_ret2
          refine ⟨HST.out, .slice none 0 0, ?_, ?_⟩
          · rw [HCH.out]; rfl
          · rw [HCH.out]
            show Sat ((Row 5 1 (.slice none 0 0) 0 []).star _) _
            rw [Row.nil, Pr.emp_star]
            exact H8.out.right.right.right.right
    · have HCH := Lib.hid (show R = (out, 0) from by rw [← hch.out]; exact chain_end hge)
      have HINV := Lib.hid hinv
      have hge2 : ¬ ((out.length : Int) < (N : Int)) := by omega
      clear hch hinv
      go_wp2
      go_ret2
      refine ⟨hst, .slice ao out.length co, ?_, ?_⟩
      · rw [HCH.out]; rfl
      · rw [HCH.out]
        exact (HINV.out.perm (Pr.left_comm _ _ _)).right
end Go.Proofs.Ytbobcmimkonnoaa.rbload

namespace Go.Proofs.Ytbobcmimkonnoaa.rbload2
open Go.ChangeShapes Go.WideShapes Go.ChangeAt Go.RowKit Go.Sl Go.Cop Go.Proofs.Ytbobcmimkonnoaa.clone Go.Proofs.Ytbobcmimkonnoaa.page Go.Proofs.Ytbobcmimkonnoaa.vault1 Go.Proofs.Ytbobcmimkonnoaa.vault2 Go.Proofs.Ytbobcmimkonnoaa.items Go.Proofs.Ytbobcmimkonnoaa.copyP Go.Proofs.Ytbobcmimkonnoaa.copyB Go.Proofs.Ytbobcmimkonnoaa.ref1 Go.Proofs.Ytbobcmimkonnoaa.ref2 Go.Proofs.Ytbobcmimkonnoaa.bload Go.Proofs.Ytbobcmimkonnoaa.rbload

set_option maxRecDepth 100000 in
set_option maxHeartbeats 2000000 in
theorem rbload_bad (v : Nat) (x : ItemV) (ak av : Option Addr) (ck cv : Nat) (hb : x.size < 0 ∨ 3840 < x.size ∨ (x.size ≤ 32 ∧ (x.value.length : Int) ≠ x.size)) (w : World) :
    Calls Try.prog 36 #[.pointer (some ⟨v, 0, none⟩), itemV (.slice ak x.key.length ck) (.slice av x.value.length cv) x.child x.size] w fun e w' => e = .returned (.tuple #[.slice none 0 0, .int .i64 8]) ∧ Only w w' := by
  by_cases h1 : x.size < 0
  · go_enter Try.func36, Try.ntmps36
    go_wp2
    go_ret2
    exact ⟨rfl, (Only.refl w).alloc _⟩
  · by_cases h2 : 3840 < x.size
    · go_enter Try.func36, Try.ntmps36
      go_wp2
      go_ret2
      exact ⟨rfl, (Only.refl w).alloc _⟩
    · have h3 : x.size ≤ 32 := by omega
      have h4 : ((x.value.length : Int) != x.size) = true := by rw [bne_iff_ne]; omega
      go_enter Try.func36, Try.ntmps36
      go_wp2
      all_goals
        go_ret2
        exact ⟨rfl, (Only.refl w).alloc _⟩

set_option maxRecDepth 100000 in
set_option maxHeartbeats 2000000 in
theorem rbload_short (v : Nat) (x : ItemV) (ak av : Option Addr) (ck cv : Nat) (h : Hp) (hv : Bytes h (.slice av x.value.length cv) x.value) (hs : 0 ≤ x.size ∧ x.size ≤ 32 ∧ (x.value.length : Int) = x.size) (F : Pr) (w : World) (hF : Sat ((Pr.own h).star F) w) :
    Calls Try.prog 36 #[.pointer (some ⟨v, 0, none⟩), itemV (.slice ak x.key.length ck) (.slice av x.value.length cv) x.child x.size] w fun e w' =>
      Stays w w' ∧ ∃ o, e = .returned (.tuple #[o, .int .i64 0]) ∧ Sat ((BytesRow o x.value).star ((Pr.own h).star F)) w' := by
  obtain ⟨h1, h2, h3⟩ := hs
  have h0 := hF.alloc (itemC (.slice ak x.key.length ck) (.slice av x.value.length cv) x.child x.size)
  have C := Lib.hid (copybytes_any h _ x.value _ _ (h0.perm (Pr.left_comm _ _ _)) hv (by omega))
  have hne : ((x.value.length : Int) != x.size) = false := by rw [bne_eq_false_iff_eq]; exact h3
  have HST := Lib.hid ((Stays.refl w).alloc (itemC (.slice ak x.key.length ck) (.slice av x.value.length cv) x.child x.size))
  have H3 := Lib.hid h3
  have h4 : ¬ 3840 < x.size := by omega
  have h5 : ¬ x.size < 0 := by omega
  clear hF h0 hv h3 h1
  go_enter Try.func36, Try.ntmps36
  go_wp2_with fail
  refine C.out.mono ?_
  rintro e w1 ⟨o, rfl, hs1, st1⟩
  have S1 := Lib.hid hs1
  obtain ⟨ao, co, rfl, _, _⟩ := Row.read hs1
  clear hs1
  go_wp2
  go_ret2
  exact ⟨HST.out.trans st1, _, rfl, (S1.out.perm (B := (Pr.pts w.heap.size (itemC (.slice ak x.key.length ck) (.slice av x.value.length cv) x.child x.size)).star ((BytesRow (.slice ao x.value.length co) x.value).star ((Pr.own h).star F))) (by ac_rfl)).right⟩

/-- Any item. -/
theorem rbload_any (v : Nat) (s : PoolS) (gs : List PageV) (hush : Bool) (look : Int → Option PageV) (hl : RLooks s gs look) (x : ItemV) (h : Hp) (iv : Value) (hi : ItemIn h iv x) (F : Pr) (w : World) (hF : Sat ((RefA v s gs hush).star ((Pr.own h).star F)) w) :
    Calls Try.prog 36 #[.pointer (some ⟨v, 0, none⟩), iv] w fun e w' =>
      Stays w w' ∧ ∃ o, e = .returned (.tuple #[o, .int .i64 (valueL look x.size x.child x.value).2]) ∧ Sat ((BytesRow o (valueL look x.size x.child x.value).1).star ((RefA v s gs hush).star ((Pr.own h).star F))) w' := by
  obtain ⟨kv, vv, rfl, hk, hvv⟩ := hi
  obtain ⟨ak, ck, rfl⟩ := bytes_shape hk
  obtain ⟨av, cv, rfl⟩ := bytes_shape hvv
  unfold valueL
  by_cases hb : x.size < 0 ∨ 3840 < x.size ∨ (x.size ≤ 32 ∧ (x.value.length : Int) ≠ x.size)
  · rw [if_pos hb]
    refine (rbload_bad v x ak av ck cv hb w).mono ?_
    rintro e w' ⟨rfl, ho⟩
    refine ⟨ho.st, _, rfl, ?_⟩
    show Sat ((Row 5 1 (.slice none 0 0) 0 []).star _) _
    rw [Row.nil, Pr.emp_star]
    exact hF.only ho
  · rw [if_neg hb]
    by_cases h32 : x.size ≤ 32
    · rw [if_pos h32]
      refine (rbload_short v x ak av ck cv h hvv (by omega) _ w (hF.perm (Pr.left_comm _ _ _))).mono ?_
      rintro e w' ⟨st, o, rfl, h1⟩
      exact ⟨st, o, rfl, h1.perm (by ac_rfl)⟩
    · rw [if_neg h32]
      have e1 : x.size = ((x.size.toNat : Nat) : Int) := by omega
      have := rbload_long v s gs hush look hl (.slice ak x.key.length ck) (.slice av x.value.length cv) ⟨_, _, _, rfl⟩ ⟨_, _, _, rfl⟩ x.child x.size.toNat (by omega) _ w hF
      rw [← e1] at this
      exact this
end Go.Proofs.Ytbobcmimkonnoaa.rbload2

namespace Go.Proofs.Ytbobcmimkonnoaa.looks
open Go.ChangeShapes Go.WideShapes Go.ChangeAt Go.RowKit Go.Sl Go.Cop Go.Proofs.Ytbobcmimkonnoaa.pool8 Go.Proofs.Ytbobcmimkonnoaa.pool9 Go.Proofs.Ytbobcmimkonnoaa.vault6 Go.Proofs.Ytbobcmimkonnoaa.vloadLaw Go.Proofs.Ytbobcmimkonnoaa.vload Go.Proofs.Ytbobcmimkonnoaa.ref2 Go.Proofs.Ytbobcmimkonnoaa.rload Go.Proofs.Ytbobcmimkonnoaa.bload Go.Proofs.Ytbobcmimkonnoaa.rbload

/-- A load that is right. -/
structure Right (cs : List Int) (on : Int → Option PageV) : Prop where
  ok : OnOk cs on
  full : ∀ n, cntL cs n ≠ 0 → ∃ g, on n = some g
  n2 : cs.length ≤ 65536
theorem right_load {refs : Int} {cs : List Int} {l : List NumV} (h : (loadE refs cs l).1 = 0) : Right cs (loadE refs cs l).2 := by
  unfold loadE at h ⊢
  split at h
  · cases h
  · rename_i hr
    rw [if_neg hr]
    have hr2 : rangeOk cs.length refs = true := by simpa using hr
    split at h
    · cases h
    · rename_i hb
      rw [if_neg hb]
      split at h
      · rename_i h1; exact absurd h h1
      · rename_i h1
        rw [if_neg h1]
        split at h
        · cases h
        · rename_i h2
          rw [if_neg h2]
          refine ⟨lay_ok (OnOk.none cs), fun n hn => ?_, by have := Go.Proofs.Ytbobcmimkonnoaa.load1.rangeOk_iff.1 hr2; omega⟩
          cases ho : (lay cs l fun _ => none).2 n with
          | some g => exact ⟨g, rfl⟩
          | none => exact absurd (lacks_iff.2 ⟨n, held_mem.2 hn, ho⟩) h2
theorem right_new (n : Nat) (hn : n ≤ 65536) : Right (List.replicate n 0) fun _ => none := by
  refine ⟨OnOk.none _, fun m hm => absurd ?_ hm, by simpa using hn⟩
  unfold cntL
  split
  · simp [List.getD_eq_getElem?_getD, List.getElem?_replicate]
    split <;> rfl
  · rfl
theorem look_some {cs : List Int} {on : Int → Option PageV} (h : Right cs on) {n : Int} {g : PageV} (hg : lookL cs on n = some g) : cntL cs n ≠ 0 ∧ on n = some g ∧ Fit g := by
  unfold lookL at hg
  split at hg
  · cases hg
  · rename_i hc
    obtain ⟨g2, h2⟩ := h.full n hc
    rw [h2] at hg
    cases hg
    exact ⟨hc, h2, h.ok.fit n _ h2⟩
theorem look_none {cs : List Int} {on : Int → Option PageV} {n : Int} (hg : lookL cs on n = none) : cntL cs n = 0 := by
  unfold lookL at hg
  split at hg
  · assumption
  · cases hg
theorem looks_of {refs : Int} {cs : List Int} {on : Int → Option PageV} (h : Right cs on) : Looks (loadV refs cs on) (lookL cs on) := by
  constructor
  · intro n hn
    exact (count_poolOf refs cs n).trans (look_none hn)
  · intro n g hg
    obtain ⟨h1, h2, h3⟩ := look_some h hg
    have hb := cntL_bd h1
    have := h.n2
    exact ⟨by omega, by rw [show (loadV refs cs on).pool.count n = cntL cs n from count_poolOf refs cs n]; exact h1, h2, h3⟩
theorem rlooks_of {refs : Int} {cs : List Int} {on : Int → Option PageV} (h : Right cs on) : RLooks (poolOf refs cs 0) (pgsOf cs.length on) (lookL cs on) := by
  constructor
  · intro n hn
    exact (count_poolOf refs cs n).trans (look_none hn)
  · intro n g hg
    obtain ⟨h1, h2, h3⟩ := look_some h hg
    obtain ⟨b1, b2⟩ := cntL_bd h1
    refine ⟨by rw [show (poolOf refs cs 0).count n = cntL cs n from count_poolOf refs cs n]; exact h1, ?_, h3⟩
    unfold pgAt pgsOf
    rw [List.getD_eq_getElem?_getD, List.getElem?_map, List.getElem?_range (by omega)]
    simp only [Option.map_some, Option.getD_some]
    rw [show (((n.toNat - 1 : Nat) : Int)) + 1 = n by omega, h2]
    rfl
end Go.Proofs.Ytbobcmimkonnoaa.looks

namespace Go.Proofs.Ytbobcmimkonnoaa.eqp
open Go.ChangeShapes Go.WideShapes Go.ChangeAt Go.RowKit Go.Sl Go.Cop Go.Proofs.Ytbobcmimkonnoaa.clone Go.Proofs.Ytbobcmimkonnoaa.page Go.Proofs.Ytbobcmimkonnoaa.eqb Go.Proofs.Ytbobcmimkonnoaa.vault1 Go.Proofs.Ytbobcmimkonnoaa.items Go.Proofs.Ytbobcmimkonnoaa.rchk1 Go.Proofs.Ytbobcmimkonnoaa.rchk2 Go.Proofs.Ytbobcmimkonnoaa.copyP

set_option maxRecDepth 100000 in
set_option maxHeartbeats 2000000 in
theorem eqitem_same (ha hb : Hp) (va vb : Value) (x : ItemV) (h1 : ItemIn ha va x) (h2 : ItemIn hb vb x) (hn : x.key.length ≤ 9000000000000000000 ∧ x.value.length ≤ 9000000000000000000) (w : World) (l1 : ha.le w) (l2 : hb.le w) :
    Calls Try.prog 70 #[va, vb] w fun e w' => e = .returned (.bool true) ∧ Only w w' := by
  obtain ⟨k1, v1, rfl, hk1, hv1⟩ := h1
  obtain ⟨k2, v2, rfl, hk2, hv2⟩ := h2
  obtain ⟨a1, c1, rfl⟩ := bytes_shape hk1
  obtain ⟨a2, c2, rfl⟩ := bytes_shape hv1
  obtain ⟨a3, c3, rfl⟩ := bytes_shape hk2
  obtain ⟨a4, c4, rfl⟩ := bytes_shape hv2
  obtain ⟨w0, hw0⟩ : ∃ w0, (w.alloc (itemC (.slice a1 x.key.length c1) (.slice a2 x.value.length c2) x.child x.size)).alloc (itemC (.slice a3 x.key.length c3) (.slice a4 x.value.length c4) x.child x.size) = w0 := ⟨_, rfl⟩
  have ho0 : Only w w0 := hw0 ▸ ((Only.refl w).alloc _).alloc _
  have facts : ∀ wr, Only w0 wr → (wr.cell? ⟨w.heap.size, 0, none⟩ = some (.slice a1 x.key.length c1) ∧ wr.cell? ⟨w.heap.size, 1, none⟩ = some (.slice a2 x.value.length c2) ∧ wr.cell? ⟨w.heap.size, 2, none⟩ = some (.int .i64 x.child) ∧ wr.cell? ⟨w.heap.size, 3, none⟩ = some (.int .i64 x.size)) ∧
      (wr.cell? ⟨w.heap.size + 1, 0, none⟩ = some (.slice a3 x.key.length c3) ∧ wr.cell? ⟨w.heap.size + 1, 1, none⟩ = some (.slice a4 x.value.length c4) ∧ wr.cell? ⟨w.heap.size + 1, 2, none⟩ = some (.int .i64 x.child) ∧ wr.cell? ⟨w.heap.size + 1, 3, none⟩ = some (.int .i64 x.size)) ∧ ha.le wr ∧ hb.le wr ∧ w.heap.size + 1 < wr.heap.size := by
    intro wr ho
    subst hw0
    have s1 : Sat ((Pr.pts w.heap.size (itemC (.slice a1 x.key.length c1) (.slice a2 x.value.length c2) x.child x.size)).star Pr.emp) (w.alloc (itemC (.slice a1 x.key.length c1) (.slice a2 x.value.length c2) x.child x.size)) := (sat_emp w).alloc _
    have s2 := s1.alloc (itemC (.slice a3 x.key.length c3) (.slice a4 x.value.length c4) x.child x.size)
    rw [show (w.alloc (itemC (.slice a1 x.key.length c1) (.slice a2 x.value.length c2) x.child x.size)).heap.size = w.heap.size + 1 by simp] at s2
    have s3 := s2.only ho
    obtain ⟨p0, p1, p2, p3, _, _⟩ := pts4 s3.right
    obtain ⟨r0, r1, r2, r3, _, zz⟩ := pts4 s3
    exact ⟨⟨p0, p1, p2, p3⟩, ⟨r0, r1, r2, r3⟩, le_only (le_only l1 ho0) ho, le_only (le_only l2 ho0) ho, zz⟩
  have FA := Lib.hid facts
  have HO0 := Lib.hid ho0
  have H1 := Lib.hid (And.intro hk1 hv1)
  have H2 := Lib.hid (And.intro hk2 hv2)
  clear facts ho0 hk1 hv1 hk2 hv2 l1 l2
  obtain ⟨⟨p0, p1, p2, p3⟩, ⟨r0, r1, r2, r3⟩, e1, e2, z⟩ := FA.out w0 (Only.refl _)
  go_enter Try.func70, Try.ntmps70
  go_wp2_with fail
  refine (eq_same ha hb _ _ x.key H1.out.1 H2.out.1 hn.1 _ e1 e2).mono ?_
  rintro e w1 ⟨rfl, ho1⟩
  clear p0 p1 p2 p3 r0 r1 r2 r3 e1 e2 z
  obtain ⟨⟨p0, p1, p2, p3⟩, ⟨r0, r1, r2, r3⟩, e1, e2, z⟩ := FA.out w1 ho1
  go_wp2_with fail
  refine (eq_same ha hb _ _ x.value H1.out.2 H2.out.2 hn.2 _ e1 e2).mono ?_
  rintro e w2 ⟨rfl, ho2⟩
  go_wp2
  go_ret
  exact ⟨rfl, HO0.out.trans (ho1.trans ho2)⟩

set_option maxRecDepth 100000 in
set_option maxHeartbeats 4000000 in
theorem eqpage_same (ha hb : Hp) (va vb : Value) (g : PageV) (h1 : PageIn ha va g) (h2 : PageIn hb vb g) (hf : Fit g) (w : World) (l1 : ha.le w) (l2 : hb.le w) :
    Calls Try.prog 45 #[va, vb] w fun e w' => e = .returned (.bool true) ∧ Only w w' := by
  obtain ⟨i1, d1, rfl, hi1, hd1⟩ := h1
  obtain ⟨i2, d2, rfl, hi2, hd2⟩ := h2
  obtain ⟨a1, c1, rfl, _, rd1⟩ := items_rd hi1
  obtain ⟨a3, c3, rfl, _, rd2⟩ := items_rd hi2
  obtain ⟨a2, c2, rfl⟩ := bytes_shape hd1
  obtain ⟨a4, c4, rfl⟩ := bytes_shape hd2
  obtain ⟨k, l, its, dat, nx⟩ := g
  dsimp only at *
  have hn1 : (its.length : Int) ≤ 8 := by have := hf.n; dsimp only at this; omega
  have hdl : dat.length ≤ 9000000000000000000 := by have := hf.d; dsimp only at this; omega
  have hkk : ∀ y ∈ its, y.key.length ≤ 9000000000000000000 ∧ y.value.length ≤ 9000000000000000000 := fun y hy => by have := hf.k y hy; omega
  obtain ⟨w0, hw0⟩ : ∃ w0, (w.alloc (pageC k l (.slice a1 its.length c1) (.slice a2 dat.length c2) nx)).alloc (pageC k l (.slice a3 its.length c3) (.slice a4 dat.length c4) nx) = w0 := ⟨_, rfl⟩
  have ho0 : Only w w0 := hw0 ▸ ((Only.refl w).alloc _).alloc _
  have facts : ∀ wr, Only w0 wr → (wr.cell? ⟨w.heap.size, 0, none⟩ = some (.int .i64 k) ∧ wr.cell? ⟨w.heap.size, 1, none⟩ = some (.int .i64 l) ∧ wr.cell? ⟨w.heap.size, 2, none⟩ = some (.slice a1 its.length c1) ∧ wr.cell? ⟨w.heap.size, 3, none⟩ = some (.slice a2 dat.length c2) ∧ wr.cell? ⟨w.heap.size, 4, none⟩ = some (.int .i64 nx)) ∧
      (wr.cell? ⟨w.heap.size + 1, 0, none⟩ = some (.int .i64 k) ∧ wr.cell? ⟨w.heap.size + 1, 1, none⟩ = some (.int .i64 l) ∧ wr.cell? ⟨w.heap.size + 1, 2, none⟩ = some (.slice a3 its.length c3) ∧ wr.cell? ⟨w.heap.size + 1, 3, none⟩ = some (.slice a4 dat.length c4) ∧ wr.cell? ⟨w.heap.size + 1, 4, none⟩ = some (.int .i64 nx)) ∧ ha.le wr ∧ hb.le wr ∧ w.heap.size + 1 < wr.heap.size := by
    intro wr ho
    subst hw0
    have s1 : Sat ((Pr.pts w.heap.size (pageC k l (.slice a1 its.length c1) (.slice a2 dat.length c2) nx)).star Pr.emp) (w.alloc (pageC k l (.slice a1 its.length c1) (.slice a2 dat.length c2) nx)) := (sat_emp w).alloc _
    have s2 := s1.alloc (pageC k l (.slice a3 its.length c3) (.slice a4 dat.length c4) nx)
    rw [show (w.alloc (pageC k l (.slice a1 its.length c1) (.slice a2 dat.length c2) nx)).heap.size = w.heap.size + 1 by simp] at s2
    have s3 := s2.only ho
    obtain ⟨p0, p1, p2, p3, p4, _, _⟩ := pts5 s3.right
    obtain ⟨r0, r1, r2, r3, r4, _, zz⟩ := pts5 s3
    exact ⟨⟨p0, p1, p2, p3, p4⟩, ⟨r0, r1, r2, r3, r4⟩, le_only (le_only l1 ho0) ho, le_only (le_only l2 ho0) ho, zz⟩
  have FA := Lib.hid facts
  have HO0 := Lib.hid ho0
  have RD1 := Lib.hid rd1
  have RD2 := Lib.hid rd2
  have HD1 := Lib.hid hd1
  have HD2 := Lib.hid hd2
  have HK := Lib.hid hkk
  clear facts ho0 rd1 rd2 hd1 hd2 hi1 hi2 l1 l2 hkk hf
  obtain ⟨⟨p0, p1, p2, p3, p4⟩, ⟨r0, r1, r2, r3, r4⟩, e1, e2, z⟩ := FA.out w0 (Only.refl _)
  go_enter Try.func45, Try.ntmps45
  go_wp2_with fail
  refine (eq_same ha hb _ _ dat HD1.out HD2.out hdl _ e1 e2).mono ?_
  rintro e w1 ⟨rfl, ho1⟩
  clear p0 p1 p2 p3 p4 r0 r1 r2 r3 r4 e1 e2 z
  go_wp2_with fail
  go_loopw [5] (fun i wr => ∃ r : Nat, r ≤ its.length ∧ i = .int .i64 r ∧ Only w0 wr) (fun i _ => its.length - (intOf i).toNat)
  case atStart => exact ⟨0, Nat.zero_le _, rfl, ho1⟩
  case round =>
    obtain ⟨r, hr, rfl, ho⟩ := hrel
    obtain ⟨⟨p0, p1, p2, p3, p4⟩, ⟨r0, r1, r2, r3, r4⟩, e1, e2, z⟩ := FA.out wr ho
    rcases Nat.lt_or_ge r its.length with hlt | hge
    · obtain ⟨b1, o1, ak1, ck1, av1, cv1, rfl, hbk1, hbv1, hc1⟩ := RD1.out r hlt
      obtain ⟨b2, o2, ak2, ck2, av2, cv2, rfl, hbk2, hbv2, hc2⟩ := RD2.out r hlt
      obtain ⟨s0, s1, s2, s3⟩ := hc1 wr e1
      obtain ⟨t0, t1, t2, t3⟩ := hc2 wr e2
      have HX := Lib.hid (HK.out its[r] (List.getElem_mem hlt))
      have HC1 := Lib.hid hc1
      have HC2 := Lib.hid hc2
      have HO := Lib.hid ho
      clear hc1 hc2 ho
      generalize its[r] = x at *
      go_wp2_with fail
      refine wp_region_staged (sz := 61) (by kernel_rfl) [0, 1, 2, 3, 4, 5, 6, 7, 8, 9] [(10, [11], [0, 1, 2, 3, 5, 6, 7, 8])] rfl (by kernel_rfl) (by kernel_rfl) (by kernel_rfl) ?_
      refine wpQ_all _ rfl rfl ?_
      simp only [pick, List.drop_succ_cons, List.drop_zero, List.take_succ_cons, List.take_zero, List.cons_append, List.nil_append]
      iterate 10 (go_big_quiet_step (fail))
      refine wpQuiet_nil ?_
      refine wpRest_act rfl ?_
      go_wp2_with fail
      refine (eqitem_same ha hb _ _ x ⟨_, _, rfl, hbk1, hbv1⟩ ⟨_, _, rfl, hbk2, hbv2⟩ HX.out _ (le_only e1 ((Only.refl _).drew)) (le_only e2 ((Only.refl _).drew))).mono ?_
      rintro e w2 ⟨rfl, ho2⟩
      have HO2 := Lib.hid (HO.out.drew.trans ho2)
      clear p0 p1 p2 p3 p4 r0 r1 r2 r3 r4 e1 e2 z s0 s1 s2 s3 t0 t1 t2 t3
      obtain ⟨⟨p0, p1, p2, p3, p4⟩, ⟨r0, r1, r2, r3, r4⟩, e1, e2, z⟩ := FA.out w2 HO2.out
      obtain ⟨s0, s1, s2, s3⟩ := HC1.out w2 e1
      obtain ⟨t0, t1, t2, t3⟩ := HC2.out w2 e2
      go_wp2
      refine onN_mk ?_
      refine wpQ_all _ rfl rfl ?_
      simp only [pick, List.drop_succ_cons, List.drop_zero, List.take_succ_cons, List.take_zero, List.cons_append, List.nil_append]
      iterate 1 (go_big_quiet_step (fail))
      refine wpQuiet_nil ⟨?_, ?_⟩
      · refine chk_all _ rfl rfl ?_
        simp only [pick, Same, List.drop_succ_cons, List.drop_zero, List.take_succ_cons, List.take_zero, List.cons_append, List.nil_append, and_true]
        repeat' (first | apply And.intro | (go_big_quiet_step (fail); exact wpQuiet_nil rfl))
      refine wpRest_nil ?_
      go_wp2
      go_roundw
      case rel => exact ⟨r + 1, by omega, congrArg (Value.int .i64) (by omega), HO2.out⟩
      case measure => simp [intOf]; omega
    · have hrl : r = its.length := by omega
      subst hrl
      have HO := Lib.hid ho
      clear ho
      go_wp2
      go_ret
      exact ⟨rfl, HO0.out.trans HO.out⟩
end Go.Proofs.Ytbobcmimkonnoaa.eqp

namespace Go.Proofs.Ytbobcmimkonnoaa.rcopy
open Go.ChangeShapes Go.WideShapes Go.ChangeAt Go.RowKit Go.Sl Go.Cop Go.Proofs.Ytbobcmimkonnoaa.pool1 Go.Proofs.Ytbobcmimkonnoaa.pool2 Go.Proofs.Ytbobcmimkonnoaa.pool5 Go.Proofs.Ytbobcmimkonnoaa.pool9 Go.Proofs.Ytbobcmimkonnoaa.clone Go.Proofs.Ytbobcmimkonnoaa.page Go.Proofs.Ytbobcmimkonnoaa.vault1 Go.Proofs.Ytbobcmimkonnoaa.vault2 Go.Proofs.Ytbobcmimkonnoaa.vault6 Go.Proofs.Ytbobcmimkonnoaa.counts Go.Proofs.Ytbobcmimkonnoaa.items Go.Proofs.Ytbobcmimkonnoaa.copyP Go.Proofs.Ytbobcmimkonnoaa.copied Go.Proofs.Ytbobcmimkonnoaa.vload Go.Proofs.Ytbobcmimkonnoaa.ref1 Go.Proofs.Ytbobcmimkonnoaa.ref2 Go.Proofs.Ytbobcmimkonnoaa.ref3

theorem row_room5 {F : Pr} {w : World} (T : Nat) (z : Array Value) (n : Nat) (hn : n ≤ maxLen) (h : Sat F w) :
    Sat ((Row T 5 (.slice (some ⟨w.heap.size, 0, none⟩) 0 n) 0 []).star F) (w.alloc (.cells (madeCells z (n * 5)) T)) := by
  have h1 := h.alloc (.cells (madeCells z (n * 5)) T)
  refine Row.mk' (xs := []) (sp := (madeCells z (n * 5)).toList) (by simp) (by simp [size_madeCells]) (Nat.zero_le _) hn ?_
  rw [List.nil_append, Array.toArray_toList]
  exact h1

set_option maxRecDepth 100000 in
set_option maxHeartbeats 2000000 in
theorem copypages_any (a : Hp) (v : Value) (h : Hp) (xs : List (Value × Value)) (gs : List PageV) (hp : PgsAt h xs gs) (hx : RowIn a 5 v gs.length ((xs.zip gs).flatMap pgCells)) (hn : gs.length ≤ 65536) (F : Pr) (w : World) (hF : Sat ((Pr.own a).star F) w) :
    Calls Try.prog 64 #[v] w fun e w' => ∃ v', e = .returned v' ∧ Sat ((PgRow v' xs gs).star ((Pr.own a).star F)) w' ∧ Stays w w' := by
  obtain ⟨hlen, ad, cd, rfl, _, _, hc⟩ := id hx
  obtain ⟨i0, hi, hz0, hz1, hz2⟩ := info_parts infoPageF
  have hmk : ∀ wx : World, (Instr.makeSlice 107 (.int .i64 0) (.int .i64 (gs.length : Int))).run Try.prog wx = .ok (.slice (some ⟨wx.heap.size, 0, none⟩) 0 gs.length) (wx.alloc (.cells (madeCells #[.int .i64 0, .int .i64 0, .slice none 0 0, .slice none 0 0, .int .i64 0] (gs.length * 5)) 65)) := by
    intro wx
    have := run_make (P := Try.prog) wx 107 65 i0 (.agg #[.int .i64 0, .int .i64 0, .slice none 0 0, .slice none 0 0, .int .i64 0]) Try.underlying107 hi hz0 .i64 .i64 0 gs.length (by omega) (by omega) (by rw [hz2]; omega) (by omega)
    rw [hz1, Int.toNat_natCast] at this
    exact this
  have h2 := Lib.hid (row_room5 65 #[.int .i64 0, .int .i64 0, .slice none 0 0, .slice none 0 0, .int .i64 0] gs.length (by simp only [maxLen]; omega) hF)
  have HC := Lib.hid hc
  have HP := Lib.hid hp
  have hnn : (gs.length : Int) ≤ 65536 := by omega
  clear hF hx hc hp hlen
  go_enter Try.func64, Try.ntmps64
  go_wp2
  go_loopw [3, 4] (fun o i wr => ∃ k : Nat, k ≤ gs.length ∧ i = .int .i64 k ∧ Stays w wr ∧ Sat ((Row 65 5 o k (((xs.zip gs).take k).flatMap pgCells)).star ((Pr.own a).star F)) wr) (fun _ i _ => gs.length - (intOf i).toNat)
  case atStart => exact ⟨0, Nat.zero_le _, rfl, (Stays.refl w).alloc _, h2.out⟩
  case round =>
    obtain ⟨k, hk, rfl, hst, hs⟩ := hrel
    obtain ⟨ao, co, rfl, _, _⟩ := Row.read hs
    rcases Nat.lt_or_ge k gs.length with hlt | hge
    · obtain ⟨b, off, rfl, hcell⟩ := HC.out (by omega)
      have hkx : k < xs.length := by have := HP.out.len; omega
      have hz : k < (xs.zip gs).length := by simp; omega
      have hle := hs.right.own
      have at' : ∀ j v, (pgCells (xs[k], gs[k]))[j]? = some v → j < 5 → wr.cell? ⟨b, off + k * 5 + j, none⟩ = some v := by
        intro j v hv hj
        have h3 := hcell (k * 5 + j) (by omega)
        have h4 := flat_at pgCells 5 (fun _ => rfl) (xs.zip gs) k j hz hj
        rw [show (xs.zip gs)[k] = (xs[k], gs[k]) by simp, hv] at h4
        rw [Nat.add_assoc]
        exact Hp.cell_le hle (h3.trans h4)
      obtain ⟨y1, y2⟩ := HP.out.at' k hkx hlt
      obtain ⟨a1, d1, e1, _, _⟩ := items_rd y1
      obtain ⟨a2, d2, e2⟩ := bytes_shape y2
      have c0 := at' 0 _ rfl (by omega)
      have c1 := at' 1 _ rfl (by omega)
      have c2 := at' 2 _ rfl (by omega)
      have c3 := at' 3 _ rfl (by omega)
      have c4 := at' 4 _ rfl (by omega)
      have HT := Lib.hid (show ((xs.zip gs).take (k + 1)).flatMap pgCells = ((xs.zip gs).take k).flatMap pgCells ++ [.int .i64 gs[k].kind, .int .i64 gs[k].level, xs[k].1, xs[k].2, .int .i64 gs[k].next] by
        rw [List.take_succ_eq_append_getElem hz, List.flatMap_append]
        simp [pgCells])
      dsimp only at c2 c3
      rw [e1] at c2
      rw [e2] at c3
      rw [e1, e2] at HT
      rw [Nat.add_zero] at c0
      generalize gs[k] = g at *
      have H1 := Lib.hid (hs.alloc (.cells [.int .i64 g.kind, .int .i64 g.level, .slice a1 g.items.length d1, .slice a2 g.data.length d2, .int .i64 g.next].toArray 65)).right
      have hnew := Lib.hid (new_cells wr [.int .i64 g.kind, .int .i64 g.level, .slice a1 g.items.length d1, .slice a2 g.data.length d2, .int .i64 g.next] 65 _ rfl)
      have zb := World.block_lt_of_cell? _ _ c0
      have HST := Lib.hid hst
      clear hs hcell hle at' y1 y2 e1 e2 hst hz
      go_wp2_with (
        at_builtin
        refine wpList_append_sl rfl _ _ _ rfl 65 i0 (.agg #[.int .i64 0, .int .i64 0, .slice none 0 0, .slice none 0 0, .int .i64 0]) 5 72 Try.underlying107 hi hz0 hz1 hz2 rfl _ _ _ rfl H1.out ⟨wr.heap.size, 0, none⟩ 1 1 [.int .i64 g.kind, .int .i64 g.level, .slice a1 g.items.length d1, .slice a2 g.data.length d2, .int .i64 g.next] rfl rfl hnew.out (by simp [Value.oneCell']) (by simp only [maxLen]; omega) (by omega) ?_
        intro v7 w4 hs4 hg4 _
        obtain ⟨a7', c7', e7', _, _⟩ := Row.read hs4
        subst e7'
        have HS4 := Lib.hid hs4
        have HG4 := Lib.hid hg4
        clear hs4 hg4)
      refine ⟨⟨k + 1, by omega, congrArg (Value.int .i64) (by omega), (HST.out.alloc _).of_grown HG4.out, ?_⟩, by simp [intOf]; omega⟩
      rw [HT.out]
      exact HS4.out
    · have hkl : k = gs.length := by omega
      subst hkl
      have HS := Lib.hid hs
      clear hs
      go_wp2
      go_ret
      refine ⟨_, rfl, ?_, hst⟩
      have h9 := HS.out
      rw [List.take_of_length_le (by simp; omega)] at h9
      exact h9
end Go.Proofs.Ytbobcmimkonnoaa.rcopy
