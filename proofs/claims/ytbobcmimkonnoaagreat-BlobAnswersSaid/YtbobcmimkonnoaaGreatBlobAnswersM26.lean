/- The program's Load of any item's value over any vault; the conditions stand as hypotheses. -/
import Derived.Test.YtbobcmimkonnoaaGreatBlobAnswersM23
namespace Go.Proofs.YtbobcmimkonnoaaGreat.bload
open ChangeShapes WideShapes ChangeAt RowKit Sl Cop pool1 pool2 pool5 pool9 clone page vault1 vault2 vault3 vault6 blob2 items copyP vload ref2
/-- What a vault has on its pages, as Read tells it. -/
structure Looks (s : VaultS) (look : Int → Option PageV) : Prop where
 none : ∀ n, look n = none → s.pool.count n = 0
 some : ∀ n g, look n = some g → (1 ≤ n ∧ n ≤ 65536) ∧ s.pool.count n ≠ 0 ∧ s.on n = some g ∧ Fit g
theorem chain_end {look : Int → Option PageV} {N k : Nat} {out : List Int} {n : Int} (h : N ≤ out.length) : chainL look N k out n = (out, 0) := by
 cases k with
 | zero => rfl
 | succ k => unfold chainL; rw [if_pos h]
theorem chain_none {look : Int → Option PageV} {N k : Nat} {out : List Int} {n : Int} (h : out.length < N) (hl : look n = none) : chainL look N (k + 1) out n = ([], 15) := by
 unfold chainL; rw [if_neg (by omega), hl]
theorem chain_kind {look : Int → Option PageV} {N k : Nat} {out : List Int} {n : Int} {g : PageV} (h : out.length < N) (hl : look n = some g) (hk : g.kind ≠ 3) : chainL look N (k + 1) out n = ([], 15) := by
 unfold chainL; rw [if_neg (by omega), hl]; dsimp only; rw [if_pos hk]
theorem chain_form {look : Int → Option PageV} {N k : Nat} {out : List Int} {n : Int} {g : PageV} (h : out.length < N) (hl : look n = some g) (hk : g.kind = 3) (hc : ¬ (g.data.length = min (N - out.length) 480 ∧ ((g.next = 0) ↔ (N - out.length ≤ 480)))) : chainL look N (k + 1) out n = ([], 5) := by
 unfold chainL; rw [if_neg (by omega), hl]; dsimp only; rw [if_neg (by simpa using hk), if_neg hc]
theorem chain_ok {look : Int → Option PageV} {N k : Nat} {out : List Int} {n : Int} {g : PageV} (h : out.length < N) (hl : look n = some g) (hk : g.kind = 3) (hc : g.data.length = min (N - out.length) 480 ∧ ((g.next = 0) ↔ (N - out.length ≤ 480))) : chainL look N (k + 1) out n = chainL look N k (out ++ g.data) g.next := by
 conv => lhs; unfold chainL
 rw [if_neg (by omega), hl]; dsimp only; rw [if_neg (by simpa using hk), if_pos hc]
def lenV : Value → Nat
 | .slice _ n _ => n
 | _ => 0
set_option maxRecDepth 100000 in
set_option maxHeartbeats 4000000 in
theorem bload_long (v : Nat) (s : VaultS) (look : Int → Option PageV) (hl : Looks s look) (kv vv : Value) (hkv : IsSl kv) (hvv : IsSl vv) (c : Int) (N : Nat) (hN : 32 < N ∧ N ≤ 3840) (F : Pr) (w : World) (hF : Sat ((VaultA v s).star F) w) :
 Calls Tryz.prog 71 #[.pointer (some ⟨v, 0, none⟩), itemV kv vv c N] w fun e w' =>
  Stays w w' ∧ ∃ o, e = .returned (.tuple #[o, .int .i64 (chainL look N N [] c).2]) ∧ Sat ((BytesRow o (chainL look N N [] c).1).star ((VaultA v s).star F)) w' := by
 obtain ⟨ak, mk, ck, rfl⟩ := hkv
 obtain ⟨av, mv, cv, rfl⟩ := hvv
 have h1 := hF.alloc (itemC (.slice ak mk ck) (.slice av mv cv) c N)
 have h2 := row_room 5 (.int .u8 0) N (by simp only [maxLen]; omega) h1
 rw [show (w.alloc (itemC (.slice ak mk ck) (.slice av mv cv) c N)).heap.size = w.heap.size + 1 by simp] at h2
 obtain ⟨i0, hi, hz0, hz1, hz2⟩ := info_parts infoByte
 have hmk : ∀ wx : World, (Instr.makeSlice 29 (.int .i64 0) (.int .i64 (N : Int))).run Tryz.prog wx = .ok (.slice (some ⟨wx.heap.size, 0, none⟩) 0 N) (wx.alloc (.cells (madeCells #[.int .u8 0] N) 5)) := by
  intro wx
  have := run_makeSlice (P := Tryz.prog) wx 29 5 i0 (.int .u8 0) Tryz.underlying29 hi hz0 .i64 .i64 0 N (by omega) (by omega) (by rw [hz1]; omega) (by rw [hz2]; omega) (by omega)
  rw [hz1, Int.toNat_natCast, Nat.mul_one] at this
  exact this
 have H2 := Lib.hid h2
 obtain ⟨R, hR⟩ : ∃ R, R = chainL look N N [] c := ⟨_, rfl⟩
 rw [← hR]
 have HR := Lib.hid hR
 clear h1 h2 hF hR
 go_enter Tryz.func71, Tryz.ntmps71
 go_wp2
 go_loopw [6, 7] (fun o n wr => ∃ (out : List Int) (c' : Int) (k : Nat), n = .int .i64 c' ∧ Stays w wr ∧ Hid (N - out.length ≤ k) ∧ Hid (out.length ≤ 3840) ∧ Hid (chainL look N k out c' = R) ∧
  Sat ((BytesRow o out).star ((Pr.pts w.heap.size (itemC (.slice ak mk ck) (.slice av mv cv) c N)).star ((VaultA v s).star F))) wr) (fun o _ _ => N - lenV o)
 case atStart => exact ⟨[], c, N, rfl, ((Stays.refl w).alloc _).alloc _, Lib.hid (by simp), Lib.hid (by simp), Lib.hid HR.out.symm, H2.out⟩
 case round =>
  obtain ⟨out, c', k, rfl, hst, hk, hob, hch, hinv⟩ := hrel
  obtain ⟨_, _, _, f3, _, zI⟩ := pts4 hinv.right
  obtain ⟨ao, co, eo, _, _⟩ := Row.read hinv
  subst eo
  rcases Nat.lt_or_ge out.length N with hlt | hge
  · obtain ⟨k, rfl⟩ : ∃ k', k = k' + 1 := ⟨k - 1, by have := hk.out; omega⟩
    have hob2 : (out.length : Int) ≤ 3840 := by have := hob.out; omega
    have h4 := hinv.perm (B := (VaultA v s).star ((BytesRow (.slice ao out.length co) out).star ((Pr.pts w.heap.size (itemC (.slice ak mk ck) (.slice av mv cv) c N)).star F))) (by ac_rfl)
    cases hlk : look c' with
    | none =>
     have HCH := Lib.hid (show R = ([], 15) from by rw [← hch.out]; exact chain_none hlt hlk)
     clear hch
     have C := Lib.hid (read_none v s c' _ _ h4 (hl.none c' hlk))
     have H4 := Lib.hid h4
     clear hinv h4
     go_wp2_with fail
     refine C.out.mono ?_
     rintro e w3 ⟨rfl, ho⟩
     have H5 := Lib.hid (H4.out.only ho)
     have HST := Lib.hid ((hst.trans ho.st).alloc (pageC 0 0 (.slice none 0 0) (.slice none 0 0) 0))
     have g3 := ho.cell f3
     have zI3 : w.heap.size < w3.heap.size := Nat.lt_of_lt_of_le zI ho.st.size
     clear H4 C f3 hst ho
     go_wp2
     go_ret2
     refine ⟨HST.out, .slice none 0 0, ?_, ?_⟩
     · rw [HCH.out]; rfl
     · rw [HCH.out]
       have h6 := (H5.out.alloc (pageC 0 0 (.slice none 0 0) (.slice none 0 0) 0)).right
       have h7 : Sat ((VaultA v s).star F) _ := (h6.perm (B := (BytesRow (.slice ao out.length co) out).star ((Pr.pts w.heap.size (itemC (.slice ak mk ck) (.slice av mv cv) c N)).star ((VaultA v s).star F))) (by ac_rfl)).right.right
       show Sat ((Row 5 1 (.slice none 0 0) 0 []).star _) _
       rw [Row.nil, Pr.emp_star]
       exact h7
    | some g =>
     obtain ⟨hb, hc1, hon, hfit⟩ := hl.some c' g hlk
     have C := Lib.hid (read_some v s c' hb g hfit _ _ h4 hc1 hon)
     have HFIT := Lib.hid hfit
     have HLK := Lib.hid hlk
     clear hinv h4 hon hc1 hfit hlk
     go_wp2_with fail
     refine C.out.mono ?_
     rintro e w3 ⟨hst3, pv, rfl, h', hpv, h5⟩
     obtain ⟨vi, vd, rfl, hi0, hb0⟩ := hpv
     obtain ⟨ai, ci, rfl, _, _⟩ := items_rd hi0
     obtain ⟨ad, cd, rfl⟩ := bytes_shape hb0
     have h6 : Sat ((BytesRow (.slice ao out.length co) out).star ((Pr.pts w.heap.size (itemC (.slice ak mk ck) (.slice av mv cv) c N)).star ((Pr.own h').star ((VaultA v s).star F)))) w3 := h5.perm (by ac_rfl)
     have h7 := h6.alloc (pageC g.kind g.level (.slice ai g.items.length ci) (.slice ad g.data.length cd) g.next)
     have h8 : Sat ((BytesRow (.slice ao out.length co) out).star ((Pr.pts w.heap.size (itemC (.slice ak mk ck) (.slice av mv cv) c N)).star ((Pr.own h').star ((Pr.pts w3.heap.size (pageC g.kind g.level (.slice ai g.items.length ci) (.slice ad g.data.length cd) g.next)).star ((VaultA v s).star F))))) (w3.alloc (pageC g.kind g.level (.slice ai g.items.length ci) (.slice ad g.data.length cd) g.next)) := h7.perm (by ac_rfl)
     obtain ⟨_, _, _, g3, _, zI3⟩ := pts4 h6.right
     have hle' := h8.right.right.own
     have H8 := Lib.hid h8
     have HLE := Lib.hid hle'
     have HB0 := Lib.hid hb0
     have HST := Lib.hid ((hst.trans hst3).alloc (pageC g.kind g.level (.slice ai g.items.length ci) (.slice ad g.data.length cd) g.next))
     clear h5 h6 h7 h8 hle' hb0 hi0 C hst hst3 f3 zI
     by_cases hkd : g.kind = 3
     · by_cases hc2 : g.data.length = min (N - out.length) 480 ∧ ((g.next = 0) ↔ (N - out.length ≤ 480))
       · have HCH := Lib.hid (show chainL look N k (out ++ g.data) g.next = R from by rw [← hch.out]; exact (chain_ok hlt HLK.out hkd hc2).symm)
         have hkn : (g.kind != 3) = false := by rw [bne_eq_false_iff_eq]; exact hkd
         have hm : min ((N : Int) - (out.length : Int)) 480 = (g.data.length : Int) := by have := hc2.1; omega
         have HDL := Lib.hid (show 1 ≤ g.data.length ∧ g.data.length ≤ 480 ∧ out.length + g.data.length ≤ N by have := hc2.1; omega)
         have hsub : ((N : Int) - (out.length : Int) ≤ 480) = (N - out.length ≤ 480) := by apply propext; omega
         have hBB : ∃ B : Bool, (g.next == 0) = B ∧ decide ((N : Int) - (out.length : Int) ≤ 480) = B := by
          by_cases hq : N - out.length ≤ 480
          · exact ⟨true, by rw [beq_iff_eq]; exact hc2.2.2 hq, by rw [decide_eq_true_eq]; omega⟩
          · exact ⟨false, by rw [beq_eq_false_iff_ne]; exact fun h => hq (hc2.2.1 h), by rw [decide_eq_false_iff_not]; omega⟩
         obtain ⟨B, hnb, hdb⟩ := hBB
         have HN := Lib.hid (show ∀ u ∈ g.data.map (Value.int .u8), u.oneCell' = true by simp [Value.oneCell'])
         have hdl := HDL.out.2.1
         have hAb : out.length ≤ 3840 := hob.out
         have HKD := Lib.hid hkd
         have HLT := Lib.hid hlt
         clear hc2 hch hsub hkd
         cases B
         all_goals
          go_wp2_with (
           at_builtin
           refine wpList_append_row rfl _ _ _ rfl 5 i0 (.int .u8 0) 1 1 Tryz.underlying29 hi hz0 hz1 hz2 rfl _ _ _ rfl H8.out h' HLE.out _ _ _ rfl HB0.out HN.out (by simp only [maxLen]; omega) (by omega) ?_
           intro v' w1 hsat hgr _
           have g4 : w1.cell? ⟨w3.heap.size, 4, none⟩ = some (.int .i64 g.next) := (pts5 (hsat.right.right.right)).2.2.2.2.1
           have HSAT := Lib.hid hsat
           clear hsat)
          all_goals
           refine ⟨⟨out ++ g.data, g.next, k, rfl, HST.out.of_grown hgr, Lib.hid ?_, Lib.hid ?_, HCH, ?_⟩, ?_⟩
           · have := hk.out; have := HDL.out; rw [List.length_append]; omega
           · have := HDL.out; have := HLT.out; rw [List.length_append]; omega
           · have h9 := HSAT.out
             rw [← List.map_append, ← List.length_append] at h9
             change Sat ((BytesRow v' (out ++ g.data)).star _) _ at h9
             have h10 : Sat ((Pr.own h').star ((Pr.pts w3.heap.size (pageC g.kind g.level (.slice ai g.items.length ci) (.slice ad g.data.length cd) g.next)).star ((BytesRow v' (out ++ g.data)).star ((Pr.pts w.heap.size (itemC (.slice ak mk ck) (.slice av mv cv) c N)).star ((VaultA v s).star F))))) w1 := Sat.perm h9 (by ac_rfl)
             exact h10.right.right
           · obtain ⟨a3, c3, e3, _, _⟩ := Row.read HSAT.out
             subst e3
             have := HDL.out
             have := HLT.out
             simp only [lenV]
             omega
       · have hkn : (g.kind != 3) = false := by rw [bne_eq_false_iff_eq]; exact hkd
         obtain ⟨M, hM⟩ : ∃ M : Nat, M = min (N - out.length) 480 := ⟨_, rfl⟩
         have hm : min ((N : Int) - (out.length : Int)) 480 = (M : Int) := by omega
         have HM := Lib.hid hM
         have hdl : g.data.length ≤ 480 := HFIT.out.d
         have hAb : out.length ≤ 3840 := hob.out
         have HCH := Lib.hid (show R = ([], 5) from by rw [← hch.out]; exact chain_form hlt HLK.out hkd hc2)
         have HC2 := Lib.hid hc2
         clear hch hc2 hkd hM
         have fin : ∀ w', Sat ((VaultA v s).star F) w' → Sat ((BytesRow (.slice none 0 0) R.1).star ((VaultA v s).star F)) w' := by
          intro w' h
          rw [HCH.out]
          show Sat ((Row 5 1 (.slice none 0 0) 0 []).star _) _
          rw [Row.nil, Pr.emp_star]
          exact h
         have HR2 := Lib.hid (show R.2 = 5 by rw [HCH.out])
         by_cases hD : g.data.length = min (N - out.length) 480
         · have hm2 : min ((N : Int) - (out.length : Int)) 480 = (g.data.length : Int) := by have := HM.out; omega
           clear hm
           have hBB : ∃ B : Bool, (g.next == 0) = B ∧ decide ((N : Int) - (out.length : Int) ≤ 480) = !B := by
            have h3 : ¬ ((g.next = 0) ↔ (N - out.length ≤ 480)) := fun h => HC2.out ⟨hD, h⟩
            by_cases hq : g.next = 0
            · exact ⟨true, by rw [beq_iff_eq]; exact hq, by rw [Bool.not_true, decide_eq_false_iff_not]; intro h; exact h3 ⟨fun _ => by omega, fun _ => hq⟩⟩
            · exact ⟨false, by rw [beq_eq_false_iff_ne]; exact hq, by rw [Bool.not_false, decide_eq_true_eq]; exact Classical.byContradiction fun h => h3 ⟨fun h2 => absurd h2 hq, fun h2 => absurd (by omega) h⟩⟩
           obtain ⟨B, hnb, hdb⟩ := hBB
           have HD := Lib.hid hD
           clear hD
           cases B
           all_goals
            simp only [Bool.not_true, Bool.not_false] at hdb
            go_wp2
            all_goals
             go_ret2
             exact ⟨HST.out, .slice none 0 0, (by rw [HR2.out]; rfl), fin _ H8.out.right.right.right.right⟩
         · have hDn : ¬ g.data.length = M := by have := HM.out; omega
           have HD := Lib.hid hD
           clear hD
           go_wp2
           all_goals
            go_ret2
            exact ⟨HST.out, .slice none 0 0, (by rw [HR2.out]; rfl), fin _ H8.out.right.right.right.right⟩
     · have hkn : (g.kind != 3) = true := by rw [bne_iff_ne]; exact hkd
       have HCH := Lib.hid (show R = ([], 15) from by rw [← hch.out]; exact chain_kind hlt HLK.out hkd)
       clear hch
       go_wp2
       go_ret2
       refine ⟨HST.out, .slice none 0 0, ?_, ?_⟩
       · rw [HCH.out]; rfl
       · rw [HCH.out]
         show Sat ((Row 5 1 (.slice none 0 0) 0 []).star _) _
         rw [Row.nil, Pr.emp_star]
         exact H8.out.right.right.right.right
  · have HCH := Lib.hid (show R = (out, 0) from by rw [← hch.out]; exact chain_end hge)
    have HINV := Lib.hid hinv
    have hge2 : ¬ ((out.length : Int) < (N : Int)) := by omega
    clear hch hinv
    go_wp2
    go_ret2
    refine ⟨hst, .slice ao out.length co, ?_, ?_⟩
    · rw [HCH.out]; rfl
    · rw [HCH.out]
      exact (HINV.out.perm (Pr.left_comm _ _ _)).right
end Go.Proofs.YtbobcmimkonnoaaGreat.bload
