/- The program's Load of any item; the conditions stand as hypotheses. -/
import Derived.Test.YtbobcmimkonnoaaGreatBlobAnswersM26
import Derived.Test.YtbobcmimkonnoaaGreatBlobAnswersM28
import Derived.Test.YtbobcmimkonnoaaGreatBlobAnswersM19
import Derived.Test.YtbobcmimkonnoaaGreatBlobAnswersM01
namespace Go.Proofs.YtbobcmimkonnoaaGreat.bload2
open ChangeShapes WideShapes ChangeAt RowKit Sl Cop clone page vault1 vault2 items copyP bload
set_option maxRecDepth 100000 in
set_option maxHeartbeats 2000000 in
theorem bload_bad (v : Nat) (x : ItemV) (ak av : Option Addr) (ck cv : Nat) (hb : x.size < 0 ∨ 3840 < x.size ∨ (x.size ≤ 32 ∧ (x.value.length : Int) ≠ x.size)) (w : World) :
 Calls Tryz.prog 71 #[.pointer (some ⟨v, 0, none⟩), itemV (.slice ak x.key.length ck) (.slice av x.value.length cv) x.child x.size] w fun e w' => e = .returned (.tuple #[.slice none 0 0, .int .i64 8]) ∧ Only w w' := by
 by_cases h1 : x.size < 0
 · go_enter Tryz.func71, Tryz.ntmps71
   go_wp2
   go_ret2
   exact ⟨rfl, (Only.refl w).alloc _⟩
 · by_cases h2 : 3840 < x.size
   · go_enter Tryz.func71, Tryz.ntmps71
     go_wp2
     go_ret2
     exact ⟨rfl, (Only.refl w).alloc _⟩
   · have h3 : x.size ≤ 32 := by omega
     have h4 : ((x.value.length : Int) != x.size) = true := by rw [bne_iff_ne]; omega
     go_enter Tryz.func71, Tryz.ntmps71
     go_wp2
     all_goals
      go_ret2
      exact ⟨rfl, (Only.refl w).alloc _⟩
set_option maxRecDepth 100000 in
set_option maxHeartbeats 2000000 in
theorem bload_short (v : Nat) (x : ItemV) (ak av : Option Addr) (ck cv : Nat) (h : Hp) (hv : Bytes h (.slice av x.value.length cv) x.value) (hs : 0 ≤ x.size ∧ x.size ≤ 32 ∧ (x.value.length : Int) = x.size) (F : Pr) (w : World) (hF : Sat ((Pr.own h).star F) w) :
 Calls Tryz.prog 71 #[.pointer (some ⟨v, 0, none⟩), itemV (.slice ak x.key.length ck) (.slice av x.value.length cv) x.child x.size] w fun e w' =>
  Stays w w' ∧ ∃ o, e = .returned (.tuple #[o, .int .i64 0]) ∧ Sat ((BytesRow o x.value).star ((Pr.own h).star F)) w' := by
 obtain ⟨h1, h2, h3⟩ := hs
 have h0 := hF.alloc (itemC (.slice ak x.key.length ck) (.slice av x.value.length cv) x.child x.size)
 have C := Lib.hid (bclone_any h _ x.value _ _ h0 h0.right.own hv (by omega))
 have hne : ((x.value.length : Int) != x.size) = false := by rw [bne_eq_false_iff_eq]; exact h3
 have HST := Lib.hid ((Stays.refl w).alloc (itemC (.slice ak x.key.length ck) (.slice av x.value.length cv) x.child x.size))
 have H3 := Lib.hid h3
 have h4 : ¬ 3840 < x.size := by omega
 have h5 : ¬ x.size < 0 := by omega
 clear hF h0 hv h3 h1
 go_enter Tryz.func71, Tryz.ntmps71
 go_wp2_with fail
 refine C.out.mono ?_
 rintro e w1 ⟨o, rfl, hs1, st1⟩
 have S1 := Lib.hid hs1
 obtain ⟨ao, co, rfl, _, _⟩ := Row.read hs1
 clear hs1
 go_wp2
 go_ret2
 exact ⟨HST.out.trans st1, _, rfl, (S1.out.perm (Pr.left_comm _ _ _)).right⟩
/-- Any item. -/
theorem bload_any (v : Nat) (s : VaultS) (look : Int → Option PageV) (hl : Looks s look) (x : ItemV) (h : Hp) (iv : Value) (hi : ItemIn h iv x) (F : Pr) (w : World) (hF : Sat ((VaultA v s).star ((Pr.own h).star F)) w) :
 Calls Tryz.prog 71 #[.pointer (some ⟨v, 0, none⟩), iv] w fun e w' =>
  Stays w w' ∧ ∃ o, e = .returned (.tuple #[o, .int .i64 (valueL look x.size x.child x.value).2]) ∧ Sat ((BytesRow o (valueL look x.size x.child x.value).1).star ((VaultA v s).star ((Pr.own h).star F))) w' := by
 obtain ⟨kv, vv, rfl, hk, hvv⟩ := hi
 obtain ⟨ak, ck, rfl⟩ := bytes_shape hk
 obtain ⟨av, cv, rfl⟩ := bytes_shape hvv
 unfold valueL
 by_cases hb : x.size < 0 ∨ 3840 < x.size ∨ (x.size ≤ 32 ∧ (x.value.length : Int) ≠ x.size)
 · rw [if_pos hb]
   refine (bload_bad v x ak av ck cv hb w).mono ?_
   rintro e w' ⟨rfl, ho⟩
   refine ⟨ho.st, _, rfl, ?_⟩
   show Sat ((Row 5 1 (.slice none 0 0) 0 []).star _) _
   rw [Row.nil, Pr.emp_star]
   exact hF.only ho
 · rw [if_neg hb]
   by_cases h32 : x.size ≤ 32
   · rw [if_pos h32]
     refine (bload_short v x ak av ck cv h hvv (by omega) _ w (hF.perm (Pr.left_comm _ _ _))).mono ?_
     rintro e w' ⟨st, o, rfl, h1⟩
     exact ⟨st, o, rfl, h1.perm (by ac_rfl)⟩
   · rw [if_neg h32]
     have e1 : x.size = ((x.size.toNat : Nat) : Int) := by omega
     have := bload_long v s look hl (.slice ak x.key.length ck) (.slice av x.value.length cv) ⟨_, _, _, rfl⟩ ⟨_, _, _, rfl⟩ x.child x.size.toNat (by omega) _ w hF
     rw [← e1] at this
     exact this
end Go.Proofs.YtbobcmimkonnoaaGreat.bload2
namespace Go.Proofs.YtbobcmimkonnoaaGreat.rbload
open ChangeShapes WideShapes ChangeAt RowKit Sl Cop pool1 pool2 pool5 pool9 clone page vault1 vault2 vault3 vault6 blob2 items copyP vload ref1 ref2 bload
/-- What the document's vault has on its pages, as Read tells it. -/
structure RLooks (s : PoolS) (gs : List PageV) (look : Int → Option PageV) : Prop where
 none : ∀ n, look n = none → s.count n = 0
 some : ∀ n g, look n = some g → s.count n ≠ 0 ∧ pgAt gs n = g ∧ Fit g
set_option maxRecDepth 100000 in
set_option maxHeartbeats 4000000 in
theorem rbload_long (v : Nat) (s : PoolS) (gs : List PageV) (hush : RTail) (look : Int → Option PageV) (hl : RLooks s gs look) (kv vv : Value) (hkv : IsSl kv) (hvv : IsSl vv) (c : Int) (N : Nat) (hN : 32 < N ∧ N ≤ 3840) (F : Pr) (w : World) (hF : Sat ((RefA v s gs hush).star F) w) :
 Calls Tryz.prog 129 #[.pointer (some ⟨v, 0, none⟩), itemV kv vv c N] w fun e w' =>
  Stays w w' ∧ ∃ o, e = .returned (.tuple #[o, .int .i64 (chainL look N N [] c).2]) ∧ Sat ((BytesRow o (chainL look N N [] c).1).star ((RefA v s gs hush).star F)) w' := by
 obtain ⟨ak, mk, ck, rfl⟩ := hkv
 obtain ⟨av, mv, cv, rfl⟩ := hvv
 have h1 := hF.alloc (itemC (.slice ak mk ck) (.slice av mv cv) c N)
 have h2 : Sat ((Row 5 1 (.slice (some ⟨w.heap.size + 1, 0, none⟩) 0 0) 0 []).star ((Pr.pts w.heap.size (itemC (.slice ak mk ck) (.slice av mv cv) c N)).star ((RefA v s gs hush).star F))) ((w.alloc (itemC (.slice ak mk ck) (.slice av mv cv) c N)).alloc (.cells #[] 5)) := by
  have h3 := h1.alloc (.cells #[] 5)
  rw [show (w.alloc (itemC (.slice ak mk ck) (.slice av mv cv) c N)).heap.size = w.heap.size + 1 by simp] at h3
  exact Row.mk' (xs := []) (sp := []) (by simp) (by simp) (Nat.le_refl _) (by simp) (by simpa using h3)
 obtain ⟨i0, hi, hz0, hz1, hz2⟩ := info_parts infoByte
 have H2 := Lib.hid h2
 obtain ⟨R, hR⟩ : ∃ R, R = chainL look N N [] c := ⟨_, rfl⟩
 rw [← hR]
 have HR := Lib.hid hR
 clear h1 h2 hF hR
 go_enter Tryz.func129, Tryz.ntmps129
 go_wp2
 go_loopw [6, 7] (fun o n wr => ∃ (out : List Int) (c' : Int) (k : Nat), n = .int .i64 c' ∧ Stays w wr ∧ Hid (N - out.length ≤ k) ∧ Hid (out.length ≤ 3840) ∧ Hid (chainL look N k out c' = R) ∧
  Sat ((BytesRow o out).star ((Pr.pts w.heap.size (itemC (.slice ak mk ck) (.slice av mv cv) c N)).star ((RefA v s gs hush).star F))) wr) (fun o _ _ => N - lenV o)
 case atStart => exact ⟨[], c, N, rfl, ((Stays.refl w).alloc _).alloc _, Lib.hid (by simp), Lib.hid (by simp), Lib.hid HR.out.symm, H2.out⟩
 case round =>
  obtain ⟨out, c', k, rfl, hst, hk, hob, hch, hinv⟩ := hrel
  obtain ⟨_, _, _, f3, _, zI⟩ := pts4 hinv.right
  obtain ⟨ao, co, eo, _, _⟩ := Row.read hinv
  subst eo
  rcases Nat.lt_or_ge out.length N with hlt | hge
  · obtain ⟨k, rfl⟩ : ∃ k', k = k' + 1 := ⟨k - 1, by have := hk.out; omega⟩
    have hob2 : (out.length : Int) ≤ 3840 := by have := hob.out; omega
    have h4 := hinv.perm (B := (RefA v s gs hush).star ((BytesRow (.slice ao out.length co) out).star ((Pr.pts w.heap.size (itemC (.slice ak mk ck) (.slice av mv cv) c N)).star F))) (by ac_rfl)
    cases hlk : look c' with
    | none =>
     have HCH := Lib.hid (show R = ([], 15) from by rw [← hch.out]; exact chain_none hlt hlk)
     clear hch
     have C := Lib.hid (rread_none v s gs hush c' _ _ h4 (hl.none c' hlk))
     have H4 := Lib.hid h4
     clear hinv h4
     go_wp2_with fail
     refine C.out.mono ?_
     rintro e w3 ⟨rfl, ho⟩
     have H5 := Lib.hid (H4.out.only ho)
     have HST := Lib.hid ((hst.trans ho.st).alloc (pageC 0 0 (.slice none 0 0) (.slice none 0 0) 0))
     have g3 := ho.cell f3
     have zI3 : w.heap.size < w3.heap.size := Nat.lt_of_lt_of_le zI ho.st.size
     clear H4 C f3 hst ho
     go_wp2
     go_ret2
     refine ⟨HST.out, .slice none 0 0, ?_, ?_⟩
     · rw [HCH.out]; rfl
     · rw [HCH.out]
       have h6 := (H5.out.alloc (pageC 0 0 (.slice none 0 0) (.slice none 0 0) 0)).right
       have h7 : Sat ((RefA v s gs hush).star F) _ := (h6.perm (B := (BytesRow (.slice ao out.length co) out).star ((Pr.pts w.heap.size (itemC (.slice ak mk ck) (.slice av mv cv) c N)).star ((RefA v s gs hush).star F))) (by ac_rfl)).right.right
       show Sat ((Row 5 1 (.slice none 0 0) 0 []).star _) _
       rw [Row.nil, Pr.emp_star]
       exact h7
    | some g =>
     obtain ⟨hc1, hon, hfit⟩ := hl.some c' g hlk
     have C := Lib.hid (rread_some v s gs hush c' _ _ h4 hc1)
     rw [hon] at C
     have HFIT := Lib.hid hfit
     have HLK := Lib.hid hlk
     clear hinv h4 hon hc1 hfit hlk
     go_wp2_with fail
     refine C.out.mono ?_
     rintro e w3 ⟨hst3, pv, rfl, h', hpv, h5⟩
     obtain ⟨vi, vd, rfl, hi0, hb0⟩ := hpv
     obtain ⟨ai, ci, rfl, _, _⟩ := items_rd hi0
     obtain ⟨ad, cd, rfl⟩ := bytes_shape hb0
     have h6 : Sat ((BytesRow (.slice ao out.length co) out).star ((Pr.pts w.heap.size (itemC (.slice ak mk ck) (.slice av mv cv) c N)).star ((Pr.own h').star ((RefA v s gs hush).star F)))) w3 := h5.perm (by ac_rfl)
     have h7 := h6.alloc (pageC g.kind g.level (.slice ai g.items.length ci) (.slice ad g.data.length cd) g.next)
     have h8 : Sat ((BytesRow (.slice ao out.length co) out).star ((Pr.pts w.heap.size (itemC (.slice ak mk ck) (.slice av mv cv) c N)).star ((Pr.own h').star ((Pr.pts w3.heap.size (pageC g.kind g.level (.slice ai g.items.length ci) (.slice ad g.data.length cd) g.next)).star ((RefA v s gs hush).star F))))) (w3.alloc (pageC g.kind g.level (.slice ai g.items.length ci) (.slice ad g.data.length cd) g.next)) := h7.perm (by ac_rfl)
     obtain ⟨_, _, _, g3, _, zI3⟩ := pts4 h6.right
     have hle' := h8.right.right.own
     have H8 := Lib.hid h8
     have HLE := Lib.hid hle'
     have HB0 := Lib.hid hb0
     have HST := Lib.hid ((hst.trans hst3).alloc (pageC g.kind g.level (.slice ai g.items.length ci) (.slice ad g.data.length cd) g.next))
     clear h5 h6 h7 h8 hle' hb0 hi0 C hst hst3 f3 zI
     by_cases hkd : g.kind = 3
     · by_cases hc2 : g.data.length = min (N - out.length) 480 ∧ ((g.next = 0) ↔ (N - out.length ≤ 480))
       · have HCH := Lib.hid (show chainL look N k (out ++ g.data) g.next = R from by rw [← hch.out]; exact (chain_ok hlt HLK.out hkd hc2).symm)
         have hkn : (g.kind != 3) = false := by rw [bne_eq_false_iff_eq]; exact hkd
         have HDL := Lib.hid (show 1 ≤ g.data.length ∧ g.data.length ≤ 480 ∧ out.length + g.data.length ≤ N by have := hc2.1; omega)
         have hBB : (Hid (N - out.length ≤ 480) ∧ (N : Int) - (out.length : Int) = (g.data.length : Int) ∧ (g.next == 0) = true ∧ ((out.length : Int) + (g.data.length : Int) == (N : Int)) = true) ∨ ((480 : Int) < (N : Int) - (out.length : Int) ∧ ((g.data.length : Int) != 480) = false ∧ (g.next == 0) = false ∧ ((out.length : Int) + 480 == (N : Int)) = false) := by
          by_cases hq : N - out.length ≤ 480
          · exact .inl ⟨Lib.hid hq, by have := hc2.1; omega, by rw [beq_iff_eq]; exact hc2.2.2 hq, by rw [beq_iff_eq]; have := hc2.1; omega⟩
          · exact .inr ⟨by omega, by rw [bne_eq_false_iff_eq]; have := hc2.1; omega, by rw [beq_eq_false_iff_ne]; exact fun h => hq (hc2.2.1 h), by rw [beq_eq_false_iff_ne]; omega⟩
         have HN := Lib.hid (show ∀ u ∈ g.data.map (Value.int .u8), u.oneCell' = true by simp [Value.oneCell'])
         have hdl := HDL.out.2.1
         have hAb : out.length ≤ 3840 := hob.out
         have HKD := Lib.hid hkd
         have HLT := Lib.hid hlt
         clear hc2 hch hkd
         rcases hBB with ⟨_, hw1, hw2, hw3⟩ | ⟨hw1, hw4, hw2, hw3⟩
         all_goals
          go_wp2_with (
           at_builtin
           refine wpList_append_row rfl _ _ _ rfl 5 i0 (.int .u8 0) 1 1 Tryz.underlying29 hi hz0 hz1 hz2 rfl _ _ _ rfl H8.out h' HLE.out _ _ _ rfl HB0.out HN.out (by simp only [maxLen]; omega) (by omega) ?_
           intro v' w1 hsat hgr _
           have g4 : w1.cell? ⟨w3.heap.size, 4, none⟩ = some (.int .i64 g.next) := (pts5 (hsat.right.right.right)).2.2.2.2.1
           have HSAT := Lib.hid hsat
           clear hsat)
          all_goals
           refine ⟨⟨out ++ g.data, g.next, k, rfl, HST.out.of_grown hgr, Lib.hid ?_, Lib.hid ?_, HCH, ?_⟩, ?_⟩
           · have := hk.out; have := HDL.out; rw [List.length_append]; omega
           · have := HDL.out; have := HLT.out; rw [List.length_append]; omega
           · have h9 := HSAT.out
             rw [← List.map_append, ← List.length_append] at h9
             change Sat ((BytesRow v' (out ++ g.data)).star _) _ at h9
             have h10 : Sat ((Pr.own h').star ((Pr.pts w3.heap.size (pageC g.kind g.level (.slice ai g.items.length ci) (.slice ad g.data.length cd) g.next)).star ((BytesRow v' (out ++ g.data)).star ((Pr.pts w.heap.size (itemC (.slice ak mk ck) (.slice av mv cv) c N)).star ((RefA v s gs hush).star F))))) w1 := Sat.perm h9 (by ac_rfl)
             exact h10.right.right
           · obtain ⟨a3, c3, e3, _, _⟩ := Row.read HSAT.out
             subst e3
             have := HDL.out
             have := HLT.out
             simp only [lenV]
             omega
       · have hkn : (g.kind != 3) = false := by rw [bne_eq_false_iff_eq]; exact hkd
         have hdl : g.data.length ≤ 480 := HFIT.out.d
         have hAb : out.length ≤ 3840 := hob.out
         have HCH := Lib.hid (show R = ([], 5) from by rw [← hch.out]; exact chain_form hlt HLK.out hkd hc2)
         have HC2 := Lib.hid hc2
         clear hch hc2 hkd
         have fin : ∀ w', Sat ((RefA v s gs hush).star F) w' → Sat ((BytesRow (.slice none 0 0) R.1).star ((RefA v s gs hush).star F)) w' := by
          intro w' h
          rw [HCH.out]
          show Sat ((Row 5 1 (.slice none 0 0) 0 []).star _) _
          rw [Row.nil, Pr.emp_star]
          exact h
         have HR2 := Lib.hid (show R.2 = 5 by rw [HCH.out])
         have HNX := Lib.hid (show g.data.length = min (N - out.length) 480 → ¬ ((g.next = 0) ↔ (N - out.length ≤ 480)) from fun h1 h2 => HC2.out ⟨h1, h2⟩)
         by_cases hq : N - out.length ≤ 480
         · by_cases hD : g.data.length = N - out.length
           · have hw1 : (N : Int) - (out.length : Int) = (g.data.length : Int) := by omega
             have hw2 : (g.next == 0) = false := by rw [beq_eq_false_iff_ne]; exact fun h => HNX.out (by omega) ⟨fun _ => hq, fun _ => h⟩
             have hw3 : ((out.length : Int) + (g.data.length : Int) == (N : Int)) = true := by rw [beq_iff_eq]; omega
             have HD := Lib.hid hD
             clear hD hq
             go_wp2
             all_goals
              go_ret2
              exact ⟨HST.out, .slice none 0 0, (by rw [HR2.out]; rfl), fin _ H8.out.right.right.right.right⟩
           · have hDn : ((g.data.length : Int) != (N : Int) - (out.length : Int)) = true := by rw [bne_iff_ne]; omega
             have hq1 : (N : Int) - (out.length : Int) ≤ 480 := by omega
             have HD := Lib.hid hD
             clear hD hq
             go_wp2
             all_goals
              go_ret2
              exact ⟨HST.out, .slice none 0 0, (by rw [HR2.out]; rfl), fin _ H8.out.right.right.right.right⟩
         · have hq1 : (480 : Int) < (N : Int) - (out.length : Int) := by omega
           by_cases hD : g.data.length = 480
           · have hw4 : ((g.data.length : Int) != 480) = false := by rw [bne_eq_false_iff_eq]; omega
             have hw2 : (g.next == 0) = true := by
              rw [beq_iff_eq]
              exact Decidable.byContradiction fun h => HNX.out (by omega) ⟨fun h2 => absurd h2 h, fun h2 => absurd h2 hq⟩
             have hw3 : ((out.length : Int) + 480 == (N : Int)) = false := by rw [beq_eq_false_iff_ne]; omega
             have HD := Lib.hid hD
             clear hD hq
             go_wp2
             all_goals
              go_ret2
              exact ⟨HST.out, .slice none 0 0, (by rw [HR2.out]; rfl), fin _ H8.out.right.right.right.right⟩
           · have hDn : ((g.data.length : Int) != 480) = true := by rw [bne_iff_ne]; omega
             have HD := Lib.hid hD
             clear hD hq
             go_wp2
             all_goals
              go_ret2
              exact ⟨HST.out, .slice none 0 0, (by rw [HR2.out]; rfl), fin _ H8.out.right.right.right.right⟩
     · have hkn : (g.kind != 3) = true := by rw [bne_iff_ne]; exact hkd
       have HCH := Lib.hid (show R = ([], 15) from by rw [← hch.out]; exact chain_kind hlt HLK.out hkd)
       clear hch
       go_wp2
       go_ret2
       refine ⟨HST.out, .slice none 0 0, ?_, ?_⟩
       · rw [HCH.out]; rfl
       · rw [HCH.out]
         show Sat ((Row 5 1 (.slice none 0 0) 0 []).star _) _
         rw [Row.nil, Pr.emp_star]
         exact H8.out.right.right.right.right
  · have HCH := Lib.hid (show R = (out, 0) from by rw [← hch.out]; exact chain_end hge)
    have HINV := Lib.hid hinv
    have hge2 : ¬ ((out.length : Int) < (N : Int)) := by omega
    clear hch hinv
    go_wp2
    go_ret2
    refine ⟨hst, .slice ao out.length co, ?_, ?_⟩
    · rw [HCH.out]; rfl
    · rw [HCH.out]
      exact (HINV.out.perm (Pr.left_comm _ _ _)).right
end Go.Proofs.YtbobcmimkonnoaaGreat.rbload
namespace Go.Proofs.YtbobcmimkonnoaaGreat.rbload2
open ChangeShapes WideShapes ChangeAt RowKit Sl Cop clone page vault1 vault2 items copyP copyB ref1 ref2 bload rbload
set_option maxRecDepth 100000 in
set_option maxHeartbeats 2000000 in
theorem rbload_bad (v : Nat) (x : ItemV) (ak av : Option Addr) (ck cv : Nat) (hb : x.size < 0 ∨ 3840 < x.size ∨ (x.size ≤ 32 ∧ (x.value.length : Int) ≠ x.size)) (w : World) :
 Calls Tryz.prog 129 #[.pointer (some ⟨v, 0, none⟩), itemV (.slice ak x.key.length ck) (.slice av x.value.length cv) x.child x.size] w fun e w' => e = .returned (.tuple #[.slice none 0 0, .int .i64 8]) ∧ Only w w' := by
 by_cases h1 : x.size < 0
 · go_enter Tryz.func129, Tryz.ntmps129
   go_wp2
   go_ret2
   exact ⟨rfl, (Only.refl w).alloc _⟩
 · by_cases h2 : 3840 < x.size
   · go_enter Tryz.func129, Tryz.ntmps129
     go_wp2
     go_ret2
     exact ⟨rfl, (Only.refl w).alloc _⟩
   · have h3 : x.size ≤ 32 := by omega
     have h4 : ((x.value.length : Int) != x.size) = true := by rw [bne_iff_ne]; omega
     go_enter Tryz.func129, Tryz.ntmps129
     go_wp2
     all_goals
      go_ret2
      exact ⟨rfl, (Only.refl w).alloc _⟩
set_option maxRecDepth 100000 in
set_option maxHeartbeats 2000000 in
theorem rbload_short (v : Nat) (x : ItemV) (ak av : Option Addr) (ck cv : Nat) (h : Hp) (hv : Bytes h (.slice av x.value.length cv) x.value) (hs : 0 ≤ x.size ∧ x.size ≤ 32 ∧ (x.value.length : Int) = x.size) (F : Pr) (w : World) (hF : Sat ((Pr.own h).star F) w) :
 Calls Tryz.prog 129 #[.pointer (some ⟨v, 0, none⟩), itemV (.slice ak x.key.length ck) (.slice av x.value.length cv) x.child x.size] w fun e w' =>
  Stays w w' ∧ ∃ o, e = .returned (.tuple #[o, .int .i64 0]) ∧ Sat ((BytesRow o x.value).star ((Pr.own h).star F)) w' := by
 obtain ⟨h1, h2, h3⟩ := hs
 have h0 := hF.alloc (itemC (.slice ak x.key.length ck) (.slice av x.value.length cv) x.child x.size)
 have C := Lib.hid (copybytes_any h _ x.value _ _ (h0.perm (Pr.left_comm _ _ _)) hv (by omega))
 have hne : ((x.value.length : Int) != x.size) = false := by rw [bne_eq_false_iff_eq]; exact h3
 have HST := Lib.hid ((Stays.refl w).alloc (itemC (.slice ak x.key.length ck) (.slice av x.value.length cv) x.child x.size))
 have H3 := Lib.hid h3
 have h4 : ¬ 3840 < x.size := by omega
 have h5 : ¬ x.size < 0 := by omega
 clear hF h0 hv h3 h1
 go_enter Tryz.func129, Tryz.ntmps129
 go_wp2_with fail
 refine C.out.mono ?_
 rintro e w1 ⟨o, rfl, hs1, st1⟩
 have S1 := Lib.hid hs1
 obtain ⟨ao, co, rfl, _, _⟩ := Row.read hs1
 clear hs1
 go_wp2
 go_ret2
 exact ⟨HST.out.trans st1, _, rfl, (S1.out.perm (B := (Pr.pts w.heap.size (itemC (.slice ak x.key.length ck) (.slice av x.value.length cv) x.child x.size)).star ((BytesRow (.slice ao x.value.length co) x.value).star ((Pr.own h).star F))) (by ac_rfl)).right⟩
/-- Any item. -/
theorem rbload_any (v : Nat) (s : PoolS) (gs : List PageV) (hush : RTail) (look : Int → Option PageV) (hl : RLooks s gs look) (x : ItemV) (h : Hp) (iv : Value) (hi : ItemIn h iv x) (F : Pr) (w : World) (hF : Sat ((RefA v s gs hush).star ((Pr.own h).star F)) w) :
 Calls Tryz.prog 129 #[.pointer (some ⟨v, 0, none⟩), iv] w fun e w' =>
  Stays w w' ∧ ∃ o, e = .returned (.tuple #[o, .int .i64 (valueL look x.size x.child x.value).2]) ∧ Sat ((BytesRow o (valueL look x.size x.child x.value).1).star ((RefA v s gs hush).star ((Pr.own h).star F))) w' := by
 obtain ⟨kv, vv, rfl, hk, hvv⟩ := hi
 obtain ⟨ak, ck, rfl⟩ := bytes_shape hk
 obtain ⟨av, cv, rfl⟩ := bytes_shape hvv
 unfold valueL
 by_cases hb : x.size < 0 ∨ 3840 < x.size ∨ (x.size ≤ 32 ∧ (x.value.length : Int) ≠ x.size)
 · rw [if_pos hb]
   refine (rbload_bad v x ak av ck cv hb w).mono ?_
   rintro e w' ⟨rfl, ho⟩
   refine ⟨ho.st, _, rfl, ?_⟩
   show Sat ((Row 5 1 (.slice none 0 0) 0 []).star _) _
   rw [Row.nil, Pr.emp_star]
   exact hF.only ho
 · rw [if_neg hb]
   by_cases h32 : x.size ≤ 32
   · rw [if_pos h32]
     refine (rbload_short v x ak av ck cv h hvv (by omega) _ w (hF.perm (Pr.left_comm _ _ _))).mono ?_
     rintro e w' ⟨st, o, rfl, h1⟩
     exact ⟨st, o, rfl, h1.perm (by ac_rfl)⟩
   · rw [if_neg h32]
     have e1 : x.size = ((x.size.toNat : Nat) : Int) := by omega
     have := rbload_long v s gs hush look hl (.slice ak x.key.length ck) (.slice av x.value.length cv) ⟨_, _, _, rfl⟩ ⟨_, _, _, rfl⟩ x.child x.size.toNat (by omega) _ w hF
     rw [← e1] at this
     exact this
end Go.Proofs.YtbobcmimkonnoaaGreat.rbload2
namespace Go.Proofs.YtbobcmimkonnoaaGreat.looks
open ChangeShapes WideShapes ChangeAt RowKit Sl Cop pool8 pool9 vault6 vloadLaw vload ref2 rload bload rbload
/-- A load that is right. -/
structure Right (cs : List Int) (on : Int → Option PageV) : Prop where
 ok : OnOk cs on
 full : ∀ n, cntL cs n ≠ 0 → ∃ g, on n = some g
 n2 : cs.length ≤ 65536
theorem right_load {refs : Int} {cs : List Int} {l : List NumV} (h : (loadE refs cs l).1 = 0) : Right cs (loadE refs cs l).2 := by
 unfold loadE at h ⊢
 split at h
 · cases h
 · rename_i hr
   rw [if_neg hr]
   have hr2 : rangeOk cs.length refs = true := by simpa using hr
   split at h
   · cases h
   · rename_i hb
     rw [if_neg hb]
     split at h
     · rename_i h1; exact absurd h h1
     · rename_i h1
       rw [if_neg h1]
       split at h
       · cases h
       · rename_i h2
         rw [if_neg h2]
         refine ⟨lay_ok (OnOk.none cs), fun n hn => ?_, by have := Go.Proofs.YtbobcmimkonnoaaGreat.load1.rangeOk_iff.1 hr2; omega⟩
         cases ho : (lay cs l fun _ => none).2 n with
         | some g => exact ⟨g, rfl⟩
         | none => exact absurd (lacks_iff.2 ⟨n, held_mem.2 hn, ho⟩) h2
theorem right_new (n : Nat) (hn : n ≤ 65536) : Right (List.replicate n 0) fun _ => none := by
 refine ⟨OnOk.none _, fun m hm => absurd ?_ hm, by simpa using hn⟩
 unfold cntL
 split
 · simp [List.getD_eq_getElem?_getD, List.getElem?_replicate]
   split <;> rfl
 · rfl
end Go.Proofs.YtbobcmimkonnoaaGreat.looks
namespace Go.Proofs.YtbobcmimkonnoaaGreat.spare
open ChangeShapes WideShapes ChangeAt RowKit Sl Cop pool2 pool9 clone page eqb vault1 vault2 blob2 copyB items rload
def markB (i : Nat) : Int := bits .xor .i64 165 (i : Int) % 256
/-- The bytes, and the marks behind them. -/
def spareL (l : List Int) : List Int := l ++ (List.range 64).map fun i => markB (l.length + i)
theorem spareL_len (l : List Int) : (spareL l).length = l.length + 64 := by simp [spareL]
theorem spareL_low {l : List Int} {k : Nat} (h : k < l.length) : (spareL l)[k]'(by rw [spareL_len]; omega) = l.getD k 0 := by
 unfold spareL
 rw [List.getElem_append_left h]
 simp [h]
theorem spareL_high {l : List Int} {k : Nat} (h : l.length ≤ k) (h2 : k < l.length + 64) : (spareL l)[k]'(by rw [spareL_len]; omega) = markB k := by
 unfold spareL
 rw [List.getElem_append_right h]
 simp only [List.getElem_map, List.getElem_range]
 rw [show l.length + (k - l.length) = k by omega]
abbrev WholeRow (b : Nat) (l : List Int) : Pr := Row 5 1 (.slice (some ⟨b, 0, none⟩) (l.length + 64) (l.length + 64)) (l.length + 64) ((spareL l).map (Value.int .u8))
theorem row_made1 {F : Pr} {w : World} (T : Nat) (z : Value) (n : Nat) (hn : n ≤ maxLen) (h : Sat F w) :
 Sat ((Row T 1 (.slice (some ⟨w.heap.size, 0, none⟩) n n) n (List.replicate n z)).star F) (w.alloc (.cells (madeCells #[z] n) T)) := row_made T z n hn h
set_option maxRecDepth 100000 in
set_option maxHeartbeats 2000000 in
theorem spare_any (h : Hp) (v : Value) (l : List Int) (F : Pr) (w : World) (hF : Sat ((Pr.own h).star F) w) (hx : Bytes h v l) (hn : l.length ≤ 140737488351232) :
 Calls Tryz.prog 83 #[v] w fun e w' => ∃ b, e = .returned (.slice (some ⟨b, 0, none⟩) l.length (l.length + 64)) ∧ Sat ((WholeRow b l).star ((Pr.own h).star F)) w' ∧ Stays w w' := by
 obtain ⟨a, c, rfl, r1⟩ := bytes_rd hx
 obtain ⟨i0, hi, hz0, hz1, hz2⟩ := info_parts infoByte
 have hmk : ∀ wx : World, (Instr.makeSlice 29 (.int .i64 ((l.length : Int) + 64)) (.int .i64 ((l.length : Int) + 64))).run Tryz.prog wx = .ok (.slice (some ⟨wx.heap.size, 0, none⟩) (l.length + 64) (l.length + 64)) (wx.alloc (.cells (madeCells #[.int .u8 0] (l.length + 64)) 5)) := by
  intro wx
  have := run_make (P := Tryz.prog) wx 29 5 i0 (.int .u8 0) Tryz.underlying29 hi hz0 .i64 .i64 ((l.length : Int) + 64) ((l.length : Int) + 64) (by omega) (by omega) (by rw [hz2]; omega) (by omega)
  rw [hz1, show ((l.length : Int) + 64).toNat = l.length + 64 by omega, Nat.mul_one] at this
  exact this
 have h2 := Lib.hid (row_made1 5 (.int .u8 0) (l.length + 64) (by simp only [maxLen]; omega) hF)
 have R1 := Lib.hid r1
 have hn0 : (l.length : Int) ≤ 140737488351232 := by omega
 clear hF hx r1
 go_enter Tryz.func83, Tryz.ntmps83
 go_wp2
 go_loopw [4] (fun i wr => ∃ (k : Nat) (zs : List Int), k ≤ l.length + 64 ∧ i = .int .i64 k ∧ Stays w wr ∧ zs.length = l.length + 64 ∧ Hid (∀ i, i < k → zs[i]? = (spareL l)[i]?) ∧ Sat ((Row 5 1 (.slice (some ⟨w.heap.size, 0, none⟩) (l.length + 64) (l.length + 64)) (l.length + 64) (zs.map (Value.int .u8))).star ((Pr.own h).star F)) wr) (fun i _ => l.length + 64 - (intOf i).toNat)
 case atStart =>
  refine ⟨0, List.replicate (l.length + 64) 0, Nat.zero_le _, rfl, (Stays.refl w).alloc _, by simp, Lib.hid (fun i hi => absurd hi (by omega)), ?_⟩
  rw [List.map_replicate]
  exact h2.out
 case round =>
  obtain ⟨k, zs, hk, rfl, hst, hzl, hfill, hs⟩ := hrel
  have HZL := Lib.hid hzl
  clear hzl
  rcases Nat.lt_or_ge k (l.length + 64) with hlt | hge
  · obtain ⟨_, _, e, _, hc⟩ := Row.read hs
    cases e
    obtain ⟨b, eb, hd⟩ := hc (by omega)
    cases eb
    have k0 : ∃ u, wr.cell? ⟨w.heap.size, k, none⟩ = some u := by
     have := (hd k (by omega)).1
     rw [List.getElem?_eq_getElem (by rw [List.length_map, HZL.out]; omega)] at this
     exact ⟨_, this⟩
    obtain ⟨u, k0⟩ := k0
    have kf := (hd k (by omega)).2
    have kz := World.block_lt_of_cell? _ _ k0
    clear hc hd
    have HS := Lib.hid hs
    have HSTK := Lib.hid hst
    clear hst
    rcases Nat.lt_or_ge k l.length with hl1 | hl1
    · obtain ⟨b, off, rfl, c1⟩ := R1.out k hl1
      have q1 := c1 wr hs.right.own
      have HLO := Lib.hid (spareL_low hl1)
      clear c1 hs
      generalize l.getD k 0 = x at *
      go_wp2
      refine ⟨⟨k + 1, zs.set k (x), by omega, congrArg (Value.int .i64) (by omega), HSTK.out.setCell _ _, by rw [List.length_set]; exact HZL.out, Lib.hid ?_, ?_⟩, by simp [intOf]; omega⟩
      · have e : x = (spareL l)[k]'(by rw [spareL_len]; omega) := HLO.out.symm
        rw [e]
        exact fill_step (by rw [spareL_len]; exact HZL.out) (by rw [spareL_len]; exact hlt) hfill.out
      · rw [List.map_set]
        exact Row.set HS.out k (by rw [List.length_map, HZL.out]; exact hlt) _
    · have HHI := Lib.hid (spareL_high hl1 hlt)
      clear hs
      go_wp2
      refine ⟨⟨k + 1, zs.set k (bits .xor .i64 165 (k : Int) % 256), by omega, congrArg (Value.int .i64) (by omega), HSTK.out.setCell _ _, by rw [List.length_set]; exact HZL.out, Lib.hid ?_, ?_⟩, by simp [intOf]; omega⟩
      · have e : bits .xor .i64 165 (k : Int) % 256 = (spareL l)[k]'(by rw [spareL_len]; omega) := HHI.out.symm
        rw [e]
        exact fill_step (by rw [spareL_len]; exact HZL.out) (by rw [spareL_len]; exact hlt) hfill.out
      · rw [List.map_set]
        exact Row.set HS.out k (by rw [List.length_map, HZL.out]; exact hlt) _
  · have hkl : k = l.length + 64 := by omega
    subst hkl
    have e1 : zs = spareL l := filled (by rw [spareL_len]; exact HZL.out) (by intro i hi; rw [spareL_len] at hi; exact hfill.out i hi)
    subst e1
    have HS := Lib.hid hs
    have HSTK := Lib.hid hst
    clear hs hst hfill HZL
    go_wp2
    go_ret
    exact ⟨w.heap.size, rfl, HS.out, HSTK.out⟩
end Go.Proofs.YtbobcmimkonnoaaGreat.spare
namespace Go.Proofs.YtbobcmimkonnoaaGreat.kept
open ChangeShapes WideShapes ChangeAt RowKit Sl Cop pool2 pool9 clone page eqb vault1 vault2 items rchk2 spare
theorem whole_bytes {b : Nat} {l : List Int} {hx : Hp} (h : WholeRow b l hx) : Bytes hx (.slice (some ⟨b, 0, none⟩) l.length (l.length + 64)) l := by
 obtain ⟨_, a, c, e, h1, h2, h3⟩ := Row.rowIn h
 cases e
 refine ⟨by simp, some ⟨b, 0, none⟩, l.length + 64, rfl, by omega, h2, fun _ => ⟨b, 0, rfl, fun i hi => ?_⟩⟩
 obtain ⟨b', off, eb, hc⟩ := h3 (by omega)
 cases eb
 rw [hc i (by omega)]
 have hi2 : i < l.length := by omega
 simp [spareL, List.getElem?_append_left, hi2]
theorem whole_at {b : Nat} {l : List Int} {F : Pr} {w : World} (h : Sat ((WholeRow b l).star F) w) {k : Nat} (h1 : l.length ≤ k) (h2 : k < l.length + 64) : w.cell? ⟨b, k, none⟩ = some (.int .u8 (markB k)) := by
 obtain ⟨_, _, e, _, hc⟩ := Row.read h
 cases e
 obtain ⟨b', eb, hd⟩ := hc (by omega)
 cases eb
 rw [(hd k (by omega)).1, List.getElem?_map, List.getElem?_eq_getElem (by rw [spareL_len]; exact h2), spareL_high h1 h2]
 rfl
set_option maxRecDepth 100000 in
set_option maxHeartbeats 2000000 in
theorem kept_any (b : Nat) (l : List Int) (h : Hp) (v : Value) (hx : Bytes h v l) (hn : l.length ≤ 140737488351232) (F : Pr) (w : World) (hF : Sat ((WholeRow b l).star ((Pr.own h).star F)) w) :
 Calls Tryz.prog 91 #[.slice (some ⟨b, 0, none⟩) l.length (l.length + 64), v] w fun e w' => e = .returned (.bool true) ∧ Only w w' := by
 obtain ⟨a, ha, h2⟩ := hF.toOwn
 have EQ := Lib.hid (eq_same a h _ v l (whole_bytes ha) hx (by omega) w h2.own h2.right.own)
 obtain ⟨av, cv, rfl⟩ := bytes_shape hx
 have HF := Lib.hid hF
 have hn0 : (l.length : Int) ≤ 140737488351232 := by omega
 clear hF ha h2 hx
 go_enter Tryz.func91, Tryz.ntmps91
 go_wp2_with fail
 refine EQ.out.mono ?_
 rintro e w1 ⟨rfl, ho1⟩
 go_wp2_with fail
 go_loopw [6] (fun i wr => ∃ k : Nat, l.length ≤ k ∧ k ≤ l.length + 64 ∧ i = .int .i64 k ∧ Only w wr) (fun i _ => l.length + 64 - (intOf i).toNat)
 case atStart => exact ⟨l.length, Nat.le_refl _, by omega, rfl, ho1⟩
 case round =>
  obtain ⟨k, hk1, hk2, rfl, ho⟩ := hrel
  rcases Nat.lt_or_ge k (l.length + 64) with hlt | hge
  · have q0 := whole_at (HF.out.only ho) hk1 hlt
    unfold markB at q0
    go_wp2
    go_roundw
    case rel => exact ⟨k + 1, by omega, by omega, congrArg (Value.int .i64) (by omega), ho⟩
    case measure => simp [intOf]; omega
  · have hkl : k = l.length + 64 := by omega
    subst hkl
    go_wp2
    go_ret
    exact ⟨rfl, ho⟩
end Go.Proofs.YtbobcmimkonnoaaGreat.kept
namespace Go.Proofs.YtbobcmimkonnoaaGreat.spared
open ChangeShapes WideShapes ChangeAt RowKit Sl Cop pool2 pool9 clone page eqb vault1 vault2 items copyP rchk2 spare kept
set_option maxRecDepth 100000 in
set_option maxHeartbeats 2000000 in
theorem spared_any (h : Hp) (v : Value) (x : ItemV) (hv : ItemIn h v x) (hn : x.key.length ≤ 140737488351232 ∧ x.value.length ≤ 140737488351232) (F : Pr) (w : World) (hF : Sat ((Pr.own h).star F) w) :
 Calls Tryz.prog 128 #[v] w fun e w' => ∃ b1 b2, e = .returned (itemV (.slice (some ⟨b1, 0, none⟩) x.key.length (x.key.length + 64)) (.slice (some ⟨b2, 0, none⟩) x.value.length (x.value.length + 64)) x.child x.size) ∧ Sat ((WholeRow b1 x.key).star ((WholeRow b2 x.value).star ((Pr.own h).star F))) w' ∧ Stays w w' := by
 obtain ⟨kv, vv, rfl, hk, hvv⟩ := hv
 obtain ⟨ak, ck, rfl⟩ := bytes_shape hk
 obtain ⟨av, cv, rfl⟩ := bytes_shape hvv
 obtain ⟨hn1, hn2⟩ := hn
 have h1 := (hF.alloc (itemC (.slice ak x.key.length ck) (.slice av x.value.length cv) x.child x.size)).alloc (itemC (.slice none 0 0) (.slice none 0 0) 0 0)
 rw [show (w.alloc (itemC (.slice ak x.key.length ck) (.slice av x.value.length cv) x.child x.size)).heap.size = w.heap.size + 1 by simp] at h1
 have h2 := h1.drew.perm (B := (Pr.own h).star ((Pr.pts w.heap.size (itemC (.slice ak x.key.length ck) (.slice av x.value.length cv) x.child x.size)).star ((Pr.pts (w.heap.size + 1) (itemC (.slice none 0 0) (.slice none 0 0) 0 0)).star F))) (by ac_rfl)
 have CB := Lib.hid (spare_any h _ x.key _ _ h2 hk (by omega))
 have HV := Lib.hid hvv
 have HN := Lib.hid hn2
 have HST := Lib.hid (((Stays.refl w).alloc (itemC (.slice ak x.key.length ck) (.slice av x.value.length cv) x.child x.size)).alloc (itemC (.slice none 0 0) (.slice none 0 0) 0 0)).drew
 clear h1 h2 hk hvv hF hn1 hn2
 go_enter Tryz.func128, Tryz.ntmps128
 go_wp2_with fail
 refine wp_region_staged (sz := 14) (by kernel_rfl) [0, 1, 3, 4, 6, 7, 8, 9] [(2, [], [0, 3, 4, 6, 7, 8, 9]), (5, [10], [0, 3, 6, 7, 8, 9]), (11, [], [])] rfl (by kernel_rfl) (by kernel_rfl) (by kernel_rfl) ?_
 refine wpQ_all _ rfl rfl ?_
 simp only [pick, pkA, pkB, pkC, pkD, pkE, pkF]
 iterate 8 (go_big_quiet_step (fail))
 refine wpQuiet_nil ?_
 refine wpRest_act rfl ?_
 go_wp2_with fail
 refine CB.out.mono ?_
 rintro e w1 ⟨b1, rfl, hs2, st2⟩
 have hs3 : Sat ((Pr.own h).star ((Pr.pts w.heap.size (itemC (.slice ak x.key.length ck) (.slice av x.value.length cv) x.child x.size)).star ((Pr.pts (w.heap.size + 1) (itemC (.slice none 0 0) (.slice none 0 0) 0 0)).star ((WholeRow b1 x.key).star F)))) w1 := hs2.perm (by ac_rfl)
 obtain ⟨q0, q1, q2, q3, _, z0⟩ := pts4 hs3.right
 have CB2 := Lib.hid (spare_any h _ x.value _ _ hs3 HV.out (by have := HN.out; omega))
 have HST2 := Lib.hid (HST.out.trans st2)
 clear hs2 hs3 st2 CB HV
 go_wp2
 refine onN_mk ?_
 refine wpQ_nil ⟨?_, ?_⟩
 · refine chk_all _ rfl rfl ?_
   simp only [pick, Same, pkA, pkB, pkC, pkD, pkE, pkF, and_true]
   repeat' (first | apply And.intro | (go_big_quiet_step (fail); exact wpQuiet_nil rfl))
 refine wpRest_act rfl ?_
 go_wp2_with fail
 refine CB2.out.mono ?_
 rintro e w2 ⟨b2, rfl, hs4, st4⟩
 have hs5 : Sat ((Pr.pts w.heap.size (itemC (.slice ak x.key.length ck) (.slice av x.value.length cv) x.child x.size)).star ((Pr.pts (w.heap.size + 1) (itemC (.slice none 0 0) (.slice none 0 0) 0 0)).star ((WholeRow b1 x.key).star ((WholeRow b2 x.value).star ((Pr.own h).star F))))) w2 := hs4.perm (by ac_rfl)
 clear q0 q1 q2 q3 z0
 obtain ⟨q0, q1, q2, q3, _, z0⟩ := pts4 hs5
 obtain ⟨p0, p1, p2, p3, ⟨f0, f1, f2, f3⟩, z1⟩ := pts4 hs5.right
 have H5 := Lib.hid hs5.right
 have HST4 := Lib.hid (HST2.out.trans st4)
 clear hs4 hs5 st4 CB2
 go_wp2
 refine onN_mk ?_
 refine wpQ_all _ rfl rfl ?_
 simp only [pick, pkA, pkB, pkC, pkD, pkE, pkF]
 iterate 1 (go_big_quiet_step (fail))
 refine wpQuiet_nil ⟨?_, ?_⟩
 · refine chk_all _ rfl rfl ?_
   simp only [pick, Same, pkA, pkB, pkC, pkD, pkE, pkF, and_true]
   repeat' (first | apply And.intro | (go_big_quiet_step (fail); exact wpQuiet_nil rfl))
 refine wpRest_act rfl ?_
 go_wp2
 refine onN_mk (wpQ_nil ⟨chk_nil, wpRest_nil ?_⟩)
 go_wp2
 have s6 := (((H5.out.setCell (i := 0) (.slice (some ⟨b1, 0, none⟩) x.key.length (x.key.length + 64))).setCell (i := 1) (.slice (some ⟨b2, 0, none⟩) x.value.length (x.value.length + 64))).setCell (i := 2) (.int .i64 x.child)).setCell (i := 3) (.int .i64 x.size)
 have s7 : Sat ((Pr.pts (w.heap.size + 1) (itemC (.slice (some ⟨b1, 0, none⟩) x.key.length (x.key.length + 64)) (.slice (some ⟨b2, 0, none⟩) x.value.length (x.value.length + 64)) x.child x.size)).star ((WholeRow b1 x.key).star ((WholeRow b2 x.value).star ((Pr.own h).star F)))) _ := s6
 refine bodyPost_ret (results_cell_row rfl _ _ (w.heap.size + 1) _ _ _ _ rfl s7.pts_heap Tryz.underlying58 rfl infoItemS) rfl ?_
 exact ⟨_, _, rfl, s7.right, (((HST4.out.setCell _ _).setCell _ _).setCell _ _).setCell _ _⟩
set_option maxRecDepth 100000 in
set_option maxHeartbeats 2000000 in
theorem keptitem_any (b1 b2 : Nat) (x : ItemV) (h : Hp) (v : Value) (hv : ItemIn h v x) (hn : x.key.length ≤ 140737488351232 ∧ x.value.length ≤ 140737488351232) (F : Pr) (w : World) (hF : Sat ((WholeRow b1 x.key).star ((WholeRow b2 x.value).star ((Pr.own h).star F))) w) :
 Calls Tryz.prog 130 #[itemV (.slice (some ⟨b1, 0, none⟩) x.key.length (x.key.length + 64)) (.slice (some ⟨b2, 0, none⟩) x.value.length (x.value.length + 64)) x.child x.size, v] w fun e w' => e = .returned (.bool true) ∧ Only w w' := by
 obtain ⟨k2, v2, rfl, hk2, hv2⟩ := hv
 obtain ⟨a3, c3, rfl⟩ := bytes_shape hk2
 obtain ⟨a4, c4, rfl⟩ := bytes_shape hv2
 have s1 := (hF.alloc (itemC (.slice (some ⟨b1, 0, none⟩) x.key.length (x.key.length + 64)) (.slice (some ⟨b2, 0, none⟩) x.value.length (x.value.length + 64)) x.child x.size)).alloc (itemC (.slice a3 x.key.length c3) (.slice a4 x.value.length c4) x.child x.size)
 rw [show (w.alloc (itemC (.slice (some ⟨b1, 0, none⟩) x.key.length (x.key.length + 64)) (.slice (some ⟨b2, 0, none⟩) x.value.length (x.value.length + 64)) x.child x.size)).heap.size = w.heap.size + 1 by simp] at s1
 have ho0 : Only w ((w.alloc (itemC (.slice (some ⟨b1, 0, none⟩) x.key.length (x.key.length + 64)) (.slice (some ⟨b2, 0, none⟩) x.value.length (x.value.length + 64)) x.child x.size)).alloc (itemC (.slice a3 x.key.length c3) (.slice a4 x.value.length c4) x.child x.size)) := ((Only.refl w).alloc _).alloc _
 generalize hw0 : (w.alloc (itemC (.slice (some ⟨b1, 0, none⟩) x.key.length (x.key.length + 64)) (.slice (some ⟨b2, 0, none⟩) x.value.length (x.value.length + 64)) x.child x.size)).alloc (itemC (.slice a3 x.key.length c3) (.slice a4 x.value.length c4) x.child x.size) = w0 at *
 obtain ⟨r0, r1, r2, r3, _, z⟩ := pts4 s1
 obtain ⟨p0, p1, p2, p3, _, _⟩ := pts4 s1.right
 have K1 := Lib.hid (kept_any b1 x.key h _ hk2 hn.1 _ w0 (s1.right.right.perm (B := (WholeRow b1 x.key).star ((Pr.own h).star ((WholeRow b2 x.value).star F))) (by ac_rfl)))
 have S1 := Lib.hid s1
 have HV := Lib.hid hv2
 have HO0 := Lib.hid ho0
 clear hF s1 hk2 hv2 ho0
 go_enter Tryz.func130, Tryz.ntmps130
 go_wp2_with fail
 refine K1.out.mono ?_
 rintro e w1 ⟨rfl, ho1⟩
 have s2 := S1.out.only ho1
 clear p0 p1 p2 p3 r0 r1 r2 r3 z
 obtain ⟨r0, r1, r2, r3, _, z⟩ := pts4 s2
 obtain ⟨p0, p1, p2, p3, _, _⟩ := pts4 s2.right
 have K2 := Lib.hid (kept_any b2 x.value h _ HV.out hn.2 _ w1 (s2.right.right.perm (B := (WholeRow b2 x.value).star ((Pr.own h).star ((WholeRow b1 x.key).star F))) (by ac_rfl)))
 clear s2
 go_wp2_with fail
 refine K2.out.mono ?_
 rintro e w2 ⟨rfl, ho2⟩
 go_wp2
 go_ret
 exact ⟨rfl, HO0.out.trans (ho1.trans ho2)⟩
end Go.Proofs.YtbobcmimkonnoaaGreat.spared
