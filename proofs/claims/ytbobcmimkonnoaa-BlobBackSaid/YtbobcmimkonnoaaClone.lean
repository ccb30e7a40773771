/- Clones of rows of one-cell elements; the conditions stand as hypotheses. -/
import Derived.Test.YtbobcmimkonnoaaPool1
import Derived.Test.YtbobcmimkonnoaaRead
import Derived.Test.YtbobcmimkonnoaaRegion
import Derived.Test.YtbobcmimkonnoaaRange
import Derived.Lib.Hide
import Derived.Lib.SliceRun
import Derived.BigFrame
import Derived.Test.YtbobcmimkonnoaaDefs
namespace Go.Proofs.Ytbobcmimkonnoaa.clone
open Go.ChangeShapes Go.WideShapes Go.ChangeAt Go.RowKit Go.Sl Go.Cop

theorem infoByte : (Try.prog.info? 5).map (fun i => (i.zero, i.size, i.bytes)) = some (some (.int .u8 0), 1, 1) := by kernel_rfl
theorem infoInt : (Try.prog.info? 3).map (fun i => (i.zero, i.size, i.bytes)) = some (some (.int .i64 0), 1, 8) := by kernel_rfl

abbrev byteV (b : Int) : Value := .int .u8 b
abbrev Bytes (h : Hp) (v : Value) (l : List Int) : Prop := RowIn h 1 v l.length (l.map (Value.int .u8))
abbrev BytesRow (v : Value) (l : List Int) : Pr := Row 5 1 v l.length (l.map (Value.int .u8))

set_option maxRecDepth 100000 in
set_option maxHeartbeats 400000 in
theorem clone_bytes (h : Hp) (v : Value) (l : List Int) (F : Pr) (w : World) (hF : Sat F w) (hh : h.le w) (hx : Bytes h v l) (hn : l.length ≤ 65536) :
    Calls Try.prog 83 #[v] w fun e w' => ∃ v', e = .returned v' ∧ Sat ((BytesRow v' l).star F) w' ∧ Stays w w' := by
  obtain ⟨_, ad, c, rfl, hnc, hcm, hcell⟩ := id hx
  have he : ∀ wx : World, (binOp .eql 31 (.slice ad l.length c) (.slice none 0 0)).run Try.prog wx = .ok (.bool ad.isNone) wx := fun wx => Lib.run_eql_slice_nil wx _ _ ad _ c 0 0 Try.underlying31
  cases ad with
  | none =>
    have hl : l.length = 0 := by
      rcases Nat.eq_zero_or_pos l.length with h0 | h0
      · exact h0
      · obtain ⟨b, off, e1, _⟩ := hcell (by omega); cases e1
    have hl2 : l = [] := List.eq_nil_of_length_eq_zero hl
    have HF := Lib.hid hF
    have HL := Lib.hid hl2
    clear hF hx hcell hh hl2 hl
    go_enter Try.func83, Try.ntmps83
    go_wp2
    go_ret
    refine ⟨_, rfl, ?_, Stays.refl w⟩
    have h1 := HF.out
    have h2 := HL.out
    subst h2
    rw [← Sat.emp, ← Row.nil 5 1] at h1
    exact h1
  | some ad =>
    have hnew : Sat ((Row 5 1 (.slice (some ⟨w.heap.size, 0, none⟩) 0 0) 0 []).star F) (w.alloc (.cells #[] 5)) :=
      Row.mk' (xs := []) (sp := []) (by simp) (by simp) (Nat.le_refl _) (by simp) (by simpa using hF.alloc (.cells #[] 5))
    have hle : h.le (w.alloc (.cells #[] 5)) := fun k o e => (Below.heap_alloc w _ k (Array.getElem?_eq_some_iff.1 (hh k o e)).1).trans (hh k o e)
    have HF := Lib.hid hnew
    have HX := Lib.hid hx
    have HH := Lib.hid hle
    clear hF hx hcell hh hnew hle
    go_enter Try.func83, Try.ntmps83
    obtain ⟨i0, hi, hz0, hz1, hz2⟩ := info_parts infoByte
    go_wp2_with (at_builtin; refine wpList_append_row rfl _ _ _ rfl 5 i0 (.int .u8 0) 1 1 Try.underlying31 hi hz0 hz1 hz2 rfl _ _ _ rfl HF.out h HH.out _ _ _ rfl HX.out (by simp [Value.oneCell']) (by simp only [maxLen]; omega) (by omega) ?_; intro v' w1 hsat hgr _; have HSAT := Lib.hid hsat; clear hsat)
    go_ret
    refine ⟨_, rfl, ?_, ((Stays.refl w).alloc _).of_grown hgr⟩
    have h1 := HSAT.out
    rw [Nat.zero_add, List.nil_append] at h1
    exact h1

set_option maxRecDepth 100000 in
set_option maxHeartbeats 400000 in
theorem bclone_any (h : Hp) (v : Value) (l : List Int) (F : Pr) (w : World) (hF : Sat F w) (hh : h.le w) (hx : Bytes h v l) (hn : l.length ≤ 65536) :
    Calls Try.prog 22 #[v] w fun e w' => ∃ v', e = .returned v' ∧ Sat ((BytesRow v' l).star F) w' ∧ Stays w w' := by
  obtain ⟨_, ad, c, rfl, hnc, hcm, hcell⟩ := id hx
  have he : ∀ wx : World, (binOp .eql 31 (.slice ad l.length c) (.slice none 0 0)).run Try.prog wx = .ok (.bool ad.isNone) wx := fun wx => Lib.run_eql_slice_nil wx _ _ ad _ c 0 0 Try.underlying31
  cases ad with
  | none =>
    have hl : l.length = 0 := by
      rcases Nat.eq_zero_or_pos l.length with h0 | h0
      · exact h0
      · obtain ⟨b, off, e1, _⟩ := hcell (by omega); cases e1
    have hl2 : l = [] := List.eq_nil_of_length_eq_zero hl
    have HF := Lib.hid hF
    have HL := Lib.hid hl2
    clear hF hx hcell hh hl2 hl
    go_enter Try.func22, Try.ntmps22
    go_wp2
    go_ret
    refine ⟨_, rfl, ?_, Stays.refl w⟩
    have h1 := HF.out
    have h2 := HL.out
    subst h2
    rw [← Sat.emp, ← Row.nil 5 1] at h1
    exact h1
  | some ad =>
    have hnew : Sat ((Row 5 1 (.slice (some ⟨w.heap.size, 0, none⟩) 0 0) 0 []).star F) (w.alloc (.cells #[] 5)) :=
      Row.mk' (xs := []) (sp := []) (by simp) (by simp) (Nat.le_refl _) (by simp) (by simpa using hF.alloc (.cells #[] 5))
    have hle : h.le (w.alloc (.cells #[] 5)) := fun k o e => (Below.heap_alloc w _ k (Array.getElem?_eq_some_iff.1 (hh k o e)).1).trans (hh k o e)
    have HF := Lib.hid hnew
    have HX := Lib.hid hx
    have HH := Lib.hid hle
    clear hF hx hcell hh hnew hle
    go_enter Try.func22, Try.ntmps22
    obtain ⟨i0, hi, hz0, hz1, hz2⟩ := info_parts infoByte
    go_wp2_with (at_builtin; refine wpList_append_row rfl _ _ _ rfl 5 i0 (.int .u8 0) 1 1 Try.underlying31 hi hz0 hz1 hz2 rfl _ _ _ rfl HF.out h HH.out _ _ _ rfl HX.out (by simp [Value.oneCell']) (by simp only [maxLen]; omega) (by omega) ?_; intro v' w1 hsat hgr _; have HSAT := Lib.hid hsat; clear hsat)
    go_ret
    refine ⟨_, rfl, ?_, ((Stays.refl w).alloc _).of_grown hgr⟩
    have h1 := HSAT.out
    rw [Nat.zero_add, List.nil_append] at h1
    exact h1

end Go.Proofs.Ytbobcmimkonnoaa.clone
