/- page.Check at blobs; the conditions stand as hypotheses. -/
import Derived.Test.YtbobcmimkonnoaaClone
import Derived.BigQuiet
namespace Go.Sl
/-- Nothing that was there has turned. -/
structure Only (w w' : World) : Prop where
  st : Stays w w'
  heap : ∀ k, k < w.heap.size → w'.heap[k]? = w.heap[k]?
theorem Only.refl (w : World) : Only w w := ⟨Stays.refl w, fun _ _ => rfl⟩
theorem Only.trans {a b c : World} (h : Only a b) (k : Only b c) : Only a c := ⟨h.st.trans k.st, fun i hi => (k.heap i (Nat.lt_of_lt_of_le hi h.st.size)).trans (h.heap i hi)⟩
theorem Only.alloc {a w : World} (h : Only a w) (o : Obj) : Only a (w.alloc o) := h.trans ⟨(Stays.refl w).alloc o, fun k hk => Go.RowKit.Below.heap_alloc w o k hk⟩
theorem Only.drew {a w : World} (h : Only a w) : Only a w.drew := h.trans ⟨(Stays.refl w).drew, fun _ _ => rfl⟩
theorem Only.drewN {a w : World} (h : Only a w) (n : Nat) : Only a (w.drewN n) := h.trans ⟨(Stays.refl w).drewN n, fun _ _ => rfl⟩
theorem Only.setCell {a w : World} (h : Only a w) {b i : Nat} (hb : a.heap.size ≤ b) (v : Value) : Only a (w.setCell ⟨b, i, none⟩ v) :=
  ⟨h.st.setCell _ _, fun k hk => (Go.RowKit.Below.heap_setCell _ _ _ _ (by dsimp only; omega)).trans (h.heap k hk)⟩
theorem Only.cell {w w' : World} (h : Only w w') {b i : Nat} {v : Value} (hc : w.cell? ⟨b, i, none⟩ = some v) : w'.cell? ⟨b, i, none⟩ = some v := by
  have hb : b < w.heap.size := by
    rcases Nat.lt_or_ge b w.heap.size with h1 | h1
    · exact h1
    · unfold World.cell? at hc; simp [Array.getElem?_eq_none h1] at hc
  unfold World.cell? at hc ⊢
  dsimp only at hc ⊢
  rw [h.heap b hb]
  exact hc
theorem Sat.only {A : Pr} {w w' : World} (h : Sat A w) (ho : Only w w') : Sat A w' := h.ext ho.heap
end Go.Sl
namespace Go.Proofs.Ytbobcmimkonnoaa.page
open Go.ChangeShapes Go.WideShapes Go.ChangeAt Go.RowKit Go.Sl Go.Cop Go.Proofs.Ytbobcmimkonnoaa.clone

abbrev pageV (kind level : Int) (vi vd : Value) (next : Int) : Value := .agg #[.int .i64 kind, .int .i64 level, vi, vd, .int .i64 next]

set_option maxRecDepth 100000 in
set_option maxHeartbeats 400000 in
theorem isPage_any (n : Int) (w : World) : Calls Try.prog 77 #[.int .i64 n] w fun e w' => e = .returned (.bool (decide (1 ≤ n ∧ n ≤ 65536))) ∧ w = w' := by
  by_cases h1 : 1 ≤ n
  · by_cases h2 : n ≤ 65536
    · go_enter Try.func77, Try.ntmps77
      go_wp2
      go_ret
      simp [h1, h2]
    · go_enter Try.func77, Try.ntmps77
      go_wp2
      go_ret
      simp [h2]
  · go_enter Try.func77, Try.ntmps77
    go_wp2
    go_ret
    simp; omega

set_option maxRecDepth 100000 in
set_option maxHeartbeats 400000 in
theorem must_true (x : Int) (b : Nat) (w : World) : Calls Try.prog 74 #[.bool true, .int .i64 x, .pointer (some ⟨b, 0, none⟩)] w fun e w' => e = .returned (.tuple #[]) ∧ w = w' := by
  go_enter Try.func74, Try.ntmps74
  go_wp2
  first | refine bodyPost_ret (results_none rfl _ _ _) rfl ?_ | go_end0
  exact ⟨rfl, rfl⟩

set_option maxRecDepth 100000 in
set_option maxHeartbeats 1000000 in
theorem form_blob (ai ad : Option Addr) (ci n c : Nat) (next : Int) (hn : 1 ≤ n ∧ n ≤ 480) (w : World) :
    Calls Try.prog 75 #[pageV 3 0 (.slice ai 0 ci) (.slice ad n c) next] w fun e w' => e = .returned (.bool true) ∧ Only w w' := by
  have h0 : ((n : Int) == 0) = false := by rw [beq_eq_false_iff_ne]; omega
  go_enter Try.func75, Try.ntmps75
  go_wp2
  go_region
  go_wp2
  go_ret
  refine ⟨?_, ((Only.refl w).alloc _).drew⟩
  simp; omega

set_option maxRecDepth 100000 in
set_option maxHeartbeats 1000000 in
theorem check_blob (ai ad : Option Addr) (ci n c : Nat) (next : Int) (hn : 1 ≤ n ∧ n ≤ 480) (hx : next = 0 ∨ 1 ≤ next ∧ next ≤ 65536) (w : World) :
    Calls Try.prog 49 #[pageV 3 0 (.slice ai 0 ci) (.slice ad n c) next] w fun e w' => e = .returned (.int .i64 0) ∧ Only w w' := by
  have FB := fun wx => Lib.hid (form_blob ai ad ci n c next hn wx)
  go_enter Try.func49, Try.ntmps49
  go_wp2_with fail
  refine (must_true _ _ _).mono ?_
  rintro e w1 ⟨rfl, rfl⟩
  go_wp2_with fail
  refine (FB _).out.mono ?_
  rintro e w2 ⟨rfl, ho⟩
  have q1 := ho.cell (b := w.heap.size + 1) (i := 0) (v := .int .i64 0) (by go_simp)
  have q2 := ho.cell (b := w.heap.size) (i := 2) (v := .slice ai 0 ci) (by go_simp)
  have q3 := ho.cell (b := w.heap.size) (i := 4) (v := .int .i64 next) (by go_simp)
  go_wp2_with fail
  refine (must_true _ _ _).mono ?_
  rintro e w3 ⟨rfl, rfl⟩
  have HO := Lib.hid ho
  clear ho FB
  go_wp2_with fail
  go_loopw [30] (fun i wr => i = .int .i64 0 ∧ wr = w2) (fun _ _ => 0)
  case atStart => exact ⟨rfl, rfl⟩
  case round =>
    obtain ⟨rfl, rfl⟩ := hrel
    rcases hx with rfl | hx
    · go_wp2_with fail
      refine (must_true _ _ _).mono ?_
      rintro e w3 ⟨rfl, rfl⟩
      go_wp2
      go_ret
      exact ⟨rfl, (((Only.refl w).alloc _).alloc _).trans HO.out⟩
    · have h0 : (next == 0) = false := by rw [beq_eq_false_iff_ne]; omega
      have hd : decide (1 ≤ next ∧ next ≤ 65536) = true := by simpa using hx
      go_wp2_with fail
      refine (isPage_any _ _).mono ?_
      rintro e w3 ⟨rfl, rfl⟩
      rw [hd]
      go_wp2_with fail
      refine (must_true _ _ _).mono ?_
      rintro e w3 ⟨rfl, rfl⟩
      go_wp2
      go_ret
      exact ⟨rfl, (((Only.refl w).alloc _).alloc _).trans HO.out⟩
end Go.Proofs.Ytbobcmimkonnoaa.page
