/- Arguments opened: bytes and lists of bytes as parts of the heap; read again where nothing has changed. Plain lemmas. -/
import Derived.Test.YtbobcmimkonnoaaClose
import Derived.Deep.Slices
import Derived.WideKeyArgs
namespace Go.Proofs.Ytbobcmimkonnoaa.openArgs
open Go.ChangeShapes Go.WideShapes Go.ChangeAt Go.RowKit Go.Sl Go.Cop Go.Deep Go.Proofs.Ytbobcmimkonnoaa.clone Go.Proofs.Ytbobcmimkonnoaa.close

theorem laidOut : laidOutB Try.prog = true := by kernel_rfl

theorem heap_cell {w : World} {b i : Nat} {v : Value} (h : w.cell? ⟨b, i, none⟩ = some v) : (heapOf w).cell b i = some v := by
  unfold World.cell? at h
  unfold Hp.cell heapOf
  simp only at h
  cases hb : w.heap[b]? with
  | none => rw [hb] at h; simp at h
  | some o =>
    rw [hb] at h
    cases o <;> simp_all

section
variable {H : Type} {enc : TypeId × Value → H}

theorem cells_u8 : Try.prog.cellsOf 5 = 1 := by kernel_rfl
theorem cells_bs : Try.prog.cellsOf 31 = 1 := by kernel_rfl

set_option maxRecDepth 100000 in
theorem bytes_of {W : World} {base n : Nat} {v : Value} {x : DataW H × List MemPlace} (h : DataW.trod enc Try.prog W base (fun _ => true) true n 31 [v] = some x) :
    ∃ l : List Int, Bytes (heapOf W) v l ∧ ∀ z ∈ l, 0 ≤ z ∧ z ≤ 255 := by
  rcases open_ints Try.underlying31 Try.underlying5 cells_u8 h with ⟨e, _⟩ | ⟨a, len, cap, zs, e, _, hl, hm, hz, _, hcell, hwf⟩
  · simp at e
    subst e
    exact ⟨[], RowIn.nil _ _, fun z hz => by cases hz⟩
  · simp at e
    subst e
    simp only [if_true] at hz
    have hlen : (zs.take len).length = len := by simp; omega
    refine ⟨zs.take len, ⟨by simp, some a, cap, by rw [hlen], by omega, hm, fun h0 => ?_⟩, fun z hz' => ?_⟩
    · obtain ⟨ab, ao, spot⟩ := a
      have hspot : spot = none := by simpa [Addr.add] using World.cell?_spot (hcell 0 (by omega))
      subst hspot
      refine ⟨ab, ao, rfl, fun i hi => ?_⟩
      have hc := hcell i (by omega)
      rw [Addr.add_lit] at hc
      rw [heap_cell hc]
      have h1 : i < zs.length := by omega
      have h2 : i < len := by omega
      simp [h1, h2]
    · have := hwf z (List.mem_of_mem_take hz')
      simp only [Lit.wf, Bool.and_eq_true, decide_eq_true_eq] at this
      have e1 : IntKind.u8.min = 0 := by decide
      have e2 : IntKind.u8.max = 255 := by decide
      rw [e1, e2] at this
      exact this

set_option maxRecDepth 100000 in
theorem open_bytes {W : World} {base : Nat} {v : Value} {d : DataW H} {p : List MemPlace} (hval : Value.okWide Try.prog W .any base 31 v) (h : DataW.Trod enc Try.prog W 0 (fun _ => true) true 31 v d p) :
    ∃ l : List Int, Bytes (heapOf W) v l ∧ ∀ z ∈ l, 0 ≤ z ∧ z ≤ 255 := by
  obtain ⟨a, len, cap, rfl⟩ := okWide_slice Try.underlying31 hval
  obtain ⟨n, hn⟩ := h
  exact bytes_of hn

set_option maxRecDepth 100000 in
theorem open_texts {W : World} {base : Nat} {v : Value} {d : DataW H} {p : List MemPlace} (hval : Value.okWide Try.prog W .any base 25 v) (h : DataW.Trod enc Try.prog W 0 (fun _ => true) true 25 v d p) :
    ∃ vals : List (Value × List Int), RowIn (heapOf W) 1 v vals.length (vals.map Prod.fst) ∧ ∀ x ∈ vals, Bytes (heapOf W) x.1 x.2 ∧ ∀ z ∈ x.2, 0 ≤ z ∧ z ≤ 255 := by
  obtain ⟨a, len, cap, rfl⟩ := okWide_slice Try.underlying25 hval
  obtain ⟨n, hn⟩ := h
  rcases open_slice1 Try.underlying25 cells_bs hn with ⟨e, _⟩ | ⟨ad, ln, cp, m, n', V, D, Pl, e, _, hl, hm, hmm, _, hx⟩
  · simp [Value.cells] at e
    obtain ⟨rfl, rfl, rfl⟩ := e
    exact ⟨[], RowIn.nil _ _, fun x hx => by cases hx⟩
  · simp [Value.cells] at e
    obtain ⟨rfl, rfl, rfl⟩ := e
    simp only [if_true] at hmm
    subst hmm
    obtain ⟨L, hL⟩ := choose_lt (α := List Int) (n := len) (p := fun i l => Bytes (heapOf W) (V i) l ∧ ∀ z ∈ l, 0 ≤ z ∧ z ≤ 255) (fun i hi => bytes_of (hx i (by omega)).2)
    refine ⟨(List.range len).map fun i => (V i, L i), ⟨by simp, some ad, _, by simp, by simpa using hl, hm, fun h0 => ?_⟩, fun x hx' => ?_⟩
    · simp at h0
      obtain ⟨ab, ao, spot⟩ := ad
      have hspot : spot = none := by simpa [Addr.add] using World.cell?_spot (hx 0 (by omega)).1
      subst hspot
      refine ⟨ab, ao, rfl, fun i hi => ?_⟩
      simp at hi
      have hc := (hx i (by omega)).1
      rw [Addr.add_lit] at hc
      rw [heap_cell hc]
      simp [hi]
    · obtain ⟨i, hi, rfl⟩ := List.mem_map.1 hx'
      exact hL i (List.mem_range.1 hi)

set_option maxRecDepth 100000 in
/-- Read again. -/
theorem stays {W W' : World} (hh : ∀ k, k < W.heap.size → W'.heap[k]? = W.heap[k]?) {t : TypeId} (hr : Try.prog.readableRec t = true) (ht : t < Try.prog.types.size) {v : Value} {d : DataW H} {p : List MemPlace}
    (h : DataW.Trod enc Try.prog W 0 (fun _ => true) true t v d p) (hp : ∀ x ∈ p, x.block < W.heap.size) : DataW.Trod enc Try.prog W' 0 (fun x => decide (x < W.heap.size)) true t v d p :=
  WideElems.Trod_stays (P := Try.prog) laidOut hr ht h
    (fun x hx => by
      have hlt := hp x hx
      cases x with
      | cell b o =>
        show W'.cell? ⟨b, o, none⟩ = W.cell? ⟨b, o, none⟩
        unfold World.cell?
        rw [hh b hlt]
      | map b => exact hh b hlt)
    (fun x hx => by simpa using hp x hx)
end
end Go.Proofs.Ytbobcmimkonnoaa.openArgs
