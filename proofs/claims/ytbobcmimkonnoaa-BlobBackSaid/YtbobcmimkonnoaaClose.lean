/- How a walk whose owner has let everything stand closes a row: plain lemmas. -/
import Derived.Test.YtbobcmimkonnoaaBlob3
namespace Go.Proofs.Ytbobcmimkonnoaa.close
open Go.ChangeShapes Go.WideShapes Go.ChangeAt Go.RowKit Go.Sl

/-- All that there is. -/
def heapOf (w : World) : Hp := fun k => w.heap[k]?
theorem sat_heap (w : World) : Sat (Pr.own (heapOf w)) w := ⟨heapOf w, rfl, fun _ _ e => e⟩
theorem heap_of_sat {w w' : World} (h : Sat (Pr.own (heapOf w)) w') : ∀ k, k < w.heap.size → w'.heap[k]? = w.heap[k]? := by
  obtain ⟨x, rfl, hl⟩ := h
  intro k hk
  have e : heapOf w k = some w.heap[k] := Array.getElem?_eq_getElem hk
  rw [hl k _ e]
  exact e.symm
theorem kept_of {w w' : World} (hs : Stays w w') (h : ∀ k, k < w.heap.size → w'.heap[k]? = w.heap[k]?) (may : MemPlace → Prop) : w.keptBut w' may := by
  refine ⟨hs.os, hs.output, fun i hi => ?_⟩
  rw [h i hi]
  cases w.heap[i]? with
  | none => rfl
  | some o => cases o <;> simp
end Go.Proofs.Ytbobcmimkonnoaa.close
