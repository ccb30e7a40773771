/- BlobLoads answers true, whatever vault and item are handed in. There is no condition. -/
import Derived.Test.YtbobcmimkonnoaaBlobLoadsM21
import Derived.Test.YtbobcmimkonnoaaBlobLoadsM22
import Derived.Test.YtbobcmimkonnoaaRows
import Derived.WalkKit
import Derived.ProofKit
import Derived.OpenShut
namespace Go.Proofs.Ytbobcmimkonnoaa.blobLoads
open Go.ChangeShapes Go.WideShapes Go.ChangeAt Go.RowKit Go.Sl Go.Cop Go.Proofs.Ytbobcmimkonnoaa.clone Go.Proofs.Ytbobcmimkonnoaa.counts Go.Proofs.Ytbobcmimkonnoaa.items Go.Proofs.Ytbobcmimkonnoaa.vloadLaw Go.Proofs.Ytbobcmimkonnoaa.close Go.Proofs.Ytbobcmimkonnoaa.openArgs Go.Proofs.Ytbobcmimkonnoaa.open2 Go.Proofs.Ytbobcmimkonnoaa.loads1

theorem own : ownKnob Try.prog.godebug = none := by kernel_rfl
theorem cells_begin : Try.prog.cellsOf 52 = 4 := by kernel_rfl

section
variable {H : Type} {enc : TypeId × Value → H}
set_option maxRecDepth 100000 in
theorem open_begin {W : World} {base : Nat} {v : Value} {d : DataW H} {p : List MemPlace} (hval : Value.okWide Try.prog W .any base 52 v) (h : DataW.Trod enc Try.prog W 0 (fun _ => true) true 52 v d p) :
    ∃ pages refs vc vl cs l, v = .agg #[.int .i64 pages, .int .i64 refs, vc, vl] ∧ Ints (heapOf W) vc cs ∧ NumsIn (heapOf W) vl l ∧ ∀ y ∈ l, PageFits y.page := by
  obtain ⟨a, rfl, _⟩ := okWide_struct Try.underlying52 hval
  obtain ⟨n, hn⟩ := h
  obtain ⟨xs, m, rfl, _, hl, hlen, hf⟩ := DataW.trod_struct Try.underlying52 hn
  rw [cells_begin] at hl
  obtain ⟨cs⟩ := a
  simp only [Value.cells] at hl hf
  match cs, hl with
  | [c0, c1, c2, c3], _ =>
    match xs, hlen with
    | [x0, x1, x2, x3], _ =>
      have f0 := hf 0 _ rfl
      have f1 := hf 1 _ rfl
      have f2 := hf 2 _ rfl
      have f3 := hf 3 _ rfl
      obtain ⟨k, rfl, _⟩ := int_of f0
      obtain ⟨r, rfl, _⟩ := int_of f1
      obtain ⟨cs, h2, _, _⟩ := ints_sz f2
      obtain ⟨l, h3, h4, _⟩ := nums_of f3
      exact ⟨k, r, c2, c3, cs, l, rfl, h2, h3, h4⟩

set_option maxRecDepth 100000 in
theorem open_item {W : World} {base : Nat} {v : Value} {d : DataW H} {p : List MemPlace} (hval : Value.okWide Try.prog W .any base 33 v) (h : DataW.Trod enc Try.prog W 0 (fun _ => true) true 33 v d p) :
    ∃ y : ItemV, ItemIn (heapOf W) v y ∧ ItemFits y ∧ (Small d 33 → ItemSized y) := by
  obtain ⟨a, rfl, _⟩ := okWide_struct Try.underlying33 hval
  obtain ⟨n, hn⟩ := h
  obtain ⟨y, ⟨kv, vv, e, h1, h2⟩, h3, h4⟩ := item_of hn
  obtain ⟨cs⟩ := a
  simp only [Value.cells] at e
  subst e
  exact ⟨y, ⟨kv, vv, rfl, h1, h2⟩, h3, h4⟩
end

set_option maxRecDepth 100000 in
theorem lifted (os : Os) (started : os.Started) (H : Type) (enc : TypeId × Value → H) :
    ReturnsInHanded {} Try.checked os 6 .any (Rows.blobLoadsSpec.pre6 enc Try.prog Try.f6 Rows.blobLoadsRow.domain false) (Rows.blobLoadsSpec.post enc Try.prog Try.f6 false true false false) := by
  refine returnsInHanded_of_change_sized (C := Try.checked) own started (by kernel_rfl) Try.func6
    (ChangeSpec.witness6 (enc := enc) (C := Try.checked) false ⟨#[], #[.agg #[.int .i64 0, .int .i64 0, .slice none 0 0, .slice none 0 0], .agg #[.slice none 0 0, .slice none 0 0, .int .i64 0, .int .i64 0]], []⟩ 8 (by kernel_rfl) (by kernel_rfl) (by kernel_rfl) (by kernel_rfl)) ?_
  intro W base args ds gs before hval0 hW hcnd hsz _
  have hval : ∀ (j : Nat) t v, Try.f6.params[j]? = some t → args[j]? = some v → Value.okWide Try.prog W .any base t v := hval0
  have hW' := hW
  obtain ⟨p, q, hA0, hV, rfl, hfz, hnd⟩ := hW
  have hA : DataW.TrodAll enc Try.prog W 0 (fun _ => true) true Try.f6.params.toList args.toList ds p := hA0
  have hsz2 : (DataW.weightsEach Try.prog (Try.f6.params.toList ++ Rows.blobLoadsSpec.plain.varTypes Try.prog) (ds ++ gs)).all (· ≤ reachBytes) = true := hsz
  rw [Try.params6] at hA hval hsz2
  obtain ⟨v0, v1, d0, d1, p0, p1, rfl, rfl, rfl, h0, h1⟩ := trodAll_two hA
  obtain ⟨rfl, rfl⟩ := trodVars_none hV
  obtain ⟨pages, refs, vc, vl, cs, l, rfl, hc, hl, hlf⟩ := open_begin (hval 0 52 v0 rfl rfl) h0
  obtain ⟨y, hy, hyf, hys⟩ := open_item (hval 1 33 v1 rfl rfl) h1
  have hsmall : Small d1 33 := fun m hm => by
    have := List.all_eq_true.1 hsz2 _ (DataW.weights_mem_each (j := 1) rfl rfl m hm)
    simpa using this
  have hn := hys hsmall
  clear hA0 hval0
  simp only [List.append_nil] at hW'
  refine (loads_walk pages refs vc vl cs l _ y W hc hl (fun x hx z hz => ((hlf x hx).1 z hz).1) hy hn).mono fun e W' ⟨he, hs, hst⟩ => ?_
  subst he
  have hh := heap_of_sat hs
  exact ⟨_, rfl, _, _, _, [], _, [], hW', trodAll_cons_mk (shut_bool Try.underlying4 _) trodAll_mk0, trodAll_mk2 (stays hh (by kernel_rfl) (of_decide_eq_true (by kernel_rfl)) h0 (fun x hx => hW'.lt x (by simp [hx]))) (stays hh (by kernel_rfl) (of_decide_eq_true (by kernel_rfl)) h1 (fun x hx => hW'.lt x (by simp [hx]))), rfl, kept_of hst hh _, fun h => by cases h⟩

theorem over : Rows.blobLoadsRow.holds Try.pinned (OpenSpec.ofChange Rows.blobLoadsSpec) :=
  OpenClaim.holds_of_wide 6 Try.f6 rfl rfl rfl rfl rfl rfl rfl ⟨rfl, rfl, rfl, rfl, rfl⟩ rfl rfl rfl rfl rfl (by kernel_rfl) Try.func6 (by kernel_rfl)
    (of_decide_eq_true (by kernel_rfl)) (by unfold Func.isWrapper; first | (rw [if_pos (by decide +kernel)]; kernel_rfl) | (rw [if_neg (by decide +kernel)]; exact ⟨rfl, rfl⟩))
    (fun os started H enc _ => lifted os started H enc)

/-- ████ THE STATEMENT ████ -/
theorem proved : Rows.BlobLoadsSaid :=
  over
#print axioms proved
end Go.Proofs.Ytbobcmimkonnoaa.blobLoads
