import Derived.Test.YtbobcmimkonnoaaGreatBlobAnswersM45
import Derived.Test.YtbobcmimkonnoaaGreatBlobAnswersM43
import Derived.Test.YtbobcmimkonnoaaGreatRows
import Derived.WalkKit
import Derived.ProofKit
import Derived.OpenShut
namespace Go.Proofs.YtbobcmimkonnoaaGreat.blobAnswers
open ChangeShapes WideShapes ChangeAt RowKit Sl Cop clone counts items vloadLaw close openArgs open2 ops ans2
theorem own : ownKnob Tryz.prog.godebug = none := by kernel_rfl
theorem cells_begin : Tryz.prog.cellsOf 51 = 4 := by kernel_rfl
section
variable {H : Type} {enc : TypeId × Value → H}
set_option maxRecDepth 100000 in
theorem open_begin {W : World} {base : Nat} {v : Value} {d : DataW H} {p : List MemPlace} (hval : Value.okWide Tryz.prog W .any base 51 v) (h : DataW.Trod enc Tryz.prog W 0 (fun _ => true) true 51 v d p) :
 ∃ pages refs vc vl cs l, v = .agg #[.int .i64 pages, .int .i64 refs, vc, vl] ∧ Ints (heapOf W) vc cs ∧ NumsIn (heapOf W) vl l ∧ ∀ y ∈ l, PageFits y.page := by
 obtain ⟨a, rfl, _⟩ := okWide_struct Tryz.underlying51 hval
 obtain ⟨n, hn⟩ := h
 obtain ⟨xs, m, rfl, _, hl, hlen, hf⟩ := DataW.trod_struct Tryz.underlying51 hn
 rw [cells_begin] at hl
 obtain ⟨cs⟩ := a
 simp only [Value.cells] at hl hf
 match cs, hl with
 | [c0, c1, c2, c3], _ =>
  match xs, hlen with
  | [x0, x1, x2, x3], _ =>
   have f0 := hf 0 _ rfl
   have f1 := hf 1 _ rfl
   have f2 := hf 2 _ rfl
   have f3 := hf 3 _ rfl
   obtain ⟨k, rfl, _⟩ := int_of f0
   obtain ⟨r, rfl, _⟩ := int_of f1
   obtain ⟨cs, h2, _, _⟩ := ints_sz f2
   obtain ⟨l, h3, h4, _⟩ := nums_of f3
   exact ⟨k, r, c2, c3, cs, l, rfl, h2, h3, h4⟩
set_option maxRecDepth 100000 in
theorem open_ops {W : World} {base : Nat} {v : Value} {d : DataW H} {p : List MemPlace} (hval : Value.okWide Tryz.prog W .any base 52 v) (h : DataW.Trod enc Tryz.prog W 0 (fun _ => true) true 52 v d p) :
 ∃ l : List OpV, OpsIn (heapOf W) v l ∧ (∀ o ∈ l, OpI o) ∧ (Small d 52 → ∀ o ∈ l, OpSized o) := by
 obtain ⟨a, len, cap, rfl⟩ := okWide_slice Tryz.underlying52 hval
 obtain ⟨n, hn⟩ := h
 exact ops_of hn
end
set_option maxRecDepth 100000 in
theorem lifted (os : Os) (started : os.Started) (H : Type) (enc : TypeId × Value → H) :
 ReturnsInHanded {} Tryz.checked os 6 .any (Rows.blobAnswersSpec.pre6 enc Tryz.prog Tryz.f6 Rows.blobAnswersRow.domain false) (Rows.blobAnswersSpec.post enc Tryz.prog Tryz.f6 false true false false) := by
 refine returnsInHanded_of_change_sized (C := Tryz.checked) own started (by kernel_rfl) Tryz.func6
  (ChangeSpec.witness6 (enc := enc) (C := Tryz.checked) false ⟨#[], #[.agg #[.int .i64 0, .int .i64 0, .slice none 0 0, .slice none 0 0], .slice none 0 0], []⟩ 8 (by kernel_rfl) (by kernel_rfl) (by kernel_rfl) (by kernel_rfl)) ?_
 intro W base args ds gs before hval0 hW hcnd hsz _
 have hval : ∀ (j : Nat) t v, Tryz.f6.params[j]? = some t → args[j]? = some v → Value.okWide Tryz.prog W .any base t v := hval0
 have hW' := hW
 obtain ⟨p, q, hA0, hV, rfl, hfz, hnd⟩ := hW
 have hA : DataW.TrodAll enc Tryz.prog W 0 (fun _ => true) true Tryz.f6.params.toList args.toList ds p := hA0
 have hsz2 : (DataW.weightsEach Tryz.prog (Tryz.f6.params.toList ++ Rows.blobAnswersSpec.plain.varTypes Tryz.prog) (ds ++ gs)).all (· ≤ reachBytes) = true := hsz
 rw [Tryz.params6] at hA hval hsz2
 obtain ⟨v0, v1, d0, d1, p0, p1, rfl, rfl, rfl, h0, h1⟩ := trodAll_two hA
 obtain ⟨rfl, rfl⟩ := trodVars_none hV
 obtain ⟨pages, refs, vc, vl, cs, l, rfl, hc, hl, hlf⟩ := open_begin (hval 0 51 v0 rfl rfl) h0
 obtain ⟨os, ho, hoi, hos⟩ := open_ops (hval 1 52 v1 rfl rfl) h1
 have hsmall : Small d1 52 := fun m hm => by
  have := List.all_eq_true.1 hsz2 _ (DataW.weights_mem_each (j := 1) rfl rfl m hm)
  simpa using this
 have hn := hos hsmall
 clear hA0 hval0
 simp only [List.append_nil] at hW'
 refine (answers_walk pages refs vc vl _ cs l os W hc hl (fun x hx z hz => ((hlf x hx).1 z hz).1) ho (fun o ho2 => ⟨(hoi o ho2).2, ⟨(hn o ho2).1, (hn o ho2).2.1⟩, (hn o ho2).2.2⟩)).mono fun e W' ⟨he, hs, hst⟩ => ?_
 subst he
 have hh := heap_of_sat hs
 exact ⟨_, rfl, _, _, _, [], _, [], hW', trodAll_cons_mk (shut_bool Tryz.underlying4 _) trodAll_mk0, trodAll_mk2 (stays hh (by kernel_rfl) (of_decide_eq_true (by kernel_rfl)) h0 (fun x hx => hW'.lt x (by simp [hx]))) (stays hh (by kernel_rfl) (of_decide_eq_true (by kernel_rfl)) h1 (fun x hx => hW'.lt x (by simp [hx]))), rfl, kept_of hst hh _, fun h => by cases h⟩
theorem over : Rows.blobAnswersRow.holds Tryz.pinned (OpenSpec.ofChange Rows.blobAnswersSpec) :=
 OpenClaim.holds_of_wide 6 Tryz.f6 rfl rfl rfl rfl rfl rfl rfl ⟨rfl, rfl, rfl, rfl, rfl⟩ rfl rfl rfl rfl rfl (by kernel_rfl) Tryz.func6 (by kernel_rfl)
  (of_decide_eq_true (by kernel_rfl)) (by unfold Func.isWrapper; first | (rw [if_pos (by decide +kernel)]; kernel_rfl) | (rw [if_neg (by decide +kernel)]; exact ⟨rfl, rfl⟩))
  (fun os started H enc _ => lifted os started H enc)
theorem proved : Rows.BlobAnswersSaid :=
 over
#print axioms proved
end Go.Proofs.YtbobcmimkonnoaaGreat.blobAnswers
