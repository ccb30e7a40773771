/- BlobBack answers true, whatever the pages, the key and the values. There is no condition. -/
import Derived.Test.YtbobcmimkonnoaaBack3
import Derived.Test.YtbobcmimkonnoaaOpen
import Derived.Test.YtbobcmimkonnoaaRows
import Derived.WalkKit
import Derived.ProofKit
import Derived.OpenShut
import Derived.Carry
namespace Go.Proofs.Ytbobcmimkonnoaa.blobBack
open Go.ChangeShapes Go.WideShapes Go.ChangeAt Go.RowKit Go.Sl Go.Proofs.Ytbobcmimkonnoaa.close Go.Proofs.Ytbobcmimkonnoaa.openArgs Go.Proofs.Ytbobcmimkonnoaa.back3

theorem own : ownKnob Try.prog.godebug = none := by kernel_rfl

set_option maxRecDepth 100000 in
theorem lifted (os : Os) (started : os.Started) (H : Type) (enc : TypeId × Value → H) :
    ReturnsInHanded {} Try.checked os 5 .any (Rows.blobBackSpec.pre6 enc Try.prog Try.f5 Rows.blobBackRow.domain false) (Rows.blobBackSpec.post enc Try.prog Try.f5 false true false false) := by
  refine returnsInHanded_of_change (C := Try.checked) own started (by kernel_rfl) Try.func5
    (ChangeSpec.witness6 (enc := enc) (C := Try.checked) false ⟨#[], #[.int .i64 0, .slice none 0 0, .slice none 0 0, .slice none 0 0], []⟩ 8 (by kernel_rfl) (by kernel_rfl) (by kernel_rfl) (by kernel_rfl)) ?_
  intro W base args ds gs before hval0 hW hcnd _
  have hval : ∀ (j : Nat) t v, Try.f5.params[j]? = some t → args[j]? = some v → Value.okWide Try.prog W .any base t v := hval0
  have hW' := hW
  obtain ⟨p, q, hA0, hV, rfl, hfz, hnd⟩ := hW
  have hA : DataW.TrodAll enc Try.prog W 0 (fun _ => true) true Try.f5.params.toList args.toList ds p := hA0
  rw [Try.params5] at hA hval
  obtain ⟨v0, v1, v2, v3, d0, d1, d2, d3, p0, p1, p2, p3, rfl, rfl, rfl, h0, h1, h2, h3⟩ := trodAll_four hA
  obtain ⟨rfl, rfl⟩ := trodVars_none hV
  obtain ⟨a0, rfl, rfl, rfl, w0⟩ := open_int Try.underlying3 (hval 0 3 v0 rfl rfl) h0
  obtain ⟨K, hK, _⟩ := open_bytes (hval 1 31 v1 rfl rfl) h1
  obtain ⟨V, hV, _⟩ := open_bytes (hval 2 31 v2 rfl rfl) h2
  obtain ⟨vals, hrow, hb⟩ := open_texts (hval 3 25 v3 rfl rfl) h3
  clear hA0 hval0
  simp only [List.append_nil, List.nil_append] at hW'
  have hmax : -9223372036854775808 ≤ a0 ∧ a0 ≤ 9223372036854775807 := by
    have h1 : IntKind.i64.min = -9223372036854775808 := by decide
    have h2 : IntKind.i64.max = 9223372036854775807 := by decide
    simp only [Lit.wf, Bool.and_eq_true, decide_eq_true_eq, h1, h2] at w0
    omega
  refine (back_walk a0 hmax v1 v2 v3 K V vals W hK hV hrow (fun x hx => (hb x hx).1)).mono fun e W' ⟨he, hs, hst⟩ => ?_
  subst he
  have hh := heap_of_sat hs
  exact ⟨_, rfl, _, _, _, [], _, [], hW', trodAll_cons_mk (shut_bool Try.underlying4 _) trodAll_mk0, trodAll_mk4 (shut_int Try.underlying3 w0) (stays hh (by kernel_rfl) (of_decide_eq_true (by kernel_rfl)) h1 (fun x hx => hW'.lt x (by simp [hx]))) (stays hh (by kernel_rfl) (of_decide_eq_true (by kernel_rfl)) h2 (fun x hx => hW'.lt x (by simp [hx]))) (stays hh (by kernel_rfl) (of_decide_eq_true (by kernel_rfl)) h3 (fun x hx => hW'.lt x (by simp [hx]))), rfl, kept_of hst hh _, fun h => by cases h⟩

theorem over : Rows.blobBackRow.holds Try.pinned (OpenSpec.ofChange Rows.blobBackSpec) :=
  OpenClaim.holds_of_wide 5 Try.f5 rfl rfl rfl rfl rfl rfl rfl ⟨rfl, rfl, rfl, rfl, rfl⟩ rfl rfl rfl rfl rfl (by kernel_rfl) Try.func5 (by kernel_rfl)
    (of_decide_eq_true (by kernel_rfl)) (by unfold Func.isWrapper; first | (rw [if_pos (by decide +kernel)]; kernel_rfl) | (rw [if_neg (by decide +kernel)]; exact ⟨rfl, rfl⟩))
    (fun os started H enc _ => lifted os started H enc)

/-- ████ THE STATEMENT ████ -/
theorem proved : Rows.BlobBackSaid :=
  over
#print axioms proved
end Go.Proofs.Ytbobcmimkonnoaa.blobBack
