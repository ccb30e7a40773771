/- BlobPages answers true, whatever the length. There is no condition. -/
import Derived.Test.YtbobcmimkonnoaaClose
import Derived.Test.YtbobcmimkonnoaaRows
import Derived.WalkKit
import Derived.ProofKit
import Derived.OpenShut
namespace Go.Proofs.Ytbobcmimkonnoaa.blobPages
open Go.ChangeShapes Go.WideShapes Go.ChangeAt Go.RowKit Go.Sl Go.Proofs.Ytbobcmimkonnoaa.close Go.Proofs.Ytbobcmimkonnoaa.blob3
set_option linter.unusedVariables false      -- a walk need not use every 'w<i>' (that an integer argument fits its kind)

theorem own : ownKnob Try.prog.godebug = none := by kernel_rfl

set_option maxRecDepth 100000 in
set_option maxHeartbeats 1000000 in
theorem walk (a0 : Int) (w0 : (Lit.int .i64 a0).wf = true) (w : World) :
    Calls Try.prog 3 #[.int .i64 a0] w fun e w' => e = .returned (.bool true) ∧ Sat (Pr.own (heapOf w)) w' ∧ Stays w w' := by
  have hmax : a0 ≤ 9223372036854775807 ∧ -9223372036854775808 ≤ a0 := by
    have h1 : IntKind.i64.min = -9223372036854775808 := by decide
    have h2 : IntKind.i64.max = 9223372036854775807 := by decide
    simp only [Lit.wf, Bool.and_eq_true, decide_eq_true_eq, h1, h2] at w0
    omega
  have C := Lib.hid (fixed_yes _ w (sat_heap w))
  have P := fun wx => pages_any a0 hmax.1 wx
  have R := fun wx => rpages_any a0 hmax.1 wx
  by_cases h : a0 ≤ 32
  · rw [show pagesOf a0 = 0 from if_pos h] at P R
    go_enter Try.func3, Try.ntmps3
    go_wp2_with fail
    refine C.out.mono ?_
    rintro e w1 ⟨rfl, hs, hst⟩
    go_wp2_with fail
    refine (P _).mono ?_
    rintro e w2 ⟨rfl, rfl⟩
    go_wp2_with fail
    refine (R _).mono ?_
    rintro e w2 ⟨rfl, rfl⟩
    go_wp2_with fail
    refine (P _).mono ?_
    rintro e w2 ⟨rfl, rfl⟩
    go_wp2
    go_ret
    exact ⟨rfl, hs, hst⟩
  · have hk : pagesOf a0 = (a0 - 1) / 480 + 1 := if_neg h
    have hq : Int.tdiv (a0 - 1) 480 = (a0 - 1) / 480 := by rw [Int.tdiv_eq_ediv_of_nonneg (by omega)]
    rw [hk] at P R
    have hb : 0 ≤ (a0 - 1) / 480 ∧ (a0 - 1) / 480 ≤ 9223372036854775000 := by omega
    generalize (a0 - 1) / 480 = q at *
    go_enter Try.func3, Try.ntmps3
    go_wp2_with fail
    refine C.out.mono ?_
    rintro e w1 ⟨rfl, hs, hst⟩
    go_wp2_with fail
    refine (P _).mono ?_
    rintro e w2 ⟨rfl, rfl⟩
    go_wp2_with fail
    refine (R _).mono ?_
    rintro e w2 ⟨rfl, rfl⟩
    go_wp2_with fail
    refine (P _).mono ?_
    rintro e w2 ⟨rfl, rfl⟩
    go_wp2_with fail
    refine (P _).mono ?_
    rintro e w2 ⟨rfl, rfl⟩
    go_wp2_with fail
    refine (P _).mono ?_
    rintro e w2 ⟨rfl, rfl⟩
    go_wp2
    go_ret
    refine ⟨?_, hs, hst⟩
    simp
    try omega

/-! ### THE ROW's STEP: WRITTEN OUT: LEAVE IT -/
set_option maxRecDepth 100000 in
theorem lifted (os : Os) (started : os.Started) (H : Type) (enc : TypeId × Value → H) :
    ReturnsInHanded {} Try.checked os 3 .any (Rows.blobPagesSpec.pre6 enc Try.prog Try.f3 Rows.blobPagesRow.domain false) (Rows.blobPagesSpec.post enc Try.prog Try.f3 false true false false) := by
  refine returnsInHanded_of_change (C := Try.checked) own started (by kernel_rfl) Try.func3
    (ChangeSpec.witness6 (enc := enc) (C := Try.checked) false ⟨#[], #[.int .i64 0], []⟩ 8 (by kernel_rfl) (by kernel_rfl) (by kernel_rfl) (by kernel_rfl)) ?_
  intro W base args ds gs before hval0 hW hcnd _
  have hval : ∀ (j : Nat) t v, Try.f3.params[j]? = some t → args[j]? = some v → Value.okWide Try.prog W .any base t v := hval0
  have hW' := hW
  obtain ⟨p, q, hA0, hV, rfl, hfz, hnd⟩ := hW
  have hA : DataW.TrodAll enc Try.prog W 0 (fun _ => true) true Try.f3.params.toList args.toList ds p := hA0
  rw [Try.params3] at hA hval
  obtain ⟨v0, vs0, d0, ds0, p0, q0, hargs, rfl, rfl, h0, r0⟩ := trodAll_cons hA
  obtain ⟨rfl, rfl, rfl⟩ := trodAll_nil r0
  obtain rfl : args = #[v0] := by cases args; simp_all
  obtain ⟨rfl, rfl⟩ := trodVars_none hV
  obtain ⟨a0, rfl, rfl, rfl, w0⟩ := open_int Try.underlying3 (hval 0 3 v0 rfl rfl) h0
  clear hA0 hval0
  simp only [List.append_nil] at hW'
  refine (walk a0 w0 W).mono fun e W' ⟨he, hg⟩ => ?_
  subst he
  obtain ⟨hs, hst⟩ := hg
  exact ⟨_, rfl, _, _, _, [], [], [], hW', trodAll_cons_mk (shut_bool Try.underlying4 _) trodAll_mk0, trodAll_cons_mk (shut_int Try.underlying3 w0) trodAll_mk0, rfl, kept_of hst (heap_of_sat hs) _, fun h => by cases h⟩

theorem over : Rows.blobPagesRow.holds Try.pinned (OpenSpec.ofChange Rows.blobPagesSpec) :=
  OpenClaim.holds_of_wide 3 Try.f3 rfl rfl rfl rfl rfl rfl rfl ⟨rfl, rfl, rfl, rfl, rfl⟩ rfl rfl rfl rfl rfl (by kernel_rfl) Try.func3 (by kernel_rfl)
    (of_decide_eq_true (by kernel_rfl)) (by unfold Func.isWrapper; first | (rw [if_pos (by decide +kernel)]; kernel_rfl) | (rw [if_neg (by decide +kernel)]; exact ⟨rfl, rfl⟩))
    (fun os started H enc _ => lifted os started H enc)

/-- ████ THE STATEMENT ████ -/
theorem proved : Rows.BlobPagesSaid :=
  over
#print axioms proved
end Go.Proofs.Ytbobcmimkonnoaa.blobPages
