/- The document's EqBytes at two lists that are the same; the conditions stand as hypotheses. -/
import Derived.Test.YtbobcmimkonnoaaBlob5
namespace Go.Proofs.Ytbobcmimkonnoaa.eqb
open Go.ChangeShapes Go.WideShapes Go.ChangeAt Go.RowKit Go.Sl Go.Cop Go.Proofs.Ytbobcmimkonnoaa.clone Go.Proofs.Ytbobcmimkonnoaa.page

theorem bytes_rd {h : Hp} {v : Value} {V : List Int} (hb : Bytes h v V) : ∃ a c, v = .slice a V.length c ∧ ∀ i, i < V.length → ∃ b off, a = some ⟨b, off, none⟩ ∧ ∀ w, h.le w → w.cell? ⟨b, off + i, none⟩ = some (.int .u8 (V.getD i 0)) := by
  obtain ⟨hl, a, c, e, _, _, hc⟩ := hb
  refine ⟨a, c, e, fun i hi => ?_⟩
  obtain ⟨b, off, e1, e2⟩ := hc (by omega)
  refine ⟨b, off, e1, fun w hw => ?_⟩
  refine Hp.cell_le hw ((e2 i (by omega)).trans ?_)
  simp [hi]

set_option maxRecDepth 100000 in
set_option maxHeartbeats 1000000 in
theorem compare_same (ha hb : Hp) (va vb : Value) (V : List Int) (h1 : Bytes ha va V) (h2 : Bytes hb vb V) (hn : V.length ≤ 9000000000000000000) (w : World) (l1 : ha.le w) (l2 : hb.le w) :
    Calls Try.prog 28 #[va, vb] w fun e w' => e = .returned (.int .i64 0) ∧ Only w w' := by
  obtain ⟨a, c, rfl, r1⟩ := bytes_rd h1
  obtain ⟨a', c', rfl, r2⟩ := bytes_rd h2
  have R1 := Lib.hid r1
  have R2 := Lib.hid r2
  have L1 := Lib.hid l1
  have L2 := Lib.hid l2
  clear r1 r2 h1 h2 l1 l2
  go_enter Try.func28, Try.ntmps28
  go_wp2
  go_loopw [5] (fun i wr => ∃ k : Nat, k ≤ V.length ∧ i = .int .i64 k ∧ Only w wr) (fun i _ => V.length - (intOf i).toNat)
  case atStart => exact ⟨0, Nat.zero_le _, rfl, Only.refl w⟩
  case round =>
    obtain ⟨k, hk, rfl, ho⟩ := hrel
    rcases Nat.lt_or_ge k V.length with hlt | hge
    · obtain ⟨b, off, rfl, c1⟩ := R1.out k hlt
      obtain ⟨b', off', rfl, c2⟩ := R2.out k hlt
      have q1 := c1 wr (fun k o e => (ho.heap k (Array.getElem?_eq_some_iff.1 (L1.out k o e)).1).trans (L1.out k o e))
      have q2 := c2 wr (fun k o e => (ho.heap k (Array.getElem?_eq_some_iff.1 (L2.out k o e)).1).trans (L2.out k o e))
      have HO := Lib.hid ho
      clear c1 c2 ho
      generalize V.getD k 0 = x at *
      go_wp2
      go_region
      go_wp2
      go_region
      go_wp2
      go_roundw
      case rel => exact ⟨k + 1, by omega, by go_num, HO.out.drew.drew⟩
      case measure => simp [intOf]; omega
    · have hkl : k = V.length := by omega
      subst hkl
      go_wp2
      go_ret
      exact ⟨rfl, ho⟩

set_option maxRecDepth 100000 in
set_option maxHeartbeats 1000000 in
theorem eq_same (ha hb : Hp) (va vb : Value) (V : List Int) (h1 : Bytes ha va V) (h2 : Bytes hb vb V) (hn : V.length ≤ 9000000000000000000) (w : World) (l1 : ha.le w) (l2 : hb.le w) :
    Calls Try.prog 13 #[va, vb] w fun e w' => e = .returned (.bool true) ∧ Only w w' := by
  have C := Lib.hid (compare_same ha hb va vb V h1 h2 hn w l1 l2)
  clear h1 h2 l1 l2
  go_enter Try.func13, Try.ntmps13
  go_wp2_with fail
  refine C.out.mono ?_
  rintro e w' ⟨rfl, ho⟩
  go_wp2
  go_ret
  exact ⟨rfl, ho⟩
end Go.Proofs.Ytbobcmimkonnoaa.eqb
