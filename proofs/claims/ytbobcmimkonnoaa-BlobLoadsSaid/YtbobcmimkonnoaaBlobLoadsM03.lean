/- The document's EqBytes at two lists that are the same; the conditions stand as hypotheses. The order of two lists of bytes: the document's Compare and bytes.Compare; the conditions stand as hypotheses. The parts of a page's check: form, must, the numbers of pages; the program's and the document's; the conditions stand as hypotheses. Plain laws of a pool's state: turning a count. No program in sight. The set of runs: the iterator over what its runs have of a run. By a walk; the conditions stand as hypotheses. The set of runs: the makers of its iterators, the count of a run, and the iterator over gaps. By walks; the conditions stand as hypotheses. The library's Grow and Concat at rows of runs. By walks; the conditions stand as hypotheses. -/
import Derived.Test.YtbobcmimkonnoaaBlobLoadsM02
import Derived.Lib.Bytealg
import Derived.Lib.BytesEntry
import Derived.Test.YtbobcmimkonnoaaBlobLoadsM01
import Derived.Test.YtbobcmimkonnoaaRows
import Derived.ProofKit
import Derived.OpenShut
import Derived.WalkSpells
import Derived.WalkLawsBesides
import Derived.Lib.Hide
namespace Go.Proofs.Ytbobcmimkonnoaa.eqb
open Go.ChangeShapes Go.WideShapes Go.ChangeAt Go.RowKit Go.Sl Go.Cop Go.Proofs.Ytbobcmimkonnoaa.clone Go.Proofs.Ytbobcmimkonnoaa.page

theorem bytes_rd {h : Hp} {v : Value} {V : List Int} (hb : Bytes h v V) : ∃ a c, v = .slice a V.length c ∧ ∀ i, i < V.length → ∃ b off, a = some ⟨b, off, none⟩ ∧ ∀ w, h.le w → w.cell? ⟨b, off + i, none⟩ = some (.int .u8 (V.getD i 0)) := by
  obtain ⟨hl, a, c, e, _, _, hc⟩ := hb
  refine ⟨a, c, e, fun i hi => ?_⟩
  obtain ⟨b, off, e1, e2⟩ := hc (by omega)
  refine ⟨b, off, e1, fun w hw => ?_⟩
  refine Hp.cell_le hw ((e2 i (by omega)).trans ?_)
  simp [hi]

set_option maxRecDepth 100000 in
set_option maxHeartbeats 1000000 in
theorem compare_same (ha hb : Hp) (va vb : Value) (V : List Int) (h1 : Bytes ha va V) (h2 : Bytes hb vb V) (hn : V.length ≤ 9000000000000000000) (w : World) (l1 : ha.le w) (l2 : hb.le w) :
    Calls Try.prog 28 #[va, vb] w fun e w' => e = .returned (.int .i64 0) ∧ Only w w' := by
  obtain ⟨a, c, rfl, r1⟩ := bytes_rd h1
  obtain ⟨a', c', rfl, r2⟩ := bytes_rd h2
  have R1 := Lib.hid r1
  have R2 := Lib.hid r2
  have L1 := Lib.hid l1
  have L2 := Lib.hid l2
  clear r1 r2 h1 h2 l1 l2
  go_enter Try.func28, Try.ntmps28
  go_wp2
  go_loopw [5] (fun i wr => ∃ k : Nat, k ≤ V.length ∧ i = .int .i64 k ∧ Only w wr) (fun i _ => V.length - (intOf i).toNat)
  case atStart => exact ⟨0, Nat.zero_le _, rfl, Only.refl w⟩
  case round =>
    obtain ⟨k, hk, rfl, ho⟩ := hrel
    rcases Nat.lt_or_ge k V.length with hlt | hge
    · obtain ⟨b, off, rfl, c1⟩ := R1.out k hlt
      obtain ⟨b', off', rfl, c2⟩ := R2.out k hlt
      have q1 := c1 wr (fun k o e => (ho.heap k (Array.getElem?_eq_some_iff.1 (L1.out k o e)).1).trans (L1.out k o e))
      have q2 := c2 wr (fun k o e => (ho.heap k (Array.getElem?_eq_some_iff.1 (L2.out k o e)).1).trans (L2.out k o e))
      have HO := Lib.hid ho
      clear c1 c2 ho
      generalize V.getD k 0 = x at *
      go_wp2
      go_region
      go_wp2
      go_region
      go_wp2
      go_roundw
      case rel => exact ⟨k + 1, by omega, by go_num, HO.out.drew.drew⟩
      case measure => simp [intOf]; omega
    · have hkl : k = V.length := by omega
      subst hkl
      go_wp2
      go_ret
      exact ⟨rfl, ho⟩

set_option maxRecDepth 100000 in
set_option maxHeartbeats 1000000 in
theorem eq_same (ha hb : Hp) (va vb : Value) (V : List Int) (h1 : Bytes ha va V) (h2 : Bytes hb vb V) (hn : V.length ≤ 9000000000000000000) (w : World) (l1 : ha.le w) (l2 : hb.le w) :
    Calls Try.prog 13 #[va, vb] w fun e w' => e = .returned (.bool true) ∧ Only w w' := by
  have C := Lib.hid (compare_same ha hb va vb V h1 h2 hn w l1 l2)
  clear h1 h2 l1 l2
  go_enter Try.func13, Try.ntmps13
  go_wp2_with fail
  refine C.out.mono ?_
  rintro e w' ⟨rfl, ho⟩
  go_wp2
  go_ret
  exact ⟨rfl, ho⟩
end Go.Proofs.Ytbobcmimkonnoaa.eqb

namespace Go.Cop
def cmpI : List Int → List Int → Int
  | [], [] => 0
  | [], _ :: _ => -1
  | _ :: _, [] => 1
  | x :: a, y :: b => if x < y then -1 else if y < x then 1 else cmpI a b
def U8 (l : List Int) : Prop := ∀ z ∈ l, 0 ≤ z ∧ z ≤ 255
theorem u8_lt {x y : Int} (hx : 0 ≤ x ∧ x ≤ 255) (hy : 0 ≤ y ∧ y ≤ 255) : (x.toNat.toUInt8 < y.toNat.toUInt8) ↔ x < y := by
  rw [UInt8.lt_iff_toNat_lt]
  have e1 : x.toNat.toUInt8.toNat = x.toNat := by simp; omega
  have e2 : y.toNat.toUInt8.toNat = y.toNat := by simp; omega
  rw [e1, e2]
  omega
theorem cmp_map : ∀ {a b : List Int}, U8 a → U8 b → Lib.compareBytes (a.map fun z => z.toNat.toUInt8) (b.map fun z => z.toNat.toUInt8) = cmpI a b
  | [], [], _, _ => rfl
  | [], _ :: _, _, _ => rfl
  | _ :: _, [], _, _ => rfl
  | x :: a, y :: b, ha, hb => by
    have ih := cmp_map (a := a) (b := b) (fun z hz => ha z (by simp [hz])) (fun z hz => hb z (by simp [hz]))
    have hx := ha x (by simp)
    have hy := hb y (by simp)
    simp only [List.map_cons, Lib.compareBytes, cmpI, u8_lt hx hy, u8_lt hy hx, ih]
theorem cmp_self (a : List Int) : cmpI a a = 0 := by
  induction a with
  | nil => rfl
  | cons x a ih => simp [cmpI, ih]
theorem cmp_anti (a b : List Int) : cmpI a b = - cmpI b a := by
  induction a generalizing b with
  | nil => cases b <;> simp [cmpI]
  | cons x a ih =>
    cases b with
    | nil => simp [cmpI]
    | cons y b =>
      simp only [cmpI]
      by_cases h1 : x < y
      · have : ¬ y < x := by omega
        simp [h1, this]
      · by_cases h2 : y < x <;> simp [h1, h2, ih b]
theorem cmp_bd (a b : List Int) : -1 ≤ cmpI a b ∧ cmpI a b ≤ 1 := by
  induction a generalizing b with
  | nil => cases b <;> simp [cmpI]
  | cons x a ih =>
    cases b with
    | nil => simp [cmpI]
    | cons y b =>
      simp only [cmpI]
      have := ih b
      split
      · omega
      · split <;> omega
theorem cmp_step {A B : List Int} {k : Nat} (ha : k < A.length) (hb : k < B.length) (h : cmpI A B = cmpI (A.drop k) (B.drop k)) :
    cmpI A B = if A.getD k 0 < B.getD k 0 then -1 else if B.getD k 0 < A.getD k 0 then 1 else cmpI (A.drop (k + 1)) (B.drop (k + 1)) := by
  rw [h, List.drop_eq_getElem_cons ha, List.drop_eq_getElem_cons hb]
  simp [cmpI, ha, hb]
theorem cmp_end {A B : List Int} {k : Nat} (hk : k ≤ A.length ∧ k ≤ B.length) (he : k = A.length ∨ k = B.length) (h : cmpI A B = cmpI (A.drop k) (B.drop k)) :
    cmpI A B = if A.length < B.length then -1 else if B.length < A.length then 1 else 0 := by
  rw [h]
  rcases he with rfl | rfl
  · rw [List.drop_length]
    by_cases h1 : A.length < B.length
    · rw [if_pos h1, List.drop_eq_getElem_cons h1]; rfl
    · rw [if_neg h1, if_neg (by omega), List.drop_of_length_le (by omega)]; rfl
  · rw [List.drop_length]
    by_cases h1 : B.length < A.length
    · rw [if_neg (by omega), if_pos h1, List.drop_eq_getElem_cons h1]; rfl
    · rw [if_neg (by omega), if_neg h1, List.drop_of_length_le (by omega)]; rfl
end Go.Cop
namespace Go.Proofs.Ytbobcmimkonnoaa.cmp
open Go.ChangeShapes Go.WideShapes Go.ChangeAt Go.RowKit Go.Sl Go.Cop Go.Proofs.Ytbobcmimkonnoaa.clone Go.Proofs.Ytbobcmimkonnoaa.page Go.Proofs.Ytbobcmimkonnoaa.eqb

set_option maxRecDepth 100000 in
set_option maxHeartbeats 2000000 in
theorem compare_any (ha hb : Hp) (va vb : Value) (A B : List Int) (h1 : Bytes ha va A) (h2 : Bytes hb vb B) (hn : A.length ≤ 9000000000000000000) (w : World) (l1 : ha.le w) (l2 : hb.le w) :
    Calls Try.prog 28 #[va, vb] w fun e w' => e = .returned (.int .i64 (cmpI A B)) ∧ Only w w' := by
  obtain ⟨a, c, rfl, r1⟩ := bytes_rd h1
  obtain ⟨a', c', rfl, r2⟩ := bytes_rd h2
  have R1 := Lib.hid r1
  have R2 := Lib.hid r2
  have L1 := Lib.hid l1
  have L2 := Lib.hid l2
  clear r1 r2 h1 h2 l1 l2
  go_enter Try.func28, Try.ntmps28
  go_wp2
  go_loopw [5] (fun i wr => ∃ k : Nat, k ≤ A.length ∧ k ≤ B.length ∧ i = .int .i64 k ∧ Only w wr ∧ Hid (cmpI A B = cmpI (A.drop k) (B.drop k))) (fun i _ => A.length - (intOf i).toNat)
  case atStart => exact ⟨0, Nat.zero_le _, Nat.zero_le _, rfl, Only.refl w, Lib.hid rfl⟩
  case round =>
    obtain ⟨k, hk, hk2, rfl, ho, hc⟩ := hrel
    by_cases hlt : k < A.length ∧ k < B.length
    · obtain ⟨hlt1, hlt2⟩ := hlt
      obtain ⟨b, off, rfl, c1⟩ := R1.out k hlt1
      obtain ⟨b', off', rfl, c2⟩ := R2.out k hlt2
      have q1 := c1 wr (fun k o e => (ho.heap k (Array.getElem?_eq_some_iff.1 (L1.out k o e)).1).trans (L1.out k o e))
      have q2 := c2 wr (fun k o e => (ho.heap k (Array.getElem?_eq_some_iff.1 (L2.out k o e)).1).trans (L2.out k o e))
      have HO := Lib.hid ho
      have HC := Lib.hid (cmp_step hlt1 hlt2 hc.out)
      clear c1 c2 ho hc
      generalize A.getD k 0 = x at *
      generalize B.getD k 0 = y at *
      by_cases hxy : x < y
      · go_wp2
        go_region
        go_wp2
        go_ret
        have := HC.out
        rw [if_pos hxy] at this
        rw [this]
        exact ⟨rfl, HO.out.drew⟩
      · by_cases hyx : y < x
        · go_wp2
          go_region
          go_wp2
          go_region
          go_wp2
          go_ret
          have := HC.out
          rw [if_neg (by omega), if_pos hyx] at this
          rw [this]
          exact ⟨rfl, HO.out.drew.drew⟩
        · go_wp2
          go_region
          go_wp2
          go_region
          go_wp2
          go_roundw
          case rel =>
            have := HC.out
            rw [if_neg (by omega), if_neg (by omega)] at this
            exact ⟨k + 1, by omega, by omega, congrArg (Value.int .i64) (by omega), HO.out.drew.drew, Lib.hid this⟩
          case measure => simp [intOf]; omega
    · have HC := Lib.hid (cmp_end ⟨hk, hk2⟩ (by omega) hc.out)
      clear hc
      have hlt2 : ¬ (k < A.length ∧ k < B.length) := hlt
      rcases Nat.lt_trichotomy A.length B.length with h | h | h
      · have hkA : k = A.length := by omega
        subst hkA
        go_wp2
        go_ret
        have := HC.out
        rw [if_pos h] at this
        rw [this]
        exact ⟨rfl, ho⟩
      · have hkA : k = A.length := by omega
        subst hkA
        have hE := HC.out
        rw [if_neg (by omega), if_neg (by omega)] at hE
        rw [hE]
        have h9 := Lib.hid h
        have hd1 : ¬ ((A.length : Int) < (B.length : Int)) := by omega
        have hd2 : ¬ ((B.length : Int) < (A.length : Int)) := by omega
        clear h
        go_wp2
        go_ret
        exact ⟨rfl, ho⟩
      · have hkA : k = B.length := by omega
        subst hkA
        go_wp2
        go_ret
        have := HC.out
        rw [if_neg (by omega), if_pos h] at this
        rw [this]
        exact ⟨rfl, ho⟩

theorem run_bytesOf_slice (h : Hp) (v : Value) (l : List Int) (hx : Bytes h v l) (w : World) (hl : h.le w) :
    ∃ b : ByteArray, (Extern.Bytes.bytesOf v).run Try.prog w = .ok b w ∧ b.data.toList = l.map fun z => z.toNat.toUInt8 := by
  obtain ⟨a, c, rfl, r⟩ := bytes_rd hx
  cases a with
  | none =>
    have : l = [] := by
      rcases Nat.eq_zero_or_pos l.length with h0 | h0
      · exact List.eq_nil_of_length_eq_zero h0
      · obtain ⟨b, off, e, _⟩ := r 0 h0; cases e
    subst this
    exact ⟨.empty, rfl, rfl⟩
  | some ad =>
    refine ⟨⟨ByteArray.empty.data ++ (Lib.bytesOf l).toArray⟩, Lib.run_loadBytesX (P := Try.prog) w l ad .empty (fun j x hj => ?_), ?_⟩
    · have hjl : j < l.length := (List.getElem?_eq_some_iff.1 hj).1
      obtain ⟨b, off, e, hc⟩ := r j hjl
      cases e
      have e : (⟨b, off, none⟩ : Addr).add j = ⟨b, off + j, none⟩ := by unfold Addr.add; split <;> simp_all
      rw [e, hc w hl, List.getD_eq_getElem?_getD, hj]
      rfl
    · simp [Lib.bytesOf, ByteArray.empty, ByteArray.emptyWithCapacity]
      rfl

theorem run_compareSlices (ha hb : Hp) (va vb : Value) (A B : List Int) (h1 : Bytes ha va A) (h2 : Bytes hb vb B) (u1 : U8 A) (u2 : U8 B) (w : World) (l1 : ha.le w) (l2 : hb.le w) :
    (Extern.BytealgCompare.compare #[va, vb]).run Try.prog w = .ok (.int .i64 (cmpI A B)) w := by
  obtain ⟨x, hx, ex⟩ := run_bytesOf_slice ha va A h1 w l1
  obtain ⟨y, hy, ey⟩ := run_bytesOf_slice hb vb B h2 w l2
  change Sem.run Try.prog (do pure (goInt (Extern.BytealgCompare.cmp (← Extern.Bytes.bytesOf va) (← Extern.Bytes.bytesOf vb)))) w = _
  simp only [Sem.run_bind, Sem.run_pure, hx, hy, Result.andThen]
  rw [Lib.cmp_eq, ex, ey, cmp_map u1 u2]
  rfl

set_option maxRecDepth 100000 in
set_option maxHeartbeats 1000000 in
theorem bcompare_any (ha hb : Hp) (va vb : Value) (A B : List Int) (h1 : Bytes ha va A) (h2 : Bytes hb vb B) (u1 : U8 A) (u2 : U8 B) (w : World) (l1 : ha.le w) (l2 : hb.le w) :
    Calls Try.prog 76 #[va, vb] w fun e w' => e = .returned (.int .i64 (cmpI A B)) ∧ w = w' := by
  have hr := run_compareSlices ha hb va vb A B h1 h2 u1 u2 w l1 l2
  obtain ⟨a, c, rfl, _⟩ := bytes_rd h1
  obtain ⟨a', c', rfl, _⟩ := bytes_rd h2
  have HR := Lib.hid hr
  clear h1 h2 u1 u2 l1 l2 hr
  go_enter Try.func76, Try.ntmps76
  go_wp2
  rw [run_callFunc_extern Try.func98 (by kernel_rfl) (by kernel_rfl) (by kernel_rfl) (e := Extern.BytealgCompare.compare) (by kernel_rfl), HR.out]
  simp only [Result.andThen]
  rw [Oper.upon_value]
  go_wp2
  go_ret
  exact ⟨rfl, rfl⟩
end Go.Proofs.Ytbobcmimkonnoaa.cmp

namespace Go.Cop
def isPg (n : Int) : Bool := decide (1 ≤ n ∧ n ≤ 65536)
def formP (k l : Int) (n d : Nat) (nx : Int) : Bool :=
  if k = 1 then decide (d = 0 ∧ nx = 0 ∧ l = 0 ∧ 1 ≤ n ∧ n ≤ 8)
  else if k = 2 then decide (d = 0 ∧ nx = 0 ∧ 1 ≤ l ∧ l < 12 ∧ 2 ≤ n ∧ n ≤ 8)
  else decide (l = 0 ∧ n = 0 ∧ 1 ≤ d ∧ d ≤ 480)
/-- The first thing that is wrong. -/
def mustP (f : Int) (b : Bool) (e : Int) : Int := if b then f else if f = 0 then e else f
end Go.Cop
namespace Go.Proofs.Ytbobcmimkonnoaa.chk1
open Go.ChangeShapes Go.WideShapes Go.ChangeAt Go.RowKit Go.Sl Go.Cop Go.Proofs.Ytbobcmimkonnoaa.clone Go.Proofs.Ytbobcmimkonnoaa.page Go.Proofs.Ytbobcmimkonnoaa.eqb Go.Proofs.Ytbobcmimkonnoaa.cmp

set_option maxRecDepth 100000 in
set_option maxHeartbeats 400000 in
theorem risPage_any (n : Int) (w : World) : Calls Try.prog 93 #[.int .i64 n] w fun e w' => e = .returned (.bool (isPg n)) ∧ w = w' := by
  unfold isPg
  by_cases h1 : 1 ≤ n
  · by_cases h2 : n ≤ 65536
    · go_enter Try.func93, Try.ntmps93
      go_wp2
      go_ret
      simp [h1, h2]
    · go_enter Try.func93, Try.ntmps93
      go_wp2
      go_ret
      simp [h2]
  · go_enter Try.func93, Try.ntmps93
    go_wp2
    go_ret
    simp; omega

set_option maxRecDepth 100000 in
set_option maxHeartbeats 1000000 in
theorem must_any (f x : Int) (h : Bool) (b : Nat) (F : Pr) (w : World) (hF : Sat ((Pr.pts b (.cells #[.int .i64 f] 27)).star F) w) :
    Calls Try.prog 74 #[.bool h, .int .i64 x, .pointer (some ⟨b, 0, none⟩)] w fun e w' => e = .returned (.tuple #[]) ∧ Sat ((Pr.pts b (.cells #[.int .i64 (mustP f h x)] 27)).star F) w' ∧ Stays w w' := by
  have q := hF.pts_heap
  have q0 : w.cell? ⟨b, 0, none⟩ = some (.int .i64 f) := by rw [cell_of_heap q]; rfl
  have z0 := frozen_of_heap q 0
  have HF := Lib.hid hF
  clear hF q
  cases h with
  | true =>
    go_enter Try.func74, Try.ntmps74
    go_wp2
    first | refine bodyPost_ret (results_none rfl _ _ _) rfl ?_ | go_end0
    exact ⟨rfl, HF.out, Stays.refl w⟩
  | false =>
    by_cases h0 : f = 0
    · subst h0
      go_enter Try.func74, Try.ntmps74
      go_wp2
      first | refine bodyPost_ret (results_none rfl _ _ _) rfl ?_ | go_end0
      exact ⟨rfl, HF.out.setCell (i := 0) (.int .i64 x), (Stays.refl w).setCell _ _⟩
    · have hb : (f == 0) = false := by rw [beq_eq_false_iff_ne]; exact h0
      go_enter Try.func74, Try.ntmps74
      go_wp2
      first | refine bodyPost_ret (results_none rfl _ _ _) rfl ?_ | go_end0
      have e : mustP f false x = f := by unfold mustP; rw [if_neg (by simp), if_neg h0]
      rw [e]
      exact ⟨rfl, HF.out, Stays.refl w⟩

set_option maxRecDepth 100000 in
set_option maxHeartbeats 4000000 in
theorem form_any (ai ad : Option Addr) (n ci d cd : Nat) (k l nx : Int) (w : World) :
    Calls Try.prog 75 #[pageV k l (.slice ai n ci) (.slice ad d cd) nx] w fun e w' => e = .returned (.bool (formP k l n d nx)) ∧ Only w w' := by
  have fin : ∀ (b : Bool), b = formP k l n d nx → Ending.returned (Value.bool b) = Ending.returned (Value.bool (formP k l n d nx)) := fun b e => by rw [e]
  have hk : (k = 1 ∨ k = 2) ∨ (k ≠ 1 ∧ k ≠ 2) := by omega
  rcases Nat.eq_zero_or_pos d with hd | hd
  · subst hd
    rcases hk with (rfl | rfl) | ⟨h1, h2⟩
    · go_enter Try.func75, Try.ntmps75
      go_wp2
      go_region
      go_wp2
      all_goals (go_ret; refine ⟨fin _ ?_, ((Only.refl w).alloc _).drew⟩; rw [Bool.eq_iff_iff]; simp [formP]; try omega)
    · go_enter Try.func75, Try.ntmps75
      go_wp2
      go_region
      go_wp2
      all_goals (go_ret; refine ⟨fin _ ?_, ((Only.refl w).alloc _).drew⟩; rw [Bool.eq_iff_iff]; simp [formP]; try omega)
    · have e1 : (k == 1) = false := by rw [beq_eq_false_iff_ne]; exact h1
      have e2 : (k == 2) = false := by rw [beq_eq_false_iff_ne]; exact h2
      go_enter Try.func75, Try.ntmps75
      go_wp2
      go_region
      go_wp2
      all_goals (go_ret; refine ⟨fin _ ?_, ((Only.refl w).alloc _).drew⟩; rw [Bool.eq_iff_iff]; simp [formP, h1, h2]; try omega)
  · have h0 : ((d : Int) == 0) = false := by rw [beq_eq_false_iff_ne]; omega
    rcases hk with (rfl | rfl) | ⟨h1, h2⟩
    · go_enter Try.func75, Try.ntmps75
      go_wp2
      go_region
      go_wp2
      all_goals (go_ret; refine ⟨fin _ ?_, ((Only.refl w).alloc _).drew⟩; rw [Bool.eq_iff_iff]; simp [formP]; try omega)
    · go_enter Try.func75, Try.ntmps75
      go_wp2
      go_region
      go_wp2
      all_goals (go_ret; refine ⟨fin _ ?_, ((Only.refl w).alloc _).drew⟩; rw [Bool.eq_iff_iff]; simp [formP]; try omega)
    · have e1 : (k == 1) = false := by rw [beq_eq_false_iff_ne]; exact h1
      have e2 : (k == 2) = false := by rw [beq_eq_false_iff_ne]; exact h2
      go_enter Try.func75, Try.ntmps75
      go_wp2
      go_region
      go_wp2
      all_goals (go_ret; refine ⟨fin _ ?_, ((Only.refl w).alloc _).drew⟩; rw [Bool.eq_iff_iff]; simp [formP, h1, h2]; try omega)

set_option maxRecDepth 100000 in
set_option maxHeartbeats 4000000 in
theorem rform_any (ai ad : Option Addr) (n ci d cd : Nat) (k l nx : Int) (hk : k = 1 ∨ k = 2 ∨ k = 3) (w : World) :
    Calls Try.prog 89 #[pageV k l (.slice ai n ci) (.slice ad d cd) nx] w fun e w' => e = .returned (.bool (formP k l n d nx)) ∧ Only w w' := by
  have fin : ∀ (b : Bool), b = formP k l n d nx → Ending.returned (Value.bool b) = Ending.returned (Value.bool (formP k l n d nx)) := fun b e => by rw [e]
  rcases hk with rfl | rfl | rfl
  · go_enter Try.func89, Try.ntmps89
    go_wp2
    all_goals (go_ret; refine ⟨fin _ ?_, ((Only.refl w).alloc _)⟩; rw [Bool.eq_iff_iff]; simp [formP]; try omega)
  · go_enter Try.func89, Try.ntmps89
    go_wp2
    all_goals (go_ret; refine ⟨fin _ ?_, ((Only.refl w).alloc _)⟩; rw [Bool.eq_iff_iff]; simp [formP]; try omega)
  · go_enter Try.func89, Try.ntmps89
    go_wp2
    all_goals (go_ret; refine ⟨fin _ ?_, ((Only.refl w).alloc _)⟩; rw [Bool.eq_iff_iff]; simp [formP]; try omega)
end Go.Proofs.Ytbobcmimkonnoaa.chk1

namespace Go.Cop

def PoolS.turn (s : PoolS) (n b : Int) : PoolS := { s with counts := s.counts.set (n.toNat - 1) (s.count n + b) }

structure PoolOk (s : PoolS) : Prop where
  n1 : 1 ≤ s.counts.length
  n2 : s.counts.length ≤ 65536
  len : s.last.length = s.counts.length
  r1 : 2 ≤ s.refs
  r2 : s.refs < 65536
  cs : ∀ c ∈ s.counts, 0 ≤ c ∧ c ≤ 65536
  fl : 0 ≤ s.floor
  mb : s.floor + s.acts.length ≤ 1099511627776

theorem count_bd {s : PoolS} (h : PoolOk s) (n : Int) : 0 ≤ s.count n ∧ s.count n ≤ 65536 := by
  unfold PoolS.count
  split
  · rename_i ht
    obtain ⟨h1, h2⟩ := ht
    have hlt : n.toNat - 1 < s.counts.length := by omega
    rw [List.getD_eq_getElem?_getD, List.getElem?_eq_getElem hlt]
    exact h.cs _ (List.getElem_mem hlt)
  · omega

theorem turn_there {s : PoolS} {n b m : Int} : (s.turn n b).there m ↔ s.there m := by simp [PoolS.there, PoolS.turn]
theorem turn_count {s : PoolS} {n b m : Int} (h : s.there n) : (s.turn n b).count m = if m = n then s.count n + b else s.count m := by
  obtain ⟨h1, h2⟩ := h
  by_cases hm : s.there m
  · have hm' : (s.turn n b).there m := turn_there.2 hm
    have e1 : (s.turn n b).count m = (s.turn n b).counts.getD (m.toNat - 1) 0 := by unfold PoolS.count; rw [if_pos hm']
    have e2 : s.count m = s.counts.getD (m.toNat - 1) 0 := by unfold PoolS.count; rw [if_pos hm]
    obtain ⟨m1, m2⟩ := hm
    rw [e1]
    simp only [PoolS.turn, List.getD_eq_getElem?_getD]
    by_cases he : m = n
    · subst he
      rw [List.getElem?_set_self (by omega), if_pos rfl]; rfl
    · rw [List.getElem?_set_ne (by omega), if_neg he, e2, List.getD_eq_getElem?_getD]
  · have hm' : ¬ (s.turn n b).there m := fun h => hm (turn_there.1 h)
    have hne : m ≠ n := fun e => hm (e ▸ ⟨h1, h2⟩)
    unfold PoolS.count
    rw [if_neg hm', if_neg hm, if_neg hne]
theorem turn_state {s : PoolS} {n b m : Int} (h : s.there n) : (s.turn n b).state m = if m = n then stateOf (s.count n + b) (s.lasts n) else s.state m := by
  unfold PoolS.state
  by_cases hm : s.there m
  · rw [if_pos (turn_there.2 hm), if_pos hm, turn_count h]
    by_cases he : m = n
    · rw [if_pos he, if_pos he, he]; rfl
    · rw [if_neg he, if_neg he]; rfl
  · have hne : m ≠ n := fun e => hm (e ▸ h)
    rw [if_neg (fun h => hm (turn_there.1 h)), if_neg hm, if_neg hne]
theorem state_there {s : PoolS} {n : Int} (h : s.there n) : s.state n = stateOf (s.count n) (s.lasts n) := by unfold PoolS.state; rw [if_pos h]

theorem turn_ok {s : PoolS} (h : PoolOk s) {n b : Int} (h0 : 0 ≤ s.count n + b) (h1 : s.count n + b ≤ 65536) : PoolOk (s.turn n b) := by
  refine ⟨by simpa [PoolS.turn] using h.n1, by simpa [PoolS.turn] using h.n2, by simpa [PoolS.turn] using h.len, h.r1, h.r2, fun c hc => ?_, h.fl, h.mb⟩
  rcases List.mem_or_eq_of_mem_set hc with h2 | h2
  · exact h.cs c h2
  · rw [h2]; exact ⟨h0, h1⟩

/-- How many are k in a list, one of which is another one now. -/
theorem filter_set {α : Type} (p : α → Bool) : ∀ (l : List α) (i : Nat) (x : α) (h : i < l.length),
    ((l.set i x).filter p).length + (if p l[i] then 1 else 0) = (l.filter p).length + (if p x then 1 else 0) := by
  intro l
  induction l with
  | nil => intro i x h; simp at h
  | cons a l ih =>
    intro i x h
    cases i with
    | zero => simp only [List.set_cons_zero, List.filter_cons, List.getElem_cons_zero]; split <;> split <;> simp
    | succ i =>
      have := ih i x (by simpa using h)
      simp only [List.set_cons_succ, List.filter_cons, List.getElem_cons_succ]
      split
      · simp only [List.length_cons]; omega
      · exact this

theorem zip_set {α β : Type} : ∀ (l : List α) (m : List β) (i : Nat) (x : α), (l.set i x).zip m = match m[i]? with
    | some y => (l.zip m).set i (x, y)
    | none => l.zip m := by
  intro l
  induction l with
  | nil => intro m i x; cases m[i]? <;> simp
  | cons a l ih =>
    intro m i x
    cases m with
    | nil => simp
    | cons b m =>
      cases i with
      | zero => simp
      | succ i =>
        have := ih m i x
        simp only [List.set_cons_succ, List.zip_cons_cons, List.getElem?_cons_succ, this]
        cases m[i]? <;> simp

theorem turn_many {s : PoolS} (h : PoolOk s) {n b : Int} (hn : s.there n) (k : Int) :
    (s.turn n b).many k + (if s.state n = k then 1 else 0) = s.many k + (if stateOf (s.count n + b) (s.lasts n) = k then 1 else 0) := by
  obtain ⟨h1, h2⟩ := hn
  have hi : n.toNat - 1 < s.counts.length := by omega
  have hj : n.toNat - 1 < s.last.length := by rw [h.len]; exact hi
  have hlast : s.lasts n = s.last[n.toNat - 1] := by unfold PoolS.lasts; rw [List.getD_eq_getElem?_getD, List.getElem?_eq_getElem hj]; rfl
  have hcount : s.count n = s.counts[n.toNat - 1] := by
    unfold PoolS.count; rw [if_pos ⟨h1, h2⟩, List.getD_eq_getElem?_getD, List.getElem?_eq_getElem hi]; rfl
  have hz : n.toNat - 1 < (s.counts.zip s.last).length := by simp; omega
  have e := filter_set (fun x : Int × Bool => stateOf x.1 x.2 == k) (s.counts.zip s.last) (n.toNat - 1) (s.count n + b, s.last[n.toNat - 1]) hz
  have hset : ((s.turn n b).counts.zip (s.turn n b).last) = (s.counts.zip s.last).set (n.toNat - 1) (s.count n + b, s.last[n.toNat - 1]) := by
    show (s.counts.set _ _).zip s.last = _
    rw [zip_set, List.getElem?_eq_getElem hj]
  unfold PoolS.many
  rw [hset, state_there ⟨h1, h2⟩]
  simp only [List.getElem_zip, beq_iff_eq] at e
  rw [← hcount, ← hlast] at e
  rw [hlast] at e ⊢
  exact e
end Go.Cop

namespace Go.Proofs.Ytbobcmimkonnoaa.runs1
open Go.ChangeShapes Go.WideShapes Go.ChangeAt Go.RowKit Go.Sl Go.Shelf
attribute [local go_sem] Oper.semAt_some

/-- The cells of runs. -/
def runCells (rs : List (Int × Int)) : List Value := rs.flatMap fun r => [.int .i64 r.1, .int .i64 r.2]
theorem runCells_len (rs : List (Int × Int)) : (runCells rs).length = rs.length * 2 := by
  induction rs with
  | nil => rfl
  | cons r rs ih => simp only [runCells, List.flatMap_cons, List.length_append, List.length_cons, List.length_nil] at *; omega
theorem runCells_at (rs : List (Int × Int)) (k : Nat) (h : k < rs.length) :
    (runCells rs)[k * 2]? = some (.int .i64 rs[k].1) ∧ (runCells rs)[k * 2 + 1]? = some (.int .i64 rs[k].2) := by
  induction rs generalizing k with
  | nil => simp at h
  | cons r rs ih =>
    cases k with
    | zero => simp [runCells]
    | succ k =>
      have := ih k (by simpa using h)
      have e1 : (k + 1) * 2 = k * 2 + 2 := by omega
      rw [e1]
      simp only [runCells, List.flatMap_cons, List.cons_append, List.nil_append, List.getElem?_cons_succ, List.getElem_cons_succ]
      exact this
theorem runCells_append (a b : List (Int × Int)) : runCells (a ++ b) = runCells a ++ runCells b := by simp [runCells]

def I64 (x : Int) : Prop := -9223372036854775808 ≤ x ∧ x ≤ 9223372036854775807

/-- A set in memory: its block p, the slice v of its runs. -/
def SetAt (p : Nat) (v : Value) (rs : List (Int × Int)) : Pr :=
  (Pr.pts p (.cells #[v] 136)).star (Row 138 2 v rs.length (runCells rs))

/-- What runs have of a run. -/
def cutRun (lo hi : Int) (x : Int × Int) : Option (Int × Int) := if max x.1 lo ≤ min x.2 hi then some (max x.1 lo, min x.2 hi) else none
def cutRuns (rs : List (Int × Int)) (lo hi : Int) : List (Int × Int) := rs.filterMap (cutRun lo hi)

theorem cut_list {lo hi : Int} {x m : Int × Int} (h1 : max x.1 lo = m.1) (h2 : min x.2 hi = m.2) (h3 : m.1 ≤ m.2) : (cutRun lo hi x).toList = [m] := by
  unfold cutRun
  rw [h1, h2, if_pos h3]
  rfl

def encRun (x : Int × Int) : Array Value := #[.agg #[.int .i64 x.1, .int .i64 x.2]]

abbrev PtrBx (b p : Nat) : Pr := Pr.pts b (.cells #[.pointer (some ⟨p, 0, none⟩)] 70)
abbrev RunBx (b : Nat) (lo hi : Int) : Pr := Pr.pts b (.cells #[.int .i64 lo, .int .i64 hi] 138)

def WithinOwn (p bs br : Nat) (v : Value) (rs : List (Int × Int)) (lo hi : Int) : Pr :=
  (PtrBx bs p).star ((RunBx br lo hi).star (SetAt p v rs))

set_option maxHeartbeats 1000000 in
theorem within1 (p bs br : Nat) (v : Value) (rs : List (Int × Int)) (lo hi : Int) (hl : rs.length ≤ 4294967296) :
    IterSl Try.prog 108 #[.pointer (some ⟨bs, 0, none⟩), .pointer (some ⟨br, 0, none⟩)] encRun (cutRuns rs lo hi) (WithinOwn p bs br v rs lo hi) := by
  intro l J Jx W hY h0
  refine (callsIn_wide (n := 3)).1 ?_
  refine callsIn_of_wp Try.func108 rfl trivial ?_ rfl
  simp only [Try.ntmps108, List.size_toArray, List.length_cons, List.length_nil, Nat.reduceAdd, Nat.reduceSub, Array.replicate_succ, Array.replicate_zero, List.push_toArray, List.append_toArray, List.nil_append, List.cons_append]
  have facts : ∀ (A : Pr) (wr : World), Sat (A.star (WithinOwn p bs br v rs lo hi)) wr →
      wr.cell? ⟨bs, 0, none⟩ = some (.pointer (some ⟨p, 0, none⟩)) ∧ wr.cell? ⟨br, 0, none⟩ = some (.int .i64 lo) ∧ wr.cell? ⟨br, 1, none⟩ = some (.int .i64 hi) ∧
      wr.cell? ⟨p, 0, none⟩ = some v ∧ bs < wr.heap.size ∧ br < wr.heap.size ∧ p < wr.heap.size ∧
      Sat ((Row 138 2 v rs.length (runCells rs)).star Pr.emp) wr := by
    intro A wr h
    unfold WithinOwn SetAt at h
    have h1 : Sat ((PtrBx bs p).star (A.star ((RunBx br lo hi).star ((Pr.pts p (.cells #[v] 136)).star (Row 138 2 v rs.length (runCells rs)))))) wr := h.perm (by ac_rfl)
    have h2 : Sat ((RunBx br lo hi).star (A.star ((Pr.pts p (.cells #[v] 136)).star (Row 138 2 v rs.length (runCells rs))))) wr := h1.right.perm (by ac_rfl)
    have h3 : Sat ((Pr.pts p (.cells #[v] 136)).star ((Row 138 2 v rs.length (runCells rs)).star A)) wr := h2.right.perm (by ac_rfl)
    refine ⟨by rw [cell_of_heap h1.pts_heap]; rfl, by rw [cell_of_heap h2.pts_heap]; rfl, by rw [cell_of_heap h2.pts_heap]; rfl, by rw [cell_of_heap h3.pts_heap]; rfl, h1.lt, h2.lt, h3.lt, ?_⟩
    rw [Pr.star_emp]; exact h3.right.left
  obtain ⟨a0, c0, rfl, hxl, hrow0⟩ := Row.read (facts _ _ h0).2.2.2.2.2.2.2
  have F0 := facts _ _ h0
  obtain ⟨q1, _, _, q4, _⟩ := F0
  have HF := Lib.hid facts
  have HY := Lib.hid hY
  have H0 := Lib.hid h0
  clear facts hY h0 hrow0 hxl
  gi_wp2
  gi_loopw [11] (fun i wr => ∃ k : Nat, k ≤ rs.length ∧ i = .int .i64 k ∧ Stays W wr ∧ Sat ((J (cutRuns (rs.take k) lo hi)).star (WithinOwn p bs br (.slice a0 rs.length c0) rs lo hi)) wr) (fun i _ => rs.length - (intOf i).toNat)
  case atStart => exact ⟨0, Nat.zero_le _, rfl, Stays.refl _, H0.out⟩
  case round =>
    obtain ⟨k, hk, rfl, hR, hs⟩ := hrel
    by_cases hlt : k < rs.length
    · obtain ⟨q1, q2, q3, q4, z1, z2, z3, hr⟩ := HF.out _ _ hs
      obtain ⟨a1, c1, e1, _, hrow⟩ := Row.read hr
      cases e1
      obtain ⟨b, rfl, hc⟩ := hrow (by omega)
      have hk1 := (runCells_at rs k hlt).1
      have hk2 := (runCells_at rs k hlt).2
      have c1 := (hc (k * 2) (by omega)).1.trans hk1
      have c2 := (hc (k * 2 + 1) (by omega)).1.trans hk2
      have zb := World.block_lt_of_cell? _ _ c1
      have hcat : cutRuns (rs.take (k + 1)) lo hi = cutRuns (rs.take k) lo hi ++ (cutRun lo hi rs[k]).toList := by
        unfold cutRuns
        rw [List.take_succ_eq_append_getElem hlt, List.filterMap_append]
        cases h : cutRun lo hi rs[k] <;> simp [h]
      have hpre : cutRuns (rs.take (k + 1)) lo hi <+: cutRuns rs lo hi := by
        unfold cutRuns
        exact (List.take_prefix _ _).filterMap _
      rw [hcat] at hpre
      have HC := Lib.hid hcat
      have HP := Lib.hid hpre
      clear hcat hpre
      have HS := Lib.hid hs
      clear hc hk1 hk2 hs hr hrow
      generalize rs[k] = x at *
      obtain ⟨x1, x2⟩ := x
      dsimp only at c1 c2
      gi_wp2
      gi_region
      all_goals gi_wp2
      all_goals first
        | (refine ⟨fun _ h => (by cases h), ?_⟩
           gi_wp2
           go_roundw
           case rel =>
             refine ⟨k + 1, by omega, by go_num, ((hR.alloc _).drew), ?_⟩
             have hn : cutRun lo hi (x1, x2) = none := by simp only [cutRun]; rw [if_neg (by omega)]
             rw [HC.out, hn]
             simpa using (HS.out.alloc _).right.drew
           case measure => simp [intOf]; omega)
        | (refine at_yield (HY.out Pr.emp (cutRuns (rs.take k) lo hi) (_, _) _ ?_ (((HS.out.alloc _).right.drew).perm (Pr.star_emp _).symm)) ?_
           · rw [← cut_list (lo := lo) (hi := hi) (x := (x1, x2)) (by simp only []; omega) (by simp only []; omega) (by simp only []; omega)]
             exact HP.out
           · rintro e w' ⟨hR', (⟨rfl, hs'⟩ | ⟨rfl, hs'⟩)⟩ <;> rw [Pr.star_emp] at hs'
             · refine ⟨_, rfl, ?_⟩
               rw [← cut_list (lo := lo) (hi := hi) (x := (x1, x2)) (by simp only []; omega) (by simp only []; omega) (by simp only []; omega), ← HC.out] at hs'
               have HS' := Lib.hid hs'
               clear hs'
               gi_wp2
               go_roundw
               case rel => exact ⟨k + 1, by omega, by go_num, ((hR.alloc _).drew).trans hR', HS'.out⟩
               case measure => simp [intOf]; omega
             · refine ⟨_, rfl, ?_⟩
               rw [← cut_list (lo := lo) (hi := hi) (x := (x1, x2)) (by simp only []; omega) (by simp only []; omega) (by simp only []; omega)] at hs'
               have HS' := Lib.hid hs'
               clear hs'
               gi_wp2
               refine bodyPost_ret (results_none rfl _ _ _) rfl ?_
               exact ⟨⟨_, rfl⟩, ((hR.alloc _).drew).trans hR', .inr ⟨_, HP.out, HS'.out⟩⟩)
    · gi_wp2
      go_end0
      have : k = rs.length := by omega
      subst this
      refine ⟨⟨_, rfl⟩, hR, .inl ⟨_, rfl, ?_⟩⟩
      simpa using hs
end Go.Proofs.Ytbobcmimkonnoaa.runs1

namespace Go.Proofs.Ytbobcmimkonnoaa.runs2
open Go.ChangeShapes Go.WideShapes Go.ChangeAt Go.RowKit Go.Sl Go.Shelf Go.Proofs.Ytbobcmimkonnoaa.runs1
attribute [local go_sem] Oper.semAt_some

set_option maxHeartbeats 400000 in
theorem within_any (p : Nat) (lo hi : Int) (w : World) :
    Calls Try.prog 106 #[.pointer (some ⟨p, 0, none⟩), .agg #[.int .i64 lo, .int .i64 hi]] w fun e w' =>
      e = .returned (.func (.func 108) #[] #[.pointer (some ⟨w.heap.size, 0, none⟩), .pointer (some ⟨w.heap.size + 1, 0, none⟩)]) ∧
      (w.alloc (.cells #[.pointer (some ⟨p, 0, none⟩)] 70)).alloc (.cells #[.int .i64 lo, .int .i64 hi] 138) = w' := by
  go_enter Try.func106, Try.ntmps106
  go_wp2
  go_ret
  exact ⟨rfl, rfl⟩

set_option maxHeartbeats 400000 in
theorem gaps_any (p : Nat) (lo hi : Int) (w : World) :
    Calls Try.prog 101 #[.pointer (some ⟨p, 0, none⟩), .agg #[.int .i64 lo, .int .i64 hi]] w fun e w' =>
      e = .returned (.func (.func 105) #[] #[.pointer (some ⟨w.heap.size, 0, none⟩), .pointer (some ⟨w.heap.size + 1, 0, none⟩)]) ∧
      (w.alloc (.cells #[.pointer (some ⟨p, 0, none⟩)] 70)).alloc (.cells #[.int .i64 lo, .int .i64 hi] 138) = w' := by
  go_enter Try.func101, Try.ntmps101
  go_wp2
  go_ret
  exact ⟨rfl, rfl⟩

set_option maxHeartbeats 400000 in
theorem with_any (n lo hi : Int) (w : World) :
    Calls Try.prog 102 #[.int .u64 n, .agg #[.int .i64 lo, .int .i64 hi]] w fun e w' =>
      (∃ m, e = .returned (.int .u64 m)) ∧ w.alloc (.cells #[.int .i64 lo, .int .i64 hi] 138) = w' := by
  go_enter Try.func102, Try.ntmps102
  go_wp2
  all_goals
    go_ret
    exact ⟨⟨_, rfl⟩, rfl⟩

abbrev YldBx (b l : Nat) : Pr := Pr.pts b (.cells #[.func (.yield l) #[] #[]] 146)
abbrev SomeRun (b : Nat) : Pr := Pr.ex fun lh : Int × Int => RunBx b lh.1 lh.2

/-- What the iterator over gaps owns. -/
def GapsOwn (p bs br : Nat) (v : Value) (rs : List (Int × Int)) : Pr := (SomeRun br).star ((PtrBx bs p).star (SetAt p v rs))

/-- What a loop over the gaps' inner iterator holds. -/
abbrev GapsI (J : List (Int × Int) → Pr) (l y p bs br : Nat) : Pr := (Pr.ex fun L : List (Int × Int) => J L).star ((YldBx y l).star ((SomeRun br).star (PtrBx bs p)))
abbrev GapsX (J Jx : List (Int × Int) → Pr) (p bs br : Nat) : Pr := (Pr.ex fun L : List (Int × Int) => Pr.ex fun b : Bool => if b then J L else Jx L).star ((SomeRun br).star (PtrBx bs p))

set_option maxHeartbeats 2000000 in
theorem gaps1 (p bs br : Nat) (v : Value) (rs : List (Int × Int)) (hl : rs.length ≤ 4294967296) :
    IterAny Try.prog 105 #[.pointer (some ⟨bs, 0, none⟩), .pointer (some ⟨br, 0, none⟩)] encRun (GapsOwn p bs br v rs) := by
  intro l J Jx W hY h0
  refine (callsIn_wide (n := 9)).1 (callsIn_of_wp_marks Try.func105 rfl trivial ?_ rfl)
  simp only [Try.ntmps105, List.size_toArray, List.length_cons, List.length_nil, Nat.reduceAdd, Nat.reduceSub, Array.replicate_succ, Array.replicate_zero, List.push_toArray, List.append_toArray, List.nil_append, List.cons_append]
  unfold GapsOwn at h0
  simp only [Pr.ex_star, Pr.star_ex, Sat.ex0] at h0
  obtain ⟨⟨lo, hi⟩, h0⟩ := h0
  dsimp only at h0
  have h1 : Sat ((RunBx br lo hi).star ((PtrBx bs p).star ((SetAt p v rs).star (J [])))) W := h0.perm (by ac_rfl)
  have h2 : Sat ((PtrBx bs p).star ((RunBx br lo hi).star ((SetAt p v rs).star (J [])))) W := h0.perm (by ac_rfl)
  have q1 : W.cell? ⟨br, 0, none⟩ = some (.int .i64 lo) := by rw [cell_of_heap h1.pts_heap]; rfl
  have q2 : W.cell? ⟨br, 1, none⟩ = some (.int .i64 hi) := by rw [cell_of_heap h1.pts_heap]; rfl
  have q3 : W.cell? ⟨bs, 0, none⟩ = some (.pointer (some ⟨p, 0, none⟩)) := by rw [cell_of_heap h2.pts_heap]; rfl
  have z1 := h1.lt
  have z2 := h2.lt
  have HY := Lib.hid hY
  have H2 := Lib.hid h2
  clear hY h0 h1 h2
  gi_wp2_with (refine ⟨trivial, ?_⟩; gi_at_call 106; refine (callsIn_wide.2 (within_any _ _ _ _)).mono ?_; rintro e w' ⟨rfl, rfl⟩)
  have HS : Sat ((GapsI J l W.heap.size p bs br).star (WithinOwn p (W.heap.size + 1) (W.heap.size + 1 + 1) v rs lo hi))
      (((W.alloc (.cells #[.func (.yield l) #[] #[]] 146)).alloc (.cells #[.pointer (some ⟨p, 0, none⟩)] 70)).alloc (.cells #[.int .i64 lo, .int .i64 hi] 138)) := by
    have h0 := ((H2.out.alloc (.cells #[.func (.yield l) #[] #[]] 146)).alloc (.cells #[.pointer (some ⟨p, 0, none⟩)] 70)).alloc (.cells #[.int .i64 lo, .int .i64 hi] 138)
    simp only [World.size_alloc] at h0
    have this : Sat ((RunBx (W.heap.size + 1 + 1) lo hi).star ((PtrBx (W.heap.size + 1) p).star ((YldBx W.heap.size l).star ((PtrBx bs p).star ((RunBx br lo hi).star ((SetAt p v rs).star (J []))))))) _ := h0
    unfold WithinOwn
    simp only [Pr.ex_star, Pr.star_ex, Sat.ex0]
    exact ⟨[], (lo, hi), this.perm (by dsimp only; ac_rfl)⟩
  have HR : Stays W (((W.alloc (.cells #[.func (.yield l) #[] #[]] 146)).alloc (.cells #[.pointer (some ⟨p, 0, none⟩)] 70)).alloc (.cells #[.int .i64 lo, .int .i64 hi] 138)) := (((Stays.refl W).alloc _).alloc _).alloc _
  obtain ⟨W0, hW0⟩ : ∃ W0, (((W.alloc (.cells #[.func (.yield l) #[] #[]] 146)).alloc (.cells #[.pointer (some ⟨p, 0, none⟩)] 70)).alloc (.cells #[.int .i64 lo, .int .i64 hi] 138)) = W0 := ⟨_, rfl⟩
  rw [hW0] at HS HR ⊢
  have HR := Lib.hid HR
  clear hW0 H2 q1 q2 q3 z1 z2
  refine wpIn_rangeFunc_sl (gf := 108) rfl (enters_of Try.func108 (by kernel_rfl) rfl) (within1 p (W.heap.size + 1) (W.heap.size + 1 + 1) v rs lo hi hl) (fun _ => rfl)
    (fun _ => GapsI J l W.heap.size p bs br) (fun c _ => (Pr.pure (c = .ret)).star (GapsX J Jx p bs br)) HS ?round ?done ?stop
  case round =>
    intro l' pre x W1 F1 _ hs
    obtain ⟨x1, x2⟩ := x
    have HS1 := Lib.hid hs
    clear hs
    simp only [encRun]
    gi_wp2
    have hsA := HS1.out.alloc (.cells #[.int .i64 x1, .int .i64 x2] 138)
    refine ⟨(RunBx W1.heap.size x1 x2).star ((GapsI J l W.heap.size p bs br).star (WithinOwn p (W.heap.size + 1) (W.heap.size + 1 + 1) v rs lo hi)), (Stays.refl _).alloc _, hsA.perm (by ac_rfl), ?_⟩
    clear hsA HS1 HS HR
    generalize W1.heap.size = B
    intro F2 W2 _ hs2
    -- the facts of a world in which the round stands
    have facts : ∀ (wx : World) (a b : Int) (L : List (Int × Int)), Sat ((J L).star ((RunBx br a b).star ((YldBx W.heap.size l).star ((RunBx B x1 x2).star ((PtrBx bs p).star ((WithinOwn p (W.heap.size + 1) (W.heap.size + 1 + 1) v rs lo hi).star F2)))))) wx →
        wx.cell? ⟨br, 0, none⟩ = some (.int .i64 a) ∧ wx.cell? ⟨br, 1, none⟩ = some (.int .i64 b) ∧ wx.cell? ⟨W.heap.size, 0, none⟩ = some (.func (.yield l) #[] #[]) ∧
        wx.cell? ⟨B, 0, none⟩ = some (.int .i64 x1) ∧ wx.cell? ⟨B, 1, none⟩ = some (.int .i64 x2) ∧ wx.frozen? ⟨br, 0, none⟩ = false := by
      intro wx a b L h
      have h1 : Sat ((RunBx br a b).star ((J L).star ((YldBx W.heap.size l).star ((RunBx B x1 x2).star ((PtrBx bs p).star ((WithinOwn p (W.heap.size + 1) (W.heap.size + 1 + 1) v rs lo hi).star F2)))))) wx := h.perm (by ac_rfl)
      have h2 : Sat ((YldBx W.heap.size l).star ((RunBx B x1 x2).star ((PtrBx bs p).star ((WithinOwn p (W.heap.size + 1) (W.heap.size + 1 + 1) v rs lo hi).star F2)))) wx := h1.right.right
      refine ⟨?_, ?_, ?_, ?_, ?_, frozen_of_heap h1.pts_heap 0⟩
      · rw [cell_of_heap h1.pts_heap]; rfl
      · rw [cell_of_heap h1.pts_heap]; rfl
      · rw [cell_of_heap h2.pts_heap]; rfl
      · rw [cell_of_heap h2.right.pts_heap]; rfl
      · rw [cell_of_heap h2.right.pts_heap]; rfl
    simp only [Pr.ex_star, Pr.star_ex, Sat.ex0] at hs2
    obtain ⟨L, ⟨a, b⟩, hs2⟩ := hs2
    have hs3 : Sat ((J L).star ((RunBx br a b).star ((YldBx W.heap.size l).star ((RunBx B x1 x2).star ((PtrBx bs p).star ((WithinOwn p (W.heap.size + 1) (W.heap.size + 1 + 1) v rs lo hi).star F2)))))) W2 := hs2.perm (by ac_rfl)
    obtain ⟨r1, r2, r3, r4, r5, r6⟩ := facts _ _ _ _ hs3
    have HS3 := Lib.hid hs3
    have HF := Lib.hid facts
    clear hs2 hs3 facts
    -- the end of the round, from wherever the state is
    have fin : ∀ (e : Exit) (ac : Act) (wx w' : World) (a b : Int) (L : List (Int × Int)), Sat ((J L).star ((RunBx br a b).star ((YldBx W.heap.size l).star ((RunBx B x1 x2).star ((PtrBx bs p).star ((WithinOwn p (W.heap.size + 1) (W.heap.size + 1 + 1) v rs lo hi).star F2)))))) wx →
        Stays W2 wx → ((e = .normal ∧ w' = wx.setCell ⟨br, 0, none⟩ (.int .i64 (wrap64 (x2 + 1)))) ∨ (e = .ret ∧ w' = wx)) →
        roundEnd (fun _ => GapsI J l W.heap.size p bs br) (fun c _ => (Pr.pure (c = .ret)).star (GapsX J Jx p bs br)) (WithinOwn p (W.heap.size + 1) (W.heap.size + 1 + 1) v rs lo hi) F2 (pre ++ [(x1, x2)]) W2 e ac w' := by
      intro e ac wx w' a b L h hst he
      have h1 : Sat ((RunBx br a b).star ((J L).star ((YldBx W.heap.size l).star ((RunBx B x1 x2).star ((PtrBx bs p).star ((WithinOwn p (W.heap.size + 1) (W.heap.size + 1 + 1) v rs lo hi).star F2)))))) wx := h.perm (by ac_rfl)
      rcases he with ⟨rfl, rfl⟩ | ⟨rfl, rfl⟩
      · refine ⟨hst.setCell _ _, ?_⟩
        have h2 := h1.setCell (i := 0) (.int .i64 (wrap64 (x2 + 1)))
        simp only [Pr.ex_star, Pr.star_ex, Sat.ex0]
        have h3 : Sat ((RunBx B x1 x2).star (((J L).star ((YldBx W.heap.size l).star ((RunBx br (wrap64 (x2 + 1)) b).star (PtrBx bs p)))).star ((WithinOwn p (W.heap.size + 1) (W.heap.size + 1 + 1) v rs lo hi).star F2))) (wx.setCell ⟨br, 0, none⟩ (.int .i64 (wrap64 (x2 + 1)))) := h2.perm (by show (RunBx br (wrap64 (x2 + 1)) b).star _ = _; ac_rfl)
        exact ⟨L, (wrap64 (x2 + 1), b), h3.right.perm (by dsimp only; ac_rfl)⟩
      · refine ⟨hst, ?_⟩
        have h3 : Sat ((RunBx B x1 x2).star ((YldBx W.heap.size l).star (((J L).star ((RunBx br a b).star (PtrBx bs p))).star ((WithinOwn p (W.heap.size + 1) (W.heap.size + 1 + 1) v rs lo hi).star F2)))) w' := h.perm (by ac_rfl)
        refine Sat.perm (Sat.pure.2 ⟨rfl, ?_⟩) (by rw [← Pr.star_assoc, ← Pr.star_assoc])
        simp only [Pr.ex_star, Pr.star_ex, Sat.ex0]
        exact ⟨L, (a, b), true, h3.right.right.perm (by simp only [if_true])⟩
    have FIN := Lib.hid fin
    clear fin
    by_cases hgt : a < x1
    · gi_wp2
      refine at_yield_in (HY.out ((YldBx W.heap.size l).star ((RunBx B x1 x2).star ((PtrBx (W.heap.size + 1) p).star ((RunBx (W.heap.size + 1 + 1) lo hi).star F2)))) L (_, _) _ trivial ?_) ?_
      · unfold GapsOwn
        simp only [Pr.ex_star, Pr.star_ex, Sat.ex0]
        exact ⟨(a, b), HS3.out.perm (by unfold WithinOwn; dsimp only; ac_rfl)⟩
      · rintro e w' ⟨hR', (⟨rfl, hs'⟩ | ⟨rfl, hs'⟩)⟩
        · unfold GapsOwn at hs'
          simp only [Pr.ex_star, Pr.star_ex, Sat.ex0] at hs'
          obtain ⟨⟨a', b'⟩, hs'⟩ := hs'
          have hs4 : Sat ((J (L ++ [_])).star ((RunBx br a' b').star ((YldBx W.heap.size l).star ((RunBx B x1 x2).star ((PtrBx bs p).star ((WithinOwn p (W.heap.size + 1) (W.heap.size + 1 + 1) v rs lo hi).star F2)))))) w' := hs'.perm (by unfold WithinOwn; dsimp only; ac_rfl)
          clear hs' r1 r2 r3 r4 r5 r6
          obtain ⟨r1, r2, r3, r4, r5, r6⟩ := HF.out _ _ _ _ hs4
          have HS4 := Lib.hid hs4
          clear hs4
          refine ⟨_, rfl, ?_⟩
          gi_wp2
          all_goals first
            | exact FIN.out _ _ w' _ _ _ _ HS4.out hR' (.inr ⟨rfl, rfl⟩)
            | exact FIN.out _ _ w' _ _ _ _ HS4.out hR' (.inl ⟨rfl, rfl⟩)
        · unfold GapsOwn at hs'
          simp only [Pr.ex_star, Pr.star_ex, Sat.ex0] at hs'
          obtain ⟨⟨a', b'⟩, hs'⟩ := hs'
          have HS4 := Lib.hid hs'
          clear hs'
          refine ⟨_, rfl, ?_⟩
          gi_wp2
          refine ⟨hR', ?_⟩
          have h3 : Sat ((RunBx B x1 x2).star ((YldBx W.heap.size l).star (((Jx (L ++ [_])).star ((RunBx br a' b').star (PtrBx bs p))).star ((WithinOwn p (W.heap.size + 1) (W.heap.size + 1 + 1) v rs lo hi).star F2)))) w' := HS4.out.perm (by unfold WithinOwn; ac_rfl)
          refine Sat.perm (Sat.pure.2 ⟨rfl, ?_⟩) (by rw [← Pr.star_assoc, ← Pr.star_assoc])
          simp only [Pr.ex_star, Pr.star_ex, Sat.ex0]
          exact ⟨L ++ [_], (a', b'), false, h3.right.right.perm (by simp only [Bool.false_eq_true, if_false]; ac_rfl)⟩
    · gi_wp2
      all_goals try refine ⟨fun _ h => (by cases h), ?_⟩
      all_goals gi_wp2
      all_goals first
        | exact FIN.out _ _ W2 _ _ _ _ HS3.out (Stays.refl _) (.inr ⟨rfl, rfl⟩)
        | exact FIN.out _ _ W2 _ _ _ _ HS3.out (Stays.refl _) (.inl ⟨rfl, rfl⟩)
  case done =>
    intro D xs W2 _ hst hs
    simp only [Pr.ex_star, Pr.star_ex, Sat.ex0] at hs
    obtain ⟨L, ⟨a, b⟩, hs⟩ := hs
    have h1 : Sat ((RunBx br a b).star ((YldBx W.heap.size l).star ((J L).star ((PtrBx bs p).star ((WithinOwn p (W.heap.size + 1) (W.heap.size + 1 + 1) v rs lo hi).star (Pr.pts D (.deferred (some [])))))))) W2 := hs.perm (by ac_rfl)
    have r1 : W2.cell? ⟨br, 0, none⟩ = some (.int .i64 a) := by rw [cell_of_heap h1.pts_heap]; rfl
    have r2 : W2.cell? ⟨br, 1, none⟩ = some (.int .i64 b) := by rw [cell_of_heap h1.pts_heap]; rfl
    have r3 : W2.cell? ⟨W.heap.size, 0, none⟩ = some (.func (.yield l) #[] #[]) := by rw [cell_of_heap h1.right.pts_heap]; rfl
    have H1 := Lib.hid h1
    clear h1 hs HS
    gi_wp2
    refine at_yield (HY.out ((YldBx W.heap.size l).star ((PtrBx (W.heap.size + 1) p).star ((RunBx (W.heap.size + 1 + 1) lo hi).star (Pr.pts D (.deferred (some [])))))) L (_, _) _ trivial ?_) ?_
    · unfold GapsOwn
      simp only [Pr.ex_star, Pr.star_ex, Sat.ex0]
      exact ⟨(a, b), H1.out.perm (by unfold WithinOwn; dsimp only; ac_rfl)⟩
    · rintro e w' ⟨hR', hh⟩
      have hD : w'.heap[D]? = some (.deferred (some [])) := by
        rcases hh with ⟨_, hh⟩ | ⟨_, hh⟩
        · exact (hh.perm (show _ = (Pr.pts D (.deferred (some []))).star (((J (L ++ [_])).star (GapsOwn p bs br v rs)).star ((YldBx W.heap.size l).star ((PtrBx (W.heap.size + 1) p).star (RunBx (W.heap.size + 1 + 1) lo hi)))) from by ac_rfl)).pts_heap
        · exact (hh.perm (show _ = (Pr.pts D (.deferred (some []))).star (((Jx (L ++ [_])).star (GapsOwn p bs br v rs)).star ((YldBx W.heap.size l).star ((PtrBx (W.heap.size + 1) p).star (RunBx (W.heap.size + 1 + 1) lo hi)))) from by ac_rfl)).pts_heap
      rcases hh with ⟨rfl, hh⟩ | ⟨rfl, hh⟩
      all_goals
        have HH := Lib.hid hh
        have HD := Lib.hid hD
        clear hh hD
        refine ⟨_, rfl, ?_⟩
        gi_wp2
        first
          | refine marks_end1 (D := D) rfl HD.out ⟨_, results_none rfl _ _ _, ⟨_, rfl⟩, ?_, ?_⟩
          | refine marks_ret1 (D := D) rfl HD.out ⟨_, results_none rfl _ _ _, ⟨_, rfl⟩, ?_, ?_⟩
        · exact ((HR.out.trans hst).trans hR').putObj _ _
        · first
          | exact .inl ⟨_, (((HH.out.perm (show _ = (Pr.pts D (.deferred (some []))).star (((J (L ++ [_])).star (GapsOwn p bs br v rs)).star ((YldBx W.heap.size l).star ((PtrBx (W.heap.size + 1) p).star (RunBx (W.heap.size + 1 + 1) lo hi)))) from by ac_rfl)).putObj (.deferred none)).right).left⟩
          | exact .inr ⟨_, (((HH.out.perm (show _ = (Pr.pts D (.deferred (some []))).star (((Jx (L ++ [_])).star (GapsOwn p bs br v rs)).star ((YldBx W.heap.size l).star ((PtrBx (W.heap.size + 1) p).star (RunBx (W.heap.size + 1 + 1) lo hi)))) from by ac_rfl)).putObj (.deferred none)).right).left⟩
  case stop =>
    intro D c pre W2 _ hst hs
    obtain ⟨hc, hs'⟩ := Sat.pure.1 (hs.perm (show _ = (Pr.pure (c = .ret)).star ((GapsX J Jx p bs br).star ((WithinOwn p (W.heap.size + 1) (W.heap.size + 1 + 1) v rs lo hi).star (Pr.pts D (.deferred (some []))))) from by ac_rfl))
    clear hs
    subst hc
    simp only [Pr.ex_star, Pr.star_ex, Sat.ex0] at hs'
    obtain ⟨L, ⟨a, b⟩, t, hs⟩ := hs'
    have hs1 : Sat ((Pr.pts D (.deferred (some []))).star (((if t then J L else Jx L).star ((RunBx br a b).star (PtrBx bs p))).star (WithinOwn p (W.heap.size + 1) (W.heap.size + 1 + 1) v rs lo hi))) W2 := hs.perm (by ac_rfl)
    have HD := Lib.hid hs1.pts_heap
    have HH := Lib.hid (hs1.putObj (.deferred none)).right
    clear hs hs1 HS
    gi_wp2
    refine marks_ret1 (D := D) rfl HD.out ⟨_, results_none rfl _ _ _, ⟨_, rfl⟩, ?_, ?_⟩
    · exact (HR.out.trans hst).putObj _ _
    · have h2 : Sat ((PtrBx (W.heap.size + 1) p).star ((RunBx (W.heap.size + 1 + 1) lo hi).star ((if t then J L else Jx L).star ((RunBx br a b).star ((PtrBx bs p).star (SetAt p v rs)))))) (W2.putObj D (.deferred none)) := HH.out.perm (by unfold WithinOwn; ac_rfl)
      have h3 := h2.right.right
      have h4 : ∀ X : Pr, Sat (X.star ((RunBx br a b).star ((PtrBx bs p).star (SetAt p v rs)))) (W2.putObj D (.deferred none)) → Sat (X.star (GapsOwn p bs br v rs)) (W2.putObj D (.deferred none)) := by
        intro X h
        unfold GapsOwn
        simp only [Pr.ex_star, Pr.star_ex, Sat.ex0]
        exact ⟨(a, b), h⟩
      cases t with
      | true => exact .inl ⟨L, trivial, h4 (J L) h3⟩
      | false => exact .inr ⟨L, trivial, h4 (Jx L) h3⟩
end Go.Proofs.Ytbobcmimkonnoaa.runs2

namespace Go.Proofs.Ytbobcmimkonnoaa.runs3
open Go.ChangeShapes Go.WideShapes Go.ChangeAt Go.RowKit Go.Sl Go.Proofs.Ytbobcmimkonnoaa.runs1

theorem infoRun : (Try.prog.info? 138).map (fun i => (i.zero, i.size, i.bytes)) = some (some (.agg #[.int .i64 0, .int .i64 0]), 2, 16) := by kernel_rfl

theorem zeros_run (n : Nat) (h0 : 0 < n) (hn : n ≤ 4294967296) (wx : World) : ∃ (cap : Nat) (cells : List Value), n ≤ cap ∧ cap ≤ maxLen ∧ cells.length = cap * 2 ∧
    (Builtin.append_ #[134, 3] 134 #[.slice none 0 0, .int .i64 n]).run Try.prog wx = .ok (.slice (some ⟨wx.heap.size, 0, none⟩) n cap) (wx.drew.alloc (.cells cells.toArray 138)) := by
  obtain ⟨i0, hi, hz0, hz1, hz2⟩ := info_parts infoRun
  have hr := Lib.run_append_nil_zeros (P := Try.prog) wx 134 3 134 138 i0 (.agg #[.int .i64 0, .int .i64 0]) .i64 .i64 Try.underlying134 Try.underlying3 hi hz0 n h0 (by omega) (by omega) (by rw [hz2]; omega)
  have hg := grownCap_ge wx n 0 138
  refine ⟨grownCap wx n 0 138, (Builtin.zeroCells #[.int .i64 0, .int .i64 0] n ++ Builtin.zeroCells #[.int .i64 0, .int .i64 0] (grownCap wx n 0 138 - n)).toList, hg, grownCap_le_maxLen wx n 0 _ (by simp only [maxLen]; omega), ?_, hr⟩
  rw [Array.length_toList, Array.size_append, size_zeros, size_zeros]
  show n * 2 + _ * 2 = _
  omega

theorem grow_after {cap : Nat} {cells : List Value} {F : Pr} {w : World} (hF : Sat F w) (h1 : cap ≤ maxLen) (h2 : cells.length = cap * 2) :
    Sat ((Row 138 2 (.slice (some ⟨w.heap.size, 0, none⟩) 0 cap) 0 []).star F) (w.drew.alloc (.cells cells.toArray 138)) :=
  Row.mk' (sp := cells) (by simp) (by simpa using h2) (Nat.zero_le _) h1 (by simpa using (hF.drew).alloc (.cells cells.toArray 138))

set_option maxRecDepth 100000 in
set_option maxHeartbeats 400000 in
theorem grow_nil (n : Nat) (hn : n ≤ 4294967296) (F : Pr) (w : World) (hF : Sat F w) :
    Calls Try.prog 107 #[.slice none 0 0, .int .i64 n] w fun e w' =>
      ∃ v, e = .returned v ∧ Sat ((Row 138 2 v 0 []).star F) w' ∧ Stays w w' := by
  by_cases h0 : 0 < n
  · obtain ⟨cap, cells, h1, h2, h3, h4⟩ := zeros_run n h0 hn w
    have HR := Lib.hid h4
    have HF := Lib.hid (grow_after hF h2 h3)
    clear h4 hF h3
    go_enter Try.func107, Try.ntmps107
    go_wp2_with (at_builtin; refine Lib.wpList_append_run _ rfl _ _ _ _ rfl _ _ rfl rfl _ _ HR.out ?_)
    go_ret
    exact ⟨_, rfl, HF.out, ((Stays.refl w).drew).alloc _⟩
  · have : n = 0 := by omega
    subst this
    go_enter Try.func107, Try.ntmps107
    go_wp2
    go_ret
    exact ⟨.slice none 0 0, rfl, by rw [Row.nil, Pr.emp_star]; exact hF, Stays.refl w⟩

def total (ps : List (Value × Nat × List Value)) : Nat := (ps.map fun x => x.2.1).sum
def flat (ps : List (Value × Nat × List Value)) : List Value := ps.flatMap fun x => x.2.2
theorem total_snoc (ps : List (Value × Nat × List Value)) (k : Nat) (h : k < ps.length) : total (ps.take (k + 1)) = total (ps.take k) + ps[k].2.1 := by
  unfold total; rw [List.take_succ_eq_append_getElem h, List.map_append, List.sum_append]; simp
theorem flat_snoc (ps : List (Value × Nat × List Value)) (k : Nat) (h : k < ps.length) : flat (ps.take (k + 1)) = flat (ps.take k) ++ ps[k].2.2 := by
  unfold flat; rw [List.take_succ_eq_append_getElem h, List.flatMap_append]; simp
theorem total_le (ps : List (Value × Nat × List Value)) (k : Nat) : total (ps.take k) ≤ total ps := by
  unfold total
  have := List.take_append_drop k ps
  have h2 : (ps.map fun x => x.2.1).sum = ((ps.take k).map fun x => x.2.1).sum + ((ps.drop k).map fun x => x.2.1).sum := by
    rw [← List.sum_append, ← List.map_append, this]
  omega

set_option maxRecDepth 100000 in
set_option maxHeartbeats 1000000 in
theorem concat_any (h : Hp) (sv : Value) (ps : List (Value × Nat × List Value)) (hs : RowIn h 1 sv ps.length (ps.map fun x => x.1))
    (hps : ∀ x ∈ ps, RowIn h 2 x.1 x.2.1 x.2.2 ∧ ∀ u ∈ x.2.2, u.oneCell' = true) (hb : total ps ≤ 4294967296) (hlen : ps.length ≤ 65536) (F : Pr) (w : World) (hF : Sat ((Pr.own h).star F) w) :
    Calls Try.prog 103 #[sv] w fun e w' =>
      ∃ v, e = .returned v ∧ Sat ((Row 138 2 v (total ps) (flat ps)).star ((Pr.own h).star F)) w' ∧ Stays w w' := by
  obtain ⟨_, a, c, rfl, _, _, hcell⟩ := hs
  have cells : ∀ (k : Nat) (hk : k < ps.length) (wx : World), h.le wx → ∃ b off a' n' c', a = some ⟨b, off, none⟩ ∧ ps[k].1 = .slice a' n' c' ∧ n' = ps[k].2.1 ∧ wx.cell? ⟨b, off + k, none⟩ = some (.slice a' n' c') := by
    intro k hk wx hle
    obtain ⟨b, off, e1, hc⟩ := hcell (by omega)
    obtain ⟨_, a', c', e2, _⟩ := (hps _ (List.getElem_mem hk)).1
    refine ⟨b, off, a', _, c', e1, e2, rfl, ?_⟩
    refine Hp.cell_le hle ((hc k (by omega)).trans ?_)
    simp [hk, e2]
  have HC := Lib.hid cells
  have HL := Lib.hid hF
  have HPS := Lib.hid hps
  have hle := hF.own
  clear cells hF hcell hps
  go_enter Try.func103, Try.ntmps103
  go_wp2
  go_loop [3, 11] (fun s i => ∃ k : Nat, k ≤ ps.length ∧ i = .int .i64 k ∧ s = .int .i64 (total (ps.take k) : Nat)) (fun _ i => ps.length - (intOf i).toNat)
  case atStart => exact ⟨0, Nat.zero_le _, rfl, rfl⟩
  case round =>
    obtain ⟨k, hk, rfl, rfl⟩ := hrel
    have ht := total_le ps k
    by_cases hlt : k < ps.length
    · obtain ⟨b, off, a', n', c', rfl, e2, e3, e4⟩ := HC.out k hlt w hle
      have hs1 := total_snoc ps k hlt
      have ht1 := total_le ps (k + 1)
      rw [← e3] at hs1
      have HS1 := Lib.hid hs1
      have hn' : total (ps.take k) + n' ≤ 4294967296 := by omega
      clear hs1 ht1 e2 e3
      generalize total (ps.take k) = tk at *
      go_wp2
      go_round
      case rel => exact ⟨k + 1, by omega, by go_num, by rw [HS1.out]; go_num⟩
      case measure => simp [intOf]; omega
    · have hkl : k = ps.length := by omega
      subst hkl
      rw [List.take_length] at *
      go_wp2_with (go_at_call 107; refine (grow_nil _ hb _ _ HL.out).mono ?_; rintro e w' ⟨v0, rfl, hg, hst⟩)
      have HG := Lib.hid hg
      clear hg
      go_loopw [6, 27] (fun v i wr => ∃ k : Nat, k ≤ ps.length ∧ i = .int .i64 k ∧ Stays w wr ∧ Sat ((Row 138 2 v (total (ps.take k)) (flat (ps.take k))).star ((Pr.own h).star F)) wr) (fun _ i _ => ps.length - (intOf i).toNat)
      case atStart => exact ⟨0, Nat.zero_le _, rfl, hst, HG.out⟩
      case round =>
        obtain ⟨k, hk, rfl, hst2, hrow⟩ := hrel
        by_cases hlt : k < ps.length
        · have hle2 := hrow.right.own
          obtain ⟨b, off, a', n', c', rfl, e2, e3, e4⟩ := HC.out k hlt _ hle2
          have hx := HPS.out _ (List.getElem_mem hlt)
          rw [e2, ← e3] at hx
          have hs1 := total_snoc ps k hlt
          have hs2 := flat_snoc ps k hlt
          have ht1 := total_le ps (k + 1)
          rw [← e3] at hs1
          have HS1 := Lib.hid hs1
          have HS2 := Lib.hid hs2
          have hn' : total (ps.take k) + n' ≤ 4294967296 := by omega
          have HX := Lib.hid hx
          have HROW := Lib.hid hrow
          have HLE := Lib.hid hle2
          have HI := Lib.hid (info_parts infoRun)
          clear hs1 hs2 ht1 e2 e3 hx hrow hle2 hst hle
          generalize total (ps.take k) = tk at *
          generalize ps[k].2.2 = news at *
          obtain ⟨i0, hi, hz0, hz1, hz2⟩ := HI.out
          go_wp2_with (at_builtin; refine wpList_append_row rfl _ _ _ rfl 138 i0 (.agg #[.int .i64 0, .int .i64 0]) 2 16 Try.underlying134 hi hz0 hz1 hz2 rfl _ _ _ rfl HROW.out h HLE.out _ _ _ rfl HX.out.1 HX.out.2 (by simp only [maxLen]; omega) (by omega) ?_; intro v' w1 hsat hgr _; have HSAT := Lib.hid hsat; clear hsat)
          go_roundw
          case rel => exact ⟨k + 1, by omega, by go_num, hst2.of_grown hgr, by rw [HS1.out, HS2.out]; exact HSAT.out⟩
          case measure => simp [intOf]; omega
        · have hkl : k = ps.length := by omega
          subst hkl
          rw [List.take_length] at hrow
          have HROW := Lib.hid hrow
          clear hrow
          go_wp2
          go_ret
          exact ⟨_, rfl, HROW.out, hst2⟩
end Go.Proofs.Ytbobcmimkonnoaa.runs3
