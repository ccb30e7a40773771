/- Plain laws: runs as sets of numbers: what adding and removing a run does to the numbers. No program in sight. -/
import Derived.Test.YtbobcmimkonnoaaRuns5
namespace Go.Cop
open Go.Proofs.Ytbobcmimkonnoaa.runs4 Go.Proofs.Ytbobcmimkonnoaa.runs5

abbrev Rs := List (Int × Int)
/-- Rising, with numbers between that are in none. -/
def Canon (rs : Rs) : Prop := rs.Pairwise (fun x y => x.2 + 1 < y.1) ∧ ∀ x ∈ rs, x.1 ≤ x.2
def InRuns (rs : Rs) (n : Int) : Prop := ∃ x ∈ rs, x.1 ≤ n ∧ n ≤ x.2

theorem inRuns_append {a b : Rs} {n : Int} : InRuns (a ++ b) n ↔ InRuns a n ∨ InRuns b n := by
  unfold InRuns
  constructor
  · rintro ⟨x, hx, h⟩
    rcases List.mem_append.1 hx with h1 | h1
    · exact .inl ⟨x, h1, h⟩
    · exact .inr ⟨x, h1, h⟩
  · rintro (⟨x, hx, h⟩ | ⟨x, hx, h⟩)
    · exact ⟨x, List.mem_append_left _ hx, h⟩
    · exact ⟨x, List.mem_append_right _ hx, h⟩
theorem inRuns_cons {x : Int × Int} {b : Rs} {n : Int} : InRuns (x :: b) n ↔ (x.1 ≤ n ∧ n ≤ x.2) ∨ InRuns b n := by
  unfold InRuns; simp
theorem inRuns_nil {n : Int} : ¬ InRuns [] n := by unfold InRuns; simp

structure AddInv (st : AddSt) (rest : Rs) : Prop where
  le : st.2.1.1 ≤ st.2.1.2
  below : Canon st.1
  belowLo : ∀ x ∈ st.1, x.2 + 1 < st.2.1.1
  above : Canon st.2.2
  aboveHi : ∀ x ∈ st.2.2, st.2.1.2 + 1 < x.1
  restB : ∀ x ∈ st.1, ∀ y ∈ rest, x.2 + 1 < y.1
  restA : ∀ x ∈ st.2.2, ∀ y ∈ rest, x.2 + 1 < y.1

theorem canon_snoc {a : Rs} {y : Int × Int} (h : Canon a) (hy : y.1 ≤ y.2) (hb : ∀ x ∈ a, x.2 + 1 < y.1) : Canon (a ++ [y]) := by
  refine ⟨List.pairwise_append.2 ⟨h.1, List.pairwise_singleton _ _, fun x hx z hz => ?_⟩, fun x hx => ?_⟩
  · rw [List.mem_singleton.1 hz]; exact hb x hx
  · rcases List.mem_append.1 hx with h1 | h1
    · exact h.2 x h1
    · rw [List.mem_singleton.1 h1]; exact hy

theorem addInv_step {st : AddSt} {y : Int × Int} {rest : Rs} (h : AddInv st (y :: rest)) (hy : y.1 ≤ y.2) (hr : ∀ z ∈ rest, y.2 + 1 < z.1) :
    AddInv (addStep st y) rest ∧ ∀ n, (InRuns (addStep st y).1 n ∨ ((addStep st y).2.1.1 ≤ n ∧ n ≤ (addStep st y).2.1.2) ∨ InRuns (addStep st y).2.2 n) ↔
      (InRuns st.1 n ∨ (st.2.1.1 ≤ n ∧ n ≤ st.2.1.2) ∨ InRuns st.2.2 n) ∨ (y.1 ≤ n ∧ n ≤ y.2) := by
  obtain ⟨B, ⟨lo, hi⟩, A⟩ := st
  obtain ⟨h1, h2, h3, h4, h5, h6, h7⟩ := h
  dsimp only at *
  have hA : A ≠ [] → hi + 1 < y.1 := fun hne => by
    obtain ⟨x, hx⟩ := List.exists_mem_of_ne_nil _ hne
    have a1 := h5 x hx
    have a2 := h4.2 x hx
    have a3 := h7 x hx y List.mem_cons_self
    omega
  unfold addStep
  dsimp only
  split
  · rename_i c
    refine ⟨⟨h1, canon_snoc h2 hy (fun x hx => h6 x hx y List.mem_cons_self), fun x hx => ?_, h4, h5, fun x hx z hz => ?_, fun x hx z hz => h7 x hx z (List.mem_cons_of_mem _ hz)⟩, fun n => ?_⟩
    · rcases List.mem_append.1 hx with h | h
      · exact h3 x h
      · rw [List.mem_singleton.1 h]; exact c
    · rcases List.mem_append.1 hx with h | h
      · exact h6 x h z (List.mem_cons_of_mem _ hz)
      · rw [List.mem_singleton.1 h]; exact hr z hz
    · rw [inRuns_append, inRuns_cons]
      simp only [inRuns_nil, or_false]
      constructor
      · rintro ((h | h) | h | h)
        · exact .inl (.inl h)
        · exact .inr h
        · exact .inl (.inr (.inl h))
        · exact .inl (.inr (.inr h))
      · rintro ((h | h | h) | h)
        · exact .inl (.inl h)
        · exact .inr (.inl h)
        · exact .inr (.inr h)
        · exact .inl (.inr h)
  · split
    · rename_i c c'
      refine ⟨⟨h1, h2, h3, canon_snoc h4 hy (fun x hx => h7 x hx y List.mem_cons_self), fun x hx => ?_, fun x hx z hz => h6 x hx z (List.mem_cons_of_mem _ hz), fun x hx z hz => ?_⟩, fun n => ?_⟩
      · rcases List.mem_append.1 hx with h | h
        · exact h5 x h
        · rw [List.mem_singleton.1 h]; dsimp only; omega
      · rcases List.mem_append.1 hx with h | h
        · exact h7 x h z (List.mem_cons_of_mem _ hz)
        · rw [List.mem_singleton.1 h]; exact hr z hz
      · rw [inRuns_append, inRuns_cons]
        simp only [inRuns_nil, or_false]
        constructor
        · rintro (h | h | h | h)
          · exact .inl (.inl h)
          · exact .inl (.inr (.inl h))
          · exact .inl (.inr (.inr h))
          · exact .inr h
        · rintro ((h | h | h) | h)
          · exact .inl h
          · exact .inr (.inl h)
          · exact .inr (.inr (.inl h))
          · exact .inr (.inr (.inr h))
    · rename_i c c'
      have hnil : A = [] := by
        cases hA' : A with
        | nil => rfl
        | cons a A' => have := hA (by rw [hA']; simp); omega
      subst hnil
      refine ⟨⟨by dsimp only; omega, h2, fun x hx => ?_, h4, (fun x hx => by cases hx), fun x hx z hz => h6 x hx z (List.mem_cons_of_mem _ hz), (fun x hx => by cases hx)⟩, fun n => ?_⟩
      · have a1 := h3 x hx
        have a2 := h6 x hx y List.mem_cons_self
        dsimp only
        omega
      · dsimp only
        simp only [inRuns_nil, or_false]
        by_cases hB : InRuns B n
        · simp [hB]
        · simp only [hB, false_or]
          omega

theorem addInv_fold (rs : Rs) : ∀ (st : AddSt), AddInv st rs → Canon rs → AddInv (rs.foldl addStep st) [] ∧ ∀ n, (InRuns (rs.foldl addStep st).1 n ∨ ((rs.foldl addStep st).2.1.1 ≤ n ∧ n ≤ (rs.foldl addStep st).2.1.2) ∨ InRuns (rs.foldl addStep st).2.2 n) ↔
      (InRuns st.1 n ∨ (st.2.1.1 ≤ n ∧ n ≤ st.2.1.2) ∨ InRuns st.2.2 n) ∨ InRuns rs n := by
  induction rs with
  | nil => intro st h _; exact ⟨h, fun n => by simp [inRuns_nil]⟩
  | cons y rs ih =>
    intro st h hc
    obtain ⟨hp, hle⟩ := hc
    have hp' := List.pairwise_cons.1 hp
    obtain ⟨h1, h2⟩ := addInv_step h (hle y List.mem_cons_self) hp'.1
    obtain ⟨h3, h4⟩ := ih _ h1 ⟨hp'.2, fun x hx => hle x (List.mem_cons_of_mem _ hx)⟩
    refine ⟨h3, fun n => ?_⟩
    rw [List.foldl_cons, h4, h2, inRuns_cons, or_assoc]

theorem canon_nil : Canon [] := ⟨List.Pairwise.nil, (fun x hx => by cases hx)⟩
/-- What adding a run does. -/
theorem addRuns_law (rs : Rs) (lo hi : Int) (h : Canon rs) (hl : lo ≤ hi) : Canon (addRuns rs lo hi) ∧ ∀ n, InRuns (addRuns rs lo hi) n ↔ (lo ≤ n ∧ n ≤ hi) ∨ InRuns rs n := by
  obtain ⟨hi', hm⟩ := addInv_fold rs ([], (lo, hi), []) ⟨hl, canon_nil, (fun x hx => by cases hx), canon_nil, (fun x hx => by cases hx), (fun x hx => by cases hx), (fun x hx => by cases hx)⟩ h
  unfold addRuns addFold
  generalize rs.foldl addStep ([], (lo, hi), []) = st at *
  obtain ⟨B, ⟨lo', hi1⟩, A⟩ := st
  obtain ⟨h1, h2, h3, h4, h5, h6, h7⟩ := hi'
  dsimp only at *
  constructor
  · have hc := canon_snoc (y := (lo', hi1)) h2 h1 h3
    refine ⟨List.pairwise_append.2 ⟨hc.1, h4.1, fun x hx y hy => ?_⟩, fun x hx => ?_⟩
    · rcases List.mem_append.1 hx with h | h
      · have a1 := h3 x h
        have a2 := h5 y hy
        omega
      · rw [List.mem_singleton.1 h]; exact h5 y hy
    · rcases List.mem_append.1 hx with h | h
      · exact hc.2 x h
      · exact h4.2 x h
  · intro n
    have := hm n
    rw [inRuns_append, inRuns_append, inRuns_cons]
    simp only [inRuns_nil, or_false, false_or] at this ⊢
    rw [← this, or_assoc]

theorem remOne_in {lo hi : Int} {x p : Int × Int} (hx : x.1 ≤ x.2) (hp : p ∈ remOne lo hi x) : x.1 ≤ p.1 ∧ p.1 ≤ p.2 ∧ p.2 ≤ x.2 := by
  unfold remOne at hp
  split at hp
  · rw [List.mem_singleton.1 hp]; exact ⟨Int.le_refl _, hx, Int.le_refl _⟩
  · rename_i c
    rcases List.mem_append.1 hp with h | h
    · split at h
      · rw [List.mem_singleton.1 h]; dsimp only; omega
      · cases h
    · split at h
      · rw [List.mem_singleton.1 h]; dsimp only; omega
      · cases h

theorem remOne_canon {lo hi : Int} {x : Int × Int} (hl : lo ≤ hi) : (remOne lo hi x).Pairwise fun x y => x.2 + 1 < y.1 := by
  unfold remOne
  split
  · exact List.pairwise_singleton _ _
  · split <;> split <;> simp
    omega

theorem remOne_mem {lo hi : Int} {x : Int × Int} (n : Int) (hl : lo ≤ hi) : InRuns (remOne lo hi x) n ↔ (x.1 ≤ n ∧ n ≤ x.2) ∧ ¬ (lo ≤ n ∧ n ≤ hi) := by
  unfold remOne
  split
  · simp only [inRuns_cons, inRuns_nil, or_false]; omega
  · rw [inRuns_append]
    split <;> split <;> simp only [inRuns_cons, inRuns_nil, or_false, false_or] <;> (constructor <;> intro h <;> first | omega | exact h.elim)

/-- What taking a run out does. -/
theorem remRuns_law (lo hi : Int) (hl : lo ≤ hi) : ∀ (rs : Rs), Canon rs → Canon (remRuns rs lo hi) ∧ (∀ n, InRuns (remRuns rs lo hi) n ↔ InRuns rs n ∧ ¬ (lo ≤ n ∧ n ≤ hi)) := by
  intro rs
  induction rs with
  | nil => intro _; exact ⟨canon_nil, fun n => by simp [remRuns, inRuns_nil]⟩
  | cons x rs ih =>
    rintro ⟨hp, hle⟩
    have hp' := List.pairwise_cons.1 hp
    obtain ⟨h1, h2⟩ := ih ⟨hp'.2, fun y hy => hle y (List.mem_cons_of_mem _ hy)⟩
    have hx := hle x List.mem_cons_self
    have e : remRuns (x :: rs) lo hi = remOne lo hi x ++ remRuns rs lo hi := by simp [remRuns]
    rw [e]
    refine ⟨⟨List.pairwise_append.2 ⟨remOne_canon hl, h1.1, fun a ha b hb => ?_⟩, fun a ha => ?_⟩, fun n => ?_⟩
    · have a1 := remOne_in hx ha
      unfold remRuns at hb
      obtain ⟨y, hy, hby⟩ := List.mem_flatMap.1 hb
      have a2 := remOne_in (hle y (List.mem_cons_of_mem _ hy)) hby
      have a3 := hp'.1 y hy
      omega
    · rcases List.mem_append.1 ha with h | h
      · exact (remOne_in hx h).2.1
      · exact h1.2 a h
    · rw [inRuns_append, inRuns_cons, remOne_mem n hl, h2]
      constructor
      · rintro (⟨h, k⟩ | ⟨h, k⟩)
        · exact ⟨.inl h, k⟩
        · exact ⟨.inr h, k⟩
      · rintro ⟨h | h, k⟩
        · exact .inl ⟨h, k⟩
        · exact .inr ⟨h, k⟩

/-- The lowest number is the first run's. -/
theorem lowest_law {x : Int × Int} {rs : Rs} (h : Canon (x :: rs)) : InRuns (x :: rs) x.1 ∧ ∀ n, InRuns (x :: rs) n → x.1 ≤ n := by
  obtain ⟨hp, hle⟩ := h
  have hp' := List.pairwise_cons.1 hp
  have hx := hle x List.mem_cons_self
  refine ⟨⟨x, List.mem_cons_self, Int.le_refl _, hx⟩, ?_⟩
  rintro n ⟨y, hy, h1, h2⟩
  rcases List.mem_cons.1 hy with rfl | hy
  · exact h1
  · have := hp'.1 y hy
    omega

/-- As many runs as numbers at most. -/
theorem canon_len : ∀ (rs : Rs) (a b : Int), Canon rs → (∀ n, InRuns rs n → a ≤ n ∧ n ≤ b) → (rs.length : Int) ≤ max 0 (b - a + 1) := by
  intro rs
  induction rs with
  | nil => intro a b _ _; simp; omega
  | cons x rs ih =>
    rintro a b ⟨hp, hle⟩ hr
    have hp' := List.pairwise_cons.1 hp
    have hx := hle x List.mem_cons_self
    have h1 := hr x.1 ⟨x, List.mem_cons_self, Int.le_refl _, hx⟩
    have h2 := ih (x.1 + 1) b ⟨hp'.2, fun y hy => hle y (List.mem_cons_of_mem _ hy)⟩ (fun n hn => by
      obtain ⟨y, hy, k1, k2⟩ := hn
      have := hp'.1 y hy
      have := hr n ⟨y, List.mem_cons_of_mem _ hy, k1, k2⟩
      omega)
    simp only [List.length_cons]
    omega
theorem canon_in {rs : Rs} {a b : Int} (h : Canon rs) (hr : ∀ n, InRuns rs n → a ≤ n ∧ n ≤ b) : ∀ x ∈ rs, a ≤ x.1 ∧ x.1 ≤ x.2 ∧ x.2 ≤ b := fun x hx => by
  have h1 := h.2 x hx
  exact ⟨(hr x.1 ⟨x, hx, Int.le_refl _, h1⟩).1, h1, (hr x.2 ⟨x, hx, h1, Int.le_refl _⟩).2⟩
end Go.Cop
