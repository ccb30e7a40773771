/- Plain laws of a pool's state: turning a count. No program in sight. -/
import Derived.Test.YtbobcmimkonnoaaDefs
namespace Go.Cop

def PoolS.turn (s : PoolS) (n b : Int) : PoolS := { s with counts := s.counts.set (n.toNat - 1) (s.count n + b) }

structure PoolOk (s : PoolS) : Prop where
  n1 : 1 ≤ s.counts.length
  n2 : s.counts.length ≤ 65536
  len : s.last.length = s.counts.length
  r1 : 2 ≤ s.refs
  r2 : s.refs < 65536
  cs : ∀ c ∈ s.counts, 0 ≤ c ∧ c ≤ 65536
  fl : 0 ≤ s.floor
  mb : s.floor + s.acts.length ≤ 1099511627776

theorem count_bd {s : PoolS} (h : PoolOk s) (n : Int) : 0 ≤ s.count n ∧ s.count n ≤ 65536 := by
  unfold PoolS.count
  split
  · rename_i ht
    obtain ⟨h1, h2⟩ := ht
    have hlt : n.toNat - 1 < s.counts.length := by omega
    rw [List.getD_eq_getElem?_getD, List.getElem?_eq_getElem hlt]
    exact h.cs _ (List.getElem_mem hlt)
  · omega

theorem turn_there {s : PoolS} {n b m : Int} : (s.turn n b).there m ↔ s.there m := by simp [PoolS.there, PoolS.turn]
theorem turn_count {s : PoolS} {n b m : Int} (h : s.there n) : (s.turn n b).count m = if m = n then s.count n + b else s.count m := by
  obtain ⟨h1, h2⟩ := h
  by_cases hm : s.there m
  · have hm' : (s.turn n b).there m := turn_there.2 hm
    have e1 : (s.turn n b).count m = (s.turn n b).counts.getD (m.toNat - 1) 0 := by unfold PoolS.count; rw [if_pos hm']
    have e2 : s.count m = s.counts.getD (m.toNat - 1) 0 := by unfold PoolS.count; rw [if_pos hm]
    obtain ⟨m1, m2⟩ := hm
    rw [e1]
    simp only [PoolS.turn, List.getD_eq_getElem?_getD]
    by_cases he : m = n
    · subst he
      rw [List.getElem?_set_self (by omega), if_pos rfl]; rfl
    · rw [List.getElem?_set_ne (by omega), if_neg he, e2, List.getD_eq_getElem?_getD]
  · have hm' : ¬ (s.turn n b).there m := fun h => hm (turn_there.1 h)
    have hne : m ≠ n := fun e => hm (e ▸ ⟨h1, h2⟩)
    unfold PoolS.count
    rw [if_neg hm', if_neg hm, if_neg hne]
theorem turn_state {s : PoolS} {n b m : Int} (h : s.there n) : (s.turn n b).state m = if m = n then stateOf (s.count n + b) (s.lasts n) else s.state m := by
  unfold PoolS.state
  by_cases hm : s.there m
  · rw [if_pos (turn_there.2 hm), if_pos hm, turn_count h]
    by_cases he : m = n
    · rw [if_pos he, if_pos he, he]; rfl
    · rw [if_neg he, if_neg he]; rfl
  · have hne : m ≠ n := fun e => hm (e ▸ h)
    rw [if_neg (fun h => hm (turn_there.1 h)), if_neg hm, if_neg hne]
theorem state_there {s : PoolS} {n : Int} (h : s.there n) : s.state n = stateOf (s.count n) (s.lasts n) := by unfold PoolS.state; rw [if_pos h]

theorem turn_ok {s : PoolS} (h : PoolOk s) {n b : Int} (h0 : 0 ≤ s.count n + b) (h1 : s.count n + b ≤ 65536) : PoolOk (s.turn n b) := by
  refine ⟨by simpa [PoolS.turn] using h.n1, by simpa [PoolS.turn] using h.n2, by simpa [PoolS.turn] using h.len, h.r1, h.r2, fun c hc => ?_, h.fl, h.mb⟩
  rcases List.mem_or_eq_of_mem_set hc with h2 | h2
  · exact h.cs c h2
  · rw [h2]; exact ⟨h0, h1⟩

/-- How many are k in a list, one of which is another one now. -/
theorem filter_set {α : Type} (p : α → Bool) : ∀ (l : List α) (i : Nat) (x : α) (h : i < l.length),
    ((l.set i x).filter p).length + (if p l[i] then 1 else 0) = (l.filter p).length + (if p x then 1 else 0) := by
  intro l
  induction l with
  | nil => intro i x h; simp at h
  | cons a l ih =>
    intro i x h
    cases i with
    | zero => simp only [List.set_cons_zero, List.filter_cons, List.getElem_cons_zero]; split <;> split <;> simp
    | succ i =>
      have := ih i x (by simpa using h)
      simp only [List.set_cons_succ, List.filter_cons, List.getElem_cons_succ]
      split
      · simp only [List.length_cons]; omega
      · exact this

theorem zip_set {α β : Type} : ∀ (l : List α) (m : List β) (i : Nat) (x : α), (l.set i x).zip m = match m[i]? with
    | some y => (l.zip m).set i (x, y)
    | none => l.zip m := by
  intro l
  induction l with
  | nil => intro m i x; cases m[i]? <;> simp
  | cons a l ih =>
    intro m i x
    cases m with
    | nil => simp
    | cons b m =>
      cases i with
      | zero => simp
      | succ i =>
        have := ih m i x
        simp only [List.set_cons_succ, List.zip_cons_cons, List.getElem?_cons_succ, this]
        cases m[i]? <;> simp

theorem turn_many {s : PoolS} (h : PoolOk s) {n b : Int} (hn : s.there n) (k : Int) :
    (s.turn n b).many k + (if s.state n = k then 1 else 0) = s.many k + (if stateOf (s.count n + b) (s.lasts n) = k then 1 else 0) := by
  obtain ⟨h1, h2⟩ := hn
  have hi : n.toNat - 1 < s.counts.length := by omega
  have hj : n.toNat - 1 < s.last.length := by rw [h.len]; exact hi
  have hlast : s.lasts n = s.last[n.toNat - 1] := by unfold PoolS.lasts; rw [List.getD_eq_getElem?_getD, List.getElem?_eq_getElem hj]; rfl
  have hcount : s.count n = s.counts[n.toNat - 1] := by
    unfold PoolS.count; rw [if_pos ⟨h1, h2⟩, List.getD_eq_getElem?_getD, List.getElem?_eq_getElem hi]; rfl
  have hz : n.toNat - 1 < (s.counts.zip s.last).length := by simp; omega
  have e := filter_set (fun x : Int × Bool => stateOf x.1 x.2 == k) (s.counts.zip s.last) (n.toNat - 1) (s.count n + b, s.last[n.toNat - 1]) hz
  have hset : ((s.turn n b).counts.zip (s.turn n b).last) = (s.counts.zip s.last).set (n.toNat - 1) (s.count n + b, s.last[n.toNat - 1]) := by
    show (s.counts.set _ _).zip s.last = _
    rw [zip_set, List.getElem?_eq_getElem hj]
  unfold PoolS.many
  rw [hset, state_there ⟨h1, h2⟩]
  simp only [List.getElem_zip, beq_iff_eq] at e
  rw [← hcount, ← hlast] at e
  rw [hlast] at e ⊢
  exact e
end Go.Cop
