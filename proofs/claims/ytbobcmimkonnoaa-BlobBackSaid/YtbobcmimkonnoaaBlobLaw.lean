/- Plain laws of what is stored: pages taken, chains of pages. No program in sight. -/
import Derived.Test.YtbobcmimkonnoaaVault5
namespace Go.Cop

theorem zip_at {s : PoolS} (ok : PoolOk s) {i : Nat} (hi : i < s.counts.length) : s.there (i + 1) ∧ s.state (i + 1) = stateOf s.counts[i] (s.last[i]'(by rw [ok.len]; exact hi)) := by
  have ht : s.there ((i : Int) + 1) := ⟨by omega, by omega⟩
  refine ⟨ht, ?_⟩
  have hl : i < s.last.length := by rw [ok.len]; exact hi
  rw [state_there ht]
  unfold PoolS.count PoolS.lasts
  rw [if_pos ht, show ((i : Int) + 1).toNat - 1 = i by omega, List.getD_eq_getElem?_getD, List.getD_eq_getElem?_getD, List.getElem?_eq_getElem hi, List.getElem?_eq_getElem hl]
  rfl
theorem free_of_many {s : PoolS} (ok : PoolOk s) {k : Int} (h : s.many k ≠ 0) : ∃ n, s.state n = k := by
  unfold PoolS.many at h
  cases hl : (s.counts.zip s.last).filter fun x => stateOf x.1 x.2 == k with
  | nil => rw [hl] at h; simp at h
  | cons x l =>
    have hx : x ∈ (s.counts.zip s.last).filter fun x => stateOf x.1 x.2 == k := by rw [hl]; simp
    obtain ⟨h1, h2⟩ := List.mem_filter.1 hx
    obtain ⟨i, hi, e⟩ := List.getElem_of_mem h1
    have hc : i < s.counts.length := by simp at hi; omega
    refine ⟨(i : Int) + 1, ?_⟩
    rw [(zip_at ok hc).2]
    rw [List.getElem_zip] at e
    subst e
    simpa using h2
theorem many_of_none {s : PoolS} (ok : PoolOk s) {k : Int} (h : ∀ n, s.state n ≠ k) : s.many k = 0 := by
  unfold PoolS.many
  rw [List.length_eq_zero_iff, List.filter_eq_nil_iff]
  intro x hx
  obtain ⟨i, hi, e⟩ := List.getElem_of_mem hx
  have hc : i < s.counts.length := by simp at hi; omega
  have := h ((i : Int) + 1)
  rw [(zip_at ok hc).2] at this
  rw [List.getElem_zip] at e
  subst e
  simpa using this
theorem lasts_of_free {s : PoolS} (ok : PoolOk s) {n : Int} (h : s.state n = 1) : s.lasts n = false := by
  have h0 := count_of_free ok h
  rw [state_there (there_of_state (by omega)), h0] at h
  cases hl : s.lasts n with
  | false => rfl
  | true => rw [hl] at h; simp [stateOf] at h
theorem did_many {s : PoolS} (ok : PoolOk s) {n : Int} (h : s.state n = 1) : (s.did n 1).many 1 + 1 = s.many 1 := by
  have h0 := count_of_free ok h
  have h1 := lasts_of_free ok h
  have ht := there_of_state (by omega : s.state n ≠ 0)
  have := turn_many ok (b := 1) ht 1
  rw [h, h0, h1] at this
  show (s.turn n 1).many 1 + 1 = _
  simpa [stateOf] using this
theorem did_lasts {s : PoolS} {n b m : Int} : (s.did n b).lasts m = s.lasts m := rfl

def VaultS.make (s : VaultS) (n : Int) (g : PageV) : VaultS := (s.made n g).acted ⟨s.pool.mark, [(n, s.on n)]⟩
/-- Pages made, one behind the other. -/
inductive Steps : VaultS → VaultS → Prop where
  | refl (s : VaultS) : Steps s s
  | step {s t : VaultS} (n : Int) (g : PageV) : Steps s t → t.pool.state n = 1 → t.pool.count n = 0 → Steps s (t.make n g)

/-- The pages ns have been taken, the lowest ones first. -/
structure Taken (s s' : VaultS) (ns : List Int) : Prop where
  desc : ns.Pairwise (fun a b => b < a)
  free : ∀ n ∈ ns, s.pool.state n = 1
  cnt : ∀ n ∈ ns, s'.pool.count n = 1
  same : ∀ n, n ∉ ns → s'.pool.count n = s.pool.count n ∧ s'.on n = s.on n
  low : ∀ m, s'.pool.state m = 1 → ∀ n ∈ ns, n < m
  last : s'.pool.last = s.pool.last
  refs : s'.pool.refs = s.pool.refs
  len : s'.pool.counts.length = s.pool.counts.length
  many : s'.pool.many 1 + ns.length = s.pool.many 1
  pf : s'.pool.floor = s.pool.floor
  pa : s'.pool.acts.length = s.pool.acts.length + ns.length
  vf : s'.floor = s.floor
  va : s'.acts.length = s.acts.length + ns.length
  steps : Steps s s'
theorem Taken.refl (s : VaultS) : Taken s s [] :=
  ⟨List.Pairwise.nil, by simp, by simp, fun _ _ => ⟨rfl, rfl⟩, by simp, rfl, rfl, rfl, rfl, rfl, rfl, rfl, rfl, .refl s⟩
theorem Taken.step {s t : VaultS} {ns : List Int} (h : Taken s t ns) (ok : PoolOk t.pool) {n : Int} (hn : t.pool.state n = 1) (hle : ∀ m, t.pool.state m = 1 → n ≤ m) (g : PageV) : Taken s (t.make n g) (n :: ns) := by
  have ht := there_of_state (by omega : t.pool.state n ≠ 0)
  have h0 := count_of_free ok hn
  have hni : n ∉ ns := fun hm => by have := h.cnt n hm; omega
  have hcnt : ∀ m, (t.make n g).pool.count m = if m = n then 1 else t.pool.count m := fun m => by
    have := did_count (s := t.pool) (b := 1) (m := m) ht
    rw [h0] at this
    exact this
  refine ⟨List.pairwise_cons.2 ⟨fun m hm => h.low n hn m hm, h.desc⟩, ?_, ?_, ?_, ?_, h.last, h.refs, ?_, ?_, h.pf, ?_, h.vf, ?_, .step n g h.steps hn h0⟩
  · intro m hm
    rcases List.mem_cons.1 hm with rfl | hm
    · have hs := (h.same m hni).1
      have hts : s.pool.there m := ⟨ht.1, by have := ht.2; have := h.len; omega⟩
      have e1 : s.pool.lasts m = t.pool.lasts m := by unfold PoolS.lasts; rw [h.last]
      rw [state_there hts, e1, ← hs, ← state_there ht]
      exact hn
    · exact h.free m hm
  · intro m hm
    rw [hcnt]
    rcases List.mem_cons.1 hm with rfl | hm
    · rw [if_pos rfl]
    · split
      · rfl
      · exact h.cnt m hm
  · intro m hm
    have hm1 : m ≠ n := fun e => hm (by rw [e]; simp)
    have hm2 : m ∉ ns := fun e => hm (by simp [e])
    rw [hcnt, if_neg hm1]
    refine ⟨(h.same m hm2).1, ?_⟩
    show (if m = n then some g else t.on m) = _
    rw [if_neg hm1]
    exact (h.same m hm2).2
  · intro m hm k hk
    have hs := did_state (s := t.pool) (b := 1) (m := m) ht
    have hm' : (t.pool.did n 1).state m = 1 := hm
    rw [hm'] at hs
    by_cases hmn : m = n
    · rw [if_pos hmn, h0] at hs
      unfold stateOf at hs
      simp at hs
      split at hs <;> omega
    · rw [if_neg hmn] at hs
      rcases List.mem_cons.1 hk with rfl | hk
      · have := hle m hs.symm; omega
      · exact h.low m hs.symm k hk
  · show (t.pool.counts.set _ _).length = _
    rw [List.length_set]; exact h.len
  · have h1 := did_many ok hn
    have h2 := h.many
    show (t.pool.did n 1).many 1 + (ns.length + 1) = _
    omega
  · show (t.pool.acts ++ [_]).length = _
    rw [List.length_append, h.pa]
    simp only [List.length_cons, List.length_nil]; omega
  · show (t.acts ++ [_]).length = _
    rw [List.length_append, h.va]
    simp only [List.length_cons, List.length_nil]; omega

/-- A part of a value. -/
def chunk (V : List Int) (j : Nat) : List Int := (V.drop (480 * j)).take 480
/-- How many parts it has. -/
def chunks (V : List Int) : Nat := (V.length + 479) / 480
theorem chunk_len (V : List Int) (j : Nat) : (chunk V j).length = min 480 (V.length - 480 * j) := by simp [chunk]
/-- k pages from the one c on bear a value's parts from j on. -/
def ChainAt (s : VaultS) (V : List Int) : Nat → Nat → Int → List Int → Prop
  | 0, _, c, ns => c = 0 ∧ ns = []
  | k + 1, j, c, ns => ∃ c' ns', ns = c :: ns' ∧ (1 ≤ c ∧ c ≤ 65536) ∧ s.pool.count c = 1 ∧ s.on c = some (blobV (chunk V j) c') ∧ ChainAt s V k (j + 1) c' ns'
theorem chain_len {s : VaultS} {V : List Int} : ∀ {k j : Nat} {c : Int} {ns : List Int}, ChainAt s V k j c ns → ns.length = k := by
  intro k
  induction k with
  | zero => intro j c ns h; rw [h.2]; rfl
  | succ k ih =>
    intro j c ns h
    obtain ⟨c', ns', rfl, _, _, _, h5⟩ := h
    simp [ih h5]
theorem chain_keep {s s' : VaultS} {V : List Int} : ∀ {k j : Nat} {c : Int} {ns : List Int}, (∀ n ∈ ns, s'.pool.count n = s.pool.count n ∧ s'.on n = s.on n) → ChainAt s V k j c ns → ChainAt s' V k j c ns := by
  intro k
  induction k with
  | zero => intro j c ns _ h; exact h
  | succ k ih =>
    intro j c ns hk h
    obtain ⟨c', ns', rfl, h2, h3, h4, h5⟩ := h
    have h1 := hk c (by simp)
    exact ⟨c', ns', rfl, h2, h1.1.trans h3, h1.2.trans h4, ih (fun n hn => hk n (by simp [hn])) h5⟩
theorem chain_make {s : VaultS} {V : List Int} (ok : PoolOk s.pool) {k j : Nat} {c : Int} {ns : List Int} (h : ChainAt s V k (j + 1) c ns) (hc : ∀ n ∈ ns, s.pool.count n = 1) {n : Int} (hn : s.pool.state n = 1) (hb : 1 ≤ n ∧ n ≤ 65536) :
    ChainAt (s.make n (blobV (chunk V j) c)) V (k + 1) j n (n :: ns) := by
  have ht := there_of_state (by omega : s.pool.state n ≠ 0)
  have h0 := count_of_free ok hn
  have hcnt : ∀ m, (s.make n (blobV (chunk V j) c)).pool.count m = if m = n then 1 else s.pool.count m := fun m => by
    have := did_count (s := s.pool) (b := 1) (m := m) ht
    rw [h0] at this
    exact this
  refine ⟨c, ns, rfl, hb, by rw [hcnt, if_pos rfl], if_pos rfl, chain_keep (fun m hm => ?_) h⟩
  have : m ≠ n := fun e => by have := hc m hm; rw [e] at this; omega
  refine ⟨by rw [hcnt, if_neg this], ?_⟩
  show (if m = n then _ else s.on m) = _
  rw [if_neg this]
end Go.Cop
