/- Plain laws of what is stored and released; the vault's Counts and Tally. -/
import Derived.Test.YtbobcmimkonnoaaBlob6
namespace Go.Cop
/-- The same pages, the same on them. -/
structure Same (s t : VaultS) : Prop where
  counts : t.pool.counts = s.pool.counts
  last : t.pool.last = s.pool.last
  on : t.on = s.on
  pf : t.pool.floor = s.pool.floor
  vf : t.floor = s.floor
theorem Same.refl (s : VaultS) : Same s s := ⟨rfl, rfl, rfl, rfl, rfl⟩
theorem Same.trans {a b c : VaultS} (h : Same a b) (k : Same b c) : Same a c := ⟨k.counts.trans h.counts, k.last.trans h.last, k.on.trans h.on, k.pf.trans h.pf, k.vf.trans h.vf⟩
theorem Same.there {s t : VaultS} (h : Same s t) (n : Int) : t.pool.there n ↔ s.pool.there n := by unfold PoolS.there; rw [h.counts]
theorem Same.count {s t : VaultS} (h : Same s t) (n : Int) : t.pool.count n = s.pool.count n := by
  unfold PoolS.count
  by_cases ht : s.pool.there n
  · rw [if_pos ((h.there n).2 ht), if_pos ht, h.counts]
  · rw [if_neg (fun h' => ht ((h.there n).1 h')), if_neg ht]
theorem Same.lasts {s t : VaultS} (h : Same s t) (n : Int) : t.pool.lasts n = s.pool.lasts n := by unfold PoolS.lasts; rw [h.last]
theorem Same.state {s t : VaultS} (h : Same s t) (n : Int) : t.pool.state n = s.pool.state n := by
  unfold PoolS.state
  rw [h.count, h.lasts]
  by_cases ht : s.pool.there n
  · rw [if_pos ((h.there n).2 ht), if_pos ht]
  · rw [if_neg (fun h' => ht ((h.there n).1 h')), if_neg ht]
theorem Same.bare {s t : VaultS} (h : Same s t) (hb : Bare s) : Bare t := fun n hn => by rw [h.on]; exact hb n (by rw [← h.state]; exact hn)
theorem Same.chain {s t : VaultS} (h : Same s t) {V : List Int} {k j : Nat} {c : Int} {ns : List Int} (hc : ChainAt s V k j c ns) : ChainAt t V k j c ns :=
  chain_keep (fun n _ => ⟨h.count n, by rw [h.on]⟩) hc
theorem Same.many {s t : VaultS} (h : Same s t) (k : Int) : t.pool.many k = s.pool.many k := by unfold PoolS.many; rw [h.counts, h.last]

theorem counts_ext {s t : PoolS} (hl : t.counts.length = s.counts.length) (h : ∀ m, t.count m = s.count m) : t.counts = s.counts := by
  apply List.ext_getElem hl
  intro i h1 h2
  have := h ((i : Int) + 1)
  unfold PoolS.count at this
  rw [if_pos (show t.there ((i : Int) + 1) from ⟨by omega, by omega⟩), if_pos (show s.there ((i : Int) + 1) from ⟨by omega, by omega⟩), show ((i : Int) + 1).toNat - 1 = i by omega, List.getD_eq_getElem?_getD, List.getD_eq_getElem?_getD, List.getElem?_eq_getElem h1, List.getElem?_eq_getElem h2] at this
  exact this

theorem freedAll_facts : ∀ {ns : List Int} {s : VaultS}, ns.Nodup → (∀ n ∈ ns, s.pool.count n = 1) →
    (∀ m, (s.freedAll ns).pool.count m = if m ∈ ns then 0 else s.pool.count m) ∧ (∀ m, (s.freedAll ns).on m = if m ∈ ns then none else s.on m) ∧ (s.freedAll ns).pool.last = s.pool.last ∧
      (s.freedAll ns).pool.counts.length = s.pool.counts.length ∧ (s.freedAll ns).pool.acts.length = s.pool.acts.length + ns.length ∧ (s.freedAll ns).pool.floor = s.pool.floor := by
  intro ns
  induction ns with
  | nil => intro s _ _; exact ⟨fun m => by simp [VaultS.freedAll], fun m => by simp [VaultS.freedAll], rfl, rfl, rfl, rfl⟩
  | cons n ns ih =>
    intro s hnd hc
    obtain ⟨hni, hnd'⟩ := List.nodup_cons.1 hnd
    have h1 := hc n (by simp)
    have ht := there_of_count (s := s.pool) (n := n) (by omega)
    have hcnt := fun m => freed_count (m := m) ht h1
    obtain ⟨a1, a2, a3, a4, a5, a6⟩ := ih (s := s.freed n) hnd' (fun m hm => by
      rw [hcnt, if_neg (fun e : m = n => hni (e ▸ hm))]
      exact hc m (by simp [hm]))
    refine ⟨fun m => ?_, fun m => ?_, a3, a4.trans ?_, a5.trans ?_, a6⟩
    · show ((s.freed n).freedAll ns).pool.count m = _
      rw [a1, hcnt]
      by_cases h2 : m ∈ ns
      · simp [h2]
      · by_cases h3 : m = n <;> simp [h2, h3]
    · show ((s.freed n).freedAll ns).on m = _
      rw [a2]
      by_cases h2 : m ∈ ns
      · simp [h2]
      · by_cases h3 : m = n <;> simp [h2, h3, VaultS.freed]
    · show (s.pool.counts.set _ _).length = _
      rw [List.length_set]
    · show (s.pool.acts ++ [_]).length + ns.length = _
      rw [List.length_append, List.length_cons]
      simp only [List.length_cons, List.length_nil]
      omega

theorem taken_nodup {s t : VaultS} {ns : List Int} (h : Taken s t ns) : ns.Nodup := h.desc.imp (fun h e => by omega)
theorem taken_lasts {s t : VaultS} {ns : List Int} (h : Taken s t ns) (ok : PoolOk s.pool) : ∀ n ∈ ns, t.pool.lasts n = false := fun n hn => by
  unfold PoolS.lasts
  rw [h.last]
  exact lasts_of_free ok (h.free n hn)

/-- Taken, something else done and undone, released: all is as it was. -/
theorem back_same {s s' t : VaultS} {ns : List Int} (h : Taken s s' ns) (ok : PoolOk s.pool) (hb : Bare s) (hs : Same s' t) : Same s (t.freedAll ns) := by
  obtain ⟨a1, a2, a3, a4, _, a6⟩ := freedAll_facts (s := t) (taken_nodup h) (fun n hn => by rw [hs.count]; exact h.cnt n hn)
  refine ⟨counts_ext ?_ fun m => ?_, ?_, ?_, ?_, ?_⟩
  · rw [a4, hs.counts]; exact h.len
  · rw [a1]
    by_cases hm : m ∈ ns
    · rw [if_pos hm]; exact (count_of_free ok (h.free m hm)).symm
    · rw [if_neg hm, hs.count]; exact (h.same m hm).1
  · rw [a3, hs.last]; exact h.last
  · funext m
    rw [a2]
    by_cases hm : m ∈ ns
    · rw [if_pos hm]; exact (hb m (h.free m hm)).symm
    · rw [if_neg hm, hs.on]; exact (h.same m hm).2
  · rw [a6, hs.pf]; exact h.pf
  · rw [freedAll_acts.2, hs.vf]; exact h.vf
end Go.Cop
namespace Go.Proofs.Ytbobcmimkonnoaa.backLaw
open Go.ChangeShapes Go.WideShapes Go.ChangeAt Go.RowKit Go.Sl Go.Cop Go.Proofs.Ytbobcmimkonnoaa.pool1 Go.Proofs.Ytbobcmimkonnoaa.pool2 Go.Proofs.Ytbobcmimkonnoaa.pool5 Go.Proofs.Ytbobcmimkonnoaa.pool9 Go.Proofs.Ytbobcmimkonnoaa.clone Go.Proofs.Ytbobcmimkonnoaa.page Go.Proofs.Ytbobcmimkonnoaa.vault1 Go.Proofs.Ytbobcmimkonnoaa.vault2 Go.Proofs.Ytbobcmimkonnoaa.dropA Go.Proofs.Ytbobcmimkonnoaa.apart1 Go.Proofs.Ytbobcmimkonnoaa.counts

theorem Same.stored {s t : VaultS} (h : Same s t) {x : Hp} {kv vv : Value} {c : Int} {V : List Int} (hs : StoredAt s x kv vv c V) : StoredAt t x kv vv c V :=
  ⟨hs.1, hs.2.1, hs.2.2.imp id (fun ⟨y1, y2, m, y3⟩ => ⟨y1, y2, m, h.chain y3⟩)⟩
theorem Same.ns {s t : VaultS} (h : Same s t) {c : Int} {V ns : List Int} (hs : nsOf s c V ns) : nsOf t c V ns := hs.imp id (fun ⟨y1, y2⟩ => ⟨y1, h.chain y2⟩)

theorem vcounts_A (v : Nat) (s : VaultS) (F : Pr) (w : World) (hF : Sat ((VaultA v s).star F) w) :
    ∃ p, w.cell? ⟨v, 0, none⟩ = some (.pointer (some ⟨p, 0, none⟩)) ∧
      Calls Try.prog 15 #[.pointer (some ⟨p, 0, none⟩)] w fun e w' => ∃ v', e = .returned v' ∧ Sat ((IntsRow v' s.pool.counts).star ((VaultA v s).star F)) w' ∧ Stays w w' := by
  obtain ⟨x, ok, h1⟩ := vaultA_iff.1 hF
  have h2 : Sat ((PoolA x.p s.pool).star ((Pr.pts v (.cells #[.pointer (some ⟨x.p, 0, none⟩), .map (some x.mb), x.av, .int .i64 s.floor] 43)).star
    ((((MapA Try.prog 3 x.mb x.f).star ((Row 94 2 x.av s.acts.length (actCells x.axs)).star (Pr.own x.h)))).star F))) w := h1.perm (by unfold VaultAt; ac_rfl)
  refine ⟨x.p, by rw [cell_of_heap h2.right.pts_heap]; rfl, (counts_A x.p s.pool _ w h2).mono ?_⟩
  rintro e w' ⟨v', rfl, h3, hst⟩
  refine ⟨v', rfl, ?_, hst⟩
  have h4 : Sat ((VaultAt v s x).star ((IntsRow v' s.pool.counts).star F)) w' := h3.perm (by unfold VaultAt; ac_rfl)
  exact (vaultA_iff.2 ⟨x, ok, h4⟩).perm (Pr.left_comm _ _ _)

theorem vtally_A (v : Nat) (s : VaultS) (F : Pr) (w : World) (hF : Sat ((VaultA v s).star F) w) :
    ∃ p, w.cell? ⟨v, 0, none⟩ = some (.pointer (some ⟨p, 0, none⟩)) ∧
      Calls Try.prog 14 #[.pointer (some ⟨p, 0, none⟩), .int .i64 1] w fun e w' => e = .returned (.int .i64 (s.pool.many 1 : Nat)) ∧ w = w' := by
  obtain ⟨x, ok, h1⟩ := vaultA_iff.1 hF
  have h2 : Sat ((PoolA x.p s.pool).star ((Pr.pts v (.cells #[.pointer (some ⟨x.p, 0, none⟩), .map (some x.mb), x.av, .int .i64 s.floor] 43)).star
    ((((MapA Try.prog 3 x.mb x.f).star ((Row 94 2 x.av s.acts.length (actCells x.axs)).star (Pr.own x.h)))).star F))) w := h1.perm (by unfold VaultAt; ac_rfl)
  have T := tally_A x.p s.pool 1 (.inl rfl) _ w h2
  have et : s.pool.tally 1 = (s.pool.many 1 : Nat) := by
    unfold PoolS.tally
    rw [if_neg (by omega)]
  rw [et] at T
  exact ⟨x.p, by rw [cell_of_heap h2.right.pts_heap]; rfl, T⟩
end Go.Proofs.Ytbobcmimkonnoaa.backLaw
