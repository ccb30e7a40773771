/- What is stored, whatever the value; the conditions stand as hypotheses. -/
import Derived.Test.YtbobcmimkonnoaaEqB
import Derived.Test.YtbobcmimkonnoaaBlob3
namespace Go.Cop
/-- How many pages a value takes. -/
def pagesV (V : List Int) : Nat := if V.length ≤ 32 then 0 else chunks V
theorem chain_counts {s : VaultS} {V : List Int} : ∀ {k j : Nat} {c : Int} {ns : List Int}, ChainAt s V k j c ns → ∀ n ∈ ns, s.pool.count n = 1 := by
  intro k
  induction k with
  | zero => intro j c ns h; rw [h.2]; simp
  | succ k ih =>
    intro j c ns h n hn
    obtain ⟨c', ns', rfl, _, h3, _, h5⟩ := h
    rcases List.mem_cons.1 hn with rfl | hn
    · exact h3
    · exact ih h5 n hn
theorem chain_taken {s s' : VaultS} {V : List Int} {k j : Nat} {c : Int} {ns ns' : List Int} (h : ChainAt s V k j c ns) (ok : PoolOk s.pool) (ht : Taken s s' ns') : ChainAt s' V k j c ns := by
  refine chain_keep (fun n hn => ?_) h
  have h1 := chain_counts h n hn
  exact ht.same n (fun hm => by have := count_of_free ok (ht.free n hm); omega)
end Go.Cop
namespace Go.Proofs.Ytbobcmimkonnoaa.apart1
open Go.ChangeShapes Go.WideShapes Go.ChangeAt Go.RowKit Go.Sl Go.Cop Go.Proofs.Ytbobcmimkonnoaa.pool1 Go.Proofs.Ytbobcmimkonnoaa.pool2 Go.Proofs.Ytbobcmimkonnoaa.pool5 Go.Proofs.Ytbobcmimkonnoaa.pool9 Go.Proofs.Ytbobcmimkonnoaa.clone Go.Proofs.Ytbobcmimkonnoaa.page Go.Proofs.Ytbobcmimkonnoaa.vault1 Go.Proofs.Ytbobcmimkonnoaa.vault2 Go.Proofs.Ytbobcmimkonnoaa.vault3 Go.Proofs.Ytbobcmimkonnoaa.vault4 Go.Proofs.Ytbobcmimkonnoaa.vault5 Go.Proofs.Ytbobcmimkonnoaa.vault6 Go.Proofs.Ytbobcmimkonnoaa.vault8 Go.Proofs.Ytbobcmimkonnoaa.blob1 Go.Proofs.Ytbobcmimkonnoaa.blob2 Go.Proofs.Ytbobcmimkonnoaa.blob3 Go.Proofs.Ytbobcmimkonnoaa.blob4 Go.Proofs.Ytbobcmimkonnoaa.blob5 Go.Proofs.Ytbobcmimkonnoaa.eqb

theorem pagesOf_eq (V : List Int) : pagesOf V.length = pagesV V := by
  unfold pagesOf pagesV chunks
  by_cases h : V.length ≤ 32
  · rw [if_pos (by omega), if_pos h]; rfl
  · rw [if_neg (by omega), if_neg h]; omega

/-- An item under which a value is stored. -/
def StoredAt (s : VaultS) (h : Hp) (kv vv : Value) (c : Int) (V : List Int) : Prop :=
  IsSl kv ∧ IsSl vv ∧ ((V.length ≤ 32 ∧ Bytes h vv V) ∨ ((32 < V.length ∧ V.length ≤ 3840) ∧ vv = .slice none 0 0 ∧ ∃ ns, ChainAt s V (chunks V) 0 c ns))
theorem StoredAt.sub {s : VaultS} {h h' : Hp} {kv vv : Value} {c : Int} {V : List Int} (hs : h.sub h') (x : StoredAt s h kv vv c V) : StoredAt s h' kv vv c V :=
  ⟨x.1, x.2.1, x.2.2.imp (fun y => ⟨y.1, y.2.sub hs⟩) id⟩
theorem StoredAt.taken {s s' : VaultS} {h : Hp} {kv vv : Value} {c : Int} {V : List Int} {ns : List Int} (ok : PoolOk s.pool) (ht : Taken s s' ns) (x : StoredAt s h kv vv c V) : StoredAt s' h kv vv c V :=
  ⟨x.1, x.2.1, x.2.2.imp id (fun ⟨y1, y2, m, y3⟩ => ⟨y1, y2, m, chain_taken y3 ok ht⟩)⟩

theorem store_all (v : Nat) (s : VaultS) (kv vv : Value) (hp : Hp) (K V : List Int) (hK : Bytes hp kv K) (hV : Bytes hp vv V) (hk : 1 ≤ K.length ∧ K.length ≤ 24) (F : Pr) (w : World)
    (hF : Sat ((VaultA v s).star ((Pr.own hp).star F)) w) (hbare : Bare s) (hm : s.pool.floor + s.pool.acts.length + 8 ≤ 1099511627776) (hm2 : s.floor + s.acts.length + 8 ≤ 1099511627776) :
    Calls Try.prog 11 #[.pointer (some ⟨v, 0, none⟩), kv, vv] w fun e w' =>
      Stays w w' ∧ ((V.length ≤ 3840 ∧ ∃ kv' vv' c s' ns h', e = .returned (.tuple #[.agg #[kv', vv', .int .i64 c, .int .i64 V.length], .int .i64 0]) ∧ Taken s s' ns ∧ ns.length = pagesV V ∧ StoredAt s' h' kv' vv' c V ∧
          Sat ((Pr.own h').star ((VaultA v s').star ((Pr.own hp).star F))) w') ∨
        (∃ x : Int, e = .returned (.tuple #[zeroItem, .int .i64 x]) ∧ ((x = 12 ∧ s.pool.many 1 < pagesV V ∧ V.length ≤ 3840) ∨ (x = 8 ∧ 3840 < V.length)) ∧ Sat ((VaultA v s).star ((Pr.own hp).star F)) w')) := by
  by_cases h1 : V.length ≤ 32
  · refine (store_short v kv vv hp K V hK hV hk h1 ((VaultA v s).star F) w (hF.perm (by ac_rfl))).mono ?_
    rintro e w' ⟨hst, kv', vv', h', rfl, b1, b2, h2⟩
    refine ⟨hst, .inl ⟨by omega, kv', vv', 0, s, [], h', rfl, Taken.refl s, by unfold pagesV; rw [if_pos h1]; rfl, ⟨?_, ?_, .inl ⟨h1, b2⟩⟩, h2.perm (by ac_rfl)⟩⟩
    · obtain ⟨_, a, c, e, _⟩ := b1; exact ⟨a, _, c, e⟩
    · obtain ⟨_, a, c, e, _⟩ := b2; exact ⟨a, _, c, e⟩
  · by_cases h2 : V.length ≤ 3840
    · have hc : chunks V ≤ 8 := by unfold chunks; omega
      have hpv : pagesV V = chunks V := if_neg h1
      refine (store_any v s kv vv hp K V hK hV hk ⟨by omega, h2⟩ F w hF hbare (by omega) (by omega)).mono ?_
      rintro e w' ⟨hst, (⟨_, kv', c, s', ns, h', rfl, b1, ht, hch, h3⟩ | ⟨h3, rfl, h4⟩)⟩
      · refine ⟨hst, .inl ⟨h2, kv', .slice none 0 0, c, s', ns, h', rfl, ht, by rw [hpv]; exact chain_len hch, ⟨?_, ⟨_, _, _, rfl⟩, .inr ⟨⟨by omega, h2⟩, rfl, ns, hch⟩⟩, h3⟩⟩
        obtain ⟨_, a, c, e, _⟩ := b1; exact ⟨a, _, c, e⟩
      · exact ⟨hst, .inr ⟨12, rfl, .inl ⟨rfl, by rw [hpv]; exact h3, h2⟩, h4⟩⟩
    · refine (store_val v kv vv hp K V hK hV hk (by omega) w).mono ?_
      rintro e w' ⟨rfl, ho⟩
      exact ⟨ho.st, .inr ⟨8, rfl, .inr ⟨rfl, by omega⟩, hF.only ho⟩⟩

theorem load_all (v : Nat) (s : VaultS) (h : Hp) (kv vv : Value) (c : Int) (V : List Int) (hs : StoredAt s h kv vv c V) (F : Pr) (w : World) (hF : Sat ((VaultA v s).star ((Pr.own h).star F)) w) :
    Calls Try.prog 12 #[.pointer (some ⟨v, 0, none⟩), .agg #[kv, vv, .int .i64 c, .int .i64 V.length]] w fun e w' =>
      Stays w w' ∧ ∃ o, e = .returned (.tuple #[o, .int .i64 0]) ∧ Sat ((BytesRow o V).star ((VaultA v s).star ((Pr.own h).star F))) w' := by
  obtain ⟨⟨ak, mk, ck, rfl⟩, _, (⟨h1, h2⟩ | ⟨h1, rfl, ns, h2⟩)⟩ := hs
  · refine load_short v ak mk ck c vv h V h2 h1 _ w hF ?_
    exact (hF.perm (Pr.left_comm _ _ _)).own
  · exact load_long v s ak mk ck c V ns h2 h1 _ w hF
end Go.Proofs.Ytbobcmimkonnoaa.apart1
