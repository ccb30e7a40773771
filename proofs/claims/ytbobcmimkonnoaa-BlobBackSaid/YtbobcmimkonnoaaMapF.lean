/- A map with integer keys as a function, owned whole: read, written, struck. Plain lemmas over any program. -/
import Derived.Test.YtbobcmimkonnoaaSl
import Derived.Maps.Own
namespace Go.Sl
open Go.Maps Go.ChangeMaps Go.MapKept Go.WideShapes
open Go.WideElems (Fit rd rg pl rd_key rd_val rg_of)

def heldR (v : Value) : Option (DataW Value × List MemPlace) := some (.held v, [])
def MapFn (P : Program) (k : TypeId) (es : Array MapEntry) (f : Int → Option Value) : Prop :=
  ∀ n v, f n = some v ↔ (Lit.int .i64 n, DataW.held v) ∈ (es.toList.map (rg P k heldR)).foldr DataW.insert []
def SmallKeys (f : Int → Option Value) : Prop := ∀ n v, f n = some v → 1 ≤ n ∧ n ≤ 65536
/-- Block b is a map that is f. -/
def MapA (P : Program) (k : TypeId) (b : Nat) (f : Int → Option Value) : Pr :=
  Pr.ex fun x : Array MapEntry × Nat => (Pr.pure (Fit P k heldR x.1 x.2 ∧ MapFn P k x.1 f ∧ SmallKeys f)).star (Pr.pts b (.map x.1 x.2))

section
variable {P : Program} {k : TypeId} {b : Nat} {f : Int → Option Value} {F : Pr} {w : World}

theorem mapA_iff : Sat ((MapA P k b f).star F) w ↔ ∃ es clock, Fit P k heldR es clock ∧ MapFn P k es f ∧ SmallKeys f ∧ Sat ((Pr.pts b (.map es clock)).star F) w := by
  unfold MapA
  rw [Sat.ex]
  constructor
  · rintro ⟨⟨es, c⟩, h⟩
    rw [Pr.star_assoc] at h
    obtain ⟨⟨h1, h2, h3⟩, h4⟩ := Sat.pure.1 h
    exact ⟨es, c, h1, h2, h3, h4⟩
  · rintro ⟨es, c, h1, h2, h3, h4⟩
    refine ⟨(es, c), ?_⟩
    rw [Pr.star_assoc]
    exact Sat.pure.2 ⟨⟨h1, h2, h3⟩, h4⟩

theorem key_int (hk : P.underlying k = some (.int .i64)) {v : Value} {l : Lit} (h : keyOf P k v = some l) : ∃ n, v = .int .i64 n ∧ l = .int .i64 n := by
  simp only [keyOf, hk] at h
  cases v <;> simp [mapKey, hk] at h
  obtain ⟨h1, h2⟩ := h
  obtain ⟨h3, _⟩ := h1
  subst h3
  exact ⟨_, rfl, h2.symm⟩

theorem key_mk (hk : P.underlying k = some (.int .i64)) {n : Int} (hn : 1 ≤ n ∧ n ≤ 65536) : keyOf P k (.int .i64 n) = some (.int .i64 n) := by
  refine keyOf_int_mk hk ?_
  have h1 : IntKind.i64.min = -9223372036854775808 := by decide
  have h2 : IntKind.i64.max = 9223372036854775807 := by decide
  simp only [Lit.wf, Bool.and_eq_true, decide_eq_true_eq, h1, h2]
  omega

theorem mem_sorted (hk : P.underlying k = some (.int .i64)) {es : Array MapEntry} {clock : Nat} (hF : Fit P k heldR es clock) {p : Lit × DataW Value} :
    p ∈ (es.toList.map (rg P k heldR)).foldr DataW.insert [] ↔ ∃ x n, x ∈ es.toList ∧ x.key = .int .i64 n ∧ p = (.int .i64 n, .held x.val) := by
  rw [(sorted_perm _).mem_iff, List.mem_map]
  constructor
  · rintro ⟨x, hx, rfl⟩
    obtain ⟨y, hy⟩ := hF.reads x hx
    obtain ⟨n, h1, h2⟩ := key_int hk (rd_key hy)
    obtain ⟨z, h3, h4⟩ := rd_val hy
    cases h3
    refine ⟨x, n, hx, h1, ?_⟩
    rw [rg_of hy]
    exact Prod.ext h2 h4
  · rintro ⟨x, n, hx, h1, rfl⟩
    obtain ⟨y, hy⟩ := hF.reads x hx
    obtain ⟨m, h2, h3⟩ := key_int hk (rd_key hy)
    obtain ⟨z, h4, h5⟩ := rd_val hy
    cases h4
    refine ⟨x, hx, ?_⟩
    rw [rg_of hy]
    rw [h1] at h2
    cases h2
    exact Prod.ext h3 h5

theorem sorted_len (L : List (Lit × DataW Value)) : ∀ a : Int, L.Pairwise (fun p q => p.1.before q.1 = true) → (∀ p ∈ L, ∃ n, p.1 = .int .i64 n ∧ a ≤ n ∧ n ≤ 65536) → (L.length : Int) ≤ max 0 (65537 - a) := by
  induction L with
  | nil => intro a _ _; simp; omega
  | cons p L ih =>
    intro a hp hm
    obtain ⟨h1, h2⟩ := List.pairwise_cons.1 hp
    obtain ⟨n, e, ha, hb⟩ := hm p (by simp)
    have := ih (n + 1) h2 (fun q hq => by
      obtain ⟨m, e2, _, h4⟩ := hm q (by simp [hq])
      have h5 := h1 q hq
      rw [e, e2] at h5
      simp [Lit.before] at h5
      exact ⟨m, e2, by omega, h4⟩)
    simp only [List.length_cons]
    omega

theorem fit_small (hk : P.underlying k = some (.int .i64)) {es : Array MapEntry} {clock : Nat} (hF : Fit P k heldR es clock) (hM : MapFn P k es f) (hs : SmallKeys f) : es.size < maxLen := by
  have K := int_keyed (P := P) hk
  have h1 := sorted_len _ 1 (sorted_sorted K.one _ (fit_keys hF) (fit_apart K hF)) (fun p hp => by
    obtain ⟨x, n, hx, hkx, rfl⟩ := (mem_sorted hk hF).1 hp
    have := hs n x.val ((hM n x.val).2 hp)
    exact ⟨n, rfl, this.1, this.2⟩)
  rw [length_sorted] at h1
  simp only [List.length_map, Array.length_toList] at h1
  simp only [maxLen]
  omega

theorem map_look (hk : P.underlying k = some (.int .i64)) {t e : TypeId} (ht : P.underlying t = some (.map k e)) {z : Value} (hz : (zeroValue e).run P w = .ok z w) (c : Bool) {n : Int} (hn : 1 ≤ n ∧ n ≤ 65536) (h : Sat ((MapA P k b f).star F) w) :
    (Instr.lookup t (.map (some b)) (.int .i64 n) c).run P w = .ok (if c then .tuple #[(f n).getD z, .bool (f n).isSome] else (f n).getD z) w := by
  obtain ⟨es, clock, hF, hM, hs, hp⟩ := mapA_iff.1 h
  rcases fit_look c (int_keyed hk) ht hz hp.pts_heap hF (key_mk hk hn) with ⟨h1, h2, _⟩ | ⟨e0, y, h1, h2, h3, _⟩
  · have : f n = none := by
      cases hf : f n with
      | none => rfl
      | some v =>
        obtain ⟨x, m, hx, hkx, hpx⟩ := (mem_sorted hk hF).1 ((hM n v).1 hf)
        cases hpx
        exact absurd hkx (h2 x hx)
    rw [h1, this]; rfl
  · have : f n = some e0.val := (hM n e0.val).2 ((mem_sorted hk hF).2 ⟨e0, n, h1, h2, rfl⟩)
    rw [h3, this]; rfl

theorem notKey_int {n m : Int} {v : DataW Value} : notKey (Lit.int .i64 n) (Lit.int .i64 m, v) = true ↔ m ≠ n := by
  simp [notKey, Lit.sameKey]

theorem map_put (hk : P.underlying k = some (.int .i64)) {t e : TypeId} (ht : P.underlying t = some (.map k e)) {n : Int} (hn : 1 ≤ n ∧ n ≤ 65536) (v : Value) (h : Sat ((MapA P k b f).star F) w) :
    ∃ w', (Instr.mapUpdate t (.map (some b)) (.int .i64 n) v).run P w = .ok () w' ∧ Sat ((MapA P k b (fun m => if m = n then some v else f m)).star F) w' ∧ w.grownBy w' (some b) := by
  obtain ⟨es, clock, hF, hM, hs, hp⟩ := mapA_iff.1 h
  have hb := hp.pts_heap
  obtain ⟨es', clock', hrun, F', hput, _⟩ := fit_store (R' := heldR) (int_keyed hk) ht hb hF (fit_small hk hF hM hs) (fun _ _ _ _ hz => hz) (key_mk hk hn) (yv := (.held v, [])) (val := v) rfl
  refine ⟨_, hrun, mapA_iff.2 ⟨es', clock', F', fun m u => ?_, fun m u hu => ?_, ?_⟩, ⟨rfl, rfl, rfl, by simp [setBlock], fun i _ hi => heap_setBlock_other hb _ (fun e => hi (by rw [e]))⟩⟩
  · rw [hput]
    unfold putKey
    rw [mem_insert_iff, List.mem_filter, notKey_int, ← hM]
    by_cases hm : m = n
    · subst hm; simp; exact eq_comm
    · simp [hm]
  · by_cases hm : m = n
    · subst hm; exact hn
    · exact hs m u (by simpa [hm] using hu)
  · exact hp.put (heap_setBlock_same hb _) (fun i _ hi => heap_setBlock_other hb _ hi)

theorem map_del (hk : P.underlying k = some (.int .i64)) {t e ty : TypeId} (ht : P.underlying t = some (.map k e)) {n : Int} (hn : 1 ≤ n ∧ n ≤ 65536) (h : Sat ((MapA P k b f).star F) w) :
    ∃ w', (Builtin.delete_ #[t, k] ty #[.map (some b), .int .i64 n]).run P w = .ok (.tuple #[]) w' ∧ Sat ((MapA P k b (fun m => if m = n then none else f m)).star F) w' ∧ w.grownBy w' (some b) := by
  obtain ⟨es, clock, hF, hM, hs, hp⟩ := mapA_iff.1 h
  have hb := hp.pts_heap
  obtain ⟨es', hrun, F', _, hput, _⟩ := fit_drop (ty := ty) (int_keyed hk) ht hb hF (key_mk hk hn)
  refine ⟨_, hrun, mapA_iff.2 ⟨es', clock, F', fun m u => ?_, fun m u hu => ?_, ?_⟩, ⟨rfl, rfl, rfl, by simp [setBlock], fun i _ hi => heap_setBlock_other hb _ (fun e => hi (by rw [e]))⟩⟩
  · rw [hput]
    unfold delKey
    rw [List.mem_filter, notKey_int, ← hM]
    by_cases hm : m = n
    · subst hm; simp
    · simp [hm]
  · by_cases hm : m = n
    · simp [hm] at hu
    · exact hs m u (by simpa [hm] using hu)
  · exact hp.put (heap_setBlock_same hb _) (fun i _ hi => heap_setBlock_other hb _ hi)

theorem map_made (h : Sat F w) : Sat ((MapA P k w.heap.size fun _ => none).star F) (w.alloc (.map #[] 0)) :=
  mapA_iff.2 ⟨#[], 0, ⟨by simp, stamped_empty 0, by simp⟩, fun n v => by simp, (fun n v h => by cases h), h.alloc _⟩

theorem wpList_look {ops : Array Oper} {rest : List Oper} {o : Oper} {a : Act} {Q : Exit → Act → World → Prop} (hgd : o.guard = none) (m x : Operand) (t : TypeId) (c : Bool) (hop : o.op = Op.lookup t m x c)
    (hk : P.underlying k = some (.int .i64)) {e : TypeId} (ht : P.underlying t = some (.map k e)) (z : Value) (hz : (zeroValue e).run P w = .ok z w) (n : Int) (hn : 1 ≤ n ∧ n ≤ 65536)
    (hm : a.eval m = .map (some b)) (hx : a.eval x = .int .i64 n) (h : Sat ((MapA P k b f).star F) w)
    (hK : wpList P ops Q rest (a.put o.dst (if c then .tuple #[(f n).getD z, .bool (f n).isSome] else (f n).getD z)) w) : wpList P ops Q (o :: rest) a w := by
  refine wpList_plain hgd fun K' hK' => ?_
  have hrun := map_look hk ht hz c hn h
  unfold Oper.wp
  simp [execOp, hop, hm, hx, hrun, Result.andThen]
  exact hK' _ _ hK

theorem wpList_put {ops : Array Oper} {rest : List Oper} {o : Oper} {a : Act} {Q : Exit → Act → World → Prop} (hgd : o.guard = none) (m x u : Operand) (t : TypeId) (hop : o.op = Op.mapUpdate t m x u)
    (hk : P.underlying k = some (.int .i64)) {e : TypeId} (ht : P.underlying t = some (.map k e)) (n : Int) (hn : 1 ≤ n ∧ n ≤ 65536) (v : Value)
    (hm : a.eval m = .map (some b)) (hx : a.eval x = .int .i64 n) (hv : a.eval u = v) (h : Sat ((MapA P k b f).star F) w)
    (hK : ∀ w', Sat ((MapA P k b (fun m => if m = n then some v else f m)).star F) w' → w.grownBy w' (some b) → wpList P ops Q rest (a.put o.dst undef) w') : wpList P ops Q (o :: rest) a w := by
  refine wpList_plain hgd fun K' hK' => ?_
  obtain ⟨w', hrun, h1, h2⟩ := map_put hk ht hn v h
  unfold Oper.wp
  simp [execOp, hop, hm, hx, hv, hrun, Result.andThen]
  exact hK' _ _ (hK w' h1 h2)

theorem wpList_del {ops : Array Oper} {rest : List Oper} {o : Oper} {a : Act} {Q : Exit → Act → World → Prop} (hgd : o.guard = none) (m x : Operand) (t : TypeId)
    (hop : o.op = .call { callee := .builtin .delete, args := #[m, x], argTypes := #[t, k] })
    (hk : P.underlying k = some (.int .i64)) {e : TypeId} (ht : P.underlying t = some (.map k e)) (n : Int) (hn : 1 ≤ n ∧ n ≤ 65536)
    (hm : a.eval m = .map (some b)) (hx : a.eval x = .int .i64 n) (h : Sat ((MapA P k b f).star F) w)
    (hK : ∀ w', Sat ((MapA P k b (fun m => if m = n then none else f m)).star F) w' → w.grownBy w' (some b) → wpList P ops Q rest (a.put o.dst (.tuple #[])) w') : wpList P ops Q (o :: rest) a w := by
  refine wpList_plain hgd fun K' hK' => ?_
  obtain ⟨w', hrun, h1, h2⟩ := map_del (ty := o.type) hk ht hn h
  unfold Oper.wp execOp
  simp only [hop, resolve, invoke, builtin, Sem.run_bind, Sem.run_pure, Result.andThen_ok, List.map_toArray, List.map_cons, List.map_nil, hm, hx, hrun]
  exact hK' _ _ (hK w' h1 h2)
end
end Go.Sl
