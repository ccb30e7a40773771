/- A map with integer keys as a function, owned whole: read, written, struck. Plain lemmas over any program. -/
import Derived.Test.YtbobcmimkonnoaaGreatBlobAnswersM01
import Derived.Maps.Own
import Derived.Test.YtbobcmimkonnoaaGreatBlobAnswersM03
import Derived.Test.YtbobcmimkonnoaaGreatBlobAnswersM08
import Derived.Laws.Rows
import Derived.Laws.ResultCell
import Derived.Test.YtbobcmimkonnoaaGreatBlobAnswersM04
namespace Go.Sl
open Go.Maps Go.ChangeMaps Go.MapKept Go.WideShapes
open Go.WideElems (Fit rd rg pl rd_key rd_val rg_of)
def heldR (v : Value) : Option (DataW Value × List MemPlace) := some (.held v, [])
def MapFn (P : Program) (k : TypeId) (es : Array MapEntry) (f : Int → Option Value) : Prop :=
 ∀ n v, f n = some v ↔ (Lit.int .i64 n, DataW.held v) ∈ (es.toList.map (rg P k heldR)).foldr DataW.insert []
def SmallKeys (f : Int → Option Value) : Prop := ∀ n v, f n = some v → 1 ≤ n ∧ n ≤ 65536
/-- Block b is a map that is f. -/
def MapA (P : Program) (k : TypeId) (b : Nat) (f : Int → Option Value) : Pr :=
 Pr.ex fun x : Array MapEntry × Nat => (Pr.pure (Fit P k heldR x.1 x.2 ∧ MapFn P k x.1 f ∧ SmallKeys f)).star (Pr.pts b (.map x.1 x.2))
section
variable {P : Program} {k : TypeId} {b : Nat} {f : Int → Option Value} {F : Pr} {w : World}
theorem mapA_iff : Sat ((MapA P k b f).star F) w ↔ ∃ es clock, Fit P k heldR es clock ∧ MapFn P k es f ∧ SmallKeys f ∧ Sat ((Pr.pts b (.map es clock)).star F) w := by
 unfold MapA
 rw [Sat.ex]
 constructor
 · rintro ⟨⟨es, c⟩, h⟩
   rw [Pr.star_assoc] at h
   obtain ⟨⟨h1, h2, h3⟩, h4⟩ := Sat.pure.1 h
   exact ⟨es, c, h1, h2, h3, h4⟩
 · rintro ⟨es, c, h1, h2, h3, h4⟩
   refine ⟨(es, c), ?_⟩
   rw [Pr.star_assoc]
   exact Sat.pure.2 ⟨⟨h1, h2, h3⟩, h4⟩
theorem key_int (hk : P.underlying k = some (.int .i64)) {v : Value} {l : Lit} (h : keyOf P k v = some l) : ∃ n, v = .int .i64 n ∧ l = .int .i64 n := by
 simp only [keyOf, hk] at h
 cases v <;> simp [mapKey, hk] at h
 obtain ⟨h1, h2⟩ := h
 obtain ⟨h3, _⟩ := h1
 subst h3
 exact ⟨_, rfl, h2.symm⟩
theorem key_mk (hk : P.underlying k = some (.int .i64)) {n : Int} (hn : 1 ≤ n ∧ n ≤ 65536) : keyOf P k (.int .i64 n) = some (.int .i64 n) := by
 refine keyOf_int_mk hk ?_
 have h1 : IntKind.i64.min = -9223372036854775808 := by decide
 have h2 : IntKind.i64.max = 9223372036854775807 := by decide
 simp only [Lit.wf, Bool.and_eq_true, decide_eq_true_eq, h1, h2]
 omega
theorem mem_sorted (hk : P.underlying k = some (.int .i64)) {es : Array MapEntry} {clock : Nat} (hF : Fit P k heldR es clock) {p : Lit × DataW Value} :
 p ∈ (es.toList.map (rg P k heldR)).foldr DataW.insert [] ↔ ∃ x n, x ∈ es.toList ∧ x.key = .int .i64 n ∧ p = (.int .i64 n, .held x.val) := by
 rw [(sorted_perm _).mem_iff, List.mem_map]
 constructor
 · rintro ⟨x, hx, rfl⟩
   obtain ⟨y, hy⟩ := hF.reads x hx
   obtain ⟨n, h1, h2⟩ := key_int hk (rd_key hy)
   obtain ⟨z, h3, h4⟩ := rd_val hy
   cases h3
   refine ⟨x, n, hx, h1, ?_⟩
   rw [rg_of hy]
   exact Prod.ext h2 h4
 · rintro ⟨x, n, hx, h1, rfl⟩
   obtain ⟨y, hy⟩ := hF.reads x hx
   obtain ⟨m, h2, h3⟩ := key_int hk (rd_key hy)
   obtain ⟨z, h4, h5⟩ := rd_val hy
   cases h4
   refine ⟨x, hx, ?_⟩
   rw [rg_of hy]
   rw [h1] at h2
   cases h2
   exact Prod.ext h3 h5
theorem sorted_len (L : List (Lit × DataW Value)) : ∀ a : Int, L.Pairwise (fun p q => p.1.before q.1 = true) → (∀ p ∈ L, ∃ n, p.1 = .int .i64 n ∧ a ≤ n ∧ n ≤ 65536) → (L.length : Int) ≤ max 0 (65537 - a) := by
 induction L with
 | nil => intro a _ _; simp; omega
 | cons p L ih =>
  intro a hp hm
  obtain ⟨h1, h2⟩ := List.pairwise_cons.1 hp
  obtain ⟨n, e, ha, hb⟩ := hm p (by simp)
  have := ih (n + 1) h2 (fun q hq => by
   obtain ⟨m, e2, _, h4⟩ := hm q (by simp [hq])
   have h5 := h1 q hq
   rw [e, e2] at h5
   simp [Lit.before] at h5
   exact ⟨m, e2, by omega, h4⟩)
  simp only [List.length_cons]
  omega
theorem fit_small (hk : P.underlying k = some (.int .i64)) {es : Array MapEntry} {clock : Nat} (hF : Fit P k heldR es clock) (hM : MapFn P k es f) (hs : SmallKeys f) : es.size < maxLen := by
 have K := int_keyed (P := P) hk
 have h1 := sorted_len _ 1 (sorted_sorted K.one _ (fit_keys hF) (fit_apart K hF)) (fun p hp => by
  obtain ⟨x, n, hx, hkx, rfl⟩ := (mem_sorted hk hF).1 hp
  have := hs n x.val ((hM n x.val).2 hp)
  exact ⟨n, rfl, this.1, this.2⟩)
 rw [length_sorted] at h1
 simp only [List.length_map, Array.length_toList] at h1
 simp only [maxLen]
 omega
theorem map_look (hk : P.underlying k = some (.int .i64)) {t e : TypeId} (ht : P.underlying t = some (.map k e)) {z : Value} (hz : (zeroValue e).run P w = .ok z w) (c : Bool) {n : Int} (hn : 1 ≤ n ∧ n ≤ 65536) (h : Sat ((MapA P k b f).star F) w) :
    (Instr.lookup t (.map (some b)) (.int .i64 n) c).run P w = .ok (if c then .tuple #[(f n).getD z, .bool (f n).isSome] else (f n).getD z) w := by
  obtain ⟨es, clock, hF, hM, hs, hp⟩ := mapA_iff.1 h
  rcases fit_look c (int_keyed hk) ht hz hp.pts_heap hF (key_mk hk hn) with ⟨h1, h2, _⟩ | ⟨e0, y, h1, h2, h3, _⟩
  · have : f n = none := by
      cases hf : f n with
      | none => rfl
      | some v =>
        obtain ⟨x, m, hx, hkx, hpx⟩ := (mem_sorted hk hF).1 ((hM n v).1 hf)
        cases hpx
        exact absurd hkx (h2 x hx)
    rw [h1, this]; rfl
  · have : f n = some e0.val := (hM n e0.val).2 ((mem_sorted hk hF).2 ⟨e0, n, h1, h2, rfl⟩)
    rw [h3, this]; rfl
theorem notKey_int {n m : Int} {v : DataW Value} : notKey (Lit.int .i64 n) (Lit.int .i64 m, v) = true ↔ m ≠ n := by
 simp [notKey, Lit.sameKey]
theorem map_put (hk : P.underlying k = some (.int .i64)) {t e : TypeId} (ht : P.underlying t = some (.map k e)) {n : Int} (hn : 1 ≤ n ∧ n ≤ 65536) (v : Value) (h : Sat ((MapA P k b f).star F) w) :
 ∃ w', (Instr.mapUpdate t (.map (some b)) (.int .i64 n) v).run P w = .ok () w' ∧ Sat ((MapA P k b (fun m => if m = n then some v else f m)).star F) w' ∧ w.grownBy w' (some b) := by
 obtain ⟨es, clock, hF, hM, hs, hp⟩ := mapA_iff.1 h
 have hb := hp.pts_heap
 obtain ⟨es', clock', hrun, F', hput, _⟩ := fit_store (R' := heldR) (int_keyed hk) ht hb hF (fit_small hk hF hM hs) (fun _ _ _ _ hz => hz) (key_mk hk hn) (yv := (.held v, [])) (val := v) rfl
 refine ⟨_, hrun, mapA_iff.2 ⟨es', clock', F', fun m u => ?_, fun m u hu => ?_, ?_⟩, ⟨rfl, rfl, rfl, by simp [setBlock], fun i _ hi => heap_setBlock_other hb _ (fun e => hi (by rw [e]))⟩⟩
 · rw [hput]
   unfold putKey
   rw [mem_insert_iff, List.mem_filter, notKey_int, ← hM]
   by_cases hm : m = n
   · subst hm; simp; exact eq_comm
   · simp [hm]
 · by_cases hm : m = n
   · subst hm; exact hn
   · exact hs m u (by simpa [hm] using hu)
 · exact hp.put (heap_setBlock_same hb _) (fun i _ hi => heap_setBlock_other hb _ hi)
theorem map_del (hk : P.underlying k = some (.int .i64)) {t e ty : TypeId} (ht : P.underlying t = some (.map k e)) {n : Int} (hn : 1 ≤ n ∧ n ≤ 65536) (h : Sat ((MapA P k b f).star F) w) :
 ∃ w', (Builtin.delete_ #[t, k] ty #[.map (some b), .int .i64 n]).run P w = .ok (.tuple #[]) w' ∧ Sat ((MapA P k b (fun m => if m = n then none else f m)).star F) w' ∧ w.grownBy w' (some b) := by
 obtain ⟨es, clock, hF, hM, hs, hp⟩ := mapA_iff.1 h
 have hb := hp.pts_heap
 obtain ⟨es', hrun, F', _, hput, _⟩ := fit_drop (ty := ty) (int_keyed hk) ht hb hF (key_mk hk hn)
 refine ⟨_, hrun, mapA_iff.2 ⟨es', clock, F', fun m u => ?_, fun m u hu => ?_, ?_⟩, ⟨rfl, rfl, rfl, by simp [setBlock], fun i _ hi => heap_setBlock_other hb _ (fun e => hi (by rw [e]))⟩⟩
 · rw [hput]
   unfold delKey
   rw [List.mem_filter, notKey_int, ← hM]
   by_cases hm : m = n
   · subst hm; simp
   · simp [hm]
 · by_cases hm : m = n
   · simp [hm] at hu
   · exact hs m u (by simpa [hm] using hu)
 · exact hp.put (heap_setBlock_same hb _) (fun i _ hi => heap_setBlock_other hb _ hi)
theorem map_made (h : Sat F w) : Sat ((MapA P k w.heap.size fun _ => none).star F) (w.alloc (.map #[] 0)) :=
 mapA_iff.2 ⟨#[], 0, ⟨by simp, stamped_empty 0, by simp⟩, fun n v => by simp, (fun n v h => by cases h), h.alloc _⟩
theorem wpList_look {ops : Array Oper} {rest : List Oper} {o : Oper} {a : Act} {Q : Exit → Act → World → Prop} (hgd : o.guard = none) (m x : Operand) (t : TypeId) (c : Bool) (hop : o.op = Op.lookup t m x c)
 (hk : P.underlying k = some (.int .i64)) {e : TypeId} (ht : P.underlying t = some (.map k e)) (z : Value) (hz : (zeroValue e).run P w = .ok z w) (n : Int) (hn : 1 ≤ n ∧ n ≤ 65536)
 (hm : a.eval m = .map (some b)) (hx : a.eval x = .int .i64 n) (h : Sat ((MapA P k b f).star F) w)
 (hK : wpList P ops Q rest (a.put o.dst (if c then .tuple #[(f n).getD z, .bool (f n).isSome] else (f n).getD z)) w) : wpList P ops Q (o :: rest) a w := by
 refine wpList_plain hgd fun K' hK' => ?_
 have hrun := map_look hk ht hz c hn h
 unfold Oper.wp
 simp [execOp, hop, hm, hx, hrun, Result.andThen]
 exact hK' _ _ hK
theorem wpList_put {ops : Array Oper} {rest : List Oper} {o : Oper} {a : Act} {Q : Exit → Act → World → Prop} (hgd : o.guard = none) (m x u : Operand) (t : TypeId) (hop : o.op = Op.mapUpdate t m x u)
 (hk : P.underlying k = some (.int .i64)) {e : TypeId} (ht : P.underlying t = some (.map k e)) (n : Int) (hn : 1 ≤ n ∧ n ≤ 65536) (v : Value)
 (hm : a.eval m = .map (some b)) (hx : a.eval x = .int .i64 n) (hv : a.eval u = v) (h : Sat ((MapA P k b f).star F) w)
 (hK : ∀ w', Sat ((MapA P k b (fun m => if m = n then some v else f m)).star F) w' → w.grownBy w' (some b) → wpList P ops Q rest (a.put o.dst undef) w') : wpList P ops Q (o :: rest) a w := by
 refine wpList_plain hgd fun K' hK' => ?_
 obtain ⟨w', hrun, h1, h2⟩ := map_put hk ht hn v h
 unfold Oper.wp
 simp [execOp, hop, hm, hx, hv, hrun, Result.andThen]
 exact hK' _ _ (hK w' h1 h2)
theorem wpList_del {ops : Array Oper} {rest : List Oper} {o : Oper} {a : Act} {Q : Exit → Act → World → Prop} (hgd : o.guard = none) (m x : Operand) (t : TypeId)
 (hop : o.op = .call { callee := .builtin .delete, args := #[m, x], argTypes := #[t, k] })
 (hk : P.underlying k = some (.int .i64)) {e : TypeId} (ht : P.underlying t = some (.map k e)) (n : Int) (hn : 1 ≤ n ∧ n ≤ 65536)
 (hm : a.eval m = .map (some b)) (hx : a.eval x = .int .i64 n) (h : Sat ((MapA P k b f).star F) w)
 (hK : ∀ w', Sat ((MapA P k b (fun m => if m = n then none else f m)).star F) w' → w.grownBy w' (some b) → wpList P ops Q rest (a.put o.dst (.tuple #[])) w') : wpList P ops Q (o :: rest) a w := by
 refine wpList_plain hgd fun K' hK' => ?_
 obtain ⟨w', hrun, h1, h2⟩ := map_del (ty := o.type) hk ht hn h
 unfold Oper.wp execOp
 simp only [hop, resolve, invoke, builtin, Sem.run_bind, Sem.run_pure, Result.andThen_ok, List.map_toArray, List.map_cons, List.map_nil, hm, hx, hrun]
 exact hK' _ _ (hK w' h1 h2)
end
end Go.Sl
namespace Go.Cop
structure ItemV where
 key : List Int
 value : List Int
 child : Int
 size : Int
structure PageV where
 kind : Int
 level : Int
 items : List ItemV
 data : List Int
 next : Int
abbrev blobV (d : List Int) (next : Int) : PageV := ⟨3, 0, [], d, next⟩
structure ActV where
 mark : Int
 was : List (Int × Option PageV)
structure VaultS where
 pool : PoolS
 on : Int → Option PageV
 acts : List ActV
 floor : Int
end Go.Cop
namespace Go.Proofs.YtbobcmimkonnoaaGreat.vault1
open ChangeShapes WideShapes ChangeAt RowKit Sl Cop pool1 pool2 pool5 pool9 clone page
theorem infoPage : (Tryz.prog.info? 31).map (·.size) = some 5 := by kernel_rfl
theorem infoItem : (Tryz.prog.info? 58).map (fun i => (i.zero, i.size, i.bytes)) = some (some (.agg #[.slice none 0 0, .slice none 0 0, .int .i64 0, .int .i64 0]), 4, 64) := by kernel_rfl
theorem infoWas : (Tryz.prog.info? 172).map (fun i => (i.zero, i.size, i.bytes)) = some (some (.agg #[.int .i64 0, .int .i64 0, .int .i64 0, .slice none 0 0, .slice none 0 0, .int .i64 0, .bool false]), 7, 88) := by kernel_rfl
theorem infoVAct : (Tryz.prog.info? 158).map (fun i => (i.zero, i.size, i.bytes)) = some (some (.agg #[.int .i64 0, .slice none 0 0]), 2, 32) := by kernel_rfl
def ItemsIn (h : Hp) (vi : Value) (l : List ItemV) : Prop :=
 ∃ xs : List (Value × Value), xs.length = l.length ∧ RowIn h 4 vi l.length ((xs.zip l).flatMap fun x => [x.1.1, x.1.2, .int .i64 x.2.child, .int .i64 x.2.size]) ∧
  ∀ i (hx : i < xs.length) (hl : i < l.length), Bytes h xs[i].1 l[i].key ∧ Bytes h xs[i].2 l[i].value
def PageIn (h : Hp) (v : Value) (g : PageV) : Prop := ∃ vi vd, v = pageV g.kind g.level vi vd g.next ∧ ItemsIn h vi g.items ∧ Bytes h vd g.data
theorem ItemsIn.sub {a b : Hp} (hs : a.sub b) {v : Value} {l : List ItemV} (h : ItemsIn a v l) : ItemsIn b v l := by
 obtain ⟨xs, h1, h2, h3⟩ := h
 exact ⟨xs, h1, h2.sub hs, fun i hx hl => ⟨(h3 i hx hl).1.sub hs, (h3 i hx hl).2.sub hs⟩⟩
theorem PageIn.sub {a b : Hp} (hs : a.sub b) {v : Value} {g : PageV} (h : PageIn a v g) : PageIn b v g := by
 obtain ⟨vi, vd, h1, h2, h3⟩ := h
 exact ⟨vi, vd, h1, h2.sub hs, h3.sub hs⟩
theorem items_none {h : Hp} {v : Value} (hi : ItemsIn h v []) : ∃ a c, v = .slice a 0 c ∧ c ≤ maxLen := by
 obtain ⟨xs, h1, h2, h3⟩ := hi
 obtain ⟨_, a, c, e, _, e2, _⟩ := h2
 exact ⟨a, c, e, e2⟩
theorem Row.bd {T k : Nat} {a : Option Addr} {m c n : Nat} {xs : List Value} {F : Pr} {w : World} (h : Sat ((Row T k (.slice a m c) n xs).star F) w) : c ≤ maxLen := by
 obtain ⟨_, (⟨e, _, _⟩ | ⟨b, cap, sp, e, _, _, h3, _⟩)⟩ := Row.open' h
 · cases e; exact Nat.zero_le _
 · cases e; exact h3
theorem sat_emp (w : World) : Sat Pr.emp w := ⟨Hp.nil, rfl, fun k o e => by cases e⟩
theorem only_grown {a w w' : World} {row : Option Nat} (h : Only a w) (hg : w.grownBy w' row) (hr : ∀ b, row = some b → a.heap.size ≤ b) : Only a w' :=
 ⟨h.st.of_grown hg, fun k hk => (hg.block k (Nat.lt_of_lt_of_le hk h.st.size) (fun e => by have := hr k e.symm; omega)).trans (h.heap k hk)⟩
theorem items_mk {h : Hp} {a : Option Addr} {c : Nat} (hc : c ≤ maxLen) : ItemsIn h (.slice a 0 c) [] :=
 ⟨[], rfl, ⟨by simp, a, c, rfl, Nat.zero_le _, hc, fun h => absurd h (by simp)⟩, fun i hx => absurd hx (by simp)⟩
set_option maxRecDepth 100000 in
set_option maxHeartbeats 400000 in
theorem clone_items0 (a : Option Addr) (c : Nat) (hc : c ≤ maxLen) (w : World) :
 Calls Tryz.prog 140 #[.slice a 0 c] w fun e w' => ∃ a' c', e = .returned (.slice a' 0 c') ∧ c' ≤ maxLen ∧ Only w w' := by
 have he : ∀ wx : World, (binOp .eql 28 (.slice a 0 c) (.slice none 0 0)).run Tryz.prog wx = .ok (.bool a.isNone) wx := fun wx => Lib.run_eql_slice_nil wx _ _ a _ c 0 0 Tryz.underlying28
 cases a with
 | none =>
  go_enter Tryz.func140, Tryz.ntmps140
  go_wp2
  go_ret
  exact ⟨_, _, rfl, Nat.zero_le _, Only.refl w⟩
 | some ad =>
  have hnew : Sat ((Row 58 4 (.slice (some ⟨w.heap.size, 0, none⟩) 0 0) 0 []).star Pr.emp) (w.alloc (.cells #[] 58)) :=
   Row.mk' (xs := []) (sp := []) (by simp) (by simp) (Nat.le_refl _) (by simp) (by simpa using (sat_emp w).alloc (.cells #[] 58))
  have hx : RowIn Hp.nil 4 (.slice (some ad) 0 c) 0 [] := ⟨by simp, some ad, c, rfl, Nat.zero_le _, hc, fun h => absurd h (by simp)⟩
  have HF := Lib.hid hnew
  have HX := Lib.hid hx
  clear hx hnew
  go_enter Tryz.func140, Tryz.ntmps140
  obtain ⟨i0, hi, hz0, hz1, hz2⟩ := info_parts infoItem
  go_wp2_with (at_builtin; refine wpList_append_row rfl _ _ _ rfl 58 i0 (.agg #[.slice none 0 0, .slice none 0 0, .int .i64 0, .int .i64 0]) 4 64 Tryz.underlying28 hi hz0 hz1 hz2 rfl _ _ _ rfl HF.out Hp.nil (fun k o e => by cases e) _ _ _ rfl HX.out (by simp) (by simp) (by simp) ?_; intro v' w1 hsat hgr _; have HSAT := Lib.hid hsat; clear hsat)
  go_ret
  have h1 := HSAT.out
  obtain ⟨a', c', e', _, _⟩ := Row.read h1
  subst e'
  exact ⟨a', c', rfl, Row.bd h1, only_grown ((Only.refl w).alloc _) hgr (fun b e => by cases e; exact Nat.le_refl _)⟩
theorem toArena {A F : Pr} {w : World} (h : Sat (A.star F) w) {Q : Hp → Prop} (hq : ∀ x, A x → Q x) : ∃ h', Q h' ∧ Sat ((Pr.own h').star F) w := by
 obtain ⟨x, ⟨a, f, ha, hf, hd, rfl⟩, hw⟩ := h
 exact ⟨a, hq a ha, _, ⟨a, f, rfl, hf, hd, rfl⟩, hw⟩
set_option maxRecDepth 100000 in
set_option maxHeartbeats 2000000 in
theorem copied_blob (h : Hp) (v : Value) (d : List Int) (next : Int) (hd : d.length ≤ 65536) (hv : PageIn h v (blobV d next)) (F : Pr) (w : World) (hF : Sat F w) (hh : h.le w) :
 Calls Tryz.prog 88 #[v] w fun e w' => ∃ v', e = .returned v' ∧ (∃ h', PageIn h' v' (blobV d next) ∧ Sat ((Pr.own h').star F) w') ∧ Stays w w' := by
 obtain ⟨vi, vd, rfl, h1, h2⟩ := hv
 obtain ⟨ai, ci, rfl, hci⟩ := items_none h1
 obtain ⟨_, ad, cd, hvd, _, _, _⟩ := id h2
 subst hvd
 dsimp only
 have es : (w.alloc (.cells #[.int .i64 3, .int .i64 0, .slice ai 0 ci, .slice ad d.length cd, .int .i64 next] 31)).heap.size = w.heap.size + 1 := by simp
 have hb := hF.alloc (.cells #[.int .i64 3, .int .i64 0, .slice ai 0 ci, .slice ad d.length cd, .int .i64 next] 31)
 have hb2 := hb.alloc (.cells #[.int .i64 0, .int .i64 0, .slice none 0 0, .slice none 0 0, .int .i64 0] 31)
 rw [es] at hb2
 have hle : h.le ((w.alloc (.cells #[.int .i64 3, .int .i64 0, .slice ai 0 ci, .slice ad d.length cd, .int .i64 next] 31)).alloc (.cells #[.int .i64 0, .int .i64 0, .slice none 0 0, .slice none 0 0, .int .i64 0] 31)) :=
  fun k o e => ((((Only.refl w).alloc _).alloc _).heap k (Array.getElem?_eq_some_iff.1 (hh k o e)).1).trans (hh k o e)
 have HB := Lib.hid hb2
 have HL := Lib.hid hle
 have H2 := Lib.hid h2
 clear hb hb2 hle h2 h1 hF hh es
 go_enter Tryz.func88, Tryz.ntmps88
 go_wp2
 refine wp_region_staged (sz := 39) (by kernel_rfl) [0, 1, 3, 4] [(2, [6], [0, 3, 4]), (5, [], [0, 3, 6]), (7, [8], []), (9, [], [])] rfl (by kernel_rfl) (by kernel_rfl) (by kernel_rfl) ?_
 iterate 4 (refine wpQ_step rfl rfl (fun K hK => ?_); go_simp; refine hK _ ?_; clear hK K)
 refine wpQ_nil ?_
 refine wpRest_act rfl ?_
 go_wp2_with fail
 refine (clone_items0 ai ci hci _).mono ?_
 rintro e w1 ⟨a', c', rfl, hc', ho⟩
 have s1 := HB.out.drew.only ho
 have l1 : h.le w1 := fun k o e => (ho.heap k (Array.getElem?_eq_some_iff.1 (HL.out k o e)).1).trans (HL.out k o e)
 have q3 : w1.cell? ⟨w.heap.size, 3, none⟩ = some (.slice ad d.length cd) := by rw [cell_of_heap s1.right.pts_heap]; rfl
 have S1 := Lib.hid s1
 have L1 := Lib.hid l1
 have HO := Lib.hid ho
 clear s1 l1 ho
 go_wp2
 refine onN_mk ?_
 iterate 1 (refine wpQ_step rfl rfl (fun K hK => ?_); go_simp; refine hK _ ?_; clear hK K)
 refine wpQ_nil ⟨?_, ?_⟩
 · refine chk_cons ?_ (chk_cons ?_ (chk_cons ?_ chk_nil)) <;> (refine yieldF_of rfl rfl rfl rfl ?_; go_simp; try omega)
 refine wpRest_act rfl ?_
 go_wp2_with fail
 refine (clone_bytes h _ d _ _ S1.out L1.out H2.out hd).mono ?_
 rintro e w2 ⟨vd2, rfl, s2, hst2⟩
 obtain ⟨a2, c2, ed, _, _⟩ := Row.read s2
 subst ed
 have s3 : Sat ((Pr.pts w.heap.size (.cells #[.int .i64 3, .int .i64 0, .slice ai 0 ci, .slice ad d.length cd, .int .i64 next] 31)).star ((Pr.pts (w.heap.size + 1) (.cells #[.int .i64 0, .int .i64 0, .slice none 0 0, .slice none 0 0, .int .i64 0] 31)).star
  ((BytesRow (.slice a2 d.length c2) d).star F))) w2 := s2.perm (by ac_rfl)
 have y2 : w2.cell? ⟨w.heap.size, 2, none⟩ = some (.slice ai 0 ci) := by rw [cell_of_heap s3.pts_heap]; rfl
 have y3 : w2.cell? ⟨w.heap.size, 3, none⟩ = some (.slice ad d.length cd) := by rw [cell_of_heap s3.pts_heap]; rfl
 have z2 := frozen_of_heap s3.pts_heap 2
 have z3 := frozen_of_heap s3.pts_heap 3
 have S3 := Lib.hid s3
 clear s2 s3 S1 L1 HB HL H2
 go_wp2
 refine onN_mk (wpQ_nil ⟨?_, ?_⟩)
 · refine chk_cons ?_ (chk_cons ?_ (chk_cons ?_ chk_nil)) <;> (refine yieldF_of rfl rfl rfl rfl ?_; go_simp; try omega)
 refine wpRest_act rfl ?_
 go_wp2
 refine onN_mk ?_
 iterate 1 (refine wpQ_step rfl rfl (fun K hK => ?_); go_simp; refine hK _ ?_; clear hK K)
 refine wpQ_nil ⟨chk_nil, ?_⟩
 refine wpRest_act rfl ?_
 go_wp2
 refine onN_mk (wpQ_nil ⟨chk_nil, wpRest_nil ?_⟩)
 clear z2 z3
 have s4 := (S3.out.setCell (i := 2) (.slice a' 0 c')).setCell (i := 3) (.slice a2 d.length c2)
 have w4 : Sat ((Pr.pts (w.heap.size + 1) (.cells #[.int .i64 0, .int .i64 0, .slice none 0 0, .slice none 0 0, .int .i64 0] 31)).star ((Pr.pts w.heap.size (.cells #[.int .i64 3, .int .i64 0, .slice a' 0 c', .slice a2 d.length c2, .int .i64 next] 31)).star
  ((BytesRow (.slice a2 d.length c2) d).star F))) _ := s4.perm (by rw [Pr.left_comm]; rfl)
 generalize hwe : (w2.setCell ⟨w.heap.size, 2, none⟩ (.slice a' 0 c')).setCell ⟨w.heap.size, 3, none⟩ (.slice a2 d.length c2) = w5 at *
 have hst5 : Stays w2 w5 := by rw [← hwe]; exact ((Stays.refl _).setCell _ _).setCell _ _
 have p0 : w5.cell? ⟨w.heap.size, 0, none⟩ = some (.int .i64 3) := by rw [cell_of_heap w4.right.pts_heap]; rfl
 have p1 : w5.cell? ⟨w.heap.size, 1, none⟩ = some (.int .i64 0) := by rw [cell_of_heap w4.right.pts_heap]; rfl
 have p2 : w5.cell? ⟨w.heap.size, 2, none⟩ = some (.slice a' 0 c') := by rw [cell_of_heap w4.right.pts_heap]; rfl
 have p3 : w5.cell? ⟨w.heap.size, 3, none⟩ = some (.slice a2 d.length c2) := by rw [cell_of_heap w4.right.pts_heap]; rfl
 have p4 : w5.cell? ⟨w.heap.size, 4, none⟩ = some (.int .i64 next) := by rw [cell_of_heap w4.right.pts_heap]; rfl
 have f0 : w5.cell? ⟨w.heap.size + 1, 0, none⟩ = some (.int .i64 0) := by rw [cell_of_heap w4.pts_heap]; rfl
 have f1 : w5.cell? ⟨w.heap.size + 1, 1, none⟩ = some (.int .i64 0) := by rw [cell_of_heap w4.pts_heap]; rfl
 have f2 : w5.cell? ⟨w.heap.size + 1, 2, none⟩ = some (.slice none 0 0) := by rw [cell_of_heap w4.pts_heap]; rfl
 have f3 : w5.cell? ⟨w.heap.size + 1, 3, none⟩ = some (.slice none 0 0) := by rw [cell_of_heap w4.pts_heap]; rfl
 have f4 : w5.cell? ⟨w.heap.size + 1, 4, none⟩ = some (.int .i64 0) := by rw [cell_of_heap w4.pts_heap]; rfl
 have z0 := frozen_of_heap w4.pts_heap 0
 have z1 := frozen_of_heap w4.pts_heap 1
 have z2 := frozen_of_heap w4.pts_heap 2
 have z3 := frozen_of_heap w4.pts_heap 3
 have z4 := frozen_of_heap w4.pts_heap 4
 have W4 := Lib.hid w4
 have HST := Lib.hid (((((Stays.refl w).alloc _).alloc _).drew.trans HO.out.st).trans (hst2.trans hst5))
 clear s4 w4 hwe hst5 y2 y3 S3 hst2 HO
 go_wp2
 go_loopw [16] (fun i wr => i = .int .i64 0 ∧ wr = w5) (fun _ _ => 0)
 case atStart => exact ⟨rfl, rfl⟩
 case round =>
  obtain ⟨rfl, rfl⟩ := hrel
  go_wp2
  have s6 := ((((W4.out.setCell (i := 0) (.int .i64 3)).setCell (i := 1) (.int .i64 0)).setCell (i := 2) (.slice a' 0 c')).setCell (i := 3) (.slice a2 d.length c2)).setCell (i := 4) (.int .i64 next)
  have s7 : Sat ((Pr.pts (w.heap.size + 1) (.cells #[.int .i64 3, .int .i64 0, .slice a' 0 c', .slice a2 d.length c2, .int .i64 next] 31)).star ((Pr.pts w.heap.size (.cells #[.int .i64 3, .int .i64 0, .slice a' 0 c', .slice a2 d.length c2, .int .i64 next] 31)).star
   ((BytesRow (.slice a2 d.length c2) d).star F))) _ := s6
  refine bodyPost_ret (results_cell_row rfl _ _ (w.heap.size + 1) _ _ _ _ rfl s7.pts_heap Tryz.underlying31 rfl infoPage) rfl ?_
  obtain ⟨h', e1, e2⟩ := toArena (Q := fun x => Bytes x (.slice a2 d.length c2) d) s7.right.right (fun x hx => Row.rowIn hx)
  exact ⟨_, rfl, ⟨h', ⟨_, _, rfl, items_mk hc', e1⟩, e2⟩, ((((HST.out.setCell _ _).setCell _ _).setCell _ _).setCell _ _).setCell _ _⟩
end Go.Proofs.YtbobcmimkonnoaaGreat.vault1
namespace Go.Cop
open Go.Proofs.YtbobcmimkonnoaaGreat.chk1
def keyOk (k : Int) (i : Nat) (x : ItemV) : Bool := if k = 2 ∧ i = 0 then decide (x.key.length = 0) else decide (1 ≤ x.key.length ∧ x.key.length ≤ 24)
def ordOk (i : Nat) (prev : List Int) (x : ItemV) : Bool := decide (i = 0 ∨ 0 < cmpI x.key prev)
def valOk (k : Int) (x : ItemV) : Bool :=
 if k = 2 then decide (x.value.length = 0 ∧ x.size = 0)
 else if 0 ≤ x.size ∧ x.size ≤ 3840 then (if x.size ≤ 32 then decide ((x.value.length : Int) = x.size) else decide (x.value.length = 0)) else false
def kidOk (k : Int) (x : ItemV) : Bool := if k = 1 ∧ x.size ≤ 32 then decide (x.child = 0) else isPg x.child
def itemE (k : Int) (i : Nat) (prev : List Int) (x : ItemV) : Int :=
 if keyOk k i x = false then 7 else if ordOk i prev x = false then 11 else if valOk k x = false then 8 else if kidOk k x = false then 15 else 0
def itemsE (k : Int) : Nat → List Int → List ItemV → Int
 | _, _, [] => 0
 | i, prev, x :: l => if itemE k i prev x = 0 then itemsE k (i + 1) x.key l else itemE k i prev x
def kindOk (k : Int) : Bool := decide (1 ≤ k ∧ k ≤ 3)
def nextOk (n : Int) : Bool := decide (n = 0) || isPg n
def thenE (e f : Int) : Int := if e = 0 then f else e
def checkP (g : PageV) : Int :=
 if kindOk g.kind = false then 22 else if formP g.kind g.level g.items.length g.data.length g.next = false then 5
 else thenE (itemsE g.kind 0 [] g.items) (if nextOk g.next then 0 else 15)
/-- What a page that is right is bounded by. -/
structure Fit (g : PageV) : Prop where
 n : g.items.length ≤ 8
 d : g.data.length ≤ 480
 k : ∀ x ∈ g.items, x.key.length ≤ 24 ∧ x.value.length ≤ 32
theorem mustP_then (f : Int) (b : Bool) (e : Int) : mustP f b e = thenE f (if b then 0 else e) := by
 unfold mustP thenE
 cases b
 · simp
 · by_cases h : f = 0 <;> simp [h]
theorem thenE_assoc (a b c : Int) : thenE (thenE a b) c = thenE a (thenE b c) := by
 unfold thenE
 by_cases h : a = 0 <;> by_cases h2 : b = 0 <;> simp [h, h2]
theorem thenE_zero (a : Int) : thenE a 0 = a := by
 unfold thenE
 by_cases h : a = 0 <;> simp [h]
theorem zero_thenE (a : Int) : thenE 0 a = a := rfl
theorem itemsE_cons (k : Int) (i : Nat) (p : List Int) (x : ItemV) (l : List ItemV) : itemsE k i p (x :: l) = thenE (itemE k i p x) (itemsE k (i + 1) x.key l) := rfl
theorem itemE_then (k : Int) (i : Nat) (p : List Int) (x : ItemV) : itemE k i p x = thenE (if keyOk k i x then 0 else 7) (thenE (if ordOk i p x then 0 else 11) (thenE (if valOk k x then 0 else 8) (if kidOk k x then 0 else 15))) := by
 unfold itemE thenE
 cases keyOk k i x <;> cases ordOk i p x <;> cases valOk k x <;> cases kidOk k x <;> simp
theorem drop_at {l : List ItemV} {i : Nat} (h : i < l.length) : l.drop i = l[i] :: l.drop (i + 1) := List.drop_eq_getElem_cons h
theorem fit_items (k : Int) : ∀ (l : List ItemV) (i : Nat) (p : List Int), itemsE k i p l = 0 → ∀ x ∈ l, x.key.length ≤ 24 ∧ x.value.length ≤ 32
 | [], _, _, _, x, hx => by cases hx
 | y :: l, i, p, h, x, hx => by
  rw [itemsE_cons] at h
  have h1 : itemE k i p y = 0 := by
   unfold thenE at h; split at h
   · assumption
   · exact absurd h (by assumption)
  have h2 : itemsE k (i + 1) y.key l = 0 := by unfold thenE at h; rw [if_pos h1] at h; exact h
  rcases List.mem_cons.1 hx with rfl | hx
  · unfold itemE at h1
    split at h1
    · cases h1
    · rename_i hk
      split at h1
      · cases h1
      · split at h1
        · cases h1
        · rename_i hv
          constructor
          · unfold keyOk at hk
            split at hk <;> simp only [decide_eq_false_iff_not, Decidable.not_not] at hk <;> omega
          · unfold valOk at hv
            split at hv
            · simp only [decide_eq_false_iff_not, Decidable.not_not] at hv; omega
            · split at hv
              · split at hv <;> simp only [decide_eq_false_iff_not, Decidable.not_not] at hv <;> omega
              · simp at hv
  · exact fit_items k l (i + 1) y.key h2 x hx
theorem fit_of_check {g : PageV} (h : checkP g = 0) : Fit g := by
 unfold checkP at h
 split at h
 · cases h
 · rename_i hk
   split at h
   · cases h
   · rename_i hf
     have h1 : itemsE g.kind 0 [] g.items = 0 := by
      unfold thenE at h; split at h
      · assumption
      · exact absurd h (by assumption)
     have hb : g.items.length ≤ 8 ∧ g.data.length ≤ 480 := by
      unfold formP at hf
      split at hf
      · simp only [decide_eq_false_iff_not, Decidable.not_not] at hf; omega
      · split at hf <;> simp only [decide_eq_false_iff_not, Decidable.not_not] at hf <;> omega
     exact ⟨hb.1, hb.2, fit_items _ _ _ _ h1⟩
end Go.Cop
namespace Go.Sl
theorem flat_at {α : Type} (f : α → List Value) (k : Nat) (hf : ∀ x, (f x).length = k) : ∀ (l : List α) (i j : Nat) (hi : i < l.length), j < k → (l.flatMap f)[i * k + j]? = (f l[i])[j]?
 | [], i, j, hi, _ => absurd hi (by simp)
 | x :: l, 0, j, _, hj => by
  simp only [List.flatMap_cons, Nat.zero_mul, Nat.zero_add, List.getElem_cons_zero]
  rw [List.getElem?_append_left (by rw [hf]; exact hj)]
 | x :: l, i + 1, j, hi, hj => by
  have hx := hf x
  simp only [List.flatMap_cons, List.getElem_cons_succ]
  rw [List.getElem?_append_right (by rw [hx, Nat.succ_mul]; omega), hx, show (i + 1) * k + j - k = i * k + j by rw [Nat.succ_mul]; omega]
  exact flat_at f k hf l i j (by simpa using hi) hj
theorem flat_len {α : Type} (f : α → List Value) (k : Nat) (hf : ∀ x, (f x).length = k) : ∀ (l : List α), (l.flatMap f).length = l.length * k
 | [] => by simp
 | x :: l => by simp only [List.flatMap_cons, List.length_append, List.length_cons, flat_len f k hf l, hf x, Nat.succ_mul]; omega
theorem flat_set {α : Type} (f : α → List Value) (k : Nat) (hf : ∀ x, (f x).length = k) (j : Nat) (v : Value) (y : α) (hj : j < k) : ∀ (l : List α) (i : Nat) (hi : i < l.length), (f l[i]).set j v = f y → (l.flatMap f).set (i * k + j) v = (l.set i y).flatMap f
 | [], i, hi, _ => absurd hi (by simp)
 | x :: l, 0, _, e => by
  simp only [List.flatMap_cons, Nat.zero_mul, Nat.zero_add, List.set_cons_zero, List.getElem_cons_zero] at e ⊢
  rw [List.set_append_left _ _ (by rw [hf]; exact hj), e]
 | x :: l, i + 1, hi, e => by
  have hx := hf x
  simp only [List.flatMap_cons, List.set_cons_succ, List.getElem_cons_succ] at e ⊢
  rw [List.set_append_right _ _ (by rw [hx, Nat.succ_mul]; omega), hx, show (i + 1) * k + j - k = i * k + j by rw [Nat.succ_mul]; omega]
  rw [flat_set f k hf j v y hj l i (by simpa using hi) e]
/-- A cell of an owned row is written. -/
theorem Row.set {T k b c n : Nat} {xs : List Value} {F : Pr} {w : World} (h : Sat ((Row T k (.slice (some ⟨b, 0, none⟩) n c) n xs).star F) w) (i : Nat) (hi : i < xs.length) (v : Value) :
 Sat ((Row T k (.slice (some ⟨b, 0, none⟩) n c) n (xs.set i v)).star F) (w.setCell ⟨b, i, none⟩ v) := by
 obtain ⟨hl, (⟨e, _, _⟩ | ⟨b', cap, sp, e, h1, h2, h3, h4⟩)⟩ := Row.open' h
 · cases e
 · cases e
   have h5 := h4.setCell (i := i) v
   refine Row.mk' (sp := sp) (by simpa using hl) (by simpa using h1) h2 h3 ?_
   have e6 : (xs.set i v ++ sp).toArray = (xs ++ sp).toArray.setIfInBounds i v := by
    rw [List.setIfInBounds_toArray, List.set_append_left _ _ hi]
   rw [e6]
   exact h5
end Go.Sl
namespace Go.Proofs.YtbobcmimkonnoaaGreat.items
open ChangeShapes WideShapes ChangeAt RowKit Sl Cop clone page vault1
abbrev itemV (kv vv : Value) (c s : Int) : Value := .agg #[kv, vv, .int .i64 c, .int .i64 s]
def ItemIn (h : Hp) (v : Value) (x : ItemV) : Prop := ∃ kv vv, v = itemV kv vv x.child x.size ∧ Bytes h kv x.key ∧ Bytes h vv x.value
theorem ItemIn.sub {a b : Hp} (hs : a.sub b) {v : Value} {x : ItemV} (h : ItemIn a v x) : ItemIn b v x := by
 obtain ⟨kv, vv, e, h1, h2⟩ := h
 exact ⟨kv, vv, e, h1.sub hs, h2.sub hs⟩
theorem bytes_shape {h : Hp} {v : Value} {l : List Int} (hb : Bytes h v l) : ∃ a c, v = .slice a l.length c := by
 obtain ⟨_, a, c, e, _⟩ := hb
 exact ⟨a, c, e⟩
def itCells (x : (Value × Value) × ItemV) : List Value := [x.1.1, x.1.2, .int .i64 x.2.child, .int .i64 x.2.size]
/-- Item by item. -/
theorem items_rd {h : Hp} {vi : Value} {l : List ItemV} (hi : ItemsIn h vi l) : ∃ a c, vi = .slice a l.length c ∧ c ≤ maxLen ∧ ∀ i (hl : i < l.length), ∃ b off ak ck av cv, a = some ⟨b, off, none⟩ ∧
 Bytes h (.slice ak l[i].key.length ck) l[i].key ∧ Bytes h (.slice av l[i].value.length cv) l[i].value ∧
 ∀ w, h.le w → w.cell? ⟨b, off + i * 4, none⟩ = some (.slice ak l[i].key.length ck) ∧ w.cell? ⟨b, off + i * 4 + 1, none⟩ = some (.slice av l[i].value.length cv) ∧
  w.cell? ⟨b, off + i * 4 + 2, none⟩ = some (.int .i64 l[i].child) ∧ w.cell? ⟨b, off + i * 4 + 3, none⟩ = some (.int .i64 l[i].size) := by
 obtain ⟨xs, hxl, ⟨hlen, a, c, e, _, hcm, hc⟩, hb⟩ := hi
 refine ⟨a, c, e, hcm, fun i hl => ?_⟩
 obtain ⟨b, off, ea, hcell⟩ := hc (by omega)
 have hxi : i < xs.length := by omega
 obtain ⟨h1, h2⟩ := hb i hxi hl
 obtain ⟨ak, ck, e1⟩ := bytes_shape h1
 obtain ⟨av, cv, e2⟩ := bytes_shape h2
 have hz : i < (xs.zip l).length := by simp; omega
 have ez : (xs.zip l)[i] = (xs[i], l[i]) := by simp
 refine ⟨b, off, ak, ck, av, cv, ea, e1 ▸ h1, e2 ▸ h2, fun w hw => ?_⟩
 have at' : ∀ j, j < 4 → ∀ v, (itCells (xs[i], l[i]))[j]? = some v → w.cell? ⟨b, off + i * 4 + j, none⟩ = some v := by
  intro j hj v hv
  have h3 := hcell (i * 4 + j) (by omega)
  have h4 := flat_at itCells 4 (fun _ => rfl) (xs.zip l) i j hz hj
  rw [ez, hv] at h4
  rw [Nat.add_assoc]
  exact Hp.cell_le hw (h3.trans h4)
 have k0 := at' 0 (by omega) _ rfl
 have k1 := at' 1 (by omega) _ rfl
 have k2 := at' 2 (by omega) _ rfl
 have k3 := at' 3 (by omega) _ rfl
 dsimp only at k0 k1
 rw [e1] at k0
 rw [e2] at k1
 exact ⟨k0, k1, k2, k3⟩
/-- A list of items, put together. -/
theorem items_mk' {h : Hp} {vi : Value} {l : List ItemV} (xs : List (Value × Value)) (hxl : xs.length = l.length) (hr : RowIn h 4 vi l.length ((xs.zip l).flatMap itCells))
 (hb : ∀ i (hx : i < xs.length) (hl : i < l.length), Bytes h xs[i].1 l[i].key ∧ Bytes h xs[i].2 l[i].value) : ItemsIn h vi l := ⟨xs, hxl, hr, hb⟩
end Go.Proofs.YtbobcmimkonnoaaGreat.items
namespace Go.Cop
structure NumV where
 no : Int
 page : PageV
abbrev zeroP : PageV := ⟨0, 0, [], [], 0⟩
def rangeOk (pages refs : Int) : Bool := decide (1 ≤ pages ∧ pages ≤ 65536 ∧ 2 ≤ refs ∧ refs < 65536)
def cntL (cs : List Int) (n : Int) : Int := if 1 ≤ n ∧ n ≤ cs.length then cs.getD (n.toNat - 1) 0 else 0
/-- Pages are laid one behind the other. -/
def lay (cs : List Int) : List NumV → (Int → Option PageV) → Int × (Int → Option PageV)
 | [], on => (0, on)
 | x :: l, on => if cntL cs x.no = 0 then (15, on) else if (on x.no).isSome then (10, on) else if checkP x.page ≠ 0 then (checkP x.page, on) else lay cs l (fun m => if m = x.no then some x.page else on m)
def lacks (cs : List Int) (on : Int → Option PageV) : Bool := (List.range cs.length).any fun i => decide (cs.getD i 0 ≠ 0) && (on ((i : Int) + 1)).isNone
def badC (refs : Int) (cs : List Int) : Bool := cs.any fun c => decide (c < 0 ∨ refs < c)
def loadE (refs : Int) (cs : List Int) (l : List NumV) : Int × (Int → Option PageV) :=
 if rangeOk cs.length refs = false then (1, fun _ => none)
 else if badC refs cs = true then (13, fun _ => none)
 else if (lay cs l fun _ => none).1 ≠ 0 then lay cs l fun _ => none
 else if lacks cs (lay cs l fun _ => none).2 = true then (9, fun _ => none) else lay cs l fun _ => none
/-- What stands on the pages of a vault. -/
structure OnOk (cs : List Int) (on : Int → Option PageV) : Prop where
 there : ∀ n g, on n = some g → cntL cs n ≠ 0
 fit : ∀ n g, on n = some g → Fit g
theorem cntL_bd {cs : List Int} {n : Int} (h : cntL cs n ≠ 0) : 1 ≤ n ∧ n ≤ cs.length := by
 unfold cntL at h
 split at h
 · assumption
 · exact absurd rfl h
theorem OnOk.none (cs : List Int) : OnOk cs fun _ => none := ⟨fun _ _ e => (by cases e), fun _ _ e => (by cases e)⟩
theorem OnOk.put {cs : List Int} {on : Int → Option PageV} (h : OnOk cs on) {x : NumV} (h1 : cntL cs x.no ≠ 0) (h2 : checkP x.page = 0) : OnOk cs fun m => if m = x.no then some x.page else on m := by
 constructor
 · intro n g e
   split at e
   · rename_i hn; rw [hn]; exact h1
   · exact h.there n g e
 · intro n g e
   split at e
   · cases e; exact fit_of_check h2
   · exact h.fit n g e
theorem lay_ok {cs : List Int} : ∀ {l : List NumV} {on : Int → Option PageV}, OnOk cs on → OnOk cs (lay cs l on).2
 | [], _, h => h
 | x :: l, on, h => by
  unfold lay
  split
  · exact h
  · split
    · exact h
    · split
      · exact h
      · exact lay_ok (h.put (by assumption) (by rename_i h3; exact Decidable.not_not.1 h3))
/-- What stands on a page that is led to. -/
def lookL (cs : List Int) (on : Int → Option PageV) (n : Int) : Option PageV := if cntL cs n = 0 then none else some ((on n).getD zeroP)
/-- A long value, page by page; the steps are bounded. -/
def chainL (look : Int → Option PageV) (size : Nat) : Nat → List Int → Int → List Int × Int
 | 0, out, _ => (out, 0)
 | k + 1, out, n => if size ≤ out.length then (out, 0) else match look n with
  | none => ([], 15)
  | some g => if g.kind ≠ 3 then ([], 15)
   else if (g.data.length = min (size - out.length) 480 ∧ ((g.next = 0) ↔ (size - out.length ≤ 480))) then chainL look size k (out ++ g.data) g.next else ([], 5)
def valueL (look : Int → Option PageV) (size child : Int) (value : List Int) : List Int × Int :=
 if size < 0 ∨ 3840 < size ∨ (size ≤ 32 ∧ (value.length : Int) ≠ size) then ([], 8)
 else if size ≤ 32 then (value, 0) else chainL look size.toNat size.toNat [] child
end Go.Cop
