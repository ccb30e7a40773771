/- Rows that are read: a slice that reads as cells in a part of the heap. Append of such a row onto an owned one. Plain lemmas over any program. -/
import Derived.Test.YtbobcmimkonnoaaAppend
import Derived.Lib.AppendZeros
namespace Go.Sl
open Go.RowKit

def Hp.cell (h : Hp) (b i : Nat) : Option Value := match h b with
  | some (.cells c _ _) => c[i]?
  | _ => none
theorem Hp.cell_le {h : Hp} {w : World} (hl : h.le w) {b i : Nat} {v : Value} (e : h.cell b i = some v) : w.cell? ⟨b, i, none⟩ = some v := by
  unfold Hp.cell at e
  cases hb : h b with
  | none => simp [hb] at e
  | some o =>
    rw [hb] at e
    cases o <;> simp at e
    rename_i c t f
    simp [World.cell?, hl b _ hb, e]
def Hp.sub (a b : Hp) : Prop := ∀ k o, a k = some o → b k = some o
theorem Hp.sub_refl (a : Hp) : a.sub a := fun _ _ h => h
theorem Hp.sub.trans {a b c : Hp} (h : a.sub b) (k : b.sub c) : a.sub c := fun i o e => k i o (h i o e)
theorem Hp.sub_un_left (a b : Hp) : a.sub (a.un b) := fun k o e => by simp [Hp.un, e]
theorem Hp.sub_un_right {a b : Hp} (h : a.dis b) : b.sub (a.un b) := fun k o e => by
  rcases h k with e' | e'
  · simp [Hp.un, e', e]
  · rw [e'] at e; cases e
theorem Hp.cell_sub {a b : Hp} (h : a.sub b) {k i : Nat} {v : Value} (e : a.cell k i = some v) : b.cell k i = some v := by
  unfold Hp.cell at e ⊢
  cases ha : a k with
  | none => simp [ha] at e
  | some o => rw [h k o ha]; rw [ha] at e; exact e

/-- The slice v reads as n elements of k cells. -/
def RowIn (h : Hp) (k : Nat) (v : Value) (n : Nat) (xs : List Value) : Prop :=
  xs.length = n * k ∧ ∃ a c, v = .slice a n c ∧ n ≤ c ∧ c ≤ maxLen ∧ (0 < n → ∃ b off, a = some ⟨b, off, none⟩ ∧ ∀ i, i < n * k → h.cell b (off + i) = xs[i]?)

theorem RowIn.nil (h : Hp) (k : Nat) : RowIn h k (.slice none 0 0) 0 [] := ⟨by simp, none, 0, rfl, Nat.le_refl _, by simp [maxLen], fun h => absurd h (by omega)⟩
theorem RowIn.sub {a b : Hp} (hs : a.sub b) {k : Nat} {v : Value} {n : Nat} {xs : List Value} (h : RowIn a k v n xs) : RowIn b k v n xs := by
  obtain ⟨hl, ad, c, hv, h1, h2, h3⟩ := h
  refine ⟨hl, ad, c, hv, h1, h2, fun hn => ?_⟩
  obtain ⟨bb, off, hb, hc⟩ := h3 hn
  refine ⟨bb, off, hb, fun i hi => ?_⟩
  have e := hc i hi
  have hlt : i < xs.length := by omega
  rw [List.getElem?_eq_getElem hlt] at e ⊢
  exact Hp.cell_sub hs e
theorem Row.rowIn {T k : Nat} {v : Value} {n : Nat} {xs : List Value} {h : Hp} (hr : Row T k v n xs h) : RowIn h k v n xs := by
  obtain ⟨hl, (⟨rfl, rfl, rfl⟩ | ⟨b, cap, sp, rfl, h1, h2, h3, rfl⟩)⟩ := hr
  · have : xs = [] := List.eq_nil_of_length_eq_zero (by omega)
    subst this; exact RowIn.nil _ _
  · refine ⟨hl, _, _, rfl, h2, h3, fun hn => ⟨b, 0, rfl, fun i hi => ?_⟩⟩
    simp [Hp.cell, List.getElem?_append_left (show i < xs.length by omega)]
theorem Sat.toOwn {A F : Pr} {w : World} (h : Sat (A.star F) w) : ∃ h0, A h0 ∧ Sat ((Pr.own h0).star F) w := by
  obtain ⟨x, ⟨a, f, ha, hf, hd, rfl⟩, hl⟩ := h
  exact ⟨a, ha, _, ⟨a, f, rfl, hf, hd, rfl⟩, hl⟩
theorem Sat.ofOwn {h0 : Hp} {A F : Pr} {w : World} (h : Sat ((Pr.own h0).star F) w) (ha : A h0) : Sat (A.star F) w := h.mono fun _ e => by cases e; exact ha
theorem Sat.own_join {a b : Hp} {F : Pr} {w : World} (h : Sat ((Pr.own a).star ((Pr.own b).star F)) w) : a.dis b ∧ Sat ((Pr.own (a.un b)).star F) w := by
  rw [← Pr.star_assoc] at h
  obtain ⟨_, ⟨_, f, ⟨x, y, rfl, rfl, hd, rfl⟩, hf, hd', rfl⟩, hl⟩ := h
  exact ⟨hd, _, ⟨_, f, rfl, hf, hd', rfl⟩, hl⟩
theorem Sat.own_split {a b : Hp} (hd : a.dis b) {F : Pr} {w : World} (h : Sat ((Pr.own (a.un b)).star F) w) : Sat ((Pr.own a).star ((Pr.own b).star F)) w := by
  rw [← Pr.star_assoc]
  exact h.mono fun x e => by cases e; exact ⟨a, b, rfl, rfl, hd, rfl⟩

theorem star_sub {A B : Pr} {h : Hp} (hs : (A.star B) h) : ∃ a b, A a ∧ B b ∧ a.sub h ∧ b.sub h := by
  obtain ⟨a, b, ha, hb, hd, rfl⟩ := hs
  exact ⟨a, b, ha, hb, Hp.sub_un_left a b, Hp.sub_un_right hd⟩
theorem pts_rowIn {T k b n cap : Nat} {xs : List Value} {h : Hp} (hp : Pr.pts b (.cells xs.toArray T (0, 0)) h) (hl : xs.length = n * k) (hc : n = cap) (hm : cap ≤ maxLen) : RowIn h k (.slice (some ⟨b, 0, none⟩) n cap) n xs := by
  subst hc
  exact Row.rowIn (T := T) ⟨hl, .inr ⟨b, n, [], rfl, by simpa using hl, Nat.le_refl _, hm, by simpa using hp⟩⟩

section
variable {P : Program} {w : World} {F : Pr}
theorem add_cell (b off j : Nat) : (⟨b, off, none⟩ : Addr).add j = ⟨b, off + j, none⟩ := by unfold Addr.add; split <;> simp_all

/-- append(v, x...): x reads in a part h of the heap. -/
theorem run_append_row (t ty e : TypeId) (i : TypeInfo) (z : Value) (size bytes : Nat) (ht : P.underlying t = some (.slice e)) (hi : P.info? e = some i) (hz : i.zero = some z)
    (hsize : i.size = size) (hby : i.bytes = bytes) (hzs : z.cells.size = size)
    (v : Value) (n : Nat) (xs : List Value) (hown : Sat ((Row e size v n xs).star F) w)
    (h : Hp) (hh : h.le w) (vx : Value) (m : Nat) (news : List Value) (hx : RowIn h size vx m news) (h1 : ∀ u ∈ news, u.oneCell' = true)
    (h63 : n + m ≤ maxLen) (hbytes : (n + m) * bytes ≤ 140737488355328) :
    ∃ v' w', (Builtin.append_ #[t, t] ty #[v, vx]).run P w = .ok v' w' ∧ Sat ((Row e size v' (n + m) (xs ++ news)).star F) w' ∧ w.grownBy w' v.ownBlock ∧
      (v' = .slice none 0 0 ↔ v = .slice none 0 0 ∧ m = 0) := by
  obtain ⟨hl, ad, c, rfl, hmc, hcm, hc⟩ := hx
  cases ad with
  | some ad =>
    refine run_append_sl t ty e i z size bytes ht hi hz hsize hby hzs v n xs hown ad m c news hl ?_ h1 h63 hbytes
    intro j u hu
    have hj : j < news.length := (List.getElem?_eq_some_iff.1 hu).1
    have hm : 0 < m := by
      rcases Nat.eq_zero_or_pos m with h0 | h0
      · subst h0; simp at hl; simp [hl] at hj
      · exact h0
    obtain ⟨b, off, e1, hcell⟩ := hc hm
    cases e1
    rw [add_cell]
    exact Hp.cell_le hh ((hcell j (by omega)).trans hu)
  | none =>
    have hm : m = 0 := by
      rcases Nat.eq_zero_or_pos m with h0 | h0
      · exact h0
      · obtain ⟨b, off, e1, _⟩ := hc h0; cases e1
    subst hm
    have hn : news = [] := List.eq_nil_of_length_eq_zero (by simpa using hl)
    subst hn
    subst hsize
    refine ⟨v, w, ?_, by simpa using hown, ⟨rfl, rfl, rfl, Nat.le_refl _, fun _ _ _ => rfl⟩, by simp⟩
    obtain ⟨hxl, hcase⟩ := Row.open' hown
    rcases hcase with ⟨rfl, rfl, _⟩ | ⟨g, cap, sp, rfl, _, hnc, _, _⟩
    · simp [Builtin.append_, run_underlying ht, sizeOf, typeInfo, hi, Builtin.lenOf, Builtin.firstCells]
    · simp [Builtin.append_, run_underlying ht, sizeOf, typeInfo, hi, Builtin.lenOf, Builtin.firstCells, hnc, storeCells]

theorem wp_append_row {o : Oper} {a : Act} {K : Act → World → Prop} {Q : Exit → Act → World → Prop} (s x : Operand) (t : TypeId)
    (ho : o.op = .call { callee := .builtin .append, args := #[s, x], argTypes := #[t, t] })
    (e : TypeId) (i : TypeInfo) (z : Value) (size bytes : Nat) (ht : P.underlying t = some (.slice e)) (hi : P.info? e = some i) (hz : i.zero = some z)
    (hsize : i.size = size) (hby : i.bytes = bytes) (hzs : z.cells.size = size)
    (v : Value) (n : Nat) (xs : List Value) (hs : a.eval s = v) (hown : Sat ((Row e size v n xs).star F) w)
    (hp : Hp) (hh : hp.le w) (vx : Value) (m : Nat) (news : List Value) (hx : a.eval x = vx) (hrx : RowIn hp size vx m news) (h1 : ∀ u ∈ news, u.oneCell' = true)
    (h63 : n + m ≤ maxLen) (hbytes : (n + m) * bytes ≤ 140737488355328)
    (h : ∀ v' w', Sat ((Row e size v' (n + m) (xs ++ news)).star F) w' → w.grownBy w' v.ownBlock → (v' = .slice none 0 0 ↔ v = .slice none 0 0 ∧ m = 0) → K (a.put o.dst v') w') : o.wp P a w K Q := by
  obtain ⟨v', w', hr, h2, h3, h4⟩ := run_append_row (P := P) t o.type e i z size bytes ht hi hz hsize hby hzs v n xs hown hp hh vx m news hrx h1 h63 hbytes
  unfold Oper.wp execOp
  simp only [ho, resolve, invoke, builtin, Sem.run_bind, Sem.run_pure, Result.andThen_ok, List.map_toArray, List.map_cons, List.map_nil, hs, hx, hr]
  exact h v' w' h2 h3 h4

theorem wpList_append_row {ops : Array Oper} {rest : List Oper} {o : Oper} {a : Act} {Q : Exit → Act → World → Prop} (hgd : o.guard = none) (s x : Operand) (t : TypeId)
    (ho : o.op = .call { callee := .builtin .append, args := #[s, x], argTypes := #[t, t] })
    (e : TypeId) (i : TypeInfo) (z : Value) (size bytes : Nat) (ht : P.underlying t = some (.slice e)) (hi : P.info? e = some i) (hz : i.zero = some z)
    (hsize : i.size = size) (hby : i.bytes = bytes) (hzs : z.cells.size = size)
    (v : Value) (n : Nat) (xs : List Value) (hs : a.eval s = v) (hown : Sat ((Row e size v n xs).star F) w)
    (hp : Hp) (hh : hp.le w) (vx : Value) (m : Nat) (news : List Value) (hx : a.eval x = vx) (hrx : RowIn hp size vx m news) (h1 : ∀ u ∈ news, u.oneCell' = true)
    (h63 : n + m ≤ maxLen) (hbytes : (n + m) * bytes ≤ 140737488355328)
    (h : ∀ v' w', Sat ((Row e size v' (n + m) (xs ++ news)).star F) w' → w.grownBy w' v.ownBlock → (v' = .slice none 0 0 ↔ v = .slice none 0 0 ∧ m = 0) → wpList P ops Q rest (a.put o.dst v') w') : wpList P ops Q (o :: rest) a w :=
  wpList_plain hgd fun _ hK => wp_append_row s x t ho e i z size bytes ht hi hz hsize hby hzs v n xs hs hown hp hh vx m news hx hrx h1 h63 hbytes fun v' w' h2 h3 h4 => hK _ _ (h v' w' h2 h3 h4)
end
theorem Stays.of_grown {a w w' : World} {row : Option Nat} (h : Stays a w) (hg : w.grownBy w' row) : Stays a w' := h.trans ⟨hg.os, hg.tape, hg.output, hg.size⟩
end Go.Sl
