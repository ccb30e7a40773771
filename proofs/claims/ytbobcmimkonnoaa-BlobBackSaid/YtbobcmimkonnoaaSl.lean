/- Small separation logic over the heap's blocks: what a call owns, and what it leaves as it was. Plain lemmas, no condition. -/
import Derived.WalkKit
import Derived.Below
import Derived.Deep.QuietTactic
import Derived.BigQuiet
namespace Go.Sl
open Go.RowKit

/-- A part of the heap: some blocks with what lies in them. -/
abbrev Hp := Nat → Option Obj
def Hp.nil : Hp := fun _ => Option.none
def Hp.dis (a b : Hp) : Prop := ∀ k, a k = Option.none ∨ b k = Option.none
def Hp.un (a b : Hp) : Hp := fun k => match a k with | some o => some o | Option.none => b k
def Hp.le (a : Hp) (w : World) : Prop := ∀ k o, a k = some o → w.heap[k]? = some o

theorem Hp.dis_comm {a b : Hp} (h : a.dis b) : b.dis a := fun k => (h k).symm
theorem Hp.un_comm {a b : Hp} (h : a.dis b) : a.un b = b.un a := by
  funext k; rcases h k with e | e <;> simp only [Hp.un, e] <;> cases h : a k <;> cases h' : b k <;> simp_all
theorem Hp.un_assoc (a b c : Hp) : (a.un b).un c = a.un (b.un c) := by
  funext k; simp only [Hp.un]; cases a k <;> rfl
theorem Hp.nil_un (a : Hp) : Hp.nil.un a = a := rfl
theorem Hp.un_nil (a : Hp) : a.un Hp.nil = a := by funext k; simp only [Hp.un, Hp.nil]; cases a k <;> rfl
theorem Hp.dis_un {a b c : Hp} : (a.un b).dis c ↔ a.dis c ∧ b.dis c ∨ ((∀ k, (a k = Option.none ∧ b k = Option.none) ∨ c k = Option.none)) := by
  constructor
  · intro h; right; intro k
    rcases h k with e | e
    · left; simp only [Hp.un] at e; cases ha : a k <;> simp_all
    · exact .inr e
  · rintro (⟨h1, h2⟩ | h) k
    · rcases h1 k with e | e
      · rcases h2 k with e' | e'
        · left; simp [Hp.un, e, e']
        · exact .inr e'
      · exact .inr e
    · rcases h k with ⟨e, e'⟩ | e
      · left; simp [Hp.un, e, e']
      · exact .inr e
theorem Hp.dis_un_iff {a b c : Hp} : (a.un b).dis c ↔ a.dis c ∧ b.dis c := by
  constructor
  · intro h
    refine ⟨fun k => ?_, fun k => ?_⟩ <;> (rcases h k with e | e; (left; simp only [Hp.un] at e; cases ha : a k <;> simp_all); exact .inr e)
  · exact fun h => Hp.dis_un.2 (.inl h)
theorem Hp.le_un {a b : Hp} {w : World} (h : a.dis b) : (a.un b).le w ↔ a.le w ∧ b.le w := by
  constructor
  · intro hl
    refine ⟨fun k o e => hl k o (by simp [Hp.un, e]), fun k o e => hl k o ?_⟩
    rcases h k with e' | e'
    · simp [Hp.un, e', e]
    · rw [e'] at e; cases e
  · rintro ⟨h1, h2⟩ k o e
    simp only [Hp.un] at e
    cases ha : a k with
    | some x => rw [ha] at e; cases e; exact h1 k _ ha
    | none => rw [ha] at e; exact h2 k _ e

/-- What is said of a part of the heap. -/
def Pr := Hp → Prop
def Pr.emp : Pr := fun h => h = Hp.nil
def Pr.star (A B : Pr) : Pr := fun h => ∃ a b, A a ∧ B b ∧ a.dis b ∧ h = a.un b
def Pr.pts (b : Nat) (o : Obj) : Pr := fun h => h = fun k => if k = b then some o else Option.none
def Pr.own (h0 : Hp) : Pr := fun h => h = h0
def Pr.pure (p : Prop) : Pr := fun h => p ∧ h = Hp.nil
def Pr.ex {α : Sort _} (A : α → Pr) : Pr := fun h => ∃ x, A x h

theorem Pr.star_comm (A B : Pr) : A.star B = B.star A := by
  funext h; apply propext
  constructor <;> (rintro ⟨a, b, ha, hb, hd, rfl⟩; exact ⟨b, a, hb, ha, Hp.dis_comm hd, Hp.un_comm hd⟩)
theorem Pr.star_assoc (A B C : Pr) : (A.star B).star C = A.star (B.star C) := by
  funext h; apply propext
  constructor
  · rintro ⟨_, c, ⟨a, b, ha, hb, hd, rfl⟩, hc, hd', rfl⟩
    obtain ⟨h1, h2⟩ := Hp.dis_un_iff.1 hd'
    exact ⟨a, b.un c, ha, ⟨b, c, hb, hc, h2, rfl⟩, Hp.dis_comm (Hp.dis_un_iff.2 ⟨Hp.dis_comm hd, Hp.dis_comm h1⟩), Hp.un_assoc _ _ _⟩
  · rintro ⟨a, _, ha, ⟨b, c, hb, hc, hd, rfl⟩, hd', rfl⟩
    obtain ⟨h1, h2⟩ := Hp.dis_un_iff.1 (Hp.dis_comm hd')
    exact ⟨a.un b, c, ⟨a, b, ha, hb, Hp.dis_comm h1, rfl⟩, hc, Hp.dis_un_iff.2 ⟨Hp.dis_comm h2, hd⟩, (Hp.un_assoc _ _ _).symm⟩
instance : Std.Commutative Pr.star := ⟨Pr.star_comm⟩
instance : Std.Associative Pr.star := ⟨Pr.star_assoc⟩
theorem Pr.star_emp (A : Pr) : A.star Pr.emp = A := by
  funext h; apply propext
  constructor
  · rintro ⟨a, b, ha, rfl, _, rfl⟩; rw [Hp.un_nil]; exact ha
  · intro ha; exact ⟨h, Hp.nil, ha, rfl, fun _ => .inr rfl, (Hp.un_nil h).symm⟩
theorem Pr.emp_star (A : Pr) : Pr.emp.star A = A := by rw [Pr.star_comm, Pr.star_emp]
theorem Pr.left_comm (A B C : Pr) : A.star (B.star C) = B.star (A.star C) := by rw [← Pr.star_assoc, Pr.star_comm A B, Pr.star_assoc]

theorem Pr.ex_star {α : Sort _} (A : α → Pr) (F : Pr) : (Pr.ex A).star F = Pr.ex fun x => (A x).star F := by
  funext h; apply propext
  constructor
  · rintro ⟨a, b, ⟨x, ha⟩, hb, hd, rfl⟩; exact ⟨x, a, b, ha, hb, hd, rfl⟩
  · rintro ⟨x, a, b, ha, hb, hd, rfl⟩; exact ⟨a, b, ⟨x, ha⟩, hb, hd, rfl⟩
theorem Pr.star_ex {α : Sort _} (A : α → Pr) (F : Pr) : F.star (Pr.ex A) = Pr.ex fun x => F.star (A x) := by
  rw [Pr.star_comm, Pr.ex_star]
  congr 1; funext x; exact Pr.star_comm _ _

/-- It holds of a part of what lies in the world. -/
def Sat (A : Pr) (w : World) : Prop := ∃ h, A h ∧ h.le w

theorem Sat.perm {A B : Pr} {w : World} (h : Sat A w) (e : A = B) : Sat B w := e ▸ h
theorem Sat.right {A B : Pr} {w : World} (h : Sat (A.star B) w) : Sat B w := by
  obtain ⟨_, ⟨a, b, _, hb, hd, rfl⟩, hl⟩ := h; exact ⟨b, hb, ((Hp.le_un hd).1 hl).2⟩
theorem Sat.left {A B : Pr} {w : World} (h : Sat (A.star B) w) : Sat A w := (h.perm (Pr.star_comm A B)).right
theorem Sat.mono {A B F : Pr} {w : World} (h : Sat (A.star F) w) (hab : ∀ x, A x → B x) : Sat (B.star F) w := by
  obtain ⟨x, ⟨a, f, ha, hf, hd, rfl⟩, hl⟩ := h; exact ⟨_, ⟨a, f, hab a ha, hf, hd, rfl⟩, hl⟩
theorem Sat.ex {α : Sort _} {A : α → Pr} {F : Pr} {w : World} : Sat ((Pr.ex A).star F) w ↔ ∃ x, Sat ((A x).star F) w := by
  constructor
  · rintro ⟨_, ⟨a, f, ⟨x, ha⟩, hf, hd, rfl⟩, hl⟩; exact ⟨x, _, ⟨a, f, ha, hf, hd, rfl⟩, hl⟩
  · rintro ⟨x, _, ⟨a, f, ha, hf, hd, rfl⟩, hl⟩; exact ⟨_, ⟨a, f, ⟨x, ha⟩, hf, hd, rfl⟩, hl⟩
theorem Sat.ex0 {α : Sort _} {A : α → Pr} {w : World} : Sat (Pr.ex A) w ↔ ∃ x, Sat (A x) w :=
  ⟨fun ⟨h, ⟨x, hx⟩, hl⟩ => ⟨x, h, hx, hl⟩, fun ⟨x, h, hx, hl⟩ => ⟨h, ⟨x, hx⟩, hl⟩⟩
theorem Sat.pure {p : Prop} {F : Pr} {w : World} : Sat ((Pr.pure p).star F) w ↔ p ∧ Sat F w := by
  constructor
  · rintro ⟨_, ⟨a, f, ⟨hp, rfl⟩, hf, hd, rfl⟩, hl⟩; rw [Hp.nil_un] at hl; exact ⟨hp, f, hf, hl⟩
  · rintro ⟨hp, f, hf, hl⟩; exact ⟨f, ⟨Hp.nil, f, ⟨hp, rfl⟩, hf, fun _ => .inl rfl, rfl⟩, hl⟩
theorem Sat.pts_heap {b : Nat} {o : Obj} {F : Pr} {w : World} (h : Sat ((Pr.pts b o).star F) w) : w.heap[b]? = some o := by
  obtain ⟨x, rfl, hl⟩ := h.left; exact hl b o (by simp)
theorem Sat.pts_ne {b c : Nat} {o o' : Obj} {F : Pr} {w : World} (h : Sat ((Pr.pts b o).star ((Pr.pts c o').star F)) w) : b ≠ c := by
  obtain ⟨_, ⟨a, _, rfl, ⟨b', f, rfl, hf, hd', rfl⟩, hd, rfl⟩, hl⟩ := h
  rintro rfl
  rcases hd b with e | e <;> simp [Hp.un] at e
theorem Sat.own {h0 : Hp} {F : Pr} {w : World} (h : Sat ((Pr.own h0).star F) w) : h0.le w := by
  obtain ⟨x, rfl, hl⟩ := h.left; exact hl
theorem Sat.lt {b : Nat} {o : Obj} {F : Pr} {w : World} (h : Sat ((Pr.pts b o).star F) w) : b < w.heap.size :=
  (Array.getElem?_eq_some_iff.1 h.pts_heap).1

/-- The streams are as they were; no block has gone. -/
structure Stays (w w' : World) : Prop where
  os : w'.os = w.os
  tape : w'.tape = w.tape
  output : w'.output = w.output
  size : w.heap.size ≤ w'.heap.size
theorem Stays.refl (w : World) : Stays w w := ⟨rfl, rfl, rfl, Nat.le_refl _⟩
theorem Stays.trans {a b c : World} (h : Stays a b) (k : Stays b c) : Stays a c :=
  ⟨k.os.trans h.os, k.tape.trans h.tape, k.output.trans h.output, Nat.le_trans h.size k.size⟩
theorem Stays.alloc {a w : World} (h : Stays a w) (o : Obj) : Stays a (w.alloc o) := h.trans ⟨rfl, rfl, rfl, by simp⟩
theorem Stays.setCell {a w : World} (h : Stays a w) (p : Addr) (v : Value) : Stays a (w.setCell p v) := h.trans ⟨rfl, rfl, rfl, by simp [World.setCell]⟩
theorem Stays.drewN {a w : World} (h : Stays a w) (n : Nat) : Stays a (w.drewN n) := h.trans ⟨rfl, rfl, rfl, Nat.le_refl _⟩
theorem Stays.drew {a w : World} (h : Stays a w) : Stays a w.drew := h.trans ⟨rfl, rfl, rfl, Nat.le_refl _⟩
theorem Stays.of_below {B : Nat} {w w' : World} (h : Below B w w') : Stays w w' := ⟨h.os, h.tape, h.output, h.size⟩

/-- Blocks outside S are as they were. -/
def Apart (S : Nat → Prop) (w w' : World) : Prop := ∀ k, k < w.heap.size → ¬ S k → w'.heap[k]? = w.heap[k]?

theorem Hp.le_of_apart {h : Hp} {w w' : World} {S : Nat → Prop} (hl : h.le w) (ha : Apart S w w') (hs : ∀ k o, h k = some o → ¬ S k) : h.le w' :=
  fun k o e => (ha k (Array.getElem?_eq_some_iff.1 (hl k o e)).1 (hs k o e)).trans (hl k o e)

theorem Sat.ext {A : Pr} {w w' : World} (h : Sat A w) (ha : ∀ k, k < w.heap.size → w'.heap[k]? = w.heap[k]?) : Sat A w' := by
  obtain ⟨x, hx, hl⟩ := h; exact ⟨x, hx, fun k o e => (ha k (Array.getElem?_eq_some_iff.1 (hl k o e)).1).trans (hl k o e)⟩
theorem Sat.below {A : Pr} {w w' : World} (h : Sat A w) (hb : Below w.heap.size w w') : Sat A w' := h.ext hb.block
theorem Sat.drewN {A : Pr} {w : World} (h : Sat A w) (n : Nat) : Sat A (w.drewN n) := h.ext fun _ _ => rfl
theorem Sat.drew {A : Pr} {w : World} (h : Sat A w) : Sat A w.drew := h.ext fun _ _ => rfl

/-- One block is another one; the others are as they were. -/
theorem Sat.put {b : Nat} {o o' : Obj} {F : Pr} {w w' : World} (h : Sat ((Pr.pts b o).star F) w) (hb : w'.heap[b]? = some o')
    (ha : ∀ k, k < w.heap.size → k ≠ b → w'.heap[k]? = w.heap[k]?) : Sat ((Pr.pts b o').star F) w' := by
  obtain ⟨_, ⟨a, f, rfl, hf, hd, rfl⟩, hl⟩ := h
  obtain ⟨h1, h2⟩ := (Hp.le_un hd).1 hl
  have hd' : Hp.dis (fun k => if k = b then some o' else Option.none) f := fun k => by
    rcases hd k with e | e
    · left; by_cases hk : k = b <;> simp_all
    · exact .inr e
  refine ⟨_, ⟨_, f, rfl, hf, hd', rfl⟩, (Hp.le_un hd').2 ⟨fun k x e => ?_, fun k x e => ?_⟩⟩
  · by_cases hk : k = b
    · simp [hk] at e; rw [hk, ← e]; exact hb
    · simp [hk] at e
  · have hk : k ≠ b := by
      rintro rfl; rcases hd k with e' | e'
      · simp at e'
      · rw [e'] at e; cases e
    exact (ha k (Array.getElem?_eq_some_iff.1 (h2 k x e)).1 hk).trans (h2 k x e)

theorem Sat.setCell {b i : Nat} {cs : Array Value} {t : TypeId} {fz : Nat × Nat} {F : Pr} {w : World} (h : Sat ((Pr.pts b (.cells cs t fz)).star F) w) (v : Value) :
    Sat ((Pr.pts b (.cells (cs.setIfInBounds i v) t fz)).star F) (w.setCell ⟨b, i, Option.none⟩ v) := by
  refine h.put ?_ (fun k _ hk => Below.heap_setCell _ _ _ _ hk)
  have hb := h.pts_heap
  simp [World.setCell, Array.getElem?_modify, hb]

theorem Sat.setOther {b i : Nat} {o : Obj} {F : Pr} {w : World} (h : Sat ((Pr.pts b o).star F) w) (v : Value) : Sat F (w.setCell ⟨b, i, Option.none⟩ v) := by
  have := h.put (w' := w.setCell ⟨b, i, Option.none⟩ v) (o' := ((w.setCell ⟨b, i, Option.none⟩ v).heap[b]?).getD o) (by
    have hb := h.pts_heap
    cases o <;> simp [World.setCell, Array.getElem?_modify, hb]) (fun k _ hk => Below.heap_setCell _ _ _ _ hk)
  exact this.right

/-- A new part of the heap. -/
theorem Sat.join {h0 : Hp} {F : Pr} {w w' : World} (h : Sat F w) (hn : h0.le w') (hnew : ∀ k o, h0 k = some o → w.heap.size ≤ k)
    (ha : ∀ k, k < w.heap.size → w'.heap[k]? = w.heap[k]?) : Sat ((Pr.own h0).star F) w' := by
  obtain ⟨f, hf, hl⟩ := h
  have hd : h0.dis f := fun k => by
    cases e : f k with
    | none => exact .inr rfl
    | some o =>
      left
      cases e' : h0 k with
      | none => rfl
      | some o' =>
        have := (Array.getElem?_eq_some_iff.1 (hl k o e)).1
        have := hnew k o' e'
        omega
  exact ⟨_, ⟨h0, f, rfl, hf, hd, rfl⟩, (Hp.le_un hd).2 ⟨hn, fun k o e => (ha k (Array.getElem?_eq_some_iff.1 (hl k o e)).1).trans (hl k o e)⟩⟩

theorem heap_new (w : World) (o : Obj) : (w.alloc o).heap[w.heap.size]? = some o := by
  show (w.heap.push o)[w.heap.size]? = some o
  exact Array.getElem?_push_size
theorem Sat.alloc {F : Pr} {w : World} (h : Sat F w) (o : Obj) : Sat ((Pr.pts w.heap.size o).star F) (w.alloc o) := by
  have := Sat.join (h0 := fun k => if k = w.heap.size then some o else Option.none) (w' := w.alloc o) h (fun k x e => by
      by_cases hk : k = w.heap.size
      · simp [hk] at e; rw [hk, ← e]; exact heap_new w o
      · simp [hk] at e) (fun k x e => by by_cases hk : k = w.heap.size <;> simp_all) (fun k hk => Below.heap_alloc w o k hk)
  exact this

/-- A call that owns Pre, and hands back Post: whatever else there is stays. -/
def Does (P : Program) (f : FuncId) (args : Array Value) (Pre : Pr) (Post : Value → Pr) : Prop :=
  ∀ F w, Sat (Pre.star F) w → Calls P f args w fun e w' => ∃ v, e = .returned v ∧ Sat ((Post v).star F) w' ∧ Stays w w'

/-- A row of n elements of k cells each, owned whole: the slice v holds xs; what lies behind them is room. -/
def Row (T k : Nat) (v : Value) (n : Nat) (xs : List Value) : Pr := fun h =>
  xs.length = n * k ∧ ((v = .slice Option.none 0 0 ∧ n = 0 ∧ h = Hp.nil) ∨
    ∃ b cap sp, v = .slice (some ⟨b, 0, Option.none⟩) n cap ∧ xs.length + sp.length = cap * k ∧ n ≤ cap ∧ cap ≤ maxLen ∧ Pr.pts b (.cells (xs ++ sp).toArray T (0, 0)) h)

theorem Row.nil (T k : Nat) : Row T k (.slice Option.none 0 0) 0 [] = Pr.emp := by
  funext h; apply propext
  constructor
  · rintro ⟨_, (⟨_, _, e⟩ | ⟨b, cap, sp, e, _⟩)⟩
    · exact e
    · cases e
  · intro e; exact ⟨by simp, .inl ⟨rfl, rfl, e⟩⟩

theorem Sat.emp {F : Pr} {w : World} : Sat (Pr.emp.star F) w ↔ Sat F w := by rw [Pr.emp_star]

theorem Row.open' {T k : Nat} {v : Value} {n : Nat} {xs : List Value} {F : Pr} {w : World} (h : Sat ((Row T k v n xs).star F) w) :
    xs.length = n * k ∧ ((v = .slice Option.none 0 0 ∧ n = 0 ∧ Sat F w) ∨
      ∃ b cap sp, v = .slice (some ⟨b, 0, Option.none⟩) n cap ∧ xs.length + sp.length = cap * k ∧ n ≤ cap ∧ cap ≤ maxLen ∧ Sat ((Pr.pts b (.cells (xs ++ sp).toArray T (0, 0))).star F) w) := by
  obtain ⟨x, ⟨a, f, ⟨hl, ha⟩, hf, hd, rfl⟩, hw⟩ := h
  refine ⟨hl, ?_⟩
  rcases ha with ⟨hv, hn, rfl⟩ | ⟨b, cap, sp, hv, h1, h2, h3, h4⟩
  · rw [Hp.nil_un] at hw; exact .inl ⟨hv, hn, f, hf, hw⟩
  · exact .inr ⟨b, cap, sp, hv, h1, h2, h3, _, ⟨a, f, h4, hf, hd, rfl⟩, hw⟩

theorem Row.mk' {T k b cap n : Nat} {xs sp : List Value} {F : Pr} {w : World} (hl : xs.length = n * k) (h1 : xs.length + sp.length = cap * k) (h2 : n ≤ cap) (h3 : cap ≤ maxLen)
    (h : Sat ((Pr.pts b (.cells (xs ++ sp).toArray T (0, 0))).star F) w) : Sat ((Row T k (.slice (some ⟨b, 0, Option.none⟩) n cap) n xs).star F) w :=
  h.mono fun _ hx => ⟨hl, .inr ⟨b, cap, sp, rfl, h1, h2, h3, hx⟩⟩

theorem cell_of_heap {w : World} {b : Nat} {cs : Array Value} {t : TypeId} {fz : Nat × Nat} (h : w.heap[b]? = some (.cells cs t fz)) (i : Nat) : w.cell? ⟨b, i, Option.none⟩ = cs[i]? := by
  simp [World.cell?, h]
theorem frozen_of_heap {w : World} {b : Nat} {cs : Array Value} {t : TypeId} (h : w.heap[b]? = some (.cells cs t (0, 0))) (i : Nat) : w.frozen? ⟨b, i, Option.none⟩ = false := by
  simp [World.frozen?, h]

/-- The shape of a row's slice, and its cells. -/
theorem Row.read {T k : Nat} {v : Value} {n : Nat} {xs : List Value} {F : Pr} {w : World} (h : Sat ((Row T k v n xs).star F) w) :
    ∃ a c, v = .slice a n c ∧ xs.length = n * k ∧ (0 < n → ∃ b, a = some ⟨b, 0, Option.none⟩ ∧ ∀ i, i < n * k → w.cell? ⟨b, i, Option.none⟩ = xs[i]? ∧ w.frozen? ⟨b, i, Option.none⟩ = false) := by
  obtain ⟨hl, (⟨rfl, rfl, _⟩ | ⟨b, cap, sp, rfl, h1, h2, h3, h4⟩)⟩ := Row.open' h
  · exact ⟨_, _, rfl, hl, fun h => absurd h (by omega)⟩
  · refine ⟨_, _, rfl, hl, fun _ => ⟨b, rfl, fun i hi => ⟨?_, frozen_of_heap h4.pts_heap i⟩⟩⟩
    rw [cell_of_heap h4.pts_heap]
    simp [List.getElem?_append_left (show i < xs.length by omega)]
end Go.Sl
