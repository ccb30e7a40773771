/- The pool in memory, and its free set's contracts. The conditions stand as hypotheses of each. -/
import Derived.Test.YtbobcmimkonnoaaPool1
import Derived.Test.YtbobcmimkonnoaaPoolDefs
import Derived.Test.YtbobcmimkonnoaaRunsLaw
import Derived.Test.YtbobcmimkonnoaaRuns6
namespace Go.Proofs.Ytbobcmimkonnoaa.pool2
open Go.ChangeShapes Go.WideShapes Go.ChangeAt Go.RowKit Go.Sl Go.Cop Go.Proofs.Ytbobcmimkonnoaa.pool1 Go.Proofs.Ytbobcmimkonnoaa.runs1 Go.Proofs.Ytbobcmimkonnoaa.runs4 Go.Proofs.Ytbobcmimkonnoaa.runs5 Go.Proofs.Ytbobcmimkonnoaa.runs6

theorem Row.set {T b n cap i : Nat} {xs : List Value} {F : Pr} {w : World} (h : Sat ((Row T 1 (.slice (some ⟨b, 0, none⟩) n cap) n xs).star F) w) (hi : i < n) (u : Value) :
    Sat ((Row T 1 (.slice (some ⟨b, 0, none⟩) n cap) n (xs.set i u)).star F) (w.setCell ⟨b, i, none⟩ u) := by
  obtain ⟨hl, (⟨e, _, _⟩ | ⟨b', cap', sp, e, h1, h2, h3, h4⟩)⟩ := Row.open' h
  · cases e
  · cases e
    have h5 := h4.setCell (i := i) u
    have e2 : ((xs ++ sp).toArray.setIfInBounds i u) = (xs.set i u ++ sp).toArray := by
      rw [List.setIfInBounds_toArray, List.set_append_left _ _ (by omega)]
    rw [e2] at h5
    exact Row.mk' (by simpa using hl) (by simpa using h1) h2 h3 h5

/-- A free set: its numbers. -/
def SetOf (p : Nat) (S : Int → Prop) : Pr := Pr.ex fun x : Value × Rs => (Pr.pure (Canon x.2 ∧ ∀ n, InRuns x.2 n ↔ S n)).star (SetAt p x.1 x.2)
theorem setOf_iff {p : Nat} {S : Int → Prop} {F : Pr} {w : World} : Sat ((SetOf p S).star F) w ↔ ∃ v rs, Canon rs ∧ (∀ n, InRuns rs n ↔ S n) ∧ Sat ((SetAt p v rs).star F) w := by
  unfold SetOf
  rw [Sat.ex]
  constructor
  · rintro ⟨⟨v, rs⟩, h⟩
    rw [Pr.star_assoc] at h
    obtain ⟨⟨h1, h2⟩, h3⟩ := Sat.pure.1 h
    exact ⟨v, rs, h1, h2, h3⟩
  · rintro ⟨v, rs, h1, h2, h3⟩
    refine ⟨(v, rs), ?_⟩
    rw [Pr.star_assoc]
    exact Sat.pure.2 ⟨⟨h1, h2⟩, h3⟩
theorem setOf_congr {p : Nat} {S S' : Int → Prop} (h : ∀ n, S n ↔ S' n) : SetOf p S = SetOf p S' := by
  have : S = S' := funext fun n => propext (h n)
  rw [this]

theorem small_of {rs : Rs} {S : Int → Prop} (hc : Canon rs) (hm : ∀ n, InRuns rs n ↔ S n) (hS : ∀ m, S m → 1 ≤ m ∧ m ≤ 65536) : (∀ x ∈ rs, Small x) ∧ rs.length ≤ 65536 := by
  have h1 : ∀ n, InRuns rs n → 1 ≤ n ∧ n ≤ 65536 := fun n hn => hS n ((hm n).1 hn)
  refine ⟨fun x hx => ?_, ?_⟩
  · have := canon_in hc h1 x hx
    exact ⟨by omega, this.2.1, by omega⟩
  · have := canon_len rs 1 65536 hc h1
    omega

theorem set_add (p : Nat) (S : Int → Prop) (n : Int) (hn : 1 ≤ n ∧ n ≤ 65536) (hS : ∀ m, S m → 1 ≤ m ∧ m ≤ 65536) (F : Pr) (w : World) (h : Sat ((SetOf p S).star F) w) :
    Calls Try.prog 96 #[.pointer (some ⟨p, 0, none⟩), .int .i64 n, .int .i64 n] w fun e w' =>
      ∃ m : Int, e = .returned (.int .i64 m) ∧ Sat ((SetOf p fun x => x = n ∨ S x).star F) w' ∧ Stays w w' := by
  obtain ⟨v, rs, h1, h2, h3⟩ := setOf_iff.1 h
  obtain ⟨s1, s2⟩ := small_of h1 h2 hS
  refine (add_any p v rs n n s1 ⟨by omega, Int.le_refl _, by dsimp only; omega⟩ s2 F w h3).mono ?_
  rintro e w' ⟨m, v', rfl, h4, h5⟩
  obtain ⟨l1, l2⟩ := addRuns_law rs n n h1 (Int.le_refl _)
  refine ⟨m, rfl, setOf_iff.2 ⟨v', _, l1, fun x => ?_, h4⟩, h5⟩
  rw [l2, h2]
  constructor
  · rintro (h | h)
    · exact .inl (by omega)
    · exact .inr h
  · rintro (rfl | h)
    · exact .inl ⟨Int.le_refl _, Int.le_refl _⟩
    · exact .inr h

theorem set_remove (p : Nat) (S : Int → Prop) (n : Int) (hn : 1 ≤ n ∧ n ≤ 65536) (hS : ∀ m, S m → 1 ≤ m ∧ m ≤ 65536) (F : Pr) (w : World) (h : Sat ((SetOf p S).star F) w) :
    Calls Try.prog 104 #[.pointer (some ⟨p, 0, none⟩), .int .i64 n, .int .i64 n] w fun e w' =>
      ∃ m : Int, e = .returned (.int .i64 m) ∧ Sat ((SetOf p fun x => S x ∧ x ≠ n).star F) w' ∧ Stays w w' := by
  obtain ⟨v, rs, h1, h2, h3⟩ := setOf_iff.1 h
  obtain ⟨s1, s2⟩ := small_of h1 h2 hS
  refine (remove_any p v rs n n s1 ⟨by omega, Int.le_refl _, by dsimp only; omega⟩ s2 F w h3).mono ?_
  rintro e w' ⟨m, v', rfl, h4, h5⟩
  obtain ⟨l1, l2⟩ := remRuns_law n n (Int.le_refl _) rs h1
  refine ⟨m, rfl, setOf_iff.2 ⟨v', _, l1, fun x => ?_, h4⟩, h5⟩
  rw [l2, h2]
  constructor
  · rintro ⟨h, k⟩
    exact ⟨h, fun e => k ⟨by omega, by omega⟩⟩
  · rintro ⟨h, k⟩
    exact ⟨h, fun e => k (by omega)⟩

/-- The lowest number of a set; none, if there is none. -/
theorem set_lowest (p : Nat) (S : Int → Prop) (F : Pr) (w : World) (h : Sat ((SetOf p S).star F) w) :
    Calls Try.prog 79 #[.pointer (some ⟨p, 0, none⟩)] w fun e w' =>
      w = w' ∧ ((e = .returned (.tuple #[.int .i64 0, .bool false]) ∧ ∀ n, ¬ S n) ∨ ∃ n, e = .returned (.tuple #[.int .i64 n, .bool true]) ∧ S n ∧ ∀ m, S m → n ≤ m) := by
  obtain ⟨v, rs, h1, h2, h3⟩ := setOf_iff.1 h
  refine (lowest_any p v rs F w h3).mono ?_
  rintro e w' ⟨rfl, rfl⟩
  refine ⟨rfl, ?_⟩
  cases rs with
  | nil => exact .inl ⟨rfl, fun n hn => inRuns_nil ((h2 n).2 hn)⟩
  | cons x rs =>
    obtain ⟨l1, l2⟩ := lowest_law h1
    exact .inr ⟨x.1, rfl, (h2 _).1 l1, fun m hm => l2 m ((h2 m).2 hm)⟩

abbrev IntsRow (v : Value) (l : List Int) : Pr := Row 3 1 v l.length (l.map (Value.int .i64))
abbrev BoolsRow (v : Value) (l : List Bool) : Pr := Row 4 1 v l.length (l.map Value.bool)

/-- What undoes an act, as it lies in memory. -/
def ActIn (h : Hp) (p : Nat) (a : Int × Int) (f : Value) : Prop :=
  ∃ bp bn bb, f = .func (.func 100) #[] #[.pointer (some ⟨bp, 0, none⟩), .pointer (some ⟨bn, 0, none⟩), .pointer (some ⟨bb, 0, none⟩)] ∧
    h.cell bp 0 = some (.pointer (some ⟨p, 0, none⟩)) ∧ h.cell bn 0 = some (.int .i64 a.1) ∧ h.cell bb 0 = some (.int .i64 a.2)
theorem ActIn.sub {a b : Hp} (hs : a.sub b) {p : Nat} {x : Int × Int} {f : Value} (h : ActIn a p x f) : ActIn b p x f := by
  obtain ⟨bp, bn, bb, e, h1, h2, h3⟩ := h
  exact ⟨bp, bn, bb, e, Hp.cell_sub hs h1, Hp.cell_sub hs h2, Hp.cell_sub hs h3⟩
def ActsIn (h : Hp) (p : Nat) (acts : List (Int × Int)) (fs : List Value) : Prop := fs.length = acts.length ∧ ∀ i (hi : i < acts.length) (hf : i < fs.length), ActIn h p acts[i] fs[i]
def ActsA (p : Nat) (av : Value) (acts : List (Int × Int)) : Pr :=
  Pr.ex fun x : List Value × Hp => (Pr.pure (ActsIn x.2 p acts x.1)).star ((Row 132 1 av acts.length x.1).star (Pr.own x.2))

def poolCells (s : PoolS) (cv lv : Value) (fb : Nat) (av : Value) : Array Value :=
  #[.int .i64 s.refs, cv, lv, .pointer (some ⟨fb, 0, none⟩), .int .i64 0, .int .i64 (s.tally 1), .int .i64 (s.tally 2), .int .i64 (s.tally 3), .int .i64 (s.tally 4), av, .int .i64 s.floor]
/-- The pool, its lists named. -/
def PoolAt (p : Nat) (s : PoolS) (cv lv : Value) (fb : Nat) (av : Value) : Pr :=
  (Pr.pts p (.cells (poolCells s cv lv fb av) 74)).star ((IntsRow cv s.counts).star ((BoolsRow lv s.last).star ((SetOf fb fun n => s.state n = 1).star (ActsA p av s.acts))))
/-- The pool in memory. -/
def PoolA (p : Nat) (s : PoolS) : Pr := Pr.ex fun x : Value × Value × Nat × Value => (Pr.pure (PoolOk s)).star (PoolAt p s x.1 x.2.1 x.2.2.1 x.2.2.2)
theorem poolA_iff {p : Nat} {s : PoolS} {F : Pr} {w : World} : Sat ((PoolA p s).star F) w ↔ PoolOk s ∧ ∃ cv lv fb av, Sat ((PoolAt p s cv lv fb av).star F) w := by
  unfold PoolA
  rw [Sat.ex]
  constructor
  · rintro ⟨⟨cv, lv, fb, av⟩, h⟩
    rw [Pr.star_assoc] at h
    obtain ⟨h1, h3⟩ := Sat.pure.1 h
    exact ⟨h1, cv, lv, fb, av, h3⟩
  · rintro ⟨h1, cv, lv, fb, av, h3⟩
    refine ⟨(cv, lv, fb, av), ?_⟩
    rw [Pr.star_assoc]
    exact Sat.pure.2 ⟨h1, h3⟩

theorem ints_read {v : Value} {l : List Int} {F : Pr} {w : World} (h : Sat ((IntsRow v l).star F) w) (h0 : 0 < l.length) :
    ∃ b c, v = .slice (some ⟨b, 0, none⟩) l.length c ∧ ∀ i, i < l.length → w.cell? ⟨b, i, none⟩ = some (.int .i64 (l.getD i 0)) ∧ w.frozen? ⟨b, i, none⟩ = false := by
  obtain ⟨a, c, hv, hl, hc0⟩ := Row.read h
  obtain ⟨b, ha, hc⟩ := hc0 h0
  clear hc0
  subst ha; subst hv
  refine ⟨b, c, rfl, fun i hi => ⟨?_, (hc i (by omega)).2⟩⟩
  rw [(hc i (by omega)).1]
  simp [hi]
theorem bools_read {v : Value} {l : List Bool} {F : Pr} {w : World} (h : Sat ((BoolsRow v l).star F) w) (h0 : 0 < l.length) :
    ∃ b c, v = .slice (some ⟨b, 0, none⟩) l.length c ∧ ∀ i, i < l.length → w.cell? ⟨b, i, none⟩ = some (.bool (l.getD i false)) ∧ w.frozen? ⟨b, i, none⟩ = false := by
  obtain ⟨a, c, hv, hl, hc0⟩ := Row.read h
  obtain ⟨b, ha, hc⟩ := hc0 h0
  clear hc0
  subst ha; subst hv
  refine ⟨b, c, rfl, fun i hi => ⟨?_, (hc i (by omega)).2⟩⟩
  rw [(hc i (by omega)).1]
  simp [hi]

/-- One that reads the pool finds its cells. -/
theorem pool_rd {p : Nat} {s : PoolS} {cs : Array Value} {cv lv : Value} {F : Pr} {w : World} (h1 : s.last.length = s.counts.length) (h2 : 1 ≤ s.counts.length) (h3 : s.counts.length ≤ 65536)
    (e0 : cs[0]? = some (.int .i64 s.refs)) (e1 : cs[1]? = some cv) (e2 : cs[2]? = some lv)
    (h : Sat ((Pr.pts p (.cells cs 74)).star ((IntsRow cv s.counts).star ((BoolsRow lv s.last).star F))) w) : PoolRd w p s := by
  obtain ⟨b, c, rfl, hc⟩ := ints_read h.right (by omega)
  obtain ⟨b', c', rfl, hc'⟩ := bools_read h.right.right (by omega)
  rw [h1] at e2
  refine ⟨h3, h1, by rw [cell_of_heap h.pts_heap]; exact e0, ⟨b, c, by rw [cell_of_heap h.pts_heap]; exact e1, fun i hi => (hc i hi).1⟩, ⟨b', c', by rw [cell_of_heap h.pts_heap]; exact e2, fun i hi => (hc' i (by omega)).1⟩⟩
end Go.Proofs.Ytbobcmimkonnoaa.pool2
