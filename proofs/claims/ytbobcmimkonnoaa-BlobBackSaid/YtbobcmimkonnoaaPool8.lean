/- The pool: Settle, and a new one; the conditions stand as hypotheses. -/
import Derived.Test.YtbobcmimkonnoaaPool5
namespace Go.Cop
def lastsOf (l : List Int) : List Bool := l.map fun c => decide (0 < c)
/-- How many of some counts are in a state when all that are above 0 last. -/
def inState (l : List Int) (k : Int) : Int := ((l.filter fun c => stateOf c (decide (0 < c)) == k).length : Nat)
theorem inState_snoc (l : List Int) (c k : Int) : inState (l ++ [c]) k = inState l k + (if stateOf c (decide (0 < c)) = k then 1 else 0) := by
  unfold inState
  rw [List.filter_append, List.length_append]
  by_cases h : stateOf c (decide (0 < c)) = k
  · simp [h]
  · simp [h]
theorem inState_bd (l : List Int) (k : Int) : 0 ≤ inState l k ∧ inState l k ≤ l.length := by
  unfold inState
  have := List.length_filter_le (fun c => stateOf c (decide (0 < c)) == k) l
  omega
theorem many_settled (l : List Int) (k : Int) (s : PoolS) (h1 : s.counts = l) (h2 : s.last = lastsOf l) : ((s.many k : Nat) : Int) = inState l k := by
  unfold PoolS.many inState lastsOf at *
  rw [h1, h2]
  have : ∀ l : List Int, (List.filter (fun x : Int × Bool => stateOf x.1 x.2 == k) (l.zip (l.map fun c => decide (0 < c)))).length = (l.filter fun c => stateOf c (decide (0 < c)) == k).length := by
    intro l
    induction l with
    | nil => rfl
    | cons a l ih => simp only [List.map_cons, List.zip_cons_cons, List.filter_cons]; split <;> simp_all
  rw [this]
theorem inState_none (l : List Int) (k : Int) (h1 : k ≠ 1) (h4 : k ≠ 4) : inState l k = 0 := by
  unfold inState
  rw [List.filter_eq_nil_iff.2]
  · rfl
  · intro c _
    unfold stateOf
    by_cases h : 0 < c <;> simp [h] <;> omega
theorem stateOf_pos {x : Int} (hx : 0 < x) : stateOf x (decide (0 < x)) = 4 := by simp [stateOf, hx]
theorem stateOf_zero : stateOf 0 (decide ((0 : Int) < 0)) = 1 := by decide
def PoolS.settled (s : PoolS) : PoolS := { s with last := lastsOf s.counts, acts := [], floor := s.floor + s.acts.length }
end Go.Cop
namespace Go.Proofs.Ytbobcmimkonnoaa.pool8
open Go.ChangeShapes Go.WideShapes Go.ChangeAt Go.RowKit Go.Sl Go.Cop Go.Proofs.Ytbobcmimkonnoaa.pool1 Go.Proofs.Ytbobcmimkonnoaa.pool2 Go.Proofs.Ytbobcmimkonnoaa.pool3 Go.Proofs.Ytbobcmimkonnoaa.pool4 Go.Proofs.Ytbobcmimkonnoaa.pool5 Go.Proofs.Ytbobcmimkonnoaa.runs1 Go.Proofs.Ytbobcmimkonnoaa.runs6

set_option maxHeartbeats 400000 in
theorem mark_low (p : Nat) (fl : Int) (al : Nat) (a : Option Addr) (c : Nat) (w : World) (h10 : w.cell? ⟨p, 10, none⟩ = some (.int .i64 fl)) (h9 : w.cell? ⟨p, 9, none⟩ = some (.slice a al c))
    (b1 : 0 ≤ fl) (b2 : fl + al ≤ 1099511627776) :
    Calls Try.prog 78 #[.pointer (some ⟨p, 0, none⟩)] w fun e w' => e = .returned (.int .i64 (fl + al)) ∧ Stays w w' ∧ w'.heap = w.heap := by
  go_enter Try.func78, Try.ntmps78
  go_wp2
  go_region
  go_wp2
  go_ret
  exact ⟨rfl, ⟨rfl, rfl, rfl, Nat.le_refl _⟩, rfl⟩

def setCells (refs : Int) (cv lv : Value) (fb : Nat) (l : List Int) (fl : Int) : Array Value :=
  #[.int .i64 refs, cv, lv, .pointer (some ⟨fb, 0, none⟩), .int .i64 0, .int .i64 (inState l 1), .int .i64 0, .int .i64 0, .int .i64 (inState l 4), .slice none 0 0, .int .i64 fl]
/-- In the midst of Settle. -/
def Mid (p fb : Nat) (refs : Int) (cv lv : Value) (cs : List Int) (last : List Bool) (fl : Int) (i : Nat) : Pr :=
  (Pr.pts p (.cells (setCells refs cv lv fb (cs.take i) fl) 74)).star ((IntsRow cv cs).star ((BoolsRow lv (lastsOf (cs.take i) ++ last.drop i)).star
    (SetOf fb fun n => 1 ≤ n ∧ n ≤ i ∧ cs.getD (n.toNat - 1) 0 = 0)))

theorem lasts_set (cs : List Int) (last : List Bool) (k : Nat) (hk : k < cs.length) (hl : last.length = cs.length) (b : Bool) (hb : b = decide (0 < cs.getD k 0)) :
    (lastsOf (cs.take k) ++ last.drop k).set k b = lastsOf (cs.take (k + 1)) ++ last.drop (k + 1) := by
  have h1 : (lastsOf (cs.take k)).length = k := by simp [lastsOf]; omega
  rw [List.set_append_right _ _ (by omega), h1, Nat.sub_self, List.drop_eq_getElem_cons (by omega : k < last.length), List.set_cons_zero, List.take_succ_eq_append_getElem hk]
  simp only [lastsOf, List.map_append, List.map_cons, List.map_nil, List.append_assoc, List.cons_append, List.nil_append]
  rw [hb, List.getD_eq_getElem?_getD, List.getElem?_eq_getElem hk]
  rfl
theorem lasts_len (cs : List Int) (last : List Bool) (k : Nat) (hk : k ≤ cs.length) (hl : last.length = cs.length) : (lastsOf (cs.take k) ++ last.drop k).length = cs.length := by
  simp [lastsOf]; omega
theorem lasts_at (cs : List Int) (last : List Bool) (k : Nat) (hk : k < cs.length) : (lastsOf (cs.take (k + 1)) ++ last.drop (k + 1)).getD k false = decide (0 < cs.getD k 0) := by
  rw [List.getD_eq_getElem?_getD, List.getElem?_append_left (by simp [lastsOf]; omega)]
  simp [lastsOf, hk]

/-- The memory behind 'last'. -/
def Mid1 (p fb : Nat) (refs : Int) (cv lv : Value) (cs : List Int) (last : List Bool) (fl : Int) (i : Nat) : Pr :=
  (Pr.pts p (.cells (setCells refs cv lv fb (cs.take i) fl) 74)).star ((IntsRow cv cs).star ((BoolsRow lv (lastsOf (cs.take (i + 1)) ++ last.drop (i + 1))).star
    (SetOf fb fun n => 1 ≤ n ∧ n ≤ i ∧ cs.getD (n.toNat - 1) 0 = 0)))

theorem mid_one {p fb bl cl : Nat} {refs : Int} {cv : Value} {cs : List Int} {last : List Bool} {fl : Int} {k : Nat} {F : Pr} {w : World} {b : Bool} (hk : k < cs.length) (hl : last.length = cs.length) (hb : b = decide (0 < cs.getD k 0))
    (h : Sat ((Mid p fb refs cv (.slice (some ⟨bl, 0, none⟩) cs.length cl) cs last fl k).star F) w) :
    Sat ((Mid1 p fb refs cv (.slice (some ⟨bl, 0, none⟩) cs.length cl) cs last fl k).star F) (w.setCell ⟨bl, k, none⟩ (.bool b)) := by
  have h1 : Sat ((BoolsRow (.slice (some ⟨bl, 0, none⟩) cs.length cl) (lastsOf (cs.take k) ++ last.drop k)).star ((Pr.pts p (.cells (setCells refs cv (.slice (some ⟨bl, 0, none⟩) cs.length cl) fb (cs.take k) fl) 74)).star ((IntsRow cv cs).star
    ((SetOf fb fun n => 1 ≤ n ∧ n ≤ k ∧ cs.getD (n.toNat - 1) 0 = 0).star F)))) w := h.perm (by unfold Mid; ac_rfl)
  have e1 := lasts_len cs last k (by omega) hl
  have e2 := lasts_len cs last (k + 1) (by omega) hl
  unfold BoolsRow at h1
  rw [e1] at h1
  have h2 := Row.set (i := k) h1 hk (.bool b)
  rw [← List.map_set, lasts_set cs last k hk hl b hb] at h2
  refine h2.perm ?_
  unfold Mid1
  rw [show BoolsRow (.slice (some ⟨bl, 0, none⟩) cs.length cl) (lastsOf (cs.take (k + 1)) ++ last.drop (k + 1)) = Row 4 1 (.slice (some ⟨bl, 0, none⟩) cs.length cl) cs.length ((lastsOf (cs.take (k + 1)) ++ last.drop (k + 1)).map Value.bool) from by unfold BoolsRow; rw [e2]]
  ac_rfl

theorem mid1_rd {p fb : Nat} {refs : Int} {cv lv : Value} {cs : List Int} {last : List Bool} {fl : Int} {k : Nat} {F : Pr} {w : World} (hk : k < cs.length) (h2 : cs.length ≤ 65536) (hl : last.length = cs.length)
    (h : Sat ((Mid1 p fb refs cv lv cs last fl k).star F) w) : PoolRd w p { refs := refs, counts := cs, last := lastsOf (cs.take (k + 1)) ++ last.drop (k + 1), acts := [], floor := fl } := by
  have h' : Sat ((Pr.pts p (.cells (setCells refs cv lv fb (cs.take k) fl) 74)).star ((IntsRow cv cs).star ((BoolsRow lv (lastsOf (cs.take (k + 1)) ++ last.drop (k + 1))).star
    ((SetOf fb fun n => 1 ≤ n ∧ n ≤ k ∧ cs.getD (n.toNat - 1) 0 = 0).star F)))) w := h.perm (by unfold Mid1; ac_rfl)
  refine pool_rd (s := { refs := refs, counts := cs, last := lastsOf (cs.take (k + 1)) ++ last.drop (k + 1), acts := [], floor := fl }) (lasts_len cs last (k + 1) (by omega) hl) (by dsimp only; omega) h2 (cs := setCells refs cv lv fb (cs.take k) fl) rfl rfl rfl h'
theorem mid1_state {refs : Int} {cs : List Int} {last : List Bool} {fl : Int} {k : Nat} (hk : k < cs.length) :
    ({ refs := refs, counts := cs, last := lastsOf (cs.take (k + 1)) ++ last.drop (k + 1), acts := [], floor := fl } : PoolS).state ((k : Int) + 1) = stateOf (cs.getD k 0) (decide (0 < cs.getD k 0)) := by
  have ht : ({ refs := refs, counts := cs, last := lastsOf (cs.take (k + 1)) ++ last.drop (k + 1), acts := [], floor := fl } : PoolS).there ((k : Int) + 1) := ⟨by omega, by dsimp only; omega⟩
  rw [state_there ht]
  unfold PoolS.count PoolS.lasts
  rw [if_pos ht]
  dsimp only
  rw [show ((k : Int) + 1).toNat - 1 = k by omega, lasts_at cs last k hk]
theorem take_snoc (cs : List Int) (k : Nat) (hk : k < cs.length) : cs.take (k + 1) = cs.take k ++ [cs.getD k 0] := by
  rw [List.take_succ_eq_append_getElem hk, List.getD_eq_getElem?_getD, List.getElem?_eq_getElem hk]; rfl

theorem mid_held {p fb : Nat} {refs : Int} {cv lv : Value} {cs : List Int} {last : List Bool} {fl : Int} {k : Nat} {F : Pr} {w : World} (hk : k < cs.length) (hx : 0 < cs.getD k 0)
    (h : Sat ((Mid1 p fb refs cv lv cs last fl k).star F) w) : Sat ((Mid p fb refs cv lv cs last fl (k + 1)).star F) (w.setCell ⟨p, 8, none⟩ (.int .i64 (inState (cs.take k) 4 + 1))) := by
  have h1 : Sat ((Pr.pts p (.cells (setCells refs cv lv fb (cs.take k) fl) 74)).star ((IntsRow cv cs).star ((BoolsRow lv (lastsOf (cs.take (k + 1)) ++ last.drop (k + 1))).star
    ((SetOf fb fun n => 1 ≤ n ∧ n ≤ k ∧ cs.getD (n.toNat - 1) 0 = 0).star F)))) w := h.perm (by unfold Mid1; ac_rfl)
  have h2 := h1.setCell (i := 8) (.int .i64 (inState (cs.take k) 4 + 1))
  have e1 : (setCells refs cv lv fb (cs.take k) fl).setIfInBounds 8 (.int .i64 (inState (cs.take k) 4 + 1)) = setCells refs cv lv fb (cs.take (k + 1)) fl := by
    have a1 : inState (cs.take (k + 1)) 1 = inState (cs.take k) 1 := by rw [take_snoc cs k hk, inState_snoc, stateOf_pos hx]; simp
    have a4 : inState (cs.take (k + 1)) 4 = inState (cs.take k) 4 + 1 := by rw [take_snoc cs k hk, inState_snoc, stateOf_pos hx]; simp
    unfold setCells
    rw [a1, a4]; rfl
  have e2 : SetOf fb (fun n => 1 ≤ n ∧ n ≤ ((k + 1 : Nat) : Int) ∧ cs.getD (n.toNat - 1) 0 = 0) = SetOf fb (fun n => 1 ≤ n ∧ n ≤ (k : Int) ∧ cs.getD (n.toNat - 1) 0 = 0) := by
    refine setOf_congr fun n => ⟨fun ⟨b1, b2, b3⟩ => ⟨b1, ?_, b3⟩, fun ⟨b1, b2, b3⟩ => ⟨b1, by omega, b3⟩⟩
    rcases Int.lt_or_le (k : Int) n with h3 | h3
    · have : n.toNat - 1 = k := by omega
      rw [this] at b3; omega
    · exact h3
  rw [e1] at h2
  refine h2.perm ?_
  unfold Mid
  rw [e2]; ac_rfl

theorem mid_free {p fb : Nat} {refs : Int} {cv lv : Value} {cs : List Int} {last : List Bool} {fl : Int} {k : Nat} {F : Pr} {w : World} (hk : k < cs.length) (hx : cs.getD k 0 = 0)
    (h : Sat ((Mid1 p fb refs cv lv cs last fl k).star F) w) :
    Sat ((SetOf fb fun n => 1 ≤ n ∧ n ≤ (k : Int) ∧ cs.getD (n.toNat - 1) 0 = 0).star ((Pr.pts p (.cells (setCells refs cv lv fb (cs.take (k + 1)) fl) 74)).star ((IntsRow cv cs).star ((BoolsRow lv (lastsOf (cs.take (k + 1)) ++ last.drop (k + 1))).star F))))
      (w.setCell ⟨p, 5, none⟩ (.int .i64 (inState (cs.take k) 1 + 1))) := by
  have h1 : Sat ((Pr.pts p (.cells (setCells refs cv lv fb (cs.take k) fl) 74)).star ((IntsRow cv cs).star ((BoolsRow lv (lastsOf (cs.take (k + 1)) ++ last.drop (k + 1))).star
    ((SetOf fb fun n => 1 ≤ n ∧ n ≤ k ∧ cs.getD (n.toNat - 1) 0 = 0).star F)))) w := h.perm (by unfold Mid1; ac_rfl)
  have h2 := h1.setCell (i := 5) (.int .i64 (inState (cs.take k) 1 + 1))
  have e1 : (setCells refs cv lv fb (cs.take k) fl).setIfInBounds 5 (.int .i64 (inState (cs.take k) 1 + 1)) = setCells refs cv lv fb (cs.take (k + 1)) fl := by
    have a1 : inState (cs.take (k + 1)) 1 = inState (cs.take k) 1 + 1 := by rw [take_snoc cs k hk, inState_snoc, hx, stateOf_zero]; simp
    have a4 : inState (cs.take (k + 1)) 4 = inState (cs.take k) 4 := by rw [take_snoc cs k hk, inState_snoc, hx, stateOf_zero]; simp
    unfold setCells
    rw [a1, a4]; rfl
  rw [e1] at h2
  exact h2.perm (by ac_rfl)
theorem free_next {fb : Nat} {cs : List Int} {k : Nat} (hx : cs.getD k 0 = 0) : SetOf fb (fun n => n = (k : Int) + 1 ∨ 1 ≤ n ∧ n ≤ (k : Int) ∧ cs.getD (n.toNat - 1) 0 = 0) = SetOf fb (fun n => 1 ≤ n ∧ n ≤ ((k + 1 : Nat) : Int) ∧ cs.getD (n.toNat - 1) 0 = 0) := by
  refine setOf_congr fun n => ⟨?_, fun ⟨b1, b2, b3⟩ => ?_⟩
  · rintro (rfl | ⟨b1, b2, b3⟩)
    · refine ⟨by omega, by omega, ?_⟩
      rw [show ((k : Int) + 1).toNat - 1 = k by omega]; exact hx
    · exact ⟨b1, by omega, b3⟩
  · rcases Int.lt_or_le (k : Int) n with h3 | h3
    · exact .inl (by omega)
    · exact .inr ⟨b1, h3, b3⟩


set_option maxRecDepth 100000 in
set_option maxHeartbeats 4000000 in
theorem settle_low (p : Nat) (refs : Int) (cv lv x3 x4 x5 x6 x7 x8 : Value) (a9 : Option Addr) (n9 c9 : Nat) (fl : Int) (cs : List Int) (last : List Bool) (F : Pr) (w : World)
    (hF : Sat ((Pr.pts p (.cells #[.int .i64 refs, cv, lv, x3, x4, x5, x6, x7, x8, .slice a9 n9 c9, .int .i64 fl] 74)).star ((IntsRow cv cs).star ((BoolsRow lv last).star F))) w)
    (h1 : 1 ≤ cs.length) (h2 : cs.length ≤ 65536) (h3 : last.length = cs.length) (h4 : ∀ c ∈ cs, 0 ≤ c ∧ c ≤ 65536) (b1 : 0 ≤ fl) (b2 : fl + n9 ≤ 1099511627776) :
    Calls Try.prog 71 #[.pointer (some ⟨p, 0, none⟩)] w fun e w' =>
      e = .returned (.tuple #[]) ∧ (∃ fb, Sat ((Mid p fb refs cv lv cs last (fl + n9) cs.length).star F) w') ∧ Stays w w' := by
  have h10 : w.cell? ⟨p, 10, none⟩ = some (.int .i64 fl) := by rw [cell_of_heap hF.pts_heap]; rfl
  have h9 : w.cell? ⟨p, 9, none⟩ = some (.slice a9 n9 c9) := by rw [cell_of_heap hF.pts_heap]; rfl
  have C := Lib.hid (mark_low p fl n9 a9 c9 w h10 h9 b1 b2)
  have HF := Lib.hid hF
  clear hF h10 h9
  go_enter Try.func71, Try.ntmps71
  go_wp2_with fail
  refine C.out.mono ?_
  rintro e w1 ⟨rfl, hst, hh⟩
  have H1 := HF.out.ext (w' := w1) (fun _ _ => by rw [hh])
  have z1 := fun i => frozen_of_heap H1.pts_heap i
  have HS1 := Lib.hid H1
  clear H1 HF C
  have z6 := z1 10
  have z5 := z1 9
  have q10 : w1.cell? ⟨p, 10, none⟩ = some (.int .i64 fl) := by rw [cell_of_heap HS1.out.pts_heap]; rfl
  have q9 : w1.cell? ⟨p, 9, none⟩ = some (.slice a9 n9 c9) := by rw [cell_of_heap HS1.out.pts_heap]; rfl
  go_wp2_with fail
  have h5 := (HS1.out.setCell (i := 10) (.int .i64 (fl + n9))).setCell (i := 9) (.slice none 0 0)
  refine (new_nil _ _ h5).mono ?_
  rintro e w2 ⟨fb, rfl, h6, hst2⟩
  have h7 : Sat ((Pr.pts p (.cells #[.int .i64 refs, cv, lv, x3, x4, x5, x6, x7, x8, .slice none 0 0, .int .i64 (fl + n9)] 74)).star ((SetAt fb (.slice none 0 0) []).star ((IntsRow cv cs).star ((BoolsRow lv last).star F)))) w2 := h6.perm (Pr.left_comm _ _ _)
  have q3 : w2.cell? ⟨p, 3, none⟩ = some x3 := by rw [cell_of_heap h7.pts_heap]; rfl
  have q4 : w2.cell? ⟨p, 4, none⟩ = some x4 := by rw [cell_of_heap h7.pts_heap]; rfl
  have q5 : w2.cell? ⟨p, 5, none⟩ = some x5 := by rw [cell_of_heap h7.pts_heap]; rfl
  have q6 : w2.cell? ⟨p, 6, none⟩ = some x6 := by rw [cell_of_heap h7.pts_heap]; rfl
  have q7 : w2.cell? ⟨p, 7, none⟩ = some x7 := by rw [cell_of_heap h7.pts_heap]; rfl
  have q8 : w2.cell? ⟨p, 8, none⟩ = some x8 := by rw [cell_of_heap h7.pts_heap]; rfl
  have y3 := frozen_of_heap h7.pts_heap 3
  have y4 := frozen_of_heap h7.pts_heap 4
  have y5 := frozen_of_heap h7.pts_heap 5
  have y6 := frozen_of_heap h7.pts_heap 6
  have y7 := frozen_of_heap h7.pts_heap 7
  have y8 := frozen_of_heap h7.pts_heap 8
  obtain ⟨bc, cc, ec, hc⟩ := ints_read h7.right.right (by omega)
  have q1 : w2.cell? ⟨p, 1, none⟩ = some cv := by rw [cell_of_heap h7.pts_heap]; rfl
  subst ec
  obtain ⟨bl, cl, el, _⟩ := bools_read h7.right.right.right (by omega)
  rw [h3] at el
  subst el
  have H7 := Lib.hid h7
  clear h7 h6 h5 z6 z5 q10 q9
  go_wp2
  go_loopw [25] (fun i wr => ∃ k : Nat, k ≤ cs.length ∧ i = .int .i64 k ∧ Stays w wr ∧ Sat ((Mid p fb refs (.slice (some ⟨bc, 0, none⟩) cs.length cc) (.slice (some ⟨bl, 0, none⟩) cs.length cl) cs last (fl + n9) k).star F) wr) (fun i _ => cs.length - (intOf i).toNat)
  case atStart =>
    refine ⟨0, Nat.zero_le _, rfl, ?_, ?_⟩
    · exact (((((((((hst.setCell _ _).setCell _ _).trans hst2).setCell _ _).setCell _ _).setCell _ _).setCell _ _).setCell _ _).setCell _ _)
    · have h8 := (((((H7.out.setCell (i := 3) (.pointer (some ⟨fb, 0, none⟩))).setCell (i := 4) (.int .i64 0)).setCell (i := 5) (.int .i64 0)).setCell (i := 6) (.int .i64 0)).setCell (i := 7) (.int .i64 0)).setCell (i := 8) (.int .i64 0)
      have h9 := h8.perm (Pr.left_comm _ _ _)
      have h10 := setOf_iff.2 ⟨_, [], canon_nil, fun n => (⟨fun hn => absurd hn inRuns_nil, fun hn => absurd hn.1 (by have := hn.2.1; omega)⟩ : InRuns [] n ↔ (1 ≤ n ∧ n ≤ ((0 : Nat) : Int) ∧ cs.getD (n.toNat - 1) 0 = 0)), h9⟩
      refine Sat.perm h10 (B := (Mid p fb refs _ _ cs last (fl + n9) 0).star F) ?_
      unfold Mid
      show (SetOf fb fun n => 1 ≤ n ∧ n ≤ ((0 : Nat) : Int) ∧ cs.getD (n.toNat - 1) 0 = 0).star ((Pr.pts p (.cells (setCells refs (.slice (some ⟨bc, 0, none⟩) cs.length cc) (.slice (some ⟨bl, 0, none⟩) cs.length cl) fb (cs.take 0) (fl + n9)) 74)).star
        ((IntsRow (.slice (some ⟨bc, 0, none⟩) cs.length cc) cs).star ((BoolsRow (.slice (some ⟨bl, 0, none⟩) cs.length cl) last).star F))) = _
      rw [show lastsOf (cs.take 0) ++ last.drop 0 = last from rfl]
      ac_rfl
  case round =>
    obtain ⟨k, hk, rfl, hst3, hinv⟩ := hrel
    have hp : Sat ((Pr.pts p (.cells (setCells refs (.slice (some ⟨bc, 0, none⟩) cs.length cc) (.slice (some ⟨bl, 0, none⟩) cs.length cl) fb (cs.take k) (fl + n9)) 74)).star ((IntsRow (.slice (some ⟨bc, 0, none⟩) cs.length cc) cs).star
      ((BoolsRow (.slice (some ⟨bl, 0, none⟩) cs.length cl) (lastsOf (cs.take k) ++ last.drop k)).star ((SetOf fb fun n => 1 ≤ n ∧ n ≤ (k : Int) ∧ cs.getD (n.toNat - 1) 0 = 0).star F)))) wr := hinv.perm (by unfold Mid; ac_rfl)
    rcases Nat.lt_or_ge k cs.length with hlt | hge
    · have r2 : wr.cell? ⟨p, 2, none⟩ = some (.slice (some ⟨bl, 0, none⟩) cs.length cl) := by rw [cell_of_heap hp.pts_heap]; rfl
      obtain ⟨bc', cc', ec', hc'⟩ := ints_read hp.right (by omega)
      have el := lasts_len cs last k (by omega) h3
      obtain ⟨bl', cl', el', hl'⟩ := bools_read hp.right.right (by omega)
      simp only [Value.slice.injEq, Option.some.injEq, Addr.mk.injEq] at ec' el'
      obtain ⟨⟨rfl, -⟩, -⟩ := ec'
      obtain ⟨⟨rfl, -⟩, -⟩ := el'
      have rc := (hc' k hlt).1
      obtain ⟨rl, rlf⟩ := hl' k (by omega)
      have hx0 : 0 ≤ cs.getD k 0 := by
        rw [List.getD_eq_getElem?_getD, List.getElem?_eq_getElem hlt]
        exact (h4 _ (List.getElem_mem hlt)).1
      have HINV := Lib.hid hinv
      have HC := Lib.hid (And.intro h4 hlt)
      have T := @mid_one p fb bl cl refs (.slice (some ⟨bc, 0, none⟩) cs.length cc) cs last (fl + n9) k F wr
      have hbd := inState_bd (cs.take k)
      have hlk : (cs.take k).length ≤ 65536 := by simp; omega
      have hb1 : 0 ≤ inState (cs.take k) 1 ∧ inState (cs.take k) 1 ≤ 65536 := by have := hbd 1; omega
      have hb4 : 0 ≤ inState (cs.take k) 4 ∧ inState (cs.take k) 4 ≤ 65536 := by have := hbd 4; omega
      clear hlk
      have S1 := @mid1_state refs cs last (fl + n9) k hlt
      clear hbd hinv hp hc' hl' hc h4 el
      rcases Int.lt_or_le 0 (cs.getD k 0) with hx | hx
      · have hinv1 := T hlt h3 (decide_eq_true hx).symm HINV.out
        have hrd := mid1_rd hlt h2 h3 hinv1.drew
        have hp1 : Sat ((Pr.pts p (.cells (setCells refs (.slice (some ⟨bc, 0, none⟩) cs.length cc) (.slice (some ⟨bl, 0, none⟩) cs.length cl) fb (cs.take k) (fl + n9)) 74)).star ((IntsRow (.slice (some ⟨bc, 0, none⟩) cs.length cc) cs).star
          ((BoolsRow (.slice (some ⟨bl, 0, none⟩) cs.length cl) (lastsOf (cs.take (k + 1)) ++ last.drop (k + 1))).star ((SetOf fb fun n => 1 ≤ n ∧ n ≤ (k : Int) ∧ cs.getD (n.toNat - 1) 0 = 0).star F)))) _ := hinv1.perm (by unfold Mid1; ac_rfl)
        have t8 := cell_of_heap hp1.pts_heap 8
        have z8 := frozen_of_heap hp1.pts_heap 8
        rw [show (setCells refs (.slice (some ⟨bc, 0, none⟩) cs.length cc) (.slice (some ⟨bl, 0, none⟩) cs.length cl) fb (cs.take k) (fl + n9))[8]? = some (.int .i64 (inState (cs.take k) 4)) from rfl] at t8
        rw [stateOf_pos hx] at S1
        have HE := Lib.hid (mid_held hlt hx hinv1)
        have HRD := Lib.hid hrd
        clear T hinv1 hp1 hrd
        generalize inState (cs.take k) 4 = t4 at *
        generalize hxe : cs.getD k 0 = x at *
        have HXE := Lib.hid hxe
        clear hxe
        go_wp2
        refine wp_region_staged (sz := 63) (by kernel_rfl) [0, 1, 2, 3, 5, 6, 10, 11] [(4, [7, 8, 9, 12], [0, 2, 5, 6, 10, 11]), (13, [], [10, 11])] rfl (by kernel_rfl) (by kernel_rfl) (by kernel_rfl) ?_
        iterate 8 (refine wpQ_step rfl rfl (fun K hK => ?_); go_simp; refine hK _ ?_; clear hK K)
        refine wpQ_nil ?_
        refine wpRest_act rfl ?_
        go_wp2_with fail
        refine (state_any p ((k : Int) + 1) _ _ HRD.out).mono ?_
        rintro e w3 ⟨rfl, rfl⟩
        rw [S1]
        go_wp2
        refine onN_mk ?_
        iterate 4 (refine wpQ_step rfl rfl (fun K hK => ?_); go_simp; refine hK _ ?_; clear hK K)
        refine wpQ_nil ⟨?_, ?_⟩
        · refine chk_cons ?_ (chk_cons ?_ (chk_cons ?_ (chk_cons ?_ (chk_cons ?_ (chk_cons ?_ chk_nil))))) <;> (refine yieldF_of rfl rfl rfl rfl ?_; go_simp; try omega)
        refine wpRest_act rfl ?_
        go_wp2
        refine onN_mk (wpQ_nil ⟨?_, wpRest_nil ?_⟩)
        · refine chk_cons ?_ (chk_cons ?_ chk_nil) <;> (refine yieldF_of rfl rfl rfl rfl ?_; go_simp; try omega)
        have hx2 : (x == 0) = false := by rw [beq_eq_false_iff_ne]; omega
        go_wp2
        go_roundw
        case rel => exact ⟨k + 1, by omega, by go_num, ((hst3.setCell _ _).drew).setCell _ _, HE.out.ext fun _ _ => rfl⟩
        case measure => simp [intOf]; omega
      · have hinv1 := T hlt h3 (by rw [decide_eq_false (by omega)]) HINV.out
        have hrd := mid1_rd hlt h2 h3 hinv1.drew
        have hp1 : Sat ((Pr.pts p (.cells (setCells refs (.slice (some ⟨bc, 0, none⟩) cs.length cc) (.slice (some ⟨bl, 0, none⟩) cs.length cl) fb (cs.take k) (fl + n9)) 74)).star ((IntsRow (.slice (some ⟨bc, 0, none⟩) cs.length cc) cs).star
          ((BoolsRow (.slice (some ⟨bl, 0, none⟩) cs.length cl) (lastsOf (cs.take (k + 1)) ++ last.drop (k + 1))).star ((SetOf fb fun n => 1 ≤ n ∧ n ≤ (k : Int) ∧ cs.getD (n.toNat - 1) 0 = 0).star F)))) _ := hinv1.perm (by unfold Mid1; ac_rfl)
        have t5 := cell_of_heap hp1.pts_heap 5
        have t3 := cell_of_heap hp1.pts_heap 3
        rw [show (setCells refs (.slice (some ⟨bc, 0, none⟩) cs.length cc) (.slice (some ⟨bl, 0, none⟩) cs.length cl) fb (cs.take k) (fl + n9))[3]? = some (.pointer (some ⟨fb, 0, none⟩)) from rfl] at t3
        have z5 := frozen_of_heap hp1.pts_heap 5
        rw [show (setCells refs (.slice (some ⟨bc, 0, none⟩) cs.length cc) (.slice (some ⟨bl, 0, none⟩) cs.length cl) fb (cs.take k) (fl + n9))[5]? = some (.int .i64 (inState (cs.take k) 1)) from rfl] at t5
        have hx0' : cs.getD k 0 = 0 := by omega
        rw [hx0', stateOf_zero] at S1
        have HE := Lib.hid (mid_free hlt hx0' hinv1)
        have HN := Lib.hid (@free_next fb cs k hx0')
        have hb1' := hb1
        have HRD := Lib.hid hrd
        clear T hinv1 hp1 hrd
        generalize inState (cs.take k) 1 = t1 at *
        have HX0 := Lib.hid hx0'
        rw [hx0'] at rc
        clear hx0' hx hx0
        go_wp2
        refine wp_region_staged (sz := 63) (by kernel_rfl) [0, 1, 2, 3, 5, 6, 10, 11] [(4, [7, 8, 9, 12], [0, 2, 5, 6, 10, 11]), (13, [], [10, 11])] rfl (by kernel_rfl) (by kernel_rfl) (by kernel_rfl) ?_
        iterate 8 (refine wpQ_step rfl rfl (fun K hK => ?_); go_simp; refine hK _ ?_; clear hK K)
        refine wpQ_nil ?_
        refine wpRest_act rfl ?_
        go_wp2_with fail
        refine (state_any p ((k : Int) + 1) _ _ HRD.out).mono ?_
        rintro e w3 ⟨rfl, rfl⟩
        rw [S1]
        go_wp2
        refine onN_mk ?_
        iterate 4 (refine wpQ_step rfl rfl (fun K hK => ?_); go_simp; refine hK _ ?_; clear hK K)
        refine wpQ_nil ⟨?_, ?_⟩
        · refine chk_cons ?_ (chk_cons ?_ (chk_cons ?_ (chk_cons ?_ (chk_cons ?_ (chk_cons ?_ chk_nil))))) <;> (refine yieldF_of rfl rfl rfl rfl ?_; go_simp; try omega)
        refine wpRest_act rfl ?_
        go_wp2
        refine onN_mk (wpQ_nil ⟨?_, wpRest_nil ?_⟩)
        · refine chk_cons ?_ (chk_cons ?_ chk_nil) <;> (refine yieldF_of rfl rfl rfl rfl ?_; go_simp; try omega)
        go_wp2_with fail
        have h11 := (HE.out.drew)
        refine (set_add fb _ ((k : Int) + 1) (by omega) (fun m hm => by omega) _ _ h11).mono ?_
        rintro e w4 ⟨m4, rfl, h12, hst4⟩
        rw [HN.out] at h12
        have HL := Lib.hid h12
        clear h11 h12
        go_wp2
        go_roundw
        case rel => exact ⟨k + 1, by omega, by go_num, ((((hst3.setCell _ _).drew).setCell _ _)).trans hst4, HL.out.perm (by unfold Mid; ac_rfl)⟩
        case measure => simp [intOf]; omega
    · have hkl : k = cs.length := by omega
      subst hkl
      have HINV := Lib.hid hinv
      clear hinv hp
      go_wp2
      first | refine bodyPost_ret (results_none rfl _ _ _) rfl ?_ | go_end0
      exact ⟨rfl, ⟨fb, HINV.out⟩, hst3⟩
end Go.Proofs.Ytbobcmimkonnoaa.pool8
