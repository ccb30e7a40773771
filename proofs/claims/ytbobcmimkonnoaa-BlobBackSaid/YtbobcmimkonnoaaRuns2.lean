/- The set of runs: the makers of its iterators, the count of a run, and the iterator over gaps. By walks; the conditions stand as hypotheses. -/
import Derived.Test.YtbobcmimkonnoaaRuns1
namespace Go.Proofs.Ytbobcmimkonnoaa.runs2
open Go.ChangeShapes Go.WideShapes Go.ChangeAt Go.RowKit Go.Sl Go.Shelf Go.Proofs.Ytbobcmimkonnoaa.runs1
attribute [local go_sem] Oper.semAt_some

set_option maxHeartbeats 400000 in
theorem within_any (p : Nat) (lo hi : Int) (w : World) :
    Calls Try.prog 106 #[.pointer (some ⟨p, 0, none⟩), .agg #[.int .i64 lo, .int .i64 hi]] w fun e w' =>
      e = .returned (.func (.func 108) #[] #[.pointer (some ⟨w.heap.size, 0, none⟩), .pointer (some ⟨w.heap.size + 1, 0, none⟩)]) ∧
      (w.alloc (.cells #[.pointer (some ⟨p, 0, none⟩)] 70)).alloc (.cells #[.int .i64 lo, .int .i64 hi] 138) = w' := by
  go_enter Try.func106, Try.ntmps106
  go_wp2
  go_ret
  exact ⟨rfl, rfl⟩

set_option maxHeartbeats 400000 in
theorem gaps_any (p : Nat) (lo hi : Int) (w : World) :
    Calls Try.prog 101 #[.pointer (some ⟨p, 0, none⟩), .agg #[.int .i64 lo, .int .i64 hi]] w fun e w' =>
      e = .returned (.func (.func 105) #[] #[.pointer (some ⟨w.heap.size, 0, none⟩), .pointer (some ⟨w.heap.size + 1, 0, none⟩)]) ∧
      (w.alloc (.cells #[.pointer (some ⟨p, 0, none⟩)] 70)).alloc (.cells #[.int .i64 lo, .int .i64 hi] 138) = w' := by
  go_enter Try.func101, Try.ntmps101
  go_wp2
  go_ret
  exact ⟨rfl, rfl⟩

set_option maxHeartbeats 400000 in
theorem with_any (n lo hi : Int) (w : World) :
    Calls Try.prog 102 #[.int .u64 n, .agg #[.int .i64 lo, .int .i64 hi]] w fun e w' =>
      (∃ m, e = .returned (.int .u64 m)) ∧ w.alloc (.cells #[.int .i64 lo, .int .i64 hi] 138) = w' := by
  go_enter Try.func102, Try.ntmps102
  go_wp2
  all_goals
    go_ret
    exact ⟨⟨_, rfl⟩, rfl⟩

abbrev YldBx (b l : Nat) : Pr := Pr.pts b (.cells #[.func (.yield l) #[] #[]] 146)
abbrev SomeRun (b : Nat) : Pr := Pr.ex fun lh : Int × Int => RunBx b lh.1 lh.2

/-- What the iterator over gaps owns. -/
def GapsOwn (p bs br : Nat) (v : Value) (rs : List (Int × Int)) : Pr := (SomeRun br).star ((PtrBx bs p).star (SetAt p v rs))

/-- What a loop over the gaps' inner iterator holds. -/
abbrev GapsI (J : List (Int × Int) → Pr) (l y p bs br : Nat) : Pr := (Pr.ex fun L : List (Int × Int) => J L).star ((YldBx y l).star ((SomeRun br).star (PtrBx bs p)))
abbrev GapsX (J Jx : List (Int × Int) → Pr) (p bs br : Nat) : Pr := (Pr.ex fun L : List (Int × Int) => Pr.ex fun b : Bool => if b then J L else Jx L).star ((SomeRun br).star (PtrBx bs p))

set_option maxHeartbeats 2000000 in
theorem gaps1 (p bs br : Nat) (v : Value) (rs : List (Int × Int)) (hl : rs.length ≤ 4294967296) :
    IterAny Try.prog 105 #[.pointer (some ⟨bs, 0, none⟩), .pointer (some ⟨br, 0, none⟩)] encRun (GapsOwn p bs br v rs) := by
  intro l J Jx W hY h0
  refine (callsIn_wide (n := 9)).1 (callsIn_of_wp_marks Try.func105 rfl trivial ?_ rfl)
  simp only [Try.ntmps105, List.size_toArray, List.length_cons, List.length_nil, Nat.reduceAdd, Nat.reduceSub, Array.replicate_succ, Array.replicate_zero, List.push_toArray, List.append_toArray, List.nil_append, List.cons_append]
  unfold GapsOwn at h0
  simp only [Pr.ex_star, Pr.star_ex, Sat.ex0] at h0
  obtain ⟨⟨lo, hi⟩, h0⟩ := h0
  dsimp only at h0
  have h1 : Sat ((RunBx br lo hi).star ((PtrBx bs p).star ((SetAt p v rs).star (J [])))) W := h0.perm (by ac_rfl)
  have h2 : Sat ((PtrBx bs p).star ((RunBx br lo hi).star ((SetAt p v rs).star (J [])))) W := h0.perm (by ac_rfl)
  have q1 : W.cell? ⟨br, 0, none⟩ = some (.int .i64 lo) := by rw [cell_of_heap h1.pts_heap]; rfl
  have q2 : W.cell? ⟨br, 1, none⟩ = some (.int .i64 hi) := by rw [cell_of_heap h1.pts_heap]; rfl
  have q3 : W.cell? ⟨bs, 0, none⟩ = some (.pointer (some ⟨p, 0, none⟩)) := by rw [cell_of_heap h2.pts_heap]; rfl
  have z1 := h1.lt
  have z2 := h2.lt
  have HY := Lib.hid hY
  have H2 := Lib.hid h2
  clear hY h0 h1 h2
  gi_wp2_with (refine ⟨trivial, ?_⟩; gi_at_call 106; refine (callsIn_wide.2 (within_any _ _ _ _)).mono ?_; rintro e w' ⟨rfl, rfl⟩)
  have HS : Sat ((GapsI J l W.heap.size p bs br).star (WithinOwn p (W.heap.size + 1) (W.heap.size + 1 + 1) v rs lo hi))
      (((W.alloc (.cells #[.func (.yield l) #[] #[]] 146)).alloc (.cells #[.pointer (some ⟨p, 0, none⟩)] 70)).alloc (.cells #[.int .i64 lo, .int .i64 hi] 138)) := by
    have h0 := ((H2.out.alloc (.cells #[.func (.yield l) #[] #[]] 146)).alloc (.cells #[.pointer (some ⟨p, 0, none⟩)] 70)).alloc (.cells #[.int .i64 lo, .int .i64 hi] 138)
    simp only [World.size_alloc] at h0
    have this : Sat ((RunBx (W.heap.size + 1 + 1) lo hi).star ((PtrBx (W.heap.size + 1) p).star ((YldBx W.heap.size l).star ((PtrBx bs p).star ((RunBx br lo hi).star ((SetAt p v rs).star (J []))))))) _ := h0
    unfold WithinOwn
    simp only [Pr.ex_star, Pr.star_ex, Sat.ex0]
    exact ⟨[], (lo, hi), this.perm (by dsimp only; ac_rfl)⟩
  have HR : Stays W (((W.alloc (.cells #[.func (.yield l) #[] #[]] 146)).alloc (.cells #[.pointer (some ⟨p, 0, none⟩)] 70)).alloc (.cells #[.int .i64 lo, .int .i64 hi] 138)) := (((Stays.refl W).alloc _).alloc _).alloc _
  obtain ⟨W0, hW0⟩ : ∃ W0, (((W.alloc (.cells #[.func (.yield l) #[] #[]] 146)).alloc (.cells #[.pointer (some ⟨p, 0, none⟩)] 70)).alloc (.cells #[.int .i64 lo, .int .i64 hi] 138)) = W0 := ⟨_, rfl⟩
  rw [hW0] at HS HR ⊢
  have HR := Lib.hid HR
  clear hW0 H2 q1 q2 q3 z1 z2
  refine wpIn_rangeFunc_sl (gf := 108) rfl (enters_of Try.func108 (by kernel_rfl) rfl) (within1 p (W.heap.size + 1) (W.heap.size + 1 + 1) v rs lo hi hl) (fun _ => rfl)
    (fun _ => GapsI J l W.heap.size p bs br) (fun c _ => (Pr.pure (c = .ret)).star (GapsX J Jx p bs br)) HS ?round ?done ?stop
  case round =>
    intro l' pre x W1 F1 _ hs
    obtain ⟨x1, x2⟩ := x
    have HS1 := Lib.hid hs
    clear hs
    simp only [encRun]
    gi_wp2
    have hsA := HS1.out.alloc (.cells #[.int .i64 x1, .int .i64 x2] 138)
    refine ⟨(RunBx W1.heap.size x1 x2).star ((GapsI J l W.heap.size p bs br).star (WithinOwn p (W.heap.size + 1) (W.heap.size + 1 + 1) v rs lo hi)), (Stays.refl _).alloc _, hsA.perm (by ac_rfl), ?_⟩
    clear hsA HS1 HS HR
    generalize W1.heap.size = B
    intro F2 W2 _ hs2
    -- the facts of a world in which the round stands
    have facts : ∀ (wx : World) (a b : Int) (L : List (Int × Int)), Sat ((J L).star ((RunBx br a b).star ((YldBx W.heap.size l).star ((RunBx B x1 x2).star ((PtrBx bs p).star ((WithinOwn p (W.heap.size + 1) (W.heap.size + 1 + 1) v rs lo hi).star F2)))))) wx →
        wx.cell? ⟨br, 0, none⟩ = some (.int .i64 a) ∧ wx.cell? ⟨br, 1, none⟩ = some (.int .i64 b) ∧ wx.cell? ⟨W.heap.size, 0, none⟩ = some (.func (.yield l) #[] #[]) ∧
        wx.cell? ⟨B, 0, none⟩ = some (.int .i64 x1) ∧ wx.cell? ⟨B, 1, none⟩ = some (.int .i64 x2) ∧ wx.frozen? ⟨br, 0, none⟩ = false := by
      intro wx a b L h
      have h1 : Sat ((RunBx br a b).star ((J L).star ((YldBx W.heap.size l).star ((RunBx B x1 x2).star ((PtrBx bs p).star ((WithinOwn p (W.heap.size + 1) (W.heap.size + 1 + 1) v rs lo hi).star F2)))))) wx := h.perm (by ac_rfl)
      have h2 : Sat ((YldBx W.heap.size l).star ((RunBx B x1 x2).star ((PtrBx bs p).star ((WithinOwn p (W.heap.size + 1) (W.heap.size + 1 + 1) v rs lo hi).star F2)))) wx := h1.right.right
      refine ⟨?_, ?_, ?_, ?_, ?_, frozen_of_heap h1.pts_heap 0⟩
      · rw [cell_of_heap h1.pts_heap]; rfl
      · rw [cell_of_heap h1.pts_heap]; rfl
      · rw [cell_of_heap h2.pts_heap]; rfl
      · rw [cell_of_heap h2.right.pts_heap]; rfl
      · rw [cell_of_heap h2.right.pts_heap]; rfl
    simp only [Pr.ex_star, Pr.star_ex, Sat.ex0] at hs2
    obtain ⟨L, ⟨a, b⟩, hs2⟩ := hs2
    have hs3 : Sat ((J L).star ((RunBx br a b).star ((YldBx W.heap.size l).star ((RunBx B x1 x2).star ((PtrBx bs p).star ((WithinOwn p (W.heap.size + 1) (W.heap.size + 1 + 1) v rs lo hi).star F2)))))) W2 := hs2.perm (by ac_rfl)
    obtain ⟨r1, r2, r3, r4, r5, r6⟩ := facts _ _ _ _ hs3
    have HS3 := Lib.hid hs3
    have HF := Lib.hid facts
    clear hs2 hs3 facts
    -- the end of the round, from wherever the state is
    have fin : ∀ (e : Exit) (ac : Act) (wx w' : World) (a b : Int) (L : List (Int × Int)), Sat ((J L).star ((RunBx br a b).star ((YldBx W.heap.size l).star ((RunBx B x1 x2).star ((PtrBx bs p).star ((WithinOwn p (W.heap.size + 1) (W.heap.size + 1 + 1) v rs lo hi).star F2)))))) wx →
        Stays W2 wx → ((e = .normal ∧ w' = wx.setCell ⟨br, 0, none⟩ (.int .i64 (wrap64 (x2 + 1)))) ∨ (e = .ret ∧ w' = wx)) →
        roundEnd (fun _ => GapsI J l W.heap.size p bs br) (fun c _ => (Pr.pure (c = .ret)).star (GapsX J Jx p bs br)) (WithinOwn p (W.heap.size + 1) (W.heap.size + 1 + 1) v rs lo hi) F2 (pre ++ [(x1, x2)]) W2 e ac w' := by
      intro e ac wx w' a b L h hst he
      have h1 : Sat ((RunBx br a b).star ((J L).star ((YldBx W.heap.size l).star ((RunBx B x1 x2).star ((PtrBx bs p).star ((WithinOwn p (W.heap.size + 1) (W.heap.size + 1 + 1) v rs lo hi).star F2)))))) wx := h.perm (by ac_rfl)
      rcases he with ⟨rfl, rfl⟩ | ⟨rfl, rfl⟩
      · refine ⟨hst.setCell _ _, ?_⟩
        have h2 := h1.setCell (i := 0) (.int .i64 (wrap64 (x2 + 1)))
        simp only [Pr.ex_star, Pr.star_ex, Sat.ex0]
        have h3 : Sat ((RunBx B x1 x2).star (((J L).star ((YldBx W.heap.size l).star ((RunBx br (wrap64 (x2 + 1)) b).star (PtrBx bs p)))).star ((WithinOwn p (W.heap.size + 1) (W.heap.size + 1 + 1) v rs lo hi).star F2))) (wx.setCell ⟨br, 0, none⟩ (.int .i64 (wrap64 (x2 + 1)))) := h2.perm (by show (RunBx br (wrap64 (x2 + 1)) b).star _ = _; ac_rfl)
        exact ⟨L, (wrap64 (x2 + 1), b), h3.right.perm (by dsimp only; ac_rfl)⟩
      · refine ⟨hst, ?_⟩
        have h3 : Sat ((RunBx B x1 x2).star ((YldBx W.heap.size l).star (((J L).star ((RunBx br a b).star (PtrBx bs p))).star ((WithinOwn p (W.heap.size + 1) (W.heap.size + 1 + 1) v rs lo hi).star F2)))) w' := h.perm (by ac_rfl)
        refine Sat.perm (Sat.pure.2 ⟨rfl, ?_⟩) (by rw [← Pr.star_assoc, ← Pr.star_assoc])
        simp only [Pr.ex_star, Pr.star_ex, Sat.ex0]
        exact ⟨L, (a, b), true, h3.right.right.perm (by simp only [if_true])⟩
    have FIN := Lib.hid fin
    clear fin
    by_cases hgt : a < x1
    · gi_wp2
      refine at_yield_in (HY.out ((YldBx W.heap.size l).star ((RunBx B x1 x2).star ((PtrBx (W.heap.size + 1) p).star ((RunBx (W.heap.size + 1 + 1) lo hi).star F2)))) L (_, _) _ trivial ?_) ?_
      · unfold GapsOwn
        simp only [Pr.ex_star, Pr.star_ex, Sat.ex0]
        exact ⟨(a, b), HS3.out.perm (by unfold WithinOwn; dsimp only; ac_rfl)⟩
      · rintro e w' ⟨hR', (⟨rfl, hs'⟩ | ⟨rfl, hs'⟩)⟩
        · unfold GapsOwn at hs'
          simp only [Pr.ex_star, Pr.star_ex, Sat.ex0] at hs'
          obtain ⟨⟨a', b'⟩, hs'⟩ := hs'
          have hs4 : Sat ((J (L ++ [_])).star ((RunBx br a' b').star ((YldBx W.heap.size l).star ((RunBx B x1 x2).star ((PtrBx bs p).star ((WithinOwn p (W.heap.size + 1) (W.heap.size + 1 + 1) v rs lo hi).star F2)))))) w' := hs'.perm (by unfold WithinOwn; dsimp only; ac_rfl)
          clear hs' r1 r2 r3 r4 r5 r6
          obtain ⟨r1, r2, r3, r4, r5, r6⟩ := HF.out _ _ _ _ hs4
          have HS4 := Lib.hid hs4
          clear hs4
          refine ⟨_, rfl, ?_⟩
          gi_wp2
          all_goals first
            | exact FIN.out _ _ w' _ _ _ _ HS4.out hR' (.inr ⟨rfl, rfl⟩)
            | exact FIN.out _ _ w' _ _ _ _ HS4.out hR' (.inl ⟨rfl, rfl⟩)
        · unfold GapsOwn at hs'
          simp only [Pr.ex_star, Pr.star_ex, Sat.ex0] at hs'
          obtain ⟨⟨a', b'⟩, hs'⟩ := hs'
          have HS4 := Lib.hid hs'
          clear hs'
          refine ⟨_, rfl, ?_⟩
          gi_wp2
          refine ⟨hR', ?_⟩
          have h3 : Sat ((RunBx B x1 x2).star ((YldBx W.heap.size l).star (((Jx (L ++ [_])).star ((RunBx br a' b').star (PtrBx bs p))).star ((WithinOwn p (W.heap.size + 1) (W.heap.size + 1 + 1) v rs lo hi).star F2)))) w' := HS4.out.perm (by unfold WithinOwn; ac_rfl)
          refine Sat.perm (Sat.pure.2 ⟨rfl, ?_⟩) (by rw [← Pr.star_assoc, ← Pr.star_assoc])
          simp only [Pr.ex_star, Pr.star_ex, Sat.ex0]
          exact ⟨L ++ [_], (a', b'), false, h3.right.right.perm (by simp only [Bool.false_eq_true, if_false]; ac_rfl)⟩
    · gi_wp2
      all_goals try refine ⟨fun _ h => (by cases h), ?_⟩
      all_goals gi_wp2
      all_goals first
        | exact FIN.out _ _ W2 _ _ _ _ HS3.out (Stays.refl _) (.inr ⟨rfl, rfl⟩)
        | exact FIN.out _ _ W2 _ _ _ _ HS3.out (Stays.refl _) (.inl ⟨rfl, rfl⟩)
  case done =>
    intro D xs W2 _ hst hs
    simp only [Pr.ex_star, Pr.star_ex, Sat.ex0] at hs
    obtain ⟨L, ⟨a, b⟩, hs⟩ := hs
    have h1 : Sat ((RunBx br a b).star ((YldBx W.heap.size l).star ((J L).star ((PtrBx bs p).star ((WithinOwn p (W.heap.size + 1) (W.heap.size + 1 + 1) v rs lo hi).star (Pr.pts D (.deferred (some [])))))))) W2 := hs.perm (by ac_rfl)
    have r1 : W2.cell? ⟨br, 0, none⟩ = some (.int .i64 a) := by rw [cell_of_heap h1.pts_heap]; rfl
    have r2 : W2.cell? ⟨br, 1, none⟩ = some (.int .i64 b) := by rw [cell_of_heap h1.pts_heap]; rfl
    have r3 : W2.cell? ⟨W.heap.size, 0, none⟩ = some (.func (.yield l) #[] #[]) := by rw [cell_of_heap h1.right.pts_heap]; rfl
    have H1 := Lib.hid h1
    clear h1 hs HS
    gi_wp2
    refine at_yield (HY.out ((YldBx W.heap.size l).star ((PtrBx (W.heap.size + 1) p).star ((RunBx (W.heap.size + 1 + 1) lo hi).star (Pr.pts D (.deferred (some [])))))) L (_, _) _ trivial ?_) ?_
    · unfold GapsOwn
      simp only [Pr.ex_star, Pr.star_ex, Sat.ex0]
      exact ⟨(a, b), H1.out.perm (by unfold WithinOwn; dsimp only; ac_rfl)⟩
    · rintro e w' ⟨hR', hh⟩
      have hD : w'.heap[D]? = some (.deferred (some [])) := by
        rcases hh with ⟨_, hh⟩ | ⟨_, hh⟩
        · exact (hh.perm (show _ = (Pr.pts D (.deferred (some []))).star (((J (L ++ [_])).star (GapsOwn p bs br v rs)).star ((YldBx W.heap.size l).star ((PtrBx (W.heap.size + 1) p).star (RunBx (W.heap.size + 1 + 1) lo hi)))) from by ac_rfl)).pts_heap
        · exact (hh.perm (show _ = (Pr.pts D (.deferred (some []))).star (((Jx (L ++ [_])).star (GapsOwn p bs br v rs)).star ((YldBx W.heap.size l).star ((PtrBx (W.heap.size + 1) p).star (RunBx (W.heap.size + 1 + 1) lo hi)))) from by ac_rfl)).pts_heap
      rcases hh with ⟨rfl, hh⟩ | ⟨rfl, hh⟩
      all_goals
        have HH := Lib.hid hh
        have HD := Lib.hid hD
        clear hh hD
        refine ⟨_, rfl, ?_⟩
        gi_wp2
        first
          | refine marks_end1 (D := D) rfl HD.out ⟨_, results_none rfl _ _ _, ⟨_, rfl⟩, ?_, ?_⟩
          | refine marks_ret1 (D := D) rfl HD.out ⟨_, results_none rfl _ _ _, ⟨_, rfl⟩, ?_, ?_⟩
        · exact ((HR.out.trans hst).trans hR').putObj _ _
        · first
          | exact .inl ⟨_, (((HH.out.perm (show _ = (Pr.pts D (.deferred (some []))).star (((J (L ++ [_])).star (GapsOwn p bs br v rs)).star ((YldBx W.heap.size l).star ((PtrBx (W.heap.size + 1) p).star (RunBx (W.heap.size + 1 + 1) lo hi)))) from by ac_rfl)).putObj (.deferred none)).right).left⟩
          | exact .inr ⟨_, (((HH.out.perm (show _ = (Pr.pts D (.deferred (some []))).star (((Jx (L ++ [_])).star (GapsOwn p bs br v rs)).star ((YldBx W.heap.size l).star ((PtrBx (W.heap.size + 1) p).star (RunBx (W.heap.size + 1 + 1) lo hi)))) from by ac_rfl)).putObj (.deferred none)).right).left⟩
  case stop =>
    intro D c pre W2 _ hst hs
    obtain ⟨hc, hs'⟩ := Sat.pure.1 (hs.perm (show _ = (Pr.pure (c = .ret)).star ((GapsX J Jx p bs br).star ((WithinOwn p (W.heap.size + 1) (W.heap.size + 1 + 1) v rs lo hi).star (Pr.pts D (.deferred (some []))))) from by ac_rfl))
    clear hs
    subst hc
    simp only [Pr.ex_star, Pr.star_ex, Sat.ex0] at hs'
    obtain ⟨L, ⟨a, b⟩, t, hs⟩ := hs'
    have hs1 : Sat ((Pr.pts D (.deferred (some []))).star (((if t then J L else Jx L).star ((RunBx br a b).star (PtrBx bs p))).star (WithinOwn p (W.heap.size + 1) (W.heap.size + 1 + 1) v rs lo hi))) W2 := hs.perm (by ac_rfl)
    have HD := Lib.hid hs1.pts_heap
    have HH := Lib.hid (hs1.putObj (.deferred none)).right
    clear hs hs1 HS
    gi_wp2
    refine marks_ret1 (D := D) rfl HD.out ⟨_, results_none rfl _ _ _, ⟨_, rfl⟩, ?_, ?_⟩
    · exact (HR.out.trans hst).putObj _ _
    · have h2 : Sat ((PtrBx (W.heap.size + 1) p).star ((RunBx (W.heap.size + 1 + 1) lo hi).star ((if t then J L else Jx L).star ((RunBx br a b).star ((PtrBx bs p).star (SetAt p v rs)))))) (W2.putObj D (.deferred none)) := HH.out.perm (by unfold WithinOwn; ac_rfl)
      have h3 := h2.right.right
      have h4 : ∀ X : Pr, Sat (X.star ((RunBx br a b).star ((PtrBx bs p).star (SetAt p v rs)))) (W2.putObj D (.deferred none)) → Sat (X.star (GapsOwn p bs br v rs)) (W2.putObj D (.deferred none)) := by
        intro X h
        unfold GapsOwn
        simp only [Pr.ex_star, Pr.star_ex, Sat.ex0]
        exact ⟨(a, b), h⟩
      cases t with
      | true => exact .inl ⟨L, trivial, h4 (J L) h3⟩
      | false => exact .inr ⟨L, trivial, h4 (Jx L) h3⟩
end Go.Proofs.Ytbobcmimkonnoaa.runs2
