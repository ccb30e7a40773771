/- A region that draws its order, where the first act is one of several (an allocation that may come early, say): each walked once. Plain lemmas over any program. -/
import Derived.Test.YtbobcmimkonnoaaGreatBlobAnswersM02
import Derived.Test.YtbobcmimkonnoaaGreatBlobAnswersM01
namespace Go.Sl
/-- One of these acts is the first; each with what can be read behind it, what is read anew there, and the plan then. -/
def forkOk (ops : Array Oper) (D Fd : List Nat) (alts : List (Nat × List Nat × List Nat × List (Nat × List Nat × List Nat))) : Bool :=
 !alts.isEmpty && ((List.range ops.size).all fun i => D.contains i || alts.any (fun s => s.1 == i) || (match ops[i]? with
  | none => true
  | some o => o.after.any fun e => Region.binds .any e && !D.contains e.on)) &&
 alts.all fun s => !D.contains s.1 && decide (s.1 < ops.size) &&
  (D.all fun i => s.2.2.1.contains i || Fd.contains i || (ops[s.1]?).any fun o => bindsOn o i) &&
  orderOk ops (D ++ [s.1]) s.2.1 &&
  planOk ops (D ++ s.1 :: s.2.1) (Fd ++ s.1 :: D.filter fun i => (ops[s.1]?).any fun o => bindsOn o i) s.2.2.2
section
variable {P : Program} {ops : Array Oper} {sz : Nat}
theorem forked_any {Q : Exit → Act → World → Prop} (hs : slotsOk ops sz = true) : ∀ (fuel : Nat) (L : Array Bool) (a : Act) (w : World) (D Fd : List Nat) (alts : List (Nat × List Nat × List Nat × List (Nat × List Nat × List Nat))) (f : Act),
    forkOk ops D Fd alts = true → L.size = ops.size → unl ops L = fuel → f.tmps.size = sz → Agree ops L a f → (∀ i, i < ops.size → Lst L i → i ∈ D) → (∀ i ∈ Fd, Lst L i) →
    (∀ i ∈ D, ¬ Lst L i → YieldF P ops i f w) → (∀ s ∈ alts, wpRest P ops Q ((s.1, s.2.1, s.2.2.1) :: s.2.2.2) f w) → wpAny P .any ops Q fuel L a w := by
  intro fuel
  induction fuel with
  | zero =>
    intro L a w D Fd alts f hp hL hu hfs hA hsub hFd hY hc
    exfalso
    have hall : ∀ i, i < ops.size → Lst L i := fun i hi => by
      have h0 : (List.range ops.size).filter (fun i => !L.getD i true) = [] := List.eq_nil_of_length_eq_zero hu
      have := List.filter_eq_nil_iff.1 h0 i (List.mem_range.2 hi)
      simpa [Lst] using this
    simp only [forkOk, Bool.and_eq_true] at hp
    obtain ⟨⟨h1, _⟩, h3⟩ := hp
    cases alts with
    | nil => simp at h1
    | cons s alts =>
      have h4 := List.all_eq_true.1 h3 s (by simp)
      simp only [Bool.and_eq_true] at h4
      obtain ⟨⟨⟨⟨h5, h6⟩, _⟩, _⟩, _⟩ := h4
      have := hsub s.1 (by simpa using h6) (hall s.1 (by simpa using h6))
      simp [this] at h5
  | succ fuel ih =>
    intro L a w D Fd alts f hp hL hu hfs hA hsub hFd hY hc
    refine ⟨fun hnil => ?_, fun i hi => ?_⟩
    · exfalso
      have hne : (List.range ops.size).filter (fun i => !L.getD i true) ≠ [] := fun e => by unfold unl at hu; rw [e] at hu; simp at hu
      obtain ⟨j, hj⟩ := List.exists_mem_of_ne_nil _ hne
      rw [List.mem_filter, List.mem_range] at hj
      obtain ⟨k, hk⟩ := unlisted_ready hs hL j j (Nat.le_refl _) hj.1 (by unfold Lst; simpa using hj.2)
      rw [hnil] at hk
      cases hk
    · obtain ⟨hin, hul, o, ho, hdeps⟩ := ready_mem.1 hi
      obtain ⟨hn, hlt, _, hdd⟩ := slots_at hs ho
      have hlook : ∀ t ∈ o.looksAt ops, a.tmps[t]? = f.tmps[t]? := fun t ht => hA.2.2 t fun j hj => (dep_listed hdeps ((hdd j t hj).1 ht)).1
      obtain ⟨he, hw⟩ := exec_same hn hlook
      have hL' : (L.setIfInBounds i true).size = ops.size := by simpa using hL
      have hu' : unl ops (L.setIfInBounds i true) = fuel := by have := unl_set (L := L) hin hul; omega
      have hdst : ∀ j t, dstOf ops j = some t → j < ops.size := fun j t hj => by
        unfold dstOf at hj
        cases hx : ops[j]? with
        | none => simp [hx] at hj
        | some _ => exact (Array.getElem?_eq_some_iff.1 hx).1
      by_cases hD : i ∈ D
      · -- an operation that only yields
        have put : ∀ v, (∀ d, o.dst = some d → f.tmps[d]? = some v) → wpAny P .any ops Q fuel (L.setIfInBounds i true) (a.put o.dst v) w := by
          intro v hv
          refine ih _ _ w D Fd alts f hp hL' hu' hfs ⟨by rw [put_size]; exact hA.1, by rw [put_defs]; exact hA.2.1, fun t ht => ?_⟩ (fun j hj hl => ?_) (fun j hj => lst_set.2 (.inr (hFd j hj))) (fun j hj hl => hY j hj fun h => hl (lst_set.2 (.inr h))) hc
          · by_cases hdt : o.dst = some t
            · rw [hdt, put_self (by rw [hA.1, hfs]; exact hlt t hdt), hv t hdt]
            · rw [put_at hdt]
              refine hA.2.2 t fun j hj => ?_
              rcases lst_set.1 (ht j hj) with rfl | h
              · rw [dstOf_at ho] at hj; exact absurd hj hdt
              · exact h
          · rcases lst_set.1 hl with rfl | h
            · exact hD
            · exact hsub j hj h
        have hy := hY i hD hul
        simp only [YieldF, ho] at hy
        unfold wpOp
        simp only [ho]
        rcases hy with ⟨hwt, v, hr, hv⟩ | ⟨hwf, hv⟩
        · rw [hw, hwt]
          simp only [if_true]
          refine .inl ?_
          unfold Oper.wp
          rw [he, hr]
          exact put v hv
        · rw [hw, hwf]
          simp only [Bool.false_eq_true, if_false]
          exact put undef hv
      · -- the act that is first
        simp only [forkOk, Bool.and_eq_true] at hp
        obtain ⟨⟨_, g3⟩, g4⟩ := hp
        have hix : alts.any (fun s => s.1 == i) = true := by
          have := List.all_eq_true.1 g3 i (List.mem_range.2 hin)
          simp only [Bool.or_eq_true, ho] at this
          rcases this with (t | t) | t
          · exact absurd (by simpa using t) hD
          · exact t
          · exfalso
            obtain ⟨e, hem, heb⟩ := any_mem t
            simp only [Bool.and_eq_true] at heb
            obtain ⟨hl, hlt2⟩ := lst_of_getD (hdeps e hem heb.1)
            have := hsub e.on (by omega) hl
            simp [this] at heb
        obtain ⟨⟨x, E, C, rest⟩, hsm, hx⟩ := List.any_eq_true.1 hix
        have hxi : x = i := by simpa using hx
        subst hxi
        have g5 := List.all_eq_true.1 g4 _ hsm
        simp only [Bool.and_eq_true] at g5
        obtain ⟨⟨⟨⟨h1, h2⟩, h4⟩, h5⟩, h6⟩ := g5
        have hc := hc _ hsm
        have hnin := order_nin _ _ h5
        have step : ∀ v ds w', wpQ P ops E (fun f2 => Chk P ops C f2 w' ∧ wpRest P ops Q rest f2 w') (({ f with defers := ds } : Act).put o.dst v) w' →
            wpAny P .any ops Q fuel (L.setIfInBounds x true) (({ a with defers := ds } : Act).put o.dst v) w' := by
          intro v ds w' hq
          obtain ⟨f2, ⟨hC, hcont⟩, hf2s, hf2d, hf2t, hf2y⟩ := wpQ_out hs E _ _ _ h5 (by rw [put_size]; exact hfs) hq
          refine staged_any hs fuel _ _ w' (D ++ x :: E) _ rest f2 h6 hL' hu' hf2s ⟨by rw [put_size, hf2s]; exact hA.1.trans hfs, by rw [put_defs, hf2d, put_defs], fun t ht => ?_⟩ (fun j hj hl => ?_) (fun j hj => ?_) (fun j hj hl => ?_) hcont
          · rw [hf2t t (fun j hj e => by
              have hl := ht j e
              obtain ⟨hj1, hj2⟩ := hnin j hj
              rcases lst_set.1 hl with rfl | h
              · exact hj1 (by simp)
              · exact hj1 (List.mem_append_left _ (hsub j hj2 h)))]
            by_cases hdt : o.dst = some t
            · rw [hdt, put_self (by show t < a.tmps.size; rw [hA.1, hfs]; exact hlt t hdt), put_self (by show t < f.tmps.size; rw [hfs]; exact hlt t hdt)]
            · rw [put_at hdt, put_at hdt]
              refine hA.2.2 t fun j hj => ?_
              rcases lst_set.1 (ht j hj) with rfl | h
              · rw [dstOf_at ho] at hj; exact absurd hj hdt
              · exact h
          · rcases lst_set.1 hl with rfl | h
            · simp
            · exact List.mem_append_left _ (hsub j hj h)
          · rcases List.mem_append.1 hj with h | h
            · exact lst_set.2 (.inr (hFd j h))
            · rcases List.mem_cons.1 h with rfl | h
              · exact lst_set.2 (.inl rfl)
              · rw [List.mem_filter] at h
                have hb := h.2
                simp only [ho, Option.any_some] at hb
                exact lst_set.2 (.inr (dep_listed hdeps hb).1)
          · rcases List.mem_append.1 hj with h | h
            · have := List.all_eq_true.1 h4 j h
              simp only [Bool.or_eq_true, ho, Option.any_some] at this
              rcases this with (t | t) | t
              · exact hC j (by simpa using t)
              · exact absurd (lst_set.2 (.inr (hFd j (by simpa using t)))) hl
              · exact absurd (lst_set.2 (.inr (dep_listed hdeps t).1)) hl
            · rcases List.mem_cons.1 h with rfl | h
              · exact absurd (lst_set.2 (.inl rfl)) hl
              · exact hf2y j h
        simp only [wpRest, ho, wpList] at hc
        unfold wpOp
        simp only [ho]
        rw [hw]
        split
        · rename_i hwt
          rw [if_pos hwt] at hc
          rcases hc with hc | ⟨_, _, _, hf⟩
          · exact .inl (oper_wp_rel he hA.2.1 (fun v ds w' h => step v ds w' h) hc)
          · exact (hf : False).elim
        · rename_i hwf
          rw [if_neg hwf] at hc
          have := step undef f.defers w hc
          rw [← hA.2.1] at this
          exact this
theorem wp_region_forked {Q : Exit → Act → World → Prop} {id : Nat} {a : Act} {w : World} (hm : P.follows .mixedOrders = true) (E0 : List Nat) (alts : List (Nat × List Nat × List Nat × List (Nat × List Nat × List Nat)))
 (hsz : a.tmps.size = sz) (hs : slotsOk ops sz = true) (ho : orderOk ops [] E0 = true) (hp : forkOk ops E0 [] alts = true)
 (h : wpQ P ops E0 (fun f => ∀ s ∈ alts, wpRest P ops Q ((s.1, s.2.1, s.2.2.1) :: s.2.2.2) f w.drew) a w.drew) : (Code.region id ops true).wp P Q a w := by
 refine wp_region_any hm ?_
 obtain ⟨f, hc, hfs, hfd, hft, hfy⟩ := wpQ_out hs E0 _ _ _ ho hsz h
 have hno : ∀ i, i < ops.size → ¬ Lst (Array.replicate ops.size false) i := fun i hi h => by simp [Lst, hi, Array.getD_eq_getD_getElem?] at h
 refine forked_any hs _ _ _ _ E0 [] alts f hp (by simp) ?_ hfs ⟨hsz.trans hfs.symm, hfd.symm, fun t ht => (hft t fun j hj e => ?_).symm⟩ (fun i hi hl => absurd hl (hno i hi)) (fun i hi => by cases hi) (fun i hi _ => hfy i hi) hc
 · unfold unl
   rw [List.filter_eq_self.2]
   · simp
   · intro i hi
     have := hno i (List.mem_range.1 hi)
     simpa [Lst] using this
 · have hj2 := (order_nin _ _ ho j hj).2
   exact hno j hj2 (ht j e)
end
end Go.Sl
namespace Go.Sl
open Go.RowKit
def starL : List Pr → Pr
 | [] => Pr.emp
 | a :: l => a.star (starL l)
/-- All these parts are owned, apart from one another. -/
structure OwnL (L : List Pr) (w : World) : Prop where
 sat : Sat (starL L) w
/-- The part A is found in L; R: what is left. -/
class Pull (A : Pr) (L : List Pr) (R : outParam (List Pr)) : Prop where
 eq : starL L = A.star (starL R)
instance Pull.there (A B : Pr) (L R : List Pr) [h : Pull A L R] : Pull A (B :: L) (B :: R) :=
 ⟨by show B.star (starL L) = A.star (B.star (starL R)); rw [h.eq, Pr.left_comm]⟩
instance Pull.here (A : Pr) (L : List Pr) : Pull A (A :: L) L := ⟨rfl⟩
/-- The block b is found in L: with what lies in it. -/
class PullPts (b : Nat) (L : List Pr) (o : outParam Obj) (R : outParam (List Pr)) : Prop where
 eq : starL L = (Pr.pts b o).star (starL R)
instance PullPts.there (b : Nat) (B : Pr) (L R : List Pr) (o : Obj) [h : PullPts b L o R] : PullPts b (B :: L) o (B :: R) :=
 ⟨by show B.star (starL L) = (Pr.pts b o).star (B.star (starL R)); rw [h.eq, Pr.left_comm]⟩
instance PullPts.here (b : Nat) (o : Obj) (L : List Pr) : PullPts b (Pr.pts b o :: L) o L := ⟨rfl⟩
/-- The row of the slice v is found in L. -/
class PullRow (v : Value) (L : List Pr) (T k n : outParam Nat) (xs : outParam (List Value)) (R : outParam (List Pr)) : Prop where
 eq : starL L = (Row T k v n xs).star (starL R)
instance PullRow.there (v : Value) (B : Pr) (L R : List Pr) (T k n : Nat) (xs : List Value) [h : PullRow v L T k n xs R] : PullRow v (B :: L) T k n xs (B :: R) :=
 ⟨by show B.star (starL L) = (Row T k v n xs).star (B.star (starL R)); rw [h.eq, Pr.left_comm]⟩
instance PullRow.here (v : Value) (T k n : Nat) (xs : List Value) (L : List Pr) : PullRow v (Row T k v n xs :: L) T k n xs L := ⟨rfl⟩
/-- One cell of the block b is another one. -/
class SetPts (b i : Nat) (v : Value) (L : List Pr) (M : outParam (List Pr)) : Prop where
 ex : ∃ cs t fz R, starL L = (Pr.pts b (.cells cs t fz)).star R ∧ starL M = (Pr.pts b (.cells (cs.setIfInBounds i v) t fz)).star R
instance SetPts.there (b i : Nat) (v : Value) (B : Pr) (L M : List Pr) [h : SetPts b i v L M] : SetPts b i v (B :: L) (B :: M) :=
 ⟨by
  obtain ⟨cs, t, fz, R, h1, h2⟩ := h.ex
  refine ⟨cs, t, fz, B.star R, ?_, ?_⟩
  · show B.star (starL L) = _; rw [h1, Pr.left_comm]
  · show B.star (starL M) = _; rw [h2, Pr.left_comm]⟩
/-- A list with another value in one place. -/
class SetL (i : Nat) (v : Value) (l : List Value) (m : outParam (List Value)) : Prop where
 eq : l.set i v = m
instance SetL.there (i : Nat) (v a : Value) (l m : List Value) [h : SetL i v l m] : SetL (i + 1) v (a :: l) (a :: m) := ⟨by rw [List.set_cons_succ, h.eq]⟩
instance SetL.here (v a : Value) (l : List Value) : SetL 0 v (a :: l) (v :: l) := ⟨rfl⟩
instance SetPts.here (b i : Nat) (v : Value) (l m : List Value) (t : TypeId) (fz : Nat × Nat) (L : List Pr) [h : SetL i v l m] : SetPts b i v (Pr.pts b (.cells l.toArray t fz) :: L) (Pr.pts b (.cells m.toArray t fz) :: L) :=
 ⟨⟨l.toArray, t, fz, starL L, rfl, by rw [List.setIfInBounds_toArray, h.eq]; rfl⟩⟩
/-- The cells of a block from the place i on. -/
def CellsAt (w : World) (b : Nat) : Nat → List Value → Prop
 | _, [] => True
 | i, v :: l => w.cell? ⟨b, i, none⟩ = some v ∧ w.frozen? ⟨b, i, none⟩ = false ∧ CellsAt w b (i + 1) l
theorem cellsAt_of {w : World} {b : Nat} {cs : Array Value} {t : TypeId} (h : w.heap[b]? = some (.cells cs t (0, 0))) : ∀ (l : List Value) (i : Nat), (∀ j v, l[j]? = some v → cs[i + j]? = some v) → CellsAt w b i l
 | [], _, _ => trivial
 | v :: l, i, hl => ⟨(cell_of_heap h i).trans (by have := hl 0 v rfl; simpa using this), frozen_of_heap h i, cellsAt_of h l (i + 1) fun j u hu => by
  have := hl (j + 1) u (by simpa using hu)
  rw [show i + 1 + j = i + (j + 1) by omega]; exact this⟩
/-- b is none of the blocks of these parts. -/
class NePts (b : Nat) (L : List Pr) (P : outParam Prop) : Prop where
 ne : ∀ (o : Obj) (w : World), Sat ((Pr.pts b o).star (starL L)) w → P
instance NePts.nil (b : Nat) : NePts b [] True := ⟨fun _ _ _ => trivial⟩
instance NePts.skip (b : Nat) (B : Pr) (L : List Pr) (P : Prop) [h : NePts b L P] : NePts b (B :: L) P :=
 ⟨fun o w hs => h.ne o w (hs.perm (B := B.star ((Pr.pts b o).star (starL L))) (by show (Pr.pts b o).star (B.star (starL L)) = _; rw [Pr.left_comm])).right⟩
instance NePts.pts (b c : Nat) (o' : Obj) (L : List Pr) (P : Prop) [h : NePts b L P] : NePts b (Pr.pts c o' :: L) (b ≠ c ∧ c ≠ b ∧ P) :=
 ⟨fun o w hs => ⟨Sat.pts_ne hs, fun e => Sat.pts_ne hs e.symm, h.ne o w (hs.perm (B := (Pr.pts c o').star ((Pr.pts b o).star (starL L))) (by show (Pr.pts b o).star ((Pr.pts c o').star (starL L)) = _; rw [Pr.left_comm])).right⟩⟩
/-- What the blocks tell of the cells. -/
class FactsOf (L : List Pr) (w : World) (P : outParam Prop) : Prop where
 facts : Sat (starL L) w → P
instance FactsOf.nil (w : World) : FactsOf [] w True := ⟨fun _ => trivial⟩
instance FactsOf.skip (B : Pr) (L : List Pr) (w : World) (P : Prop) [h : FactsOf L w P] : FactsOf (B :: L) w P := ⟨fun hs => h.facts hs.right⟩
instance FactsOf.pts (b : Nat) (l : List Value) (T : TypeId) (L : List Pr) (w : World) (P N : Prop) [h : FactsOf L w P] [k : NePts b L N] : FactsOf (Pr.pts b (.cells l.toArray T (0, 0)) :: L) w ((CellsAt w b 0 l ∧ b < w.heap.size ∧ N) ∧ P) :=
 ⟨fun hs => ⟨⟨cellsAt_of hs.pts_heap l 0 fun j v hj => by simpa using hj, hs.lt, k.ne _ _ hs⟩, h.facts hs.right⟩⟩
/-- Each of these parts is found in L. -/
class SubL (M L : List Pr) : Prop where
 sub : ∃ R, starL L = (starL M).star R
instance SubL.nil (L : List Pr) : SubL [] L := ⟨⟨starL L, (Pr.emp_star _).symm⟩⟩
instance SubL.refl (L : List Pr) : SubL L L := ⟨⟨Pr.emp, (Pr.star_emp _).symm⟩⟩
instance SubL.cons (A : Pr) (M L R : List Pr) [h : Pull A L R] [k : SubL M R] : SubL (A :: M) L := ⟨by
 obtain ⟨X, e⟩ := k.sub
 exact ⟨X, by rw [h.eq, e, ← Pr.star_assoc]; rfl⟩⟩
section
variable {L : List Pr} {w w' : World} {F : Pr}
theorem OwnL.pull1 {A1 : Pr} {R1 : List Pr} [k1 : Pull A1 L R1] (o : OwnL L w) : Sat (A1.star (starL R1)) w := o.sat.perm (by rw [k1.eq])
theorem OwnL.end1 {A1 : Pr} {R1 : List Pr} [k1 : Pull A1 L R1] (o : OwnL L w) : Sat A1 w := (o.pull1 (A1 := A1)).left
theorem OwnL.of1 {A1 : Pr} (h : Sat (A1.star (starL L)) w) : OwnL (A1 :: L) w := ⟨h⟩
theorem OwnL.pull2 {A1 A2 : Pr} {R1 R2 : List Pr} [k1 : Pull A1 L R1] [k2 : Pull A2 R1 R2] (o : OwnL L w) : Sat (A1.star (A2.star (starL R2))) w := o.sat.perm (by rw [k1.eq, k2.eq])
theorem OwnL.of2 {A1 A2 : Pr} (h : Sat (A1.star (A2.star (starL L))) w) : OwnL (A1 :: A2 :: L) w := ⟨h⟩
theorem OwnL.in2 {A1 A2 : Pr} (h : Sat (A1.star (A2.star F)) w) : OwnL [A1, A2, F] w := ⟨h.perm (by simp only [starL, Pr.star_emp])⟩
theorem OwnL.pull3 {A1 A2 A3 : Pr} {R1 R2 R3 : List Pr} [k1 : Pull A1 L R1] [k2 : Pull A2 R1 R2] [k3 : Pull A3 R2 R3] (o : OwnL L w) : Sat (A1.star (A2.star (A3.star (starL R3)))) w := o.sat.perm (by rw [k1.eq, k2.eq, k3.eq])
theorem OwnL.of3 {A1 A2 A3 : Pr} (h : Sat (A1.star (A2.star (A3.star (starL L)))) w) : OwnL (A1 :: A2 :: A3 :: L) w := ⟨h⟩
theorem OwnL.pull4 {A1 A2 A3 A4 : Pr} {R1 R2 R3 R4 : List Pr} [k1 : Pull A1 L R1] [k2 : Pull A2 R1 R2] [k3 : Pull A3 R2 R3] [k4 : Pull A4 R3 R4] (o : OwnL L w) : Sat (A1.star (A2.star (A3.star (A4.star (starL R4))))) w := o.sat.perm (by rw [k1.eq, k2.eq, k3.eq, k4.eq])
theorem OwnL.of4 {A1 A2 A3 A4 : Pr} (h : Sat (A1.star (A2.star (A3.star (A4.star (starL L))))) w) : OwnL (A1 :: A2 :: A3 :: A4 :: L) w := ⟨h⟩
theorem OwnL.pull6 {A1 A2 A3 A4 A5 A6 : Pr} {R1 R2 R3 R4 R5 R6 : List Pr} [k1 : Pull A1 L R1] [k2 : Pull A2 R1 R2] [k3 : Pull A3 R2 R3] [k4 : Pull A4 R3 R4] [k5 : Pull A5 R4 R5] [k6 : Pull A6 R5 R6] (o : OwnL L w) : Sat (A1.star (A2.star (A3.star (A4.star (A5.star (A6.star (starL R6))))))) w := o.sat.perm (by rw [k1.eq, k2.eq, k3.eq, k4.eq, k5.eq, k6.eq])
theorem OwnL.of6 {A1 A2 A3 A4 A5 A6 : Pr} (h : Sat (A1.star (A2.star (A3.star (A4.star (A5.star (A6.star (starL L))))))) w) : OwnL (A1 :: A2 :: A3 :: A4 :: A5 :: A6 :: L) w := ⟨h⟩
theorem OwnL.end7 {A1 A2 A3 A4 A5 A6 A7 : Pr} {R1 R2 R3 R4 R5 R6 R7 : List Pr} [k1 : Pull A1 L R1] [k2 : Pull A2 R1 R2] [k3 : Pull A3 R2 R3] [k4 : Pull A4 R3 R4] [k5 : Pull A5 R4 R5] [k6 : Pull A6 R5 R6] [k7 : Pull A7 R6 R7] (o : OwnL L w) : Sat (A1.star (A2.star (A3.star (A4.star (A5.star (A6.star A7)))))) w := (o.sat.perm (B := (A1.star (A2.star (A3.star (A4.star (A5.star (A6.star A7)))))).star (starL R7)) (by rw [k1.eq, k2.eq, k3.eq, k4.eq, k5.eq, k6.eq, k7.eq]; simp only [Pr.star_assoc])).left
theorem OwnL.of8 {A1 A2 A3 A4 A5 A6 A7 A8 : Pr} (h : Sat (A1.star (A2.star (A3.star (A4.star (A5.star (A6.star (A7.star (A8.star (starL L))))))))) w) : OwnL (A1 :: A2 :: A3 :: A4 :: A5 :: A6 :: A7 :: A8 :: L) w := ⟨h⟩
theorem OwnL.of9 {A1 A2 A3 A4 A5 A6 A7 A8 A9 : Pr} (h : Sat (A1.star (A2.star (A3.star (A4.star (A5.star (A6.star (A7.star (A8.star (A9.star (starL L)))))))))) w) : OwnL (A1 :: A2 :: A3 :: A4 :: A5 :: A6 :: A7 :: A8 :: A9 :: L) w := ⟨h⟩
theorem OwnL.end10 {A1 A2 A3 A4 A5 A6 A7 A8 A9 A10 : Pr} {R1 R2 R3 R4 R5 R6 R7 R8 R9 R10 : List Pr} [k1 : Pull A1 L R1] [k2 : Pull A2 R1 R2] [k3 : Pull A3 R2 R3] [k4 : Pull A4 R3 R4] [k5 : Pull A5 R4 R5] [k6 : Pull A6 R5 R6] [k7 : Pull A7 R6 R7] [k8 : Pull A8 R7 R8] [k9 : Pull A9 R8 R9] [k10 : Pull A10 R9 R10] (o : OwnL L w) : Sat (A1.star (A2.star (A3.star (A4.star (A5.star (A6.star (A7.star (A8.star (A9.star A10))))))))) w := (o.sat.perm (B := (A1.star (A2.star (A3.star (A4.star (A5.star (A6.star (A7.star (A8.star (A9.star A10))))))))).star (starL R10)) (by rw [k1.eq, k2.eq, k3.eq, k4.eq, k5.eq, k6.eq, k7.eq, k8.eq, k9.eq, k10.eq]; simp only [Pr.star_assoc])).left
end
section
variable {L R R2 R3 R4 R5 R6 : List Pr} {w w' : World} {A B C D E G F : Pr}
/-- The same parts in another order, or fewer of them. -/
theorem OwnL.to {M : List Pr} (o : OwnL L w) [h : SubL M L] : OwnL M w := by
 obtain ⟨X, e⟩ := h.sub
 exact ⟨(o.sat.perm e).left⟩
theorem OwnL.in0 (h : Sat F w) : OwnL [F] w := ⟨h.perm (Pr.star_emp F).symm⟩
/-- Each star is two parts. -/
class NormL (L : List Pr) (M : outParam (List Pr)) : Prop where
 eq : starL L = starL M
instance NormL.nil : NormL [] [] := ⟨rfl⟩
instance NormL.keep (A : Pr) (L M : List Pr) [h : NormL L M] : NormL (A :: L) (A :: M) := ⟨by show A.star (starL L) = A.star (starL M); rw [h.eq]⟩
instance NormL.star (A B : Pr) (L M : List Pr) [h : NormL (A :: B :: L) M] : NormL (A.star B :: L) M := ⟨by rw [← h.eq]; show (A.star B).star (starL L) = A.star (B.star (starL L)); rw [Pr.star_assoc]⟩
theorem OwnL.norm {M : List Pr} (o : OwnL L w) [h : NormL L M] : OwnL M w := ⟨o.sat.perm h.eq⟩
/-- A frame that is itself a list. -/
class FlatL (L : List Pr) (M : outParam (List Pr)) : Prop where
 eq : starL L = starL M
instance FlatL.there (A : Pr) (L M : List Pr) [h : FlatL L M] : FlatL (A :: L) (A :: M) := ⟨by show A.star (starL L) = A.star (starL M); rw [h.eq]⟩
instance FlatL.here (R : List Pr) : FlatL [starL R] R := ⟨Pr.star_emp _⟩
theorem OwnL.flat {M : List Pr} (o : OwnL L w) [h : FlatL L M] : OwnL M w := ⟨o.sat.perm h.eq⟩
theorem OwnL.push (h : Sat (A.star (starL L)) w) (e : A = B.star C) : OwnL (B :: C :: L) w := ⟨by subst e; exact h.perm (Pr.star_assoc _ _ _)⟩
/-- A part that is two parts. -/
theorem OwnL.split [h : Pull (A.star B) L R] (o : OwnL L w) : OwnL (A :: B :: R) w := ⟨o.sat.perm (by rw [h.eq, Pr.star_assoc]; rfl)⟩
theorem OwnL.alloc (o : OwnL L w) (x : Obj) : OwnL (Pr.pts w.heap.size x :: L) (w.alloc x) := ⟨o.sat.alloc x⟩
theorem OwnL.drew (o : OwnL L w) : OwnL L w.drew := ⟨o.sat.drew⟩
theorem OwnL.drewN (o : OwnL L w) (n : Nat) : OwnL L (w.drewN n) := ⟨o.sat.drewN n⟩
theorem OwnL.set (o : OwnL L w) (b i : Nat) (v : Value) {M : List Pr} [h : SetPts b i v L M] : OwnL M (w.setCell ⟨b, i, none⟩ v) := by
 obtain ⟨cs, t, fz, R, h1, h2⟩ := h.ex
 exact ⟨((o.sat.perm h1).setCell (i := i) v).perm h2.symm⟩
theorem OwnL.drop (o : OwnL (A :: L) w) : OwnL L w := ⟨o.sat.right⟩
theorem OwnL.lose (A : Pr) (o : OwnL L w) [h : Pull A L R] : OwnL R w := ⟨(o.pull1 (A1 := A)).right⟩
theorem OwnL.facts (o : OwnL L w) {P : Prop} [h : FactsOf L w P] : P := h.facts o.sat
theorem OwnL.pts (o : OwnL L w) (b : Nat) {x : Obj} {R : List Pr} [h : PullPts b L x R] : Sat ((Pr.pts b x).star (starL R)) w := o.sat.perm h.eq
theorem OwnL.row (o : OwnL L w) (v : Value) {T k n : Nat} {xs : List Value} {R : List Pr} [h : PullRow v L T k n xs R] : Sat ((Row T k v n xs).star (starL R)) w := o.sat.perm h.eq
/-- Parts that are only read: one arena. -/
theorem OwnL.arena (A : Pr) (o : OwnL L w) [h : Pull A L R] : ∃ a, A a ∧ OwnL (Pr.own a :: R) w := by
 obtain ⟨a, ha, hs⟩ := (o.pull1 (A1 := A)).toOwn
 exact ⟨a, ha, ⟨hs⟩⟩
theorem OwnL.back (A : Pr) {a : Hp} (ha : A a) (o : OwnL L w) [h : Pull (Pr.own a) L R] : OwnL (A :: R) w := ⟨(o.pull1 (A1 := Pr.own a)).ofOwn ha⟩
theorem OwnL.le {a : Hp} (o : OwnL L w) [h : Pull (Pr.own a) L R] : a.le w := (o.pull1 (A1 := Pr.own a)).own
theorem OwnL.ext (o : OwnL L w) (ha : ∀ k, k < w.heap.size → w'.heap[k]? = w.heap[k]?) : OwnL L w' := ⟨o.sat.ext ha⟩
end
end Go.Sl
namespace Go.Sl
open Go.RowKit
section
variable {α : Type}
/-- All these parts, apart. -/
def big (f : α → Pr) (l : List α) : Pr := starL (l.map f)
theorem big_nil (f : α → Pr) : big f [] = Pr.emp := rfl
theorem big_cons (f : α → Pr) (x : α) (l : List α) : big f (x :: l) = (f x).star (big f l) := rfl
theorem big_append (f : α → Pr) : ∀ (l m : List α), big f (l ++ m) = (big f l).star (big f m)
 | [], m => by rw [big_nil, Pr.emp_star]; rfl
 | x :: l, m => by
  show (f x).star (big f (l ++ m)) = ((f x).star (big f l)).star (big f m)
  rw [big_append f l m, Pr.star_assoc]
theorem big_one (f : α → Pr) (x : α) : big f [x] = f x := Pr.star_emp _
theorem big_snoc (f : α → Pr) (l : List α) (x : α) : big f (l ++ [x]) = (f x).star (big f l) := by rw [big_append, big_one, Pr.star_comm]
theorem big_at (f : α → Pr) : ∀ (l : List α) (i : Nat) (h : i < l.length), big f l = (f l[i]).star (big f (l.eraseIdx i))
 | [], _, h => absurd h (by simp)
 | x :: l, 0, _ => rfl
 | x :: l, i + 1, h => by
  have hi : i < l.length := by simpa using h
  show (f x).star (big f l) = (f l[i]).star ((f x).star (big f (l.eraseIdx i)))
  rw [big_at f l i hi, Pr.left_comm]
theorem big_set (f : α → Pr) : ∀ (l : List α) (i : Nat) (_ : i < l.length) (y : α), big f (l.set i y) = (f y).star (big f (l.eraseIdx i))
 | [], _, h, _ => absurd h (by simp)
 | x :: l, 0, _, _ => rfl
 | x :: l, i + 1, h, y => by
  show (f x).star (big f (l.set i y)) = (f y).star ((f x).star (big f (l.eraseIdx i)))
  rw [big_set f l i (by simpa using h) y, Pr.left_comm]
end
section
variable {L R : List Pr} {w : World} {F : Pr}
/-- One part out of many. -/
theorem OwnL.take {α : Type} (f : α → Pr) (l : List α) (i : Nat) (h : i < l.length) (o : OwnL L w) [k : Pull (big f l) L R] : OwnL (f l[i] :: big f (l.eraseIdx i) :: R) w :=
 ⟨(o.pull1 (A1 := big f l)).perm (by rw [big_at f l i h, Pr.star_assoc]; rfl)⟩
theorem OwnL.give {α : Type} (f : α → Pr) (l : List α) (i : Nat) (h : i < l.length) (y : α) (o : OwnL L w) {R2 : List Pr} [k : Pull (f y) L R] [k2 : Pull (big f (l.eraseIdx i)) R R2] : OwnL (big f (l.set i y) :: R2) w :=
 ⟨(o.pull2 (A1 := f y) (A2 := big f (l.eraseIdx i))).perm (by rw [← Pr.star_assoc, ← big_set f l i h y]; rfl)⟩
theorem OwnL.snoc {α : Type} (f : α → Pr) (l : List α) (y : α) (o : OwnL L w) {R2 : List Pr} [k : Pull (f y) L R] [k2 : Pull (big f l) R R2] : OwnL (big f (l ++ [y]) :: R2) w :=
 ⟨(o.pull2 (A1 := f y) (A2 := big f l)).perm (by rw [← Pr.star_assoc, ← big_snoc]; rfl)⟩
theorem OwnL.uncons {α : Type} (f : α → Pr) (x : α) (l : List α) (o : OwnL L w) [k : Pull (big f (x :: l)) L R] : OwnL (f x :: big f l :: R) w :=
 ⟨(o.pull1 (A1 := big f (x :: l))).perm (by rw [big_cons, Pr.star_assoc]; rfl)⟩
theorem OwnL.nothing {α : Type} (f : α → Pr) (o : OwnL L w) : OwnL (big f [] :: L) w := ⟨by show Sat (Pr.emp.star (starL L)) w; rw [Pr.emp_star]; exact o.sat⟩
theorem OwnL.emp (o : OwnL L w) : OwnL (Pr.emp :: L) w := ⟨by show Sat (Pr.emp.star (starL L)) w; rw [Pr.emp_star]; exact o.sat⟩
theorem OwnL.join2 {R2 : List Pr} (A B : Pr) (o : OwnL L w) [k : Pull A L R] [k2 : Pull B R R2] : OwnL (A.star B :: R2) w := ⟨(o.pull2 (A1 := A) (A2 := B)).perm (by rw [← Pr.star_assoc]; rfl)⟩
theorem OwnL.join3 {R2 R3 : List Pr} (A B C : Pr) (o : OwnL L w) [k : Pull A L R] [k2 : Pull B R R2] [k3 : Pull C R2 R3] : OwnL (A.star (B.star C) :: R3) w := ⟨(o.pull3 (A1 := A) (A2 := B) (A3 := C)).perm (by rw [← Pr.star_assoc, ← Pr.star_assoc, Pr.star_assoc A]; rfl)⟩
/-- A cell of a row of one-cell elements. -/
theorem Row.at1 {T : Nat} {a : Option Addr} {n c : Nat} {xs : List Value} (h : Sat ((Row T 1 (.slice a n c) n xs).star F) w) (i : Nat) (hi : i < n) :
 ∃ b u, a = some ⟨b, 0, none⟩ ∧ xs[i]? = some u ∧ w.cell? ⟨b, i, none⟩ = some u ∧ w.frozen? ⟨b, i, none⟩ = false ∧ b < w.heap.size := by
 obtain ⟨_, _, e, hl, hc⟩ := Row.read h
 cases e
 obtain ⟨b, eb, hd⟩ := hc (by omega)
 have h1 := (hd i (by omega)).1
 rw [List.getElem?_eq_getElem (by omega)] at h1
 exact ⟨b, _, eb, List.getElem?_eq_getElem (by omega), h1, (hd i (by omega)).2, World.block_lt_of_cell? _ _ h1⟩
theorem Row.put1 {T k b c n : Nat} {xs : List Value} (h : Sat ((Row T k (.slice (some ⟨b, 0, none⟩) n c) n xs).star F) w) (i : Nat) (hi : i < xs.length) (v : Value) :
 Sat ((Row T k (.slice (some ⟨b, 0, none⟩) n c) n (xs.set i v)).star F) (w.setCell ⟨b, i, none⟩ v) := by
 obtain ⟨hl, (⟨e, _, _⟩ | ⟨b', cap, sp, e, h1, h2, h3, h4⟩)⟩ := Row.open' h
 · cases e
 · cases e
   have h5 := h4.setCell (i := i) v
   refine Row.mk' (sp := sp) (by simpa using hl) (by simpa using h1) h2 h3 ?_
   have e6 : (xs.set i v ++ sp).toArray = (xs ++ sp).toArray.setIfInBounds i v := by
    rw [List.setIfInBounds_toArray, List.set_append_left _ _ hi]
   rw [e6]
   exact h5
theorem Row.shape {T k : Nat} {v : Value} {n : Nat} {xs : List Value} (h : Sat ((Row T k v n xs).star F) w) : ∃ a c, v = .slice a n c := by
 obtain ⟨a, c, e, _⟩ := Row.read h
 exact ⟨a, c, e⟩
end
theorem fresh_cells (w : World) (l : List Value) (T : TypeId) : ∀ j u, l[j]? = some u → (w.alloc (.cells l.toArray T)).cell? ((⟨w.heap.size, 0, none⟩ : Addr).add j) = some u := by
 intro j u hj
 rw [add_cell, cell_of_heap (heap_new _ _)]
 simpa using hj
theorem full_of {α : Type} {us cs : List α} (hl : us.length = cs.length) (h : ∀ i, i < cs.length → us[i]? = cs[i]?) : us = cs :=
 List.ext_getElem? fun i => by
  rcases Nat.lt_or_ge i cs.length with hi | hi
  · exact h i hi
  · rw [List.getElem?_eq_none (by omega), List.getElem?_eq_none hi]
theorem full_step {α : Type} {us cs : List α} {k : Nat} (hl : us.length = cs.length) (hk : k < cs.length) (h : ∀ i, i < k → us[i]? = cs[i]?) : ∀ i, i < k + 1 → (us.set k cs[k])[i]? = cs[i]? := by
 intro i hi
 by_cases he : i = k
 · subst he
   rw [List.getElem?_set_self (by omega), List.getElem?_eq_getElem hk]
 · rw [List.getElem?_set_ne (by omega)]
   exact h i (by omega)
end Go.Sl
