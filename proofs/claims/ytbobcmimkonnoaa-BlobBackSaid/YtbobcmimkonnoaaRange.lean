/- A range over a function, said by what its owner holds: the iterator's contract, and the law for the loop. Plain lemmas over any program. -/
import Derived.Test.YtbobcmimkonnoaaSl
import Derived.RangeFuncNested
import Derived.RangeFuncBound
import Derived.RangeFuncCalls
import Derived.RangeFuncLeaves
import Derived.Shelf.Abstract
import Derived.Shelf.RegionOpen
import Derived.OwnWalkIn
import Derived.TacticsInMore
import Derived.LoopNIn
import Derived.LoopIn
namespace Go.Sl
open Go.RowKit

theorem Sat.putObj {b : Nat} {o : Obj} {F : Pr} {w : World} (h : Sat ((Pr.pts b o).star F) w) (o' : Obj) : Sat ((Pr.pts b o').star F) (w.putObj b o') :=
  h.put (World.putObj_heap_same h.lt) (fun _ _ hk => World.putObj_heap_other hk)
theorem Stays.putObj {a w : World} (h : Stays a w) (b : Nat) (o : Obj) : Stays a (w.putObj b o) := h.trans ⟨rfl, rfl, rfl, by simp [World.putObj]⟩

theorem roundIn_any {n m : Nat} {P : Program} {l : Nat} {f : FuncId} {tmps : Array Value} {assign body : Code} {w : World} {R : Ending → World → Prop}
    (h : RoundIn Fence.wide n P l f tmps assign body w R) : RoundIn Fence.wide m P l f tmps assign body w R :=
  ⟨h.1, fun c cs _ => h.2 c cs (room_wide _)⟩

/-- What a closure that goes over elements does, whatever the loop's body does with J: Own is the closure's own. Ok: what it may hand over behind what; Done, Stop: what it has handed over when it has ended, when it has been stopped. -/
def IterG {α : Type} (P : Program) (g : Nat) (lb : Array Value) (encs : α → Array Value) (Ok : List α → α → Prop) (Done Stop : List α → Prop) (Own : Pr) : Prop :=
  ∀ (l : Nat) (J Jx : List α → Pr) (W : World),
    (∀ (Fr : Pr) pre x W1, Ok pre x → Sat (((J pre).star Own).star Fr) W1 → YieldAt Fence.wide 0 P l (encs x) W1 fun e W' =>
      Stays W1 W' ∧ ((e = .returned (.bool true) ∧ Sat (((J (pre ++ [x])).star Own).star Fr) W') ∨ (e = .returned (.bool false) ∧ Sat (((Jx (pre ++ [x])).star Own).star Fr) W'))) →
    Sat ((J []).star Own) W →
    Calls P g (#[.func (.yield l) #[] #[]] ++ lb) W fun e W' => (∃ v, e = .returned v) ∧ Stays W W' ∧ ((∃ xs, Done xs ∧ Sat ((J xs).star Own) W') ∨ ∃ pre, Stop pre ∧ Sat ((Jx pre).star Own) W')

/-- It goes over xs. -/
abbrev IterSl {α : Type} (P : Program) (g : Nat) (lb : Array Value) (encs : α → Array Value) (xs : List α) (Own : Pr) : Prop :=
  IterG P g lb encs (fun pre x => pre ++ [x] <+: xs) (fun ys => ys = xs) (fun pre => pre <+: xs) Own
/-- It goes over something. -/
abbrev IterAny {α : Type} (P : Program) (g : Nat) (lb : Array Value) (encs : α → Array Value) (Own : Pr) : Prop :=
  IterG P g lb encs (fun _ _ => True) (fun _ => True) (fun _ => True) Own

/-- The end of a round. -/
def roundEnd {α : Type} (I : List α → Pr) (Ix : Code → List α → Pr) (Own F : Pr) (pre : List α) (W : World) : Exit → Act → World → Prop
  | .normal, _, W' => Stays W W' ∧ Sat (((I pre).star Own).star F) W'
  | .ret, _, W' => Stays W W' ∧ Sat (((Ix .ret pre).star Own).star F) W'
  | .exit id, _, W' => Stays W W' ∧ Sat (((Ix (.exit id) pre).star Own).star F) W'
  | .goto t, _, W' => Stays W W' ∧ Sat (((Ix (.goto t) pre).star Own).star F) W'
  | .panic _, _, _ => False
  | .outgrown, _, _ => False

theorem wpIn_rangeFunc_sl {α : Type} {n : Nat} {P : Program} {g : Operand} {ps : Array Tmp} {assign body : Code} {Q : Exit → Act → World → Prop} {a : Act} {w : World}
    {gf : Nat} {lb : Array Value} (hg : a.eval g = .func (.func gf) #[] lb) (eg : ∀ args w, (callFunc gf args).run P w = .ok (.enter gf args) w)
    {encs : α → Array Value} {Ok : List α → α → Prop} {Done Stop : List α → Prop} {Own : Pr} (hit : IterG P gf lb encs Ok Done Stop Own) (hps : ∀ x, (encs x).size = ps.size)
    (I : List α → Pr) (Ix : Code → List α → Pr) (h0 : Sat ((I []).star Own) w)
    (hround : ∀ (l : Nat) (pre : List α) (x : α) (W : World) (F1 : Pr), Ok pre x → Sat (((I pre).star Own).star F1) W →
      assign.wpIn (Fence.wide.inRound l) (n - 1 - 1) P (Exit.then (fun a1 W1 => ∃ A1 : Pr, Stays W W1 ∧ Sat (A1.star F1) W1 ∧
          ∀ (F2 : Pr) (W2 : World), Stays W1 W2 → Sat (A1.star F2) W2 → body.wpIn (Fence.wide.inRound l) (n - 1 - 1) P (roundEnd I Ix Own F2 (pre ++ [x]) W2) a1 W2) (fun _ _ _ => False))
        { tmps := (ps.zip (encs x)).foldl (fun t (p, v) => t.setIfInBounds p v) a.tmps, defers := [] } W)
    (hdone : ∀ (D : Nat) (xs : List α) (W : World), Done xs → Stays w W → Sat (((I xs).star Own).star (Pr.pts D (.deferred (some [])))) W → Q .normal { a with defers := { target := .collected D, args := #[] } :: a.defers } W)
    (hstop : ∀ (D : Nat) (c : Code) (pre : List α) (W : World), Stop pre → Stays w W → Sat (((Ix c pre).star Own).star (Pr.pts D (.deferred (some [])))) W →
      c.wpIn Fence.wide n P Q { a with defers := { target := .collected D, args := #[] } :: a.defers } W) :
    (Code.rangeFunc g ps assign body).wpIn Fence.wide n P Q a w := by
  refine wpIn_rangeFunc ?_
  intro fn hfn
  obtain ⟨rec, hrec⟩ : ∃ rec : LoopState → Option Code → Loop, rec = fun st pe => { state := st, pending := pe, fn, tmps := a.tmps, params := ps, assign, body, defers := w.heap.size } := ⟨_, rfl⟩
  obtain ⟨W1, hW1⟩ : ∃ W1, (w.alloc (.deferred (some []))).alloc (.loop (rec .ready none)) = W1 := ⟨_, rfl⟩
  have hS1 : Sat ((Pr.pts (w.heap.size + 1) (.loop (rec .ready none))).star ((Pr.pts w.heap.size (.deferred (some []))).star ((I []).star Own))) W1 := by
    rw [← hW1]
    have := (h0.alloc (.deferred (some []))).alloc (.loop (rec .ready none))
    rwa [World.size_alloc] at this
  have hR1 : Stays w W1 := by rw [← hW1]; exact ((Stays.refl w).alloc _).alloc _
  refine ⟨w.heap.size + 1, [{ target := .collected w.heap.size, args := #[] }], W1, { target := .fn (.func gf) lb, args := #[.func (.yield (w.heap.size + 1)) #[] #[]] }, W1, gf,
    #[.func (.yield (w.heap.size + 1)) #[] #[]] ++ lb, W1, ?_, ?_, ?_, ?_, fun h => by simp [Fence.wide] at h, ?_⟩
  · rw [← hW1, hrec]; exact run_enterLoop_outer _ _ _ _ _
  · simp only [resolve, hg]
    simp [go_sem]
  · intro f' _; exact trivial
  · simp [invoke, go_sem, eg]
  · refine callsIn_wide.2 ((hit (w.heap.size + 1)
      (fun pre => (I pre).star ((Pr.pts (w.heap.size + 1) (.loop (rec .ready none))).star (Pr.pts w.heap.size (.deferred (some [])))))
      (fun pre => Pr.ex fun c => (Ix c pre).star ((Pr.pts (w.heap.size + 1) (.loop (rec .done (some c)))).star (Pr.pts w.heap.size (.deferred (some [])))))
      W1 ?_ (hS1.perm (by ac_rfl))).mono ?_)
    · intro Fr pre x W hpre hs
      have exr : ∀ (c : Code) {W' : World}, Sat (((Ix c (pre ++ [x])).star ((Pr.pts (w.heap.size + 1) (.loop (rec .done (some c)))).star (Pr.pts w.heap.size (.deferred (some []))))).star (Own.star Fr)) W' →
          Sat (((Pr.ex fun c => (Ix c (pre ++ [x])).star ((Pr.pts (w.heap.size + 1) (.loop (rec .done (some c)))).star (Pr.pts w.heap.size (.deferred (some []))))).star Own).star Fr) W' :=
        fun c W' h => Sat.perm (Sat.ex.2 ⟨c, h⟩) (Pr.star_assoc _ _ _).symm
      have hs1 : Sat ((Pr.pts (w.heap.size + 1) (.loop (rec .ready none))).star (((I pre).star Own).star ((Pr.pts w.heap.size (.deferred (some []))).star Fr))) W := hs.perm (by ac_rfl)
      have hl := hs1.pts_heap
      have hy := run_yield (P := P) (args := encs x) hl (by rw [hrec]; exact hps x)
      rw [hrec] at hy
      refine ⟨fn, _, assign, body, hy, roundIn_any (n := n - 1 - 1) (roundIn_of_wpIn hfn ?_)⟩
      refine wpIn_mono (hround (w.heap.size + 1) pre x W ((Pr.pts (w.heap.size + 1) (.loop (rec .ready none))).star ((Pr.pts w.heap.size (.deferred (some []))).star Fr)) hpre (hs1.perm (by ac_rfl))) ?_
      rintro e a1 W2 hp
      cases e with
      | normal =>
        obtain ⟨A1, hR2, hs2, hb⟩ := hp
        have hs3 : Sat ((Pr.pts (w.heap.size + 1) (.loop (rec .ready none))).star (A1.star ((Pr.pts w.heap.size (.deferred (some []))).star Fr))) W2 := hs2.perm (by ac_rfl)
        refine ⟨_, run_beginRound hs3.pts_heap (by rw [hrec]), ?_⟩
        have hs4 := hs3.putObj (.loop { rec .ready none with state := .busy })
        refine wpIn_mono (hb ((Pr.pts (w.heap.size + 1) (.loop { rec .ready none with state := .busy })).star ((Pr.pts w.heap.size (.deferred (some []))).star Fr)) _ ((Stays.refl W2).putObj _ _) (hs4.perm (by ac_rfl))) ?_
        have fin : ∀ (jump : Option Code) (B : Pr) (W3 : World), Sat (B.star ((Pr.pts (w.heap.size + 1) (.loop { rec .ready none with state := .busy })).star ((Pr.pts w.heap.size (.deferred (some []))).star Fr))) W3 →
            (Instr.endRound (w.heap.size + 1) jump).run P W3 = .ok (.bool jump.isNone) (W3.putObj (w.heap.size + 1) (.loop (rec (if jump.isNone then .ready else .done) jump))) ∧
            Sat (B.star ((Pr.pts (w.heap.size + 1) (.loop (rec (if jump.isNone then .ready else .done) jump))).star ((Pr.pts w.heap.size (.deferred (some []))).star Fr))) (W3.putObj (w.heap.size + 1) (.loop (rec (if jump.isNone then .ready else .done) jump))) := fun jump B W3 h3 => by
          have h4 : Sat ((Pr.pts (w.heap.size + 1) (.loop { rec .ready none with state := .busy })).star (B.star ((Pr.pts w.heap.size (.deferred (some []))).star Fr))) W3 := h3.perm (by ac_rfl)
          have := run_endRound (P := P) jump h4.pts_heap
          rw [hrec] at this ⊢
          exact ⟨this, (h4.putObj _).perm (by ac_rfl)⟩
        have hRb : Stays W W2 := hR2
        rintro e a3 W3 hp3
        cases e with
        | normal =>
          obtain ⟨hR3, hs5⟩ := hp3
          obtain ⟨hr, hs6⟩ := fin none _ W3 hs5
          exact ⟨_, _, hr, (hRb.trans (((Stays.refl W2).putObj _ _).trans hR3)).putObj _ _, .inl ⟨rfl, hs6.perm (by ac_rfl)⟩⟩
        | ret =>
          obtain ⟨hR3, hs5⟩ := hp3
          obtain ⟨hr, hs6⟩ := fin (some .ret) _ W3 hs5
          exact ⟨_, _, hr, (hRb.trans (((Stays.refl W2).putObj _ _).trans hR3)).putObj _ _, .inr ⟨rfl, exr .ret (hs6.perm (by ac_rfl))⟩⟩
        | exit id =>
          obtain ⟨hR3, hs5⟩ := hp3
          obtain ⟨hr, hs6⟩ := fin (some (.exit id)) _ W3 hs5
          exact ⟨_, _, hr, (hRb.trans (((Stays.refl W2).putObj _ _).trans hR3)).putObj _ _, .inr ⟨rfl, exr (.exit id) (hs6.perm (by ac_rfl))⟩⟩
        | goto t =>
          obtain ⟨hR3, hs5⟩ := hp3
          obtain ⟨hr, hs6⟩ := fin (some (.goto t)) _ W3 hs5
          exact ⟨_, _, hr, (hRb.trans (((Stays.refl W2).putObj _ _).trans hR3)).putObj _ _, .inr ⟨rfl, exr (.goto t) (hs6.perm (by ac_rfl))⟩⟩
        | panic ch => exact hp3.elim
        | outgrown => exact hp3.elim
      | ret => exact hp.elim
      | exit id => exact hp.elim
      | goto t => exact hp.elim
      | panic ch => exact hp.elim
      | outgrown => exact hp.elim
    · rintro e W2 ⟨⟨v, rfl⟩, hR2, (⟨xs, hxs, hs2⟩ | ⟨pre, hpre, hs2⟩)⟩
      · have hs3 : Sat ((Pr.pts (w.heap.size + 1) (.loop (rec .ready none))).star (((I xs).star Own).star (Pr.pts w.heap.size (.deferred (some []))))) W2 := hs2.perm (by ac_rfl)
        have hs4 := hs3.putObj (.loop { rec .ready none with state := .exhausted })
        refine ⟨none, _, by have := run_endLoop (P := P) hs3.pts_heap (by rw [hrec]; simp); rw [hrec] at this; exact this, hdone w.heap.size xs _ hxs ((hR1.trans hR2).putObj _ _) ?_⟩
        rw [hrec] at hs4; exact hs4.right
      · obtain ⟨c, hs2⟩ := Sat.ex.1 hs2
        have hs3 : Sat ((Pr.pts (w.heap.size + 1) (.loop (rec .done (some c)))).star (((Ix c pre).star Own).star (Pr.pts w.heap.size (.deferred (some []))))) W2 := hs2.perm (by ac_rfl)
        have hs4 := hs3.putObj (.loop { rec .done (some c) with state := .exhausted })
        refine ⟨some c, _, by have := run_endLoop (P := P) hs3.pts_heap (by rw [hrec]; simp); rw [hrec] at this; exact this, hstop w.heap.size c pre _ hpre ((hR1.trans hR2).putObj _ _) ?_⟩
        rw [hrec] at hs4; exact hs4.right

/-- At a call of the loop's own body. -/
theorem at_yield {n : Nat} {P : Program} {o : Oper} {a : Act} {next : Act → World → Prop} {Q : Exit → Act → World → Prop} {l : Nat} {args : Array Value} {W : World} {R : Ending → World → Prop}
    (hy : YieldAt Fence.wide 0 P l args W R) (hR : ∀ e w', R e w' → ∃ v, e = .returned v ∧ next (a.put o.dst v) w') : Oper.uponIn Fence.wide n P o a next Q ((Instr.yield l args).run P W) := by
  obtain ⟨fn, tmps, assign, body, hrun, hround⟩ := hy
  rw [hrun]
  refine ⟨fun h => by simp [Fence.wide] at h, (roundIn_any hround).mono ?_⟩
  intro e w' he
  obtain ⟨v, rfl, hk⟩ := hR e w' he
  exact hk

theorem at_yield_in {n k : Nat} {P : Program} {o : Oper} {a : Act} {next : Act → World → Prop} {Q : Exit → Act → World → Prop} {l : Nat} {args : Array Value} {W : World} {R : Ending → World → Prop}
    (hy : YieldAt Fence.wide 0 P l args W R) (hR : ∀ e w', R e w' → ∃ v, e = .returned v ∧ next (a.put o.dst v) w') : Oper.uponIn (Fence.wide.inRound k) n P o a next Q ((Instr.yield l args).run P W) := by
  obtain ⟨fn, tmps, assign, body, hrun, hround⟩ := hy
  rw [hrun]
  refine ⟨fun h => by simp [Fence.wide, Fence.inRound] at h, ((roundIn_any hround : RoundIn Fence.wide (n - 1) P l fn tmps assign body W R) : RoundIn (Fence.wide.inRound k) (n - 1) P l fn tmps assign body W R).mono ?_⟩
  intro e w' he
  obtain ⟨v, rfl, hk⟩ := hR e w' he
  exact hk

theorem marks_ret0 {F : Fence} {n : Nat} {P : Program} {fn : Func} {R : Ending → World → Prop} {a : Act} {w : World} (hd : a.defers = [])
    (h : ∃ v, (results fn a.tmps).run P w = .ok v w ∧ R (.returned v) w) : bodyPostM F n P fn R .ret a w := by
  show LeavesInM F n P fn a.tmps R a.defers .returning w
  rw [hd]
  exact h

theorem marks_ret1 {F : Fence} {n : Nat} {P : Program} {fn : Func} {R : Ending → World → Prop} {a : Act} {w : World} {D : Nat} (hd : a.defers = [{ target := .collected D, args := #[] }])
    (hD : w.heap[D]? = some (.deferred (some []))) (h : ∃ v, (results fn a.tmps).run P (w.putObj D (.deferred none)) = .ok v (w.putObj D (.deferred none)) ∧ R (.returned v) (w.putObj D (.deferred none))) :
    bodyPostM F n P fn R .ret a w := by
  show LeavesInM F n P fn a.tmps R a.defers .returning w
  rw [hd]
  exact ⟨by simp, .inl ⟨_, _, rfl, run_takeDeferred hD, h⟩⟩

theorem marks_end1 {F : Fence} {n : Nat} {P : Program} {fn : Func} {R : Ending → World → Prop} {a : Act} {w : World} {D : Nat} (hd : a.defers = [{ target := .collected D, args := #[] }])
    (hD : w.heap[D]? = some (.deferred (some []))) (h : ∃ v, (results fn a.tmps).run P (w.putObj D (.deferred none)) = .ok v (w.putObj D (.deferred none)) ∧ R (.returned v) (w.putObj D (.deferred none))) :
    bodyPostM F n P fn R .normal a w := marks_ret1 (F := F) (n := n) hd hD h

theorem calls_of_wp_marks {n : Nat} {P : Program} {f : FuncId} {fn : Func} {c : Code} {args : Array Value} {w : World} {R : Ending → World → Prop}
    (hf : P.funcs[f]? = some fn) (hb : fn.body = some c)
    (h : c.wp P (bodyPostM Fence.wide n P fn R) { tmps := args ++ Array.replicate (fn.ntmps - args.size) undef, defers := [] } w) : Calls P f args w R :=
  (callsIn_wide (n := n)).1 (callsIn_of_wp_marks hf hb trivial (wpIn_wide.2 h))

theorem wp_rangeFunc_sl {α : Type} (n : Nat) {P : Program} {g : Operand} {ps : Array Tmp} {assign body : Code} {Q : Exit → Act → World → Prop} {a : Act} {w : World}
    {gf : Nat} {lb : Array Value} (hg : a.eval g = .func (.func gf) #[] lb) (eg : ∀ args w, (callFunc gf args).run P w = .ok (.enter gf args) w)
    {encs : α → Array Value} {Ok : List α → α → Prop} {Done Stop : List α → Prop} {Own : Pr} (hit : IterG P gf lb encs Ok Done Stop Own) (hps : ∀ x, (encs x).size = ps.size)
    (I : List α → Pr) (Ix : Code → List α → Pr) (h0 : Sat ((I []).star Own) w)
    (hround : ∀ (l : Nat) (pre : List α) (x : α) (W : World) (F1 : Pr), Ok pre x → Sat (((I pre).star Own).star F1) W →
      assign.wpIn (Fence.wide.inRound l) (n - 1 - 1) P (Exit.then (fun a1 W1 => ∃ A1 : Pr, Stays W W1 ∧ Sat (A1.star F1) W1 ∧
          ∀ (F2 : Pr) (W2 : World), Stays W1 W2 → Sat (A1.star F2) W2 → body.wpIn (Fence.wide.inRound l) (n - 1 - 1) P (roundEnd I Ix Own F2 (pre ++ [x]) W2) a1 W2) (fun _ _ _ => False))
        { tmps := (ps.zip (encs x)).foldl (fun t (p, v) => t.setIfInBounds p v) a.tmps, defers := [] } W)
    (hdone : ∀ (D : Nat) (xs : List α) (W : World), Done xs → Stays w W → Sat (((I xs).star Own).star (Pr.pts D (.deferred (some [])))) W → Q .normal { a with defers := { target := .collected D, args := #[] } :: a.defers } W)
    (hstop : ∀ (D : Nat) (c : Code) (pre : List α) (W : World), Stop pre → Stays w W → Sat (((Ix c pre).star Own).star (Pr.pts D (.deferred (some [])))) W →
      c.wp P Q { a with defers := { target := .collected D, args := #[] } :: a.defers } W) :
    (Code.rangeFunc g ps assign body).wp P Q a w :=
  wpIn_wide.1 (wpIn_rangeFunc_sl (n := n) hg eg hit hps I Ix h0 hround hdone (fun D c pre W h1 h2 h3 => wpIn_wide.2 (hstop D c pre W h1 h2 h3)))
end Go.Sl
