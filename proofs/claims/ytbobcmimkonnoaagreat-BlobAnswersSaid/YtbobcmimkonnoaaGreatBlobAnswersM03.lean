/- A range over a function, said by what its owner holds: the iterator's contract, and the law for the loop. Plain lemmas over any program. -/
import Derived.Test.YtbobcmimkonnoaaGreatBlobAnswersM01
import Derived.RangeFuncNested
import Derived.RangeFuncBound
import Derived.RangeFuncCalls
import Derived.RangeFuncLeaves
import Derived.Shelf.Abstract
import Derived.Shelf.RegionOpen
import Derived.OwnWalkIn
import Derived.TacticsInMore
import Derived.LoopNIn
import Derived.LoopIn
import Derived.Test.YtbobcmimkonnoaaGreatBlobAnswersM02
import Derived.Lib.Hide
import Derived.Lib.SliceRun
import Derived.BigFrame
import Derived.BigQuiet
import Derived.Lib.Bytealg
import Derived.Lib.BytesEntry
namespace Go.Sl
open Go.RowKit
theorem Sat.putObj {b : Nat} {o : Obj} {F : Pr} {w : World} (h : Sat ((Pr.pts b o).star F) w) (o' : Obj) : Sat ((Pr.pts b o').star F) (w.putObj b o') :=
 h.put (World.putObj_heap_same h.lt) (fun _ _ hk => World.putObj_heap_other hk)
theorem Stays.putObj {a w : World} (h : Stays a w) (b : Nat) (o : Obj) : Stays a (w.putObj b o) := h.trans ⟨rfl, rfl, rfl, by simp [World.putObj]⟩
theorem roundIn_any {n m : Nat} {P : Program} {l : Nat} {f : FuncId} {tmps : Array Value} {assign body : Code} {w : World} {R : Ending → World → Prop}
 (h : RoundIn Fence.wide n P l f tmps assign body w R) : RoundIn Fence.wide m P l f tmps assign body w R :=
 ⟨h.1, fun c cs _ => h.2 c cs (room_wide _)⟩
/-- What a closure that goes over elements does, whatever the loop's body does with J: Own is the closure's own. Ok: what it may hand over behind what; Done, Stop: what it has handed over when it has ended, when it has been stopped. -/
def IterG {α : Type} (P : Program) (g : Nat) (lb : Array Value) (encs : α → Array Value) (Ok : List α → α → Prop) (Done Stop : List α → Prop) (Own : Pr) : Prop :=
 ∀ (l : Nat) (J Jx : List α → Pr) (W : World),
  (∀ (Fr : Pr) pre x W1, Ok pre x → Sat (((J pre).star Own).star Fr) W1 → YieldAt Fence.wide 0 P l (encs x) W1 fun e W' =>
   Stays W1 W' ∧ ((e = .returned (.bool true) ∧ Sat (((J (pre ++ [x])).star Own).star Fr) W') ∨ (e = .returned (.bool false) ∧ Sat (((Jx (pre ++ [x])).star Own).star Fr) W'))) →
  Sat ((J []).star Own) W →
  Calls P g (#[.func (.yield l) #[] #[]] ++ lb) W fun e W' => (∃ v, e = .returned v) ∧ Stays W W' ∧ ((∃ xs, Done xs ∧ Sat ((J xs).star Own) W') ∨ ∃ pre, Stop pre ∧ Sat ((Jx pre).star Own) W')
/-- It goes over xs. -/
abbrev IterSl {α : Type} (P : Program) (g : Nat) (lb : Array Value) (encs : α → Array Value) (xs : List α) (Own : Pr) : Prop :=
 IterG P g lb encs (fun pre x => pre ++ [x] <+: xs) (fun ys => ys = xs) (fun pre => pre <+: xs) Own
/-- It goes over something. -/
abbrev IterAny {α : Type} (P : Program) (g : Nat) (lb : Array Value) (encs : α → Array Value) (Own : Pr) : Prop :=
 IterG P g lb encs (fun _ _ => True) (fun _ => True) (fun _ => True) Own
/-- The end of a round. -/
def roundEnd {α : Type} (I : List α → Pr) (Ix : Code → List α → Pr) (Own F : Pr) (pre : List α) (W : World) : Exit → Act → World → Prop
 | .normal, _, W' => Stays W W' ∧ Sat (((I pre).star Own).star F) W'
 | .ret, _, W' => Stays W W' ∧ Sat (((Ix .ret pre).star Own).star F) W'
 | .exit id, _, W' => Stays W W' ∧ Sat (((Ix (.exit id) pre).star Own).star F) W'
 | .goto t, _, W' => Stays W W' ∧ Sat (((Ix (.goto t) pre).star Own).star F) W'
 | .panic _, _, _ => False
 | .outgrown, _, _ => False
theorem wpIn_rangeFunc_sl {α : Type} {n : Nat} {P : Program} {g : Operand} {ps : Array Tmp} {assign body : Code} {Q : Exit → Act → World → Prop} {a : Act} {w : World}
    {gf : Nat} {lb : Array Value} (hg : a.eval g = .func (.func gf) #[] lb) (eg : ∀ args w, (callFunc gf args).run P w = .ok (.enter gf args) w)
    {encs : α → Array Value} {Ok : List α → α → Prop} {Done Stop : List α → Prop} {Own : Pr} (hit : IterG P gf lb encs Ok Done Stop Own) (hps : ∀ x, (encs x).size = ps.size)
    (I : List α → Pr) (Ix : Code → List α → Pr) (h0 : Sat ((I []).star Own) w)
    (hround : ∀ (l : Nat) (pre : List α) (x : α) (W : World) (F1 : Pr), Ok pre x → Sat (((I pre).star Own).star F1) W →
      assign.wpIn (Fence.wide.inRound l) (n - 1 - 1) P (Exit.then (fun a1 W1 => ∃ A1 : Pr, Stays W W1 ∧ Sat (A1.star F1) W1 ∧
          ∀ (F2 : Pr) (W2 : World), Stays W1 W2 → Sat (A1.star F2) W2 → body.wpIn (Fence.wide.inRound l) (n - 1 - 1) P (roundEnd I Ix Own F2 (pre ++ [x]) W2) a1 W2) (fun _ _ _ => False))
        { tmps := (ps.zip (encs x)).foldl (fun t (p, v) => t.setIfInBounds p v) a.tmps, defers := [] } W)
    (hdone : ∀ (D : Nat) (xs : List α) (W : World), Done xs → Stays w W → Sat (((I xs).star Own).star (Pr.pts D (.deferred (some [])))) W → Q .normal { a with defers := { target := .collected D, args := #[] } :: a.defers } W)
    (hstop : ∀ (D : Nat) (c : Code) (pre : List α) (W : World), Stop pre → Stays w W → Sat (((Ix c pre).star Own).star (Pr.pts D (.deferred (some [])))) W →
      c.wpIn Fence.wide n P Q { a with defers := { target := .collected D, args := #[] } :: a.defers } W) :
    (Code.rangeFunc g ps assign body).wpIn Fence.wide n P Q a w := by
  refine wpIn_rangeFunc ?_
  intro fn hfn
  obtain ⟨rec, hrec⟩ : ∃ rec : LoopState → Option Code → Loop, rec = fun st pe => { state := st, pending := pe, fn, tmps := a.tmps, params := ps, assign, body, defers := w.heap.size } := ⟨_, rfl⟩
  obtain ⟨W1, hW1⟩ : ∃ W1, (w.alloc (.deferred (some []))).alloc (.loop (rec .ready none)) = W1 := ⟨_, rfl⟩
  have hS1 : Sat ((Pr.pts (w.heap.size + 1) (.loop (rec .ready none))).star ((Pr.pts w.heap.size (.deferred (some []))).star ((I []).star Own))) W1 := by
    rw [← hW1]
    have := (h0.alloc (.deferred (some []))).alloc (.loop (rec .ready none))
    rwa [World.size_alloc] at this
  have hR1 : Stays w W1 := by rw [← hW1]; exact ((Stays.refl w).alloc _).alloc _
  refine ⟨w.heap.size + 1, [{ target := .collected w.heap.size, args := #[] }], W1, { target := .fn (.func gf) lb, args := #[.func (.yield (w.heap.size + 1)) #[] #[]] }, W1, gf,
    #[.func (.yield (w.heap.size + 1)) #[] #[]] ++ lb, W1, ?_, ?_, ?_, ?_, fun h => by simp [Fence.wide] at h, ?_⟩
  · rw [← hW1, hrec]; exact run_enterLoop_outer _ _ _ _ _
  · simp only [resolve, hg]
    simp [go_sem]
  · intro f' _; exact trivial
  · simp [invoke, go_sem, eg]
  · refine callsIn_wide.2 ((hit (w.heap.size + 1)
      (fun pre => (I pre).star ((Pr.pts (w.heap.size + 1) (.loop (rec .ready none))).star (Pr.pts w.heap.size (.deferred (some [])))))
      (fun pre => Pr.ex fun c => (Ix c pre).star ((Pr.pts (w.heap.size + 1) (.loop (rec .done (some c)))).star (Pr.pts w.heap.size (.deferred (some [])))))
      W1 ?_ (hS1.perm (by ac_rfl))).mono ?_)
    · intro Fr pre x W hpre hs
      have exr : ∀ (c : Code) {W' : World}, Sat (((Ix c (pre ++ [x])).star ((Pr.pts (w.heap.size + 1) (.loop (rec .done (some c)))).star (Pr.pts w.heap.size (.deferred (some []))))).star (Own.star Fr)) W' →
          Sat (((Pr.ex fun c => (Ix c (pre ++ [x])).star ((Pr.pts (w.heap.size + 1) (.loop (rec .done (some c)))).star (Pr.pts w.heap.size (.deferred (some []))))).star Own).star Fr) W' :=
        fun c W' h => Sat.perm (Sat.ex.2 ⟨c, h⟩) (Pr.star_assoc _ _ _).symm
      have hs1 : Sat ((Pr.pts (w.heap.size + 1) (.loop (rec .ready none))).star (((I pre).star Own).star ((Pr.pts w.heap.size (.deferred (some []))).star Fr))) W := hs.perm (by ac_rfl)
      have hl := hs1.pts_heap
      have hy := run_yield (P := P) (args := encs x) hl (by rw [hrec]; exact hps x)
      rw [hrec] at hy
      refine ⟨fn, _, assign, body, hy, roundIn_any (n := n - 1 - 1) (roundIn_of_wpIn hfn ?_)⟩
      refine wpIn_mono (hround (w.heap.size + 1) pre x W ((Pr.pts (w.heap.size + 1) (.loop (rec .ready none))).star ((Pr.pts w.heap.size (.deferred (some []))).star Fr)) hpre (hs1.perm (by ac_rfl))) ?_
      rintro e a1 W2 hp
      cases e with
      | normal =>
        obtain ⟨A1, hR2, hs2, hb⟩ := hp
        have hs3 : Sat ((Pr.pts (w.heap.size + 1) (.loop (rec .ready none))).star (A1.star ((Pr.pts w.heap.size (.deferred (some []))).star Fr))) W2 := hs2.perm (by ac_rfl)
        refine ⟨_, run_beginRound hs3.pts_heap (by rw [hrec]), ?_⟩
        have hs4 := hs3.putObj (.loop { rec .ready none with state := .busy })
        refine wpIn_mono (hb ((Pr.pts (w.heap.size + 1) (.loop { rec .ready none with state := .busy })).star ((Pr.pts w.heap.size (.deferred (some []))).star Fr)) _ ((Stays.refl W2).putObj _ _) (hs4.perm (by ac_rfl))) ?_
        have fin : ∀ (jump : Option Code) (B : Pr) (W3 : World), Sat (B.star ((Pr.pts (w.heap.size + 1) (.loop { rec .ready none with state := .busy })).star ((Pr.pts w.heap.size (.deferred (some []))).star Fr))) W3 →
            (Instr.endRound (w.heap.size + 1) jump).run P W3 = .ok (.bool jump.isNone) (W3.putObj (w.heap.size + 1) (.loop (rec (if jump.isNone then .ready else .done) jump))) ∧
            Sat (B.star ((Pr.pts (w.heap.size + 1) (.loop (rec (if jump.isNone then .ready else .done) jump))).star ((Pr.pts w.heap.size (.deferred (some []))).star Fr))) (W3.putObj (w.heap.size + 1) (.loop (rec (if jump.isNone then .ready else .done) jump))) := fun jump B W3 h3 => by
          have h4 : Sat ((Pr.pts (w.heap.size + 1) (.loop { rec .ready none with state := .busy })).star (B.star ((Pr.pts w.heap.size (.deferred (some []))).star Fr))) W3 := h3.perm (by ac_rfl)
          have := run_endRound (P := P) jump h4.pts_heap
          rw [hrec] at this ⊢
          exact ⟨this, (h4.putObj _).perm (by ac_rfl)⟩
        have hRb : Stays W W2 := hR2
        rintro e a3 W3 hp3
        cases e with
        | normal =>
          obtain ⟨hR3, hs5⟩ := hp3
          obtain ⟨hr, hs6⟩ := fin none _ W3 hs5
          exact ⟨_, _, hr, (hRb.trans (((Stays.refl W2).putObj _ _).trans hR3)).putObj _ _, .inl ⟨rfl, hs6.perm (by ac_rfl)⟩⟩
        | ret =>
          obtain ⟨hR3, hs5⟩ := hp3
          obtain ⟨hr, hs6⟩ := fin (some .ret) _ W3 hs5
          exact ⟨_, _, hr, (hRb.trans (((Stays.refl W2).putObj _ _).trans hR3)).putObj _ _, .inr ⟨rfl, exr .ret (hs6.perm (by ac_rfl))⟩⟩
        | exit id =>
          obtain ⟨hR3, hs5⟩ := hp3
          obtain ⟨hr, hs6⟩ := fin (some (.exit id)) _ W3 hs5
          exact ⟨_, _, hr, (hRb.trans (((Stays.refl W2).putObj _ _).trans hR3)).putObj _ _, .inr ⟨rfl, exr (.exit id) (hs6.perm (by ac_rfl))⟩⟩
        | goto t =>
          obtain ⟨hR3, hs5⟩ := hp3
          obtain ⟨hr, hs6⟩ := fin (some (.goto t)) _ W3 hs5
          exact ⟨_, _, hr, (hRb.trans (((Stays.refl W2).putObj _ _).trans hR3)).putObj _ _, .inr ⟨rfl, exr (.goto t) (hs6.perm (by ac_rfl))⟩⟩
        | panic ch => exact hp3.elim
        | outgrown => exact hp3.elim
      | ret => exact hp.elim
      | exit id => exact hp.elim
      | goto t => exact hp.elim
      | panic ch => exact hp.elim
      | outgrown => exact hp.elim
    · rintro e W2 ⟨⟨v, rfl⟩, hR2, (⟨xs, hxs, hs2⟩ | ⟨pre, hpre, hs2⟩)⟩
      · have hs3 : Sat ((Pr.pts (w.heap.size + 1) (.loop (rec .ready none))).star (((I xs).star Own).star (Pr.pts w.heap.size (.deferred (some []))))) W2 := hs2.perm (by ac_rfl)
        have hs4 := hs3.putObj (.loop { rec .ready none with state := .exhausted })
        refine ⟨none, _, by have := run_endLoop (P := P) hs3.pts_heap (by rw [hrec]; simp); rw [hrec] at this; exact this, hdone w.heap.size xs _ hxs ((hR1.trans hR2).putObj _ _) ?_⟩
        rw [hrec] at hs4; exact hs4.right
      · obtain ⟨c, hs2⟩ := Sat.ex.1 hs2
        have hs3 : Sat ((Pr.pts (w.heap.size + 1) (.loop (rec .done (some c)))).star (((Ix c pre).star Own).star (Pr.pts w.heap.size (.deferred (some []))))) W2 := hs2.perm (by ac_rfl)
        have hs4 := hs3.putObj (.loop { rec .done (some c) with state := .exhausted })
        refine ⟨some c, _, by have := run_endLoop (P := P) hs3.pts_heap (by rw [hrec]; simp); rw [hrec] at this; exact this, hstop w.heap.size c pre _ hpre ((hR1.trans hR2).putObj _ _) ?_⟩
        rw [hrec] at hs4; exact hs4.right
/-- At a call of the loop's own body. -/
theorem at_yield {n : Nat} {P : Program} {o : Oper} {a : Act} {next : Act → World → Prop} {Q : Exit → Act → World → Prop} {l : Nat} {args : Array Value} {W : World} {R : Ending → World → Prop}
 (hy : YieldAt Fence.wide 0 P l args W R) (hR : ∀ e w', R e w' → ∃ v, e = .returned v ∧ next (a.put o.dst v) w') : Oper.uponIn Fence.wide n P o a next Q ((Instr.yield l args).run P W) := by
 obtain ⟨fn, tmps, assign, body, hrun, hround⟩ := hy
 rw [hrun]
 refine ⟨fun h => by simp [Fence.wide] at h, (roundIn_any hround).mono ?_⟩
 intro e w' he
 obtain ⟨v, rfl, hk⟩ := hR e w' he
 exact hk
theorem at_yield_in {n k : Nat} {P : Program} {o : Oper} {a : Act} {next : Act → World → Prop} {Q : Exit → Act → World → Prop} {l : Nat} {args : Array Value} {W : World} {R : Ending → World → Prop}
 (hy : YieldAt Fence.wide 0 P l args W R) (hR : ∀ e w', R e w' → ∃ v, e = .returned v ∧ next (a.put o.dst v) w') : Oper.uponIn (Fence.wide.inRound k) n P o a next Q ((Instr.yield l args).run P W) := by
 obtain ⟨fn, tmps, assign, body, hrun, hround⟩ := hy
 rw [hrun]
 refine ⟨fun h => by simp [Fence.wide, Fence.inRound] at h, ((roundIn_any hround : RoundIn Fence.wide (n - 1) P l fn tmps assign body W R) : RoundIn (Fence.wide.inRound k) (n - 1) P l fn tmps assign body W R).mono ?_⟩
 intro e w' he
 obtain ⟨v, rfl, hk⟩ := hR e w' he
 exact hk
theorem marks_ret1 {F : Fence} {n : Nat} {P : Program} {fn : Func} {R : Ending → World → Prop} {a : Act} {w : World} {D : Nat} (hd : a.defers = [{ target := .collected D, args := #[] }])
 (hD : w.heap[D]? = some (.deferred (some []))) (h : ∃ v, (results fn a.tmps).run P (w.putObj D (.deferred none)) = .ok v (w.putObj D (.deferred none)) ∧ R (.returned v) (w.putObj D (.deferred none))) :
 bodyPostM F n P fn R .ret a w := by
 show LeavesInM F n P fn a.tmps R a.defers .returning w
 rw [hd]
 exact ⟨by simp, .inl ⟨_, _, rfl, run_takeDeferred hD, h⟩⟩
theorem marks_end1 {F : Fence} {n : Nat} {P : Program} {fn : Func} {R : Ending → World → Prop} {a : Act} {w : World} {D : Nat} (hd : a.defers = [{ target := .collected D, args := #[] }])
 (hD : w.heap[D]? = some (.deferred (some []))) (h : ∃ v, (results fn a.tmps).run P (w.putObj D (.deferred none)) = .ok v (w.putObj D (.deferred none)) ∧ R (.returned v) (w.putObj D (.deferred none))) :
 bodyPostM F n P fn R .normal a w := marks_ret1 (F := F) (n := n) hd hD h
theorem calls_of_wp_marks {n : Nat} {P : Program} {f : FuncId} {fn : Func} {c : Code} {args : Array Value} {w : World} {R : Ending → World → Prop}
 (hf : P.funcs[f]? = some fn) (hb : fn.body = some c)
 (h : c.wp P (bodyPostM Fence.wide n P fn R) { tmps := args ++ Array.replicate (fn.ntmps - args.size) undef, defers := [] } w) : Calls P f args w R :=
 (callsIn_wide (n := n)).1 (callsIn_of_wp_marks hf hb trivial (wpIn_wide.2 h))
theorem wp_rangeFunc_sl {α : Type} (n : Nat) {P : Program} {g : Operand} {ps : Array Tmp} {assign body : Code} {Q : Exit → Act → World → Prop} {a : Act} {w : World}
 {gf : Nat} {lb : Array Value} (hg : a.eval g = .func (.func gf) #[] lb) (eg : ∀ args w, (callFunc gf args).run P w = .ok (.enter gf args) w)
 {encs : α → Array Value} {Ok : List α → α → Prop} {Done Stop : List α → Prop} {Own : Pr} (hit : IterG P gf lb encs Ok Done Stop Own) (hps : ∀ x, (encs x).size = ps.size)
 (I : List α → Pr) (Ix : Code → List α → Pr) (h0 : Sat ((I []).star Own) w)
 (hround : ∀ (l : Nat) (pre : List α) (x : α) (W : World) (F1 : Pr), Ok pre x → Sat (((I pre).star Own).star F1) W →
  assign.wpIn (Fence.wide.inRound l) (n - 1 - 1) P (Exit.then (fun a1 W1 => ∃ A1 : Pr, Stays W W1 ∧ Sat (A1.star F1) W1 ∧
   ∀ (F2 : Pr) (W2 : World), Stays W1 W2 → Sat (A1.star F2) W2 → body.wpIn (Fence.wide.inRound l) (n - 1 - 1) P (roundEnd I Ix Own F2 (pre ++ [x]) W2) a1 W2) (fun _ _ _ => False))
   { tmps := (ps.zip (encs x)).foldl (fun t (p, v) => t.setIfInBounds p v) a.tmps, defers := [] } W)
 (hdone : ∀ (D : Nat) (xs : List α) (W : World), Done xs → Stays w W → Sat (((I xs).star Own).star (Pr.pts D (.deferred (some [])))) W → Q .normal { a with defers := { target := .collected D, args := #[] } :: a.defers } W)
 (hstop : ∀ (D : Nat) (c : Code) (pre : List α) (W : World), Stop pre → Stays w W → Sat (((Ix c pre).star Own).star (Pr.pts D (.deferred (some [])))) W →
  c.wp P Q { a with defers := { target := .collected D, args := #[] } :: a.defers } W) :
 (Code.rangeFunc g ps assign body).wp P Q a w :=
 wpIn_wide.1 (wpIn_rangeFunc_sl (n := n) hg eg hit hps I Ix h0 hround hdone (fun D c pre W h1 h2 h3 => wpIn_wide.2 (hstop D c pre W h1 h2 h3)))
end Go.Sl
namespace Go.Proofs.YtbobcmimkonnoaaGreat.clone
open ChangeShapes WideShapes ChangeAt RowKit Sl Cop
theorem infoByte : (Tryz.prog.info? 5).map (fun i => (i.zero, i.size, i.bytes)) = some (some (.int .u8 0), 1, 1) := by kernel_rfl
theorem infoInt : (Tryz.prog.info? 3).map (fun i => (i.zero, i.size, i.bytes)) = some (some (.int .i64 0), 1, 8) := by kernel_rfl
abbrev byteV (b : Int) : Value := .int .u8 b
abbrev Bytes (h : Hp) (v : Value) (l : List Int) : Prop := RowIn h 1 v l.length (l.map (Value.int .u8))
abbrev BytesRow (v : Value) (l : List Int) : Pr := Row 5 1 v l.length (l.map (Value.int .u8))
set_option maxRecDepth 100000 in
set_option maxHeartbeats 400000 in
theorem clone_bytes (h : Hp) (v : Value) (l : List Int) (F : Pr) (w : World) (hF : Sat F w) (hh : h.le w) (hx : Bytes h v l) (hn : l.length ≤ 65536) :
 Calls Tryz.prog 141 #[v] w fun e w' => ∃ v', e = .returned v' ∧ Sat ((BytesRow v' l).star F) w' ∧ Stays w w' := by
 obtain ⟨_, ad, c, rfl, hnc, hcm, hcell⟩ := id hx
 have he : ∀ wx : World, (binOp .eql 29 (.slice ad l.length c) (.slice none 0 0)).run Tryz.prog wx = .ok (.bool ad.isNone) wx := fun wx => Lib.run_eql_slice_nil wx _ _ ad _ c 0 0 Tryz.underlying29
 cases ad with
 | none =>
  have hl : l.length = 0 := by
   rcases Nat.eq_zero_or_pos l.length with h0 | h0
   · exact h0
   · obtain ⟨b, off, e1, _⟩ := hcell (by omega); cases e1
  have hl2 : l = [] := List.eq_nil_of_length_eq_zero hl
  have HF := Lib.hid hF
  have HL := Lib.hid hl2
  clear hF hx hcell hh hl2 hl
  go_enter Tryz.func141, Tryz.ntmps141
  go_wp2
  go_ret
  refine ⟨_, rfl, ?_, Stays.refl w⟩
  have h1 := HF.out
  have h2 := HL.out
  subst h2
  rw [← Sat.emp, ← Row.nil 5 1] at h1
  exact h1
 | some ad =>
  have hnew : Sat ((Row 5 1 (.slice (some ⟨w.heap.size, 0, none⟩) 0 0) 0 []).star F) (w.alloc (.cells #[] 5)) :=
   Row.mk' (xs := []) (sp := []) (by simp) (by simp) (Nat.le_refl _) (by simp) (by simpa using hF.alloc (.cells #[] 5))
  have hle : h.le (w.alloc (.cells #[] 5)) := fun k o e => (Below.heap_alloc w _ k (Array.getElem?_eq_some_iff.1 (hh k o e)).1).trans (hh k o e)
  have HF := Lib.hid hnew
  have HX := Lib.hid hx
  have HH := Lib.hid hle
  clear hF hx hcell hh hnew hle
  go_enter Tryz.func141, Tryz.ntmps141
  obtain ⟨i0, hi, hz0, hz1, hz2⟩ := info_parts infoByte
  go_wp2_with (at_builtin; refine wpList_append_row rfl _ _ _ rfl 5 i0 (.int .u8 0) 1 1 Tryz.underlying29 hi hz0 hz1 hz2 rfl _ _ _ rfl HF.out h HH.out _ _ _ rfl HX.out (by simp [Value.oneCell']) (by simp only [maxLen]; omega) (by omega) ?_; intro v' w1 hsat hgr _; have HSAT := Lib.hid hsat; clear hsat)
  go_ret
  refine ⟨_, rfl, ?_, ((Stays.refl w).alloc _).of_grown hgr⟩
  have h1 := HSAT.out
  rw [Nat.zero_add, List.nil_append] at h1
  exact h1
set_option maxRecDepth 100000 in
set_option maxHeartbeats 400000 in
theorem bclone_any (h : Hp) (v : Value) (l : List Int) (F : Pr) (w : World) (hF : Sat F w) (hh : h.le w) (hx : Bytes h v l) (hn : l.length ≤ 65536) :
 Calls Tryz.prog 125 #[v] w fun e w' => ∃ v', e = .returned v' ∧ Sat ((BytesRow v' l).star F) w' ∧ Stays w w' := by
 obtain ⟨_, ad, c, rfl, hnc, hcm, hcell⟩ := id hx
 have he : ∀ wx : World, (binOp .eql 29 (.slice ad l.length c) (.slice none 0 0)).run Tryz.prog wx = .ok (.bool ad.isNone) wx := fun wx => Lib.run_eql_slice_nil wx _ _ ad _ c 0 0 Tryz.underlying29
 cases ad with
 | none =>
  have hl : l.length = 0 := by
   rcases Nat.eq_zero_or_pos l.length with h0 | h0
   · exact h0
   · obtain ⟨b, off, e1, _⟩ := hcell (by omega); cases e1
  have hl2 : l = [] := List.eq_nil_of_length_eq_zero hl
  have HF := Lib.hid hF
  have HL := Lib.hid hl2
  clear hF hx hcell hh hl2 hl
  go_enter Tryz.func125, Tryz.ntmps125
  go_wp2
  go_ret
  refine ⟨_, rfl, ?_, Stays.refl w⟩
  have h1 := HF.out
  have h2 := HL.out
  subst h2
  rw [← Sat.emp, ← Row.nil 5 1] at h1
  exact h1
 | some ad =>
  have hnew : Sat ((Row 5 1 (.slice (some ⟨w.heap.size, 0, none⟩) 0 0) 0 []).star F) (w.alloc (.cells #[] 5)) :=
   Row.mk' (xs := []) (sp := []) (by simp) (by simp) (Nat.le_refl _) (by simp) (by simpa using hF.alloc (.cells #[] 5))
  have hle : h.le (w.alloc (.cells #[] 5)) := fun k o e => (Below.heap_alloc w _ k (Array.getElem?_eq_some_iff.1 (hh k o e)).1).trans (hh k o e)
  have HF := Lib.hid hnew
  have HX := Lib.hid hx
  have HH := Lib.hid hle
  clear hF hx hcell hh hnew hle
  go_enter Tryz.func125, Tryz.ntmps125
  obtain ⟨i0, hi, hz0, hz1, hz2⟩ := info_parts infoByte
  go_wp2_with (at_builtin; refine wpList_append_row rfl _ _ _ rfl 5 i0 (.int .u8 0) 1 1 Tryz.underlying29 hi hz0 hz1 hz2 rfl _ _ _ rfl HF.out h HH.out _ _ _ rfl HX.out (by simp [Value.oneCell']) (by simp only [maxLen]; omega) (by omega) ?_; intro v' w1 hsat hgr _; have HSAT := Lib.hid hsat; clear hsat)
  go_ret
  refine ⟨_, rfl, ?_, ((Stays.refl w).alloc _).of_grown hgr⟩
  have h1 := HSAT.out
  rw [Nat.zero_add, List.nil_append] at h1
  exact h1
end Go.Proofs.YtbobcmimkonnoaaGreat.clone
namespace Go.Sl
/-- Nothing that was there has turned. -/
structure Only (w w' : World) : Prop where
 st : Stays w w'
 heap : ∀ k, k < w.heap.size → w'.heap[k]? = w.heap[k]?
theorem Only.refl (w : World) : Only w w := ⟨Stays.refl w, fun _ _ => rfl⟩
theorem Only.trans {a b c : World} (h : Only a b) (k : Only b c) : Only a c := ⟨h.st.trans k.st, fun i hi => (k.heap i (Nat.lt_of_lt_of_le hi h.st.size)).trans (h.heap i hi)⟩
theorem Only.alloc {a w : World} (h : Only a w) (o : Obj) : Only a (w.alloc o) := h.trans ⟨(Stays.refl w).alloc o, fun k hk => Go.RowKit.Below.heap_alloc w o k hk⟩
theorem Only.drew {a w : World} (h : Only a w) : Only a w.drew := h.trans ⟨(Stays.refl w).drew, fun _ _ => rfl⟩
theorem Only.drewN {a w : World} (h : Only a w) (n : Nat) : Only a (w.drewN n) := h.trans ⟨(Stays.refl w).drewN n, fun _ _ => rfl⟩
theorem Only.setCell {a w : World} (h : Only a w) {b i : Nat} (hb : a.heap.size ≤ b) (v : Value) : Only a (w.setCell ⟨b, i, none⟩ v) :=
 ⟨h.st.setCell _ _, fun k hk => (Go.RowKit.Below.heap_setCell _ _ _ _ (by dsimp only; omega)).trans (h.heap k hk)⟩
theorem Only.cell {w w' : World} (h : Only w w') {b i : Nat} {v : Value} (hc : w.cell? ⟨b, i, none⟩ = some v) : w'.cell? ⟨b, i, none⟩ = some v := by
 have hb : b < w.heap.size := by
  rcases Nat.lt_or_ge b w.heap.size with h1 | h1
  · exact h1
  · unfold World.cell? at hc; simp [Array.getElem?_eq_none h1] at hc
 unfold World.cell? at hc ⊢
 dsimp only at hc ⊢
 rw [h.heap b hb]
 exact hc
theorem Sat.only {A : Pr} {w w' : World} (h : Sat A w) (ho : Only w w') : Sat A w' := h.ext ho.heap
end Go.Sl
namespace Go.Proofs.YtbobcmimkonnoaaGreat.page
open ChangeShapes WideShapes ChangeAt RowKit Sl Cop clone
abbrev pageV (kind level : Int) (vi vd : Value) (next : Int) : Value := .agg #[.int .i64 kind, .int .i64 level, vi, vd, .int .i64 next]
set_option maxRecDepth 100000 in
set_option maxHeartbeats 400000 in
theorem isPage_any (n : Int) (w : World) : Calls Tryz.prog 139 #[.int .i64 n] w fun e w' => e = .returned (.bool (decide (1 ≤ n ∧ n ≤ 65536))) ∧ w = w' := by
 by_cases h1 : 1 ≤ n
 · by_cases h2 : n ≤ 65536
   · go_enter Tryz.func139, Tryz.ntmps139
     go_wp2
     go_ret
     simp [h1, h2]
   · go_enter Tryz.func139, Tryz.ntmps139
     go_wp2
     go_ret
     simp [h2]
 · go_enter Tryz.func139, Tryz.ntmps139
   go_wp2
   go_ret
   simp; omega
set_option maxRecDepth 100000 in
set_option maxHeartbeats 400000 in
theorem must_true (x : Int) (b : Nat) (w : World) : Calls Tryz.prog 136 #[.bool true, .int .i64 x, .pointer (some ⟨b, 0, none⟩)] w fun e w' => e = .returned (.tuple #[]) ∧ w = w' := by
 go_enter Tryz.func136, Tryz.ntmps136
 go_wp2
 first | refine bodyPost_ret (results_none rfl _ _ _) rfl ?_ | go_end0
 exact ⟨rfl, rfl⟩
set_option maxRecDepth 100000 in
set_option maxHeartbeats 1000000 in
theorem form_blob (ai ad : Option Addr) (ci n c : Nat) (next : Int) (hn : 1 ≤ n ∧ n ≤ 480) (w : World) :
 Calls Tryz.prog 137 #[pageV 3 0 (.slice ai 0 ci) (.slice ad n c) next] w fun e w' => e = .returned (.bool true) ∧ Only w w' := by
 have h0 : ((n : Int) == 0) = false := by rw [beq_eq_false_iff_ne]; omega
 go_enter Tryz.func137, Tryz.ntmps137
 go_wp2
 go_region
 go_wp2
 go_ret
 refine ⟨?_, ((Only.refl w).alloc _).drew⟩
 simp; omega
set_option maxRecDepth 100000 in
set_option maxHeartbeats 1000000 in
theorem check_blob (ai ad : Option Addr) (ci n c : Nat) (next : Int) (hn : 1 ≤ n ∧ n ≤ 480) (hx : next = 0 ∨ 1 ≤ next ∧ next ≤ 65536) (w : World) :
 Calls Tryz.prog 87 #[pageV 3 0 (.slice ai 0 ci) (.slice ad n c) next] w fun e w' => e = .returned (.int .i64 0) ∧ Only w w' := by
 have FB := fun wx => Lib.hid (form_blob ai ad ci n c next hn wx)
 go_enter Tryz.func87, Tryz.ntmps87
 go_wp2_with fail
 refine (must_true _ _ _).mono ?_
 rintro e w1 ⟨rfl, rfl⟩
 go_wp2_with fail
 refine (FB _).out.mono ?_
 rintro e w2 ⟨rfl, ho⟩
 have q1 := ho.cell (b := w.heap.size + 1) (i := 0) (v := .int .i64 0) (by go_simp)
 have q2 := ho.cell (b := w.heap.size) (i := 2) (v := .slice ai 0 ci) (by go_simp)
 have q3 := ho.cell (b := w.heap.size) (i := 4) (v := .int .i64 next) (by go_simp)
 go_wp2_with fail
 refine (must_true _ _ _).mono ?_
 rintro e w3 ⟨rfl, rfl⟩
 have HO := Lib.hid ho
 clear ho FB
 go_wp2_with fail
 go_loopw [30] (fun i wr => i = .int .i64 0 ∧ wr = w2) (fun _ _ => 0)
 case atStart => exact ⟨rfl, rfl⟩
 case round =>
  obtain ⟨rfl, rfl⟩ := hrel
  rcases hx with rfl | hx
  · go_wp2_with fail
    refine (must_true _ _ _).mono ?_
    rintro e w3 ⟨rfl, rfl⟩
    go_wp2
    go_ret
    exact ⟨rfl, (((Only.refl w).alloc _).alloc _).trans HO.out⟩
  · have h0 : (next == 0) = false := by rw [beq_eq_false_iff_ne]; omega
    have hd : decide (1 ≤ next ∧ next ≤ 65536) = true := by simpa using hx
    go_wp2_with fail
    refine (isPage_any _ _).mono ?_
    rintro e w3 ⟨rfl, rfl⟩
    rw [hd]
    go_wp2_with fail
    refine (must_true _ _ _).mono ?_
    rintro e w3 ⟨rfl, rfl⟩
    go_wp2
    go_ret
    exact ⟨rfl, (((Only.refl w).alloc _).alloc _).trans HO.out⟩
end Go.Proofs.YtbobcmimkonnoaaGreat.page
namespace Go.Proofs.YtbobcmimkonnoaaGreat.eqb
open ChangeShapes WideShapes ChangeAt RowKit Sl Cop clone page
theorem bytes_rd {h : Hp} {v : Value} {V : List Int} (hb : Bytes h v V) : ∃ a c, v = .slice a V.length c ∧ ∀ i, i < V.length → ∃ b off, a = some ⟨b, off, none⟩ ∧ ∀ w, h.le w → w.cell? ⟨b, off + i, none⟩ = some (.int .u8 (V.getD i 0)) := by
 obtain ⟨hl, a, c, e, _, _, hc⟩ := hb
 refine ⟨a, c, e, fun i hi => ?_⟩
 obtain ⟨b, off, e1, e2⟩ := hc (by omega)
 refine ⟨b, off, e1, fun w hw => ?_⟩
 refine Hp.cell_le hw ((e2 i (by omega)).trans ?_)
 simp [hi]
set_option maxRecDepth 100000 in
set_option maxHeartbeats 1000000 in
theorem compare_same (ha hb : Hp) (va vb : Value) (V : List Int) (h1 : Bytes ha va V) (h2 : Bytes hb vb V) (hn : V.length ≤ 9000000000000000000) (w : World) (l1 : ha.le w) (l2 : hb.le w) :
 Calls Tryz.prog 81 #[va, vb] w fun e w' => e = .returned (.int .i64 0) ∧ Only w w' := by
 obtain ⟨a, c, rfl, r1⟩ := bytes_rd h1
 obtain ⟨a', c', rfl, r2⟩ := bytes_rd h2
 have R1 := Lib.hid r1
 have R2 := Lib.hid r2
 have L1 := Lib.hid l1
 have L2 := Lib.hid l2
 clear r1 r2 h1 h2 l1 l2
 go_enter Tryz.func81, Tryz.ntmps81
 go_wp2
 go_loopw [5] (fun i wr => ∃ k : Nat, k ≤ V.length ∧ i = .int .i64 k ∧ Only w wr) (fun i _ => V.length - (intOf i).toNat)
 case atStart => exact ⟨0, Nat.zero_le _, rfl, Only.refl w⟩
 case round =>
  obtain ⟨k, hk, rfl, ho⟩ := hrel
  rcases Nat.lt_or_ge k V.length with hlt | hge
  · obtain ⟨b, off, rfl, c1⟩ := R1.out k hlt
    obtain ⟨b', off', rfl, c2⟩ := R2.out k hlt
    have q1 := c1 wr (fun k o e => (ho.heap k (Array.getElem?_eq_some_iff.1 (L1.out k o e)).1).trans (L1.out k o e))
    have q2 := c2 wr (fun k o e => (ho.heap k (Array.getElem?_eq_some_iff.1 (L2.out k o e)).1).trans (L2.out k o e))
    have HO := Lib.hid ho
    clear c1 c2 ho
    generalize V.getD k 0 = x at *
    go_wp2
    go_region
    go_wp2
    go_region
    go_wp2
    go_roundw
    case rel => exact ⟨k + 1, by omega, by go_num, HO.out.drew.drew⟩
    case measure => simp [intOf]; omega
  · have hkl : k = V.length := by omega
    subst hkl
    go_wp2
    go_ret
    exact ⟨rfl, ho⟩
set_option maxRecDepth 100000 in
set_option maxHeartbeats 1000000 in
theorem eq_same (ha hb : Hp) (va vb : Value) (V : List Int) (h1 : Bytes ha va V) (h2 : Bytes hb vb V) (hn : V.length ≤ 9000000000000000000) (w : World) (l1 : ha.le w) (l2 : hb.le w) :
 Calls Tryz.prog 22 #[va, vb] w fun e w' => e = .returned (.bool true) ∧ Only w w' := by
 have C := Lib.hid (compare_same ha hb va vb V h1 h2 hn w l1 l2)
 clear h1 h2 l1 l2
 go_enter Tryz.func22, Tryz.ntmps22
 go_wp2_with fail
 refine C.out.mono ?_
 rintro e w' ⟨rfl, ho⟩
 go_wp2
 go_ret
 exact ⟨rfl, ho⟩
end Go.Proofs.YtbobcmimkonnoaaGreat.eqb
namespace Go.Cop
def cmpI : List Int → List Int → Int
 | [], [] => 0
 | [], _ :: _ => -1
 | _ :: _, [] => 1
 | x :: a, y :: b => if x < y then -1 else if y < x then 1 else cmpI a b
def U8 (l : List Int) : Prop := ∀ z ∈ l, 0 ≤ z ∧ z ≤ 255
theorem u8_lt {x y : Int} (hx : 0 ≤ x ∧ x ≤ 255) (hy : 0 ≤ y ∧ y ≤ 255) : (x.toNat.toUInt8 < y.toNat.toUInt8) ↔ x < y := by
 rw [UInt8.lt_iff_toNat_lt]
 have e1 : x.toNat.toUInt8.toNat = x.toNat := by simp; omega
 have e2 : y.toNat.toUInt8.toNat = y.toNat := by simp; omega
 rw [e1, e2]
 omega
theorem cmp_map : ∀ {a b : List Int}, U8 a → U8 b → Lib.compareBytes (a.map fun z => z.toNat.toUInt8) (b.map fun z => z.toNat.toUInt8) = cmpI a b
 | [], [], _, _ => rfl
 | [], _ :: _, _, _ => rfl
 | _ :: _, [], _, _ => rfl
 | x :: a, y :: b, ha, hb => by
  have ih := cmp_map (a := a) (b := b) (fun z hz => ha z (by simp [hz])) (fun z hz => hb z (by simp [hz]))
  have hx := ha x (by simp)
  have hy := hb y (by simp)
  simp only [List.map_cons, Lib.compareBytes, cmpI, u8_lt hx hy, u8_lt hy hx, ih]
theorem cmp_step {A B : List Int} {k : Nat} (ha : k < A.length) (hb : k < B.length) (h : cmpI A B = cmpI (A.drop k) (B.drop k)) :
 cmpI A B = if A.getD k 0 < B.getD k 0 then -1 else if B.getD k 0 < A.getD k 0 then 1 else cmpI (A.drop (k + 1)) (B.drop (k + 1)) := by
 rw [h, List.drop_eq_getElem_cons ha, List.drop_eq_getElem_cons hb]
 simp [cmpI, ha, hb]
theorem cmp_end {A B : List Int} {k : Nat} (hk : k ≤ A.length ∧ k ≤ B.length) (he : k = A.length ∨ k = B.length) (h : cmpI A B = cmpI (A.drop k) (B.drop k)) :
 cmpI A B = if A.length < B.length then -1 else if B.length < A.length then 1 else 0 := by
 rw [h]
 rcases he with rfl | rfl
 · rw [List.drop_length]
   by_cases h1 : A.length < B.length
   · rw [if_pos h1, List.drop_eq_getElem_cons h1]; rfl
   · rw [if_neg h1, if_neg (by omega), List.drop_of_length_le (by omega)]; rfl
 · rw [List.drop_length]
   by_cases h1 : B.length < A.length
   · rw [if_neg (by omega), if_pos h1, List.drop_eq_getElem_cons h1]; rfl
   · rw [if_neg (by omega), if_neg h1, List.drop_of_length_le (by omega)]; rfl
end Go.Cop
namespace Go.Proofs.YtbobcmimkonnoaaGreat.cmp
open ChangeShapes WideShapes ChangeAt RowKit Sl Cop clone page eqb
set_option maxRecDepth 100000 in
set_option maxHeartbeats 2000000 in
theorem compare_any (ha hb : Hp) (va vb : Value) (A B : List Int) (h1 : Bytes ha va A) (h2 : Bytes hb vb B) (hn : A.length ≤ 9000000000000000000) (w : World) (l1 : ha.le w) (l2 : hb.le w) :
 Calls Tryz.prog 81 #[va, vb] w fun e w' => e = .returned (.int .i64 (cmpI A B)) ∧ Only w w' := by
 obtain ⟨a, c, rfl, r1⟩ := bytes_rd h1
 obtain ⟨a', c', rfl, r2⟩ := bytes_rd h2
 have R1 := Lib.hid r1
 have R2 := Lib.hid r2
 have L1 := Lib.hid l1
 have L2 := Lib.hid l2
 clear r1 r2 h1 h2 l1 l2
 go_enter Tryz.func81, Tryz.ntmps81
 go_wp2
 go_loopw [5] (fun i wr => ∃ k : Nat, k ≤ A.length ∧ k ≤ B.length ∧ i = .int .i64 k ∧ Only w wr ∧ Hid (cmpI A B = cmpI (A.drop k) (B.drop k))) (fun i _ => A.length - (intOf i).toNat)
 case atStart => exact ⟨0, Nat.zero_le _, Nat.zero_le _, rfl, Only.refl w, Lib.hid rfl⟩
 case round =>
  obtain ⟨k, hk, hk2, rfl, ho, hc⟩ := hrel
  by_cases hlt : k < A.length ∧ k < B.length
  · obtain ⟨hlt1, hlt2⟩ := hlt
    obtain ⟨b, off, rfl, c1⟩ := R1.out k hlt1
    obtain ⟨b', off', rfl, c2⟩ := R2.out k hlt2
    have q1 := c1 wr (fun k o e => (ho.heap k (Array.getElem?_eq_some_iff.1 (L1.out k o e)).1).trans (L1.out k o e))
    have q2 := c2 wr (fun k o e => (ho.heap k (Array.getElem?_eq_some_iff.1 (L2.out k o e)).1).trans (L2.out k o e))
    have HO := Lib.hid ho
    have HC := Lib.hid (cmp_step hlt1 hlt2 hc.out)
    clear c1 c2 ho hc
    generalize A.getD k 0 = x at *
    generalize B.getD k 0 = y at *
    by_cases hxy : x < y
    · go_wp2
      go_region
      go_wp2
      go_ret
      have := HC.out
      rw [if_pos hxy] at this
      rw [this]
      exact ⟨rfl, HO.out.drew⟩
    · by_cases hyx : y < x
      · go_wp2
        go_region
        go_wp2
        go_region
        go_wp2
        go_ret
        have := HC.out
        rw [if_neg (by omega), if_pos hyx] at this
        rw [this]
        exact ⟨rfl, HO.out.drew.drew⟩
      · go_wp2
        go_region
        go_wp2
        go_region
        go_wp2
        go_roundw
        case rel =>
         have := HC.out
         rw [if_neg (by omega), if_neg (by omega)] at this
         exact ⟨k + 1, by omega, by omega, congrArg (Value.int .i64) (by omega), HO.out.drew.drew, Lib.hid this⟩
        case measure => simp [intOf]; omega
  · have HC := Lib.hid (cmp_end ⟨hk, hk2⟩ (by omega) hc.out)
    clear hc
    have hlt2 : ¬ (k < A.length ∧ k < B.length) := hlt
    rcases Nat.lt_trichotomy A.length B.length with h | h | h
    · have hkA : k = A.length := by omega
      subst hkA
      go_wp2
      go_ret
      have := HC.out
      rw [if_pos h] at this
      rw [this]
      exact ⟨rfl, ho⟩
    · have hkA : k = A.length := by omega
      subst hkA
      have hE := HC.out
      rw [if_neg (by omega), if_neg (by omega)] at hE
      rw [hE]
      have h9 := Lib.hid h
      have hd1 : ¬ ((A.length : Int) < (B.length : Int)) := by omega
      have hd2 : ¬ ((B.length : Int) < (A.length : Int)) := by omega
      clear h
      go_wp2
      go_ret
      exact ⟨rfl, ho⟩
    · have hkA : k = B.length := by omega
      subst hkA
      go_wp2
      go_ret
      have := HC.out
      rw [if_neg (by omega), if_pos h] at this
      rw [this]
      exact ⟨rfl, ho⟩
theorem run_bytesOf_slice (h : Hp) (v : Value) (l : List Int) (hx : Bytes h v l) (w : World) (hl : h.le w) :
 ∃ b : ByteArray, (Extern.Bytes.bytesOf v).run Tryz.prog w = .ok b w ∧ b.data.toList = l.map fun z => z.toNat.toUInt8 := by
 obtain ⟨a, c, rfl, r⟩ := bytes_rd hx
 cases a with
 | none =>
  have : l = [] := by
   rcases Nat.eq_zero_or_pos l.length with h0 | h0
   · exact List.eq_nil_of_length_eq_zero h0
   · obtain ⟨b, off, e, _⟩ := r 0 h0; cases e
  subst this
  exact ⟨.empty, rfl, rfl⟩
 | some ad =>
  refine ⟨⟨ByteArray.empty.data ++ (Lib.bytesOf l).toArray⟩, Lib.run_loadBytesX (P := Tryz.prog) w l ad .empty (fun j x hj => ?_), ?_⟩
  · have hjl : j < l.length := (List.getElem?_eq_some_iff.1 hj).1
    obtain ⟨b, off, e, hc⟩ := r j hjl
    cases e
    have e : (⟨b, off, none⟩ : Addr).add j = ⟨b, off + j, none⟩ := by unfold Addr.add; split <;> simp_all
    rw [e, hc w hl, List.getD_eq_getElem?_getD, hj]
    rfl
  · simp [Lib.bytesOf, ByteArray.empty, ByteArray.emptyWithCapacity]
    rfl
theorem run_compareSlices (ha hb : Hp) (va vb : Value) (A B : List Int) (h1 : Bytes ha va A) (h2 : Bytes hb vb B) (u1 : U8 A) (u2 : U8 B) (w : World) (l1 : ha.le w) (l2 : hb.le w) :
 (Extern.BytealgCompare.compare #[va, vb]).run Tryz.prog w = .ok (.int .i64 (cmpI A B)) w := by
 obtain ⟨x, hx, ex⟩ := run_bytesOf_slice ha va A h1 w l1
 obtain ⟨y, hy, ey⟩ := run_bytesOf_slice hb vb B h2 w l2
 change Sem.run Tryz.prog (do pure (goInt (Extern.BytealgCompare.cmp (← Extern.Bytes.bytesOf va) (← Extern.Bytes.bytesOf vb)))) w = _
 simp only [Sem.run_bind, Sem.run_pure, hx, hy, Result.andThen]
 rw [Lib.cmp_eq, ex, ey, cmp_map u1 u2]
 rfl
set_option maxRecDepth 100000 in
set_option maxHeartbeats 1000000 in
theorem bcompare_any (ha hb : Hp) (va vb : Value) (A B : List Int) (h1 : Bytes ha va A) (h2 : Bytes hb vb B) (u1 : U8 A) (u2 : U8 B) (w : World) (l1 : ha.le w) (l2 : hb.le w) :
 Calls Tryz.prog 138 #[va, vb] w fun e w' => e = .returned (.int .i64 (cmpI A B)) ∧ w = w' := by
 have hr := run_compareSlices ha hb va vb A B h1 h2 u1 u2 w l1 l2
 obtain ⟨a, c, rfl, _⟩ := bytes_rd h1
 obtain ⟨a', c', rfl, _⟩ := bytes_rd h2
 have HR := Lib.hid hr
 clear h1 h2 u1 u2 l1 l2 hr
 go_enter Tryz.func138, Tryz.ntmps138
 go_wp2
 rw [run_callFunc_extern Tryz.func161 (by kernel_rfl) (by kernel_rfl) (by kernel_rfl) (e := Extern.BytealgCompare.compare) (by kernel_rfl), HR.out]
 simp only [Result.andThen]
 rw [Oper.upon_value]
 go_wp2
 go_ret
 exact ⟨rfl, rfl⟩
end Go.Proofs.YtbobcmimkonnoaaGreat.cmp
