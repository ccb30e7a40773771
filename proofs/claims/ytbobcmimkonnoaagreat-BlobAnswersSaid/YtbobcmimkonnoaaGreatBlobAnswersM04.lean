/- The parts of a page's check: form, must, the numbers of pages; the program's and the document's; the conditions stand as hypotheses. -/
import Derived.Test.YtbobcmimkonnoaaGreatBlobAnswersM03
import Derived.Test.YtbobcmimkonnoaaGreatBlobAnswersM01
import Derived.Test.YtbobcmimkonnoaaGreatRows
import Derived.ProofKit
import Derived.OpenShut
import Derived.WalkSpells
import Derived.WalkLawsBesides
import Derived.Lib.Hide
namespace Go.Cop
def isPg (n : Int) : Bool := decide (1 ≤ n ∧ n ≤ 65536)
def formP (k l : Int) (n d : Nat) (nx : Int) : Bool :=
 if k = 1 then decide (d = 0 ∧ nx = 0 ∧ l = 0 ∧ 1 ≤ n ∧ n ≤ 8)
 else if k = 2 then decide (d = 0 ∧ nx = 0 ∧ 1 ≤ l ∧ l < 12 ∧ 2 ≤ n ∧ n ≤ 8)
 else decide (l = 0 ∧ n = 0 ∧ 1 ≤ d ∧ d ≤ 480)
/-- The first thing that is wrong. -/
def mustP (f : Int) (b : Bool) (e : Int) : Int := if b then f else if f = 0 then e else f
end Go.Cop
namespace Go.Proofs.YtbobcmimkonnoaaGreat.chk1
open ChangeShapes WideShapes ChangeAt RowKit Sl Cop clone page eqb cmp
set_option maxRecDepth 100000 in
set_option maxHeartbeats 400000 in
theorem risPage_any (n : Int) (w : World) : Calls Tryz.prog 146 #[.int .i64 n] w fun e w' => e = .returned (.bool (isPg n)) ∧ w = w' := by
 unfold isPg
 by_cases h1 : 1 ≤ n
 · by_cases h2 : n ≤ 65536
   · go_enter Tryz.func146, Tryz.ntmps146
     go_wp2
     go_ret
     simp [h1, h2]
   · go_enter Tryz.func146, Tryz.ntmps146
     go_wp2
     go_ret
     simp [h2]
 · go_enter Tryz.func146, Tryz.ntmps146
   go_wp2
   go_ret
   simp; omega
set_option maxRecDepth 100000 in
set_option maxHeartbeats 1000000 in
theorem must_any (f x : Int) (h : Bool) (b : Nat) (F : Pr) (w : World) (hF : Sat ((Pr.pts b (.cells #[.int .i64 f] 36)).star F) w) :
 Calls Tryz.prog 136 #[.bool h, .int .i64 x, .pointer (some ⟨b, 0, none⟩)] w fun e w' => e = .returned (.tuple #[]) ∧ Sat ((Pr.pts b (.cells #[.int .i64 (mustP f h x)] 36)).star F) w' ∧ Stays w w' := by
 have q := hF.pts_heap
 have q0 : w.cell? ⟨b, 0, none⟩ = some (.int .i64 f) := by rw [cell_of_heap q]; rfl
 have z0 := frozen_of_heap q 0
 have HF := Lib.hid hF
 clear hF q
 cases h with
 | true =>
  go_enter Tryz.func136, Tryz.ntmps136
  go_wp2
  first | refine bodyPost_ret (results_none rfl _ _ _) rfl ?_ | go_end0
  exact ⟨rfl, HF.out, Stays.refl w⟩
 | false =>
  by_cases h0 : f = 0
  · subst h0
    go_enter Tryz.func136, Tryz.ntmps136
    go_wp2
    first | refine bodyPost_ret (results_none rfl _ _ _) rfl ?_ | go_end0
    exact ⟨rfl, HF.out.setCell (i := 0) (.int .i64 x), (Stays.refl w).setCell _ _⟩
  · have hb : (f == 0) = false := by rw [beq_eq_false_iff_ne]; exact h0
    go_enter Tryz.func136, Tryz.ntmps136
    go_wp2
    first | refine bodyPost_ret (results_none rfl _ _ _) rfl ?_ | go_end0
    have e : mustP f false x = f := by unfold mustP; rw [if_neg (by simp), if_neg h0]
    rw [e]
    exact ⟨rfl, HF.out, Stays.refl w⟩
set_option maxRecDepth 100000 in
set_option maxHeartbeats 4000000 in
theorem form_any (ai ad : Option Addr) (n ci d cd : Nat) (k l nx : Int) (w : World) :
 Calls Tryz.prog 137 #[pageV k l (.slice ai n ci) (.slice ad d cd) nx] w fun e w' => e = .returned (.bool (formP k l n d nx)) ∧ Only w w' := by
 have fin : ∀ (b : Bool), b = formP k l n d nx → Ending.returned (Value.bool b) = Ending.returned (Value.bool (formP k l n d nx)) := fun b e => by rw [e]
 have hk : (k = 1 ∨ k = 2) ∨ (k ≠ 1 ∧ k ≠ 2) := by omega
 rcases Nat.eq_zero_or_pos d with hd | hd
 · subst hd
   rcases hk with (rfl | rfl) | ⟨h1, h2⟩
   · go_enter Tryz.func137, Tryz.ntmps137
     go_wp2
     go_region
     go_wp2
     all_goals (go_ret; refine ⟨fin _ ?_, ((Only.refl w).alloc _).drew⟩; rw [Bool.eq_iff_iff]; simp [formP]; try omega)
   · go_enter Tryz.func137, Tryz.ntmps137
     go_wp2
     go_region
     go_wp2
     all_goals (go_ret; refine ⟨fin _ ?_, ((Only.refl w).alloc _).drew⟩; rw [Bool.eq_iff_iff]; simp [formP]; try omega)
   · have e1 : (k == 1) = false := by rw [beq_eq_false_iff_ne]; exact h1
     have e2 : (k == 2) = false := by rw [beq_eq_false_iff_ne]; exact h2
     go_enter Tryz.func137, Tryz.ntmps137
     go_wp2
     go_region
     go_wp2
     all_goals (go_ret; refine ⟨fin _ ?_, ((Only.refl w).alloc _).drew⟩; rw [Bool.eq_iff_iff]; simp [formP, h1, h2]; try omega)
 · have h0 : ((d : Int) == 0) = false := by rw [beq_eq_false_iff_ne]; omega
   rcases hk with (rfl | rfl) | ⟨h1, h2⟩
   · go_enter Tryz.func137, Tryz.ntmps137
     go_wp2
     go_region
     go_wp2
     all_goals (go_ret; refine ⟨fin _ ?_, ((Only.refl w).alloc _).drew⟩; rw [Bool.eq_iff_iff]; simp [formP]; try omega)
   · go_enter Tryz.func137, Tryz.ntmps137
     go_wp2
     go_region
     go_wp2
     all_goals (go_ret; refine ⟨fin _ ?_, ((Only.refl w).alloc _).drew⟩; rw [Bool.eq_iff_iff]; simp [formP]; try omega)
   · have e1 : (k == 1) = false := by rw [beq_eq_false_iff_ne]; exact h1
     have e2 : (k == 2) = false := by rw [beq_eq_false_iff_ne]; exact h2
     go_enter Tryz.func137, Tryz.ntmps137
     go_wp2
     go_region
     go_wp2
     all_goals (go_ret; refine ⟨fin _ ?_, ((Only.refl w).alloc _).drew⟩; rw [Bool.eq_iff_iff]; simp [formP, h1, h2]; try omega)
set_option maxRecDepth 100000 in
set_option maxHeartbeats 4000000 in
theorem rform_any (ai ad : Option Addr) (n ci d cd : Nat) (k l nx : Int) (hk : k = 1 ∨ k = 2 ∨ k = 3) (w : World) :
 Calls Tryz.prog 142 #[pageV k l (.slice ai n ci) (.slice ad d cd) nx] w fun e w' => e = .returned (.bool (formP k l n d nx)) ∧ Only w w' := by
 have fin : ∀ (b : Bool), b = formP k l n d nx → Ending.returned (Value.bool b) = Ending.returned (Value.bool (formP k l n d nx)) := fun b e => by rw [e]
 rcases hk with rfl | rfl | rfl
 · go_enter Tryz.func142, Tryz.ntmps142
   go_wp2
   all_goals (go_ret; refine ⟨fin _ ?_, ((Only.refl w).alloc _)⟩; rw [Bool.eq_iff_iff]; simp [formP]; try omega)
 · go_enter Tryz.func142, Tryz.ntmps142
   go_wp2
   all_goals (go_ret; refine ⟨fin _ ?_, ((Only.refl w).alloc _)⟩; rw [Bool.eq_iff_iff]; simp [formP]; try omega)
 · go_enter Tryz.func142, Tryz.ntmps142
   go_wp2
   all_goals (go_ret; refine ⟨fin _ ?_, ((Only.refl w).alloc _)⟩; rw [Bool.eq_iff_iff]; simp [formP]; try omega)
end Go.Proofs.YtbobcmimkonnoaaGreat.chk1
namespace Go.Cop
def PoolS.turn (s : PoolS) (n b : Int) : PoolS := { s with counts := s.counts.set (n.toNat - 1) (s.count n + b) }
structure PoolOk (s : PoolS) : Prop where
 n1 : 1 ≤ s.counts.length
 n2 : s.counts.length ≤ 65536
 len : s.last.length = s.counts.length
 r1 : 2 ≤ s.refs
 r2 : s.refs < 65536
 cs : ∀ c ∈ s.counts, 0 ≤ c ∧ c ≤ 65536
 fl : 0 ≤ s.floor
 mb : s.floor + s.acts.length ≤ 1099511627776
theorem count_bd {s : PoolS} (h : PoolOk s) (n : Int) : 0 ≤ s.count n ∧ s.count n ≤ 65536 := by
 unfold PoolS.count
 split
 · rename_i ht
   obtain ⟨h1, h2⟩ := ht
   have hlt : n.toNat - 1 < s.counts.length := by omega
   rw [List.getD_eq_getElem?_getD, List.getElem?_eq_getElem hlt]
   exact h.cs _ (List.getElem_mem hlt)
 · omega
theorem turn_there {s : PoolS} {n b m : Int} : (s.turn n b).there m ↔ s.there m := by simp [PoolS.there, PoolS.turn]
theorem turn_count {s : PoolS} {n b m : Int} (h : s.there n) : (s.turn n b).count m = if m = n then s.count n + b else s.count m := by
 obtain ⟨h1, h2⟩ := h
 by_cases hm : s.there m
 · have hm' : (s.turn n b).there m := turn_there.2 hm
   have e1 : (s.turn n b).count m = (s.turn n b).counts.getD (m.toNat - 1) 0 := by unfold PoolS.count; rw [if_pos hm']
   have e2 : s.count m = s.counts.getD (m.toNat - 1) 0 := by unfold PoolS.count; rw [if_pos hm]
   obtain ⟨m1, m2⟩ := hm
   rw [e1]
   simp only [PoolS.turn, List.getD_eq_getElem?_getD]
   by_cases he : m = n
   · subst he
     rw [List.getElem?_set_self (by omega), if_pos rfl]; rfl
   · rw [List.getElem?_set_ne (by omega), if_neg he, e2, List.getD_eq_getElem?_getD]
 · have hm' : ¬ (s.turn n b).there m := fun h => hm (turn_there.1 h)
   have hne : m ≠ n := fun e => hm (e ▸ ⟨h1, h2⟩)
   unfold PoolS.count
   rw [if_neg hm', if_neg hm, if_neg hne]
theorem turn_state {s : PoolS} {n b m : Int} (h : s.there n) : (s.turn n b).state m = if m = n then stateOf (s.count n + b) (s.lasts n) else s.state m := by
 unfold PoolS.state
 by_cases hm : s.there m
 · rw [if_pos (turn_there.2 hm), if_pos hm, turn_count h]
   by_cases he : m = n
   · rw [if_pos he, if_pos he, he]; rfl
   · rw [if_neg he, if_neg he]; rfl
 · have hne : m ≠ n := fun e => hm (e ▸ h)
   rw [if_neg (fun h => hm (turn_there.1 h)), if_neg hm, if_neg hne]
theorem state_there {s : PoolS} {n : Int} (h : s.there n) : s.state n = stateOf (s.count n) (s.lasts n) := by unfold PoolS.state; rw [if_pos h]
theorem turn_ok {s : PoolS} (h : PoolOk s) {n b : Int} (h0 : 0 ≤ s.count n + b) (h1 : s.count n + b ≤ 65536) : PoolOk (s.turn n b) := by
 refine ⟨by simpa [PoolS.turn] using h.n1, by simpa [PoolS.turn] using h.n2, by simpa [PoolS.turn] using h.len, h.r1, h.r2, fun c hc => ?_, h.fl, h.mb⟩
 rcases List.mem_or_eq_of_mem_set hc with h2 | h2
 · exact h.cs c h2
 · rw [h2]; exact ⟨h0, h1⟩
/-- How many are k in a list, one of which is another one now. -/
theorem filter_set {α : Type} (p : α → Bool) : ∀ (l : List α) (i : Nat) (x : α) (h : i < l.length),
 ((l.set i x).filter p).length + (if p l[i] then 1 else 0) = (l.filter p).length + (if p x then 1 else 0) := by
 intro l
 induction l with
 | nil => intro i x h; simp at h
 | cons a l ih =>
  intro i x h
  cases i with
  | zero => simp only [List.set_cons_zero, List.filter_cons, List.getElem_cons_zero]; split <;> split <;> simp
  | succ i =>
   have := ih i x (by simpa using h)
   simp only [List.set_cons_succ, List.filter_cons, List.getElem_cons_succ]
   split
   · simp only [List.length_cons]; omega
   · exact this
theorem zip_set {α β : Type} : ∀ (l : List α) (m : List β) (i : Nat) (x : α), (l.set i x).zip m = match m[i]? with
 | some y => (l.zip m).set i (x, y)
 | none => l.zip m := by
 intro l
 induction l with
 | nil => intro m i x; cases m[i]? <;> simp
 | cons a l ih =>
  intro m i x
  cases m with
  | nil => simp
  | cons b m =>
   cases i with
   | zero => simp
   | succ i =>
    have := ih m i x
    simp only [List.set_cons_succ, List.zip_cons_cons, List.getElem?_cons_succ, this]
    cases m[i]? <;> simp
theorem turn_many {s : PoolS} (h : PoolOk s) {n b : Int} (hn : s.there n) (k : Int) :
 (s.turn n b).many k + (if s.state n = k then 1 else 0) = s.many k + (if stateOf (s.count n + b) (s.lasts n) = k then 1 else 0) := by
 obtain ⟨h1, h2⟩ := hn
 have hi : n.toNat - 1 < s.counts.length := by omega
 have hj : n.toNat - 1 < s.last.length := by rw [h.len]; exact hi
 have hlast : s.lasts n = s.last[n.toNat - 1] := by unfold PoolS.lasts; rw [List.getD_eq_getElem?_getD, List.getElem?_eq_getElem hj]; rfl
 have hcount : s.count n = s.counts[n.toNat - 1] := by
  unfold PoolS.count; rw [if_pos ⟨h1, h2⟩, List.getD_eq_getElem?_getD, List.getElem?_eq_getElem hi]; rfl
 have hz : n.toNat - 1 < (s.counts.zip s.last).length := by simp; omega
 have e := filter_set (fun x : Int × Bool => stateOf x.1 x.2 == k) (s.counts.zip s.last) (n.toNat - 1) (s.count n + b, s.last[n.toNat - 1]) hz
 have hset : ((s.turn n b).counts.zip (s.turn n b).last) = (s.counts.zip s.last).set (n.toNat - 1) (s.count n + b, s.last[n.toNat - 1]) := by
  show (s.counts.set _ _).zip s.last = _
  rw [zip_set, List.getElem?_eq_getElem hj]
 unfold PoolS.many
 rw [hset, state_there ⟨h1, h2⟩]
 simp only [List.getElem_zip, beq_iff_eq] at e
 rw [← hcount, ← hlast] at e
 rw [hlast] at e ⊢
 exact e
end Go.Cop
namespace Go.Proofs.YtbobcmimkonnoaaGreat.runs1
open ChangeShapes WideShapes ChangeAt RowKit Sl Go.Shelf
attribute [local go_sem] Oper.semAt_some
/-- The cells of runs. -/
def runCells (rs : List (Int × Int)) : List Value := rs.flatMap fun r => [.int .i64 r.1, .int .i64 r.2]
theorem runCells_at (rs : List (Int × Int)) (k : Nat) (h : k < rs.length) :
 (runCells rs)[k * 2]? = some (.int .i64 rs[k].1) ∧ (runCells rs)[k * 2 + 1]? = some (.int .i64 rs[k].2) := by
 induction rs generalizing k with
 | nil => simp at h
 | cons r rs ih =>
  cases k with
  | zero => simp [runCells]
  | succ k =>
   have := ih k (by simpa using h)
   have e1 : (k + 1) * 2 = k * 2 + 2 := by omega
   rw [e1]
   simp only [runCells, List.flatMap_cons, List.cons_append, List.nil_append, List.getElem?_cons_succ, List.getElem_cons_succ]
   exact this
theorem runCells_append (a b : List (Int × Int)) : runCells (a ++ b) = runCells a ++ runCells b := by simp [runCells]
def I64 (x : Int) : Prop := -9223372036854775808 ≤ x ∧ x ≤ 9223372036854775807
/-- A set in memory: its block p, the slice v of its runs. -/
def SetAt (p : Nat) (v : Value) (rs : List (Int × Int)) : Pr :=
 (Pr.pts p (.cells #[v] 175)).star (Row 177 2 v rs.length (runCells rs))
/-- What runs have of a run. -/
def cutRun (lo hi : Int) (x : Int × Int) : Option (Int × Int) := if max x.1 lo ≤ min x.2 hi then some (max x.1 lo, min x.2 hi) else none
def cutRuns (rs : List (Int × Int)) (lo hi : Int) : List (Int × Int) := rs.filterMap (cutRun lo hi)
theorem cut_list {lo hi : Int} {x m : Int × Int} (h1 : max x.1 lo = m.1) (h2 : min x.2 hi = m.2) (h3 : m.1 ≤ m.2) : (cutRun lo hi x).toList = [m] := by
 unfold cutRun
 rw [h1, h2, if_pos h3]
 rfl
def encRun (x : Int × Int) : Array Value := #[.agg #[.int .i64 x.1, .int .i64 x.2]]
abbrev PtrBx (b p : Nat) : Pr := Pr.pts b (.cells #[.pointer (some ⟨p, 0, none⟩)] 120)
abbrev RunBx (b : Nat) (lo hi : Int) : Pr := Pr.pts b (.cells #[.int .i64 lo, .int .i64 hi] 177)
def WithinOwn (p bs br : Nat) (v : Value) (rs : List (Int × Int)) (lo hi : Int) : Pr :=
 (PtrBx bs p).star ((RunBx br lo hi).star (SetAt p v rs))
set_option maxHeartbeats 1000000 in
theorem within1 (p bs br : Nat) (v : Value) (rs : List (Int × Int)) (lo hi : Int) (hl : rs.length ≤ 4294967296) :
    IterSl Tryz.prog 174 #[.pointer (some ⟨bs, 0, none⟩), .pointer (some ⟨br, 0, none⟩)] encRun (cutRuns rs lo hi) (WithinOwn p bs br v rs lo hi) := by
  intro l J Jx W hY h0
  refine (callsIn_wide (n := 3)).1 ?_
  refine callsIn_of_wp Tryz.func174 rfl trivial ?_ rfl
  simp only [Tryz.ntmps174, List.size_toArray, List.length_cons, List.length_nil, Nat.reduceAdd, Nat.reduceSub, Array.replicate_succ, Array.replicate_zero, List.push_toArray, List.append_toArray, List.nil_append, List.cons_append]
  have facts : ∀ (A : Pr) (wr : World), Sat (A.star (WithinOwn p bs br v rs lo hi)) wr →
      wr.cell? ⟨bs, 0, none⟩ = some (.pointer (some ⟨p, 0, none⟩)) ∧ wr.cell? ⟨br, 0, none⟩ = some (.int .i64 lo) ∧ wr.cell? ⟨br, 1, none⟩ = some (.int .i64 hi) ∧
      wr.cell? ⟨p, 0, none⟩ = some v ∧ bs < wr.heap.size ∧ br < wr.heap.size ∧ p < wr.heap.size ∧
      Sat ((Row 177 2 v rs.length (runCells rs)).star Pr.emp) wr := by
    intro A wr h
    unfold WithinOwn SetAt at h
    have h1 : Sat ((PtrBx bs p).star (A.star ((RunBx br lo hi).star ((Pr.pts p (.cells #[v] 175)).star (Row 177 2 v rs.length (runCells rs)))))) wr := h.perm (by ac_rfl)
    have h2 : Sat ((RunBx br lo hi).star (A.star ((Pr.pts p (.cells #[v] 175)).star (Row 177 2 v rs.length (runCells rs))))) wr := h1.right.perm (by ac_rfl)
    have h3 : Sat ((Pr.pts p (.cells #[v] 175)).star ((Row 177 2 v rs.length (runCells rs)).star A)) wr := h2.right.perm (by ac_rfl)
    refine ⟨by rw [cell_of_heap h1.pts_heap]; rfl, by rw [cell_of_heap h2.pts_heap]; rfl, by rw [cell_of_heap h2.pts_heap]; rfl, by rw [cell_of_heap h3.pts_heap]; rfl, h1.lt, h2.lt, h3.lt, ?_⟩
    rw [Pr.star_emp]; exact h3.right.left
  obtain ⟨a0, c0, rfl, hxl, hrow0⟩ := Row.read (facts _ _ h0).2.2.2.2.2.2.2
  have F0 := facts _ _ h0
  obtain ⟨q1, _, _, q4, _⟩ := F0
  have HF := Lib.hid facts
  have HY := Lib.hid hY
  have H0 := Lib.hid h0
  clear facts hY h0 hrow0 hxl
  gi_wp2
  gi_loopw [11] (fun i wr => ∃ k : Nat, k ≤ rs.length ∧ i = .int .i64 k ∧ Stays W wr ∧ Sat ((J (cutRuns (rs.take k) lo hi)).star (WithinOwn p bs br (.slice a0 rs.length c0) rs lo hi)) wr) (fun i _ => rs.length - (intOf i).toNat)
  case atStart => exact ⟨0, Nat.zero_le _, rfl, Stays.refl _, H0.out⟩
  case round =>
    obtain ⟨k, hk, rfl, hR, hs⟩ := hrel
    by_cases hlt : k < rs.length
    · obtain ⟨q1, q2, q3, q4, z1, z2, z3, hr⟩ := HF.out _ _ hs
      obtain ⟨a1, c1, e1, _, hrow⟩ := Row.read hr
      cases e1
      obtain ⟨b, rfl, hc⟩ := hrow (by omega)
      have hk1 := (runCells_at rs k hlt).1
      have hk2 := (runCells_at rs k hlt).2
      have c1 := (hc (k * 2) (by omega)).1.trans hk1
      have c2 := (hc (k * 2 + 1) (by omega)).1.trans hk2
      have zb := World.block_lt_of_cell? _ _ c1
      have hcat : cutRuns (rs.take (k + 1)) lo hi = cutRuns (rs.take k) lo hi ++ (cutRun lo hi rs[k]).toList := by
        unfold cutRuns
        rw [List.take_succ_eq_append_getElem hlt, List.filterMap_append]
        cases h : cutRun lo hi rs[k] <;> simp [h]
      have hpre : cutRuns (rs.take (k + 1)) lo hi <+: cutRuns rs lo hi := by
        unfold cutRuns
        exact (List.take_prefix _ _).filterMap _
      rw [hcat] at hpre
      have HC := Lib.hid hcat
      have HP := Lib.hid hpre
      clear hcat hpre
      have HS := Lib.hid hs
      clear hc hk1 hk2 hs hr hrow
      generalize rs[k] = x at *
      obtain ⟨x1, x2⟩ := x
      dsimp only at c1 c2
      gi_wp2
      gi_region
      all_goals gi_wp2
      all_goals first
        | (refine ⟨fun _ h => (by cases h), ?_⟩
           gi_wp2
           go_roundw
           case rel =>
             refine ⟨k + 1, by omega, by go_num, ((hR.alloc _).drew), ?_⟩
             have hn : cutRun lo hi (x1, x2) = none := by simp only [cutRun]; rw [if_neg (by omega)]
             rw [HC.out, hn]
             simpa using (HS.out.alloc _).right.drew
           case measure => simp [intOf]; omega)
        | (refine at_yield (HY.out Pr.emp (cutRuns (rs.take k) lo hi) (_, _) _ ?_ (((HS.out.alloc _).right.drew).perm (Pr.star_emp _).symm)) ?_
           · rw [← cut_list (lo := lo) (hi := hi) (x := (x1, x2)) (by simp only []; omega) (by simp only []; omega) (by simp only []; omega)]
             exact HP.out
           · rintro e w' ⟨hR', (⟨rfl, hs'⟩ | ⟨rfl, hs'⟩)⟩ <;> rw [Pr.star_emp] at hs'
             · refine ⟨_, rfl, ?_⟩
               rw [← cut_list (lo := lo) (hi := hi) (x := (x1, x2)) (by simp only []; omega) (by simp only []; omega) (by simp only []; omega), ← HC.out] at hs'
               have HS' := Lib.hid hs'
               clear hs'
               gi_wp2
               go_roundw
               case rel => exact ⟨k + 1, by omega, by go_num, ((hR.alloc _).drew).trans hR', HS'.out⟩
               case measure => simp [intOf]; omega
             · refine ⟨_, rfl, ?_⟩
               rw [← cut_list (lo := lo) (hi := hi) (x := (x1, x2)) (by simp only []; omega) (by simp only []; omega) (by simp only []; omega)] at hs'
               have HS' := Lib.hid hs'
               clear hs'
               gi_wp2
               refine bodyPost_ret (results_none rfl _ _ _) rfl ?_
               exact ⟨⟨_, rfl⟩, ((hR.alloc _).drew).trans hR', .inr ⟨_, HP.out, HS'.out⟩⟩)
    · gi_wp2
      go_end0
      have : k = rs.length := by omega
      subst this
      refine ⟨⟨_, rfl⟩, hR, .inl ⟨_, rfl, ?_⟩⟩
      simpa using hs
end Go.Proofs.YtbobcmimkonnoaaGreat.runs1
namespace Go.Proofs.YtbobcmimkonnoaaGreat.runs2
open ChangeShapes WideShapes ChangeAt RowKit Sl Go.Shelf runs1
attribute [local go_sem] Oper.semAt_some
set_option maxHeartbeats 400000 in
theorem within_any (p : Nat) (lo hi : Int) (w : World) :
 Calls Tryz.prog 172 #[.pointer (some ⟨p, 0, none⟩), .agg #[.int .i64 lo, .int .i64 hi]] w fun e w' =>
  e = .returned (.func (.func 174) #[] #[.pointer (some ⟨w.heap.size, 0, none⟩), .pointer (some ⟨w.heap.size + 1, 0, none⟩)]) ∧
  (w.alloc (.cells #[.pointer (some ⟨p, 0, none⟩)] 120)).alloc (.cells #[.int .i64 lo, .int .i64 hi] 177) = w' := by
 go_enter Tryz.func172, Tryz.ntmps172
 go_wp2
 go_ret
 exact ⟨rfl, rfl⟩
set_option maxHeartbeats 400000 in
theorem gaps_any (p : Nat) (lo hi : Int) (w : World) :
 Calls Tryz.prog 166 #[.pointer (some ⟨p, 0, none⟩), .agg #[.int .i64 lo, .int .i64 hi]] w fun e w' =>
  e = .returned (.func (.func 171) #[] #[.pointer (some ⟨w.heap.size, 0, none⟩), .pointer (some ⟨w.heap.size + 1, 0, none⟩)]) ∧
  (w.alloc (.cells #[.pointer (some ⟨p, 0, none⟩)] 120)).alloc (.cells #[.int .i64 lo, .int .i64 hi] 177) = w' := by
 go_enter Tryz.func166, Tryz.ntmps166
 go_wp2
 go_ret
 exact ⟨rfl, rfl⟩
set_option maxHeartbeats 400000 in
theorem with_any (n lo hi : Int) (w : World) :
 Calls Tryz.prog 167 #[.int .u64 n, .agg #[.int .i64 lo, .int .i64 hi]] w fun e w' =>
  (∃ m, e = .returned (.int .u64 m)) ∧ w.alloc (.cells #[.int .i64 lo, .int .i64 hi] 177) = w' := by
 go_enter Tryz.func167, Tryz.ntmps167
 go_wp2
 all_goals
  go_ret
  exact ⟨⟨_, rfl⟩, rfl⟩
abbrev YldBx (b l : Nat) : Pr := Pr.pts b (.cells #[.func (.yield l) #[] #[]] 188)
abbrev SomeRun (b : Nat) : Pr := Pr.ex fun lh : Int × Int => RunBx b lh.1 lh.2
/-- What the iterator over gaps owns. -/
def GapsOwn (p bs br : Nat) (v : Value) (rs : List (Int × Int)) : Pr := (SomeRun br).star ((PtrBx bs p).star (SetAt p v rs))
/-- What a loop over the gaps' inner iterator holds. -/
abbrev GapsI (J : List (Int × Int) → Pr) (l y p bs br : Nat) : Pr := (Pr.ex fun L : List (Int × Int) => J L).star ((YldBx y l).star ((SomeRun br).star (PtrBx bs p)))
abbrev GapsX (J Jx : List (Int × Int) → Pr) (p bs br : Nat) : Pr := (Pr.ex fun L : List (Int × Int) => Pr.ex fun b : Bool => if b then J L else Jx L).star ((SomeRun br).star (PtrBx bs p))
set_option maxHeartbeats 2000000 in
theorem gaps1 (p bs br : Nat) (v : Value) (rs : List (Int × Int)) (hl : rs.length ≤ 4294967296) :
 IterAny Tryz.prog 171 #[.pointer (some ⟨bs, 0, none⟩), .pointer (some ⟨br, 0, none⟩)] encRun (GapsOwn p bs br v rs) := by
 intro l J Jx W hY h0
 refine (callsIn_wide (n := 9)).1 (callsIn_of_wp_marks Tryz.func171 rfl trivial ?_ rfl)
 simp only [Tryz.ntmps171, List.size_toArray, List.length_cons, List.length_nil, Nat.reduceAdd, Nat.reduceSub, Array.replicate_succ, Array.replicate_zero, List.push_toArray, List.append_toArray, List.nil_append, List.cons_append]
 unfold GapsOwn at h0
 simp only [Pr.ex_star, Pr.star_ex, Sat.ex0] at h0
 obtain ⟨⟨lo, hi⟩, h0⟩ := h0
 dsimp only at h0
 have h1 : Sat ((RunBx br lo hi).star ((PtrBx bs p).star ((SetAt p v rs).star (J [])))) W := h0.perm (by ac_rfl)
 have h2 : Sat ((PtrBx bs p).star ((RunBx br lo hi).star ((SetAt p v rs).star (J [])))) W := h0.perm (by ac_rfl)
 have q1 : W.cell? ⟨br, 0, none⟩ = some (.int .i64 lo) := by rw [cell_of_heap h1.pts_heap]; rfl
 have q2 : W.cell? ⟨br, 1, none⟩ = some (.int .i64 hi) := by rw [cell_of_heap h1.pts_heap]; rfl
 have q3 : W.cell? ⟨bs, 0, none⟩ = some (.pointer (some ⟨p, 0, none⟩)) := by rw [cell_of_heap h2.pts_heap]; rfl
 have z1 := h1.lt
 have z2 := h2.lt
 have HY := Lib.hid hY
 have H2 := Lib.hid h2
 clear hY h0 h1 h2
 gi_wp2_with (refine ⟨trivial, ?_⟩; gi_at_call 172; refine (callsIn_wide.2 (within_any _ _ _ _)).mono ?_; rintro e w' ⟨rfl, rfl⟩)
 have HS : Sat ((GapsI J l W.heap.size p bs br).star (WithinOwn p (W.heap.size + 1) (W.heap.size + 1 + 1) v rs lo hi))
  (((W.alloc (.cells #[.func (.yield l) #[] #[]] 188)).alloc (.cells #[.pointer (some ⟨p, 0, none⟩)] 120)).alloc (.cells #[.int .i64 lo, .int .i64 hi] 177)) := by
  have h0 := ((H2.out.alloc (.cells #[.func (.yield l) #[] #[]] 188)).alloc (.cells #[.pointer (some ⟨p, 0, none⟩)] 120)).alloc (.cells #[.int .i64 lo, .int .i64 hi] 177)
  simp only [World.size_alloc] at h0
  have this : Sat ((RunBx (W.heap.size + 1 + 1) lo hi).star ((PtrBx (W.heap.size + 1) p).star ((YldBx W.heap.size l).star ((PtrBx bs p).star ((RunBx br lo hi).star ((SetAt p v rs).star (J []))))))) _ := h0
  unfold WithinOwn
  simp only [Pr.ex_star, Pr.star_ex, Sat.ex0]
  exact ⟨[], (lo, hi), this.perm (by dsimp only; ac_rfl)⟩
 have HR : Stays W (((W.alloc (.cells #[.func (.yield l) #[] #[]] 188)).alloc (.cells #[.pointer (some ⟨p, 0, none⟩)] 120)).alloc (.cells #[.int .i64 lo, .int .i64 hi] 177)) := (((Stays.refl W).alloc _).alloc _).alloc _
 obtain ⟨W0, hW0⟩ : ∃ W0, (((W.alloc (.cells #[.func (.yield l) #[] #[]] 188)).alloc (.cells #[.pointer (some ⟨p, 0, none⟩)] 120)).alloc (.cells #[.int .i64 lo, .int .i64 hi] 177)) = W0 := ⟨_, rfl⟩
 rw [hW0] at HS HR ⊢
 have HR := Lib.hid HR
 clear hW0 H2 q1 q2 q3 z1 z2
 refine wpIn_rangeFunc_sl (gf := 174) rfl (enters_of Tryz.func174 (by kernel_rfl) rfl) (within1 p (W.heap.size + 1) (W.heap.size + 1 + 1) v rs lo hi hl) (fun _ => rfl)
  (fun _ => GapsI J l W.heap.size p bs br) (fun c _ => (Pr.pure (c = .ret)).star (GapsX J Jx p bs br)) HS ?round ?done ?stop
 case round =>
  intro l' pre x W1 F1 _ hs
  obtain ⟨x1, x2⟩ := x
  have HS1 := Lib.hid hs
  clear hs
  simp only [encRun]
  gi_wp2
  have hsA := HS1.out.alloc (.cells #[.int .i64 x1, .int .i64 x2] 177)
  refine ⟨(RunBx W1.heap.size x1 x2).star ((GapsI J l W.heap.size p bs br).star (WithinOwn p (W.heap.size + 1) (W.heap.size + 1 + 1) v rs lo hi)), (Stays.refl _).alloc _, hsA.perm (by ac_rfl), ?_⟩
  clear hsA HS1 HS HR
  generalize W1.heap.size = B
  intro F2 W2 _ hs2
  -- the facts of a world in which the round stands
  have facts : ∀ (wx : World) (a b : Int) (L : List (Int × Int)), Sat ((J L).star ((RunBx br a b).star ((YldBx W.heap.size l).star ((RunBx B x1 x2).star ((PtrBx bs p).star ((WithinOwn p (W.heap.size + 1) (W.heap.size + 1 + 1) v rs lo hi).star F2)))))) wx →
   wx.cell? ⟨br, 0, none⟩ = some (.int .i64 a) ∧ wx.cell? ⟨br, 1, none⟩ = some (.int .i64 b) ∧ wx.cell? ⟨W.heap.size, 0, none⟩ = some (.func (.yield l) #[] #[]) ∧
   wx.cell? ⟨B, 0, none⟩ = some (.int .i64 x1) ∧ wx.cell? ⟨B, 1, none⟩ = some (.int .i64 x2) ∧ wx.frozen? ⟨br, 0, none⟩ = false := by
   intro wx a b L h
   have h1 : Sat ((RunBx br a b).star ((J L).star ((YldBx W.heap.size l).star ((RunBx B x1 x2).star ((PtrBx bs p).star ((WithinOwn p (W.heap.size + 1) (W.heap.size + 1 + 1) v rs lo hi).star F2)))))) wx := h.perm (by ac_rfl)
   have h2 : Sat ((YldBx W.heap.size l).star ((RunBx B x1 x2).star ((PtrBx bs p).star ((WithinOwn p (W.heap.size + 1) (W.heap.size + 1 + 1) v rs lo hi).star F2)))) wx := h1.right.right
   refine ⟨?_, ?_, ?_, ?_, ?_, frozen_of_heap h1.pts_heap 0⟩
   · rw [cell_of_heap h1.pts_heap]; rfl
   · rw [cell_of_heap h1.pts_heap]; rfl
   · rw [cell_of_heap h2.pts_heap]; rfl
   · rw [cell_of_heap h2.right.pts_heap]; rfl
   · rw [cell_of_heap h2.right.pts_heap]; rfl
  simp only [Pr.ex_star, Pr.star_ex, Sat.ex0] at hs2
  obtain ⟨L, ⟨a, b⟩, hs2⟩ := hs2
  have hs3 : Sat ((J L).star ((RunBx br a b).star ((YldBx W.heap.size l).star ((RunBx B x1 x2).star ((PtrBx bs p).star ((WithinOwn p (W.heap.size + 1) (W.heap.size + 1 + 1) v rs lo hi).star F2)))))) W2 := hs2.perm (by ac_rfl)
  obtain ⟨r1, r2, r3, r4, r5, r6⟩ := facts _ _ _ _ hs3
  have HS3 := Lib.hid hs3
  have HF := Lib.hid facts
  clear hs2 hs3 facts
  -- the end of the round, from wherever the state is
  have fin : ∀ (e : Exit) (ac : Act) (wx w' : World) (a b : Int) (L : List (Int × Int)), Sat ((J L).star ((RunBx br a b).star ((YldBx W.heap.size l).star ((RunBx B x1 x2).star ((PtrBx bs p).star ((WithinOwn p (W.heap.size + 1) (W.heap.size + 1 + 1) v rs lo hi).star F2)))))) wx →
   Stays W2 wx → ((e = .normal ∧ w' = wx.setCell ⟨br, 0, none⟩ (.int .i64 (wrap64 (x2 + 1)))) ∨ (e = .ret ∧ w' = wx)) →
   roundEnd (fun _ => GapsI J l W.heap.size p bs br) (fun c _ => (Pr.pure (c = .ret)).star (GapsX J Jx p bs br)) (WithinOwn p (W.heap.size + 1) (W.heap.size + 1 + 1) v rs lo hi) F2 (pre ++ [(x1, x2)]) W2 e ac w' := by
   intro e ac wx w' a b L h hst he
   have h1 : Sat ((RunBx br a b).star ((J L).star ((YldBx W.heap.size l).star ((RunBx B x1 x2).star ((PtrBx bs p).star ((WithinOwn p (W.heap.size + 1) (W.heap.size + 1 + 1) v rs lo hi).star F2)))))) wx := h.perm (by ac_rfl)
   rcases he with ⟨rfl, rfl⟩ | ⟨rfl, rfl⟩
   · refine ⟨hst.setCell _ _, ?_⟩
     have h2 := h1.setCell (i := 0) (.int .i64 (wrap64 (x2 + 1)))
     simp only [Pr.ex_star, Pr.star_ex, Sat.ex0]
     have h3 : Sat ((RunBx B x1 x2).star (((J L).star ((YldBx W.heap.size l).star ((RunBx br (wrap64 (x2 + 1)) b).star (PtrBx bs p)))).star ((WithinOwn p (W.heap.size + 1) (W.heap.size + 1 + 1) v rs lo hi).star F2))) (wx.setCell ⟨br, 0, none⟩ (.int .i64 (wrap64 (x2 + 1)))) := h2.perm (by show (RunBx br (wrap64 (x2 + 1)) b).star _ = _; ac_rfl)
     exact ⟨L, (wrap64 (x2 + 1), b), h3.right.perm (by dsimp only; ac_rfl)⟩
   · refine ⟨hst, ?_⟩
     have h3 : Sat ((RunBx B x1 x2).star ((YldBx W.heap.size l).star (((J L).star ((RunBx br a b).star (PtrBx bs p))).star ((WithinOwn p (W.heap.size + 1) (W.heap.size + 1 + 1) v rs lo hi).star F2)))) w' := h.perm (by ac_rfl)
     refine Sat.perm (Sat.pure.2 ⟨rfl, ?_⟩) (by rw [← Pr.star_assoc, ← Pr.star_assoc])
     simp only [Pr.ex_star, Pr.star_ex, Sat.ex0]
     exact ⟨L, (a, b), true, h3.right.right.perm (by simp only [if_true])⟩
  have FIN := Lib.hid fin
  clear fin
  by_cases hgt : a < x1
  · gi_wp2
    refine at_yield_in (HY.out ((YldBx W.heap.size l).star ((RunBx B x1 x2).star ((PtrBx (W.heap.size + 1) p).star ((RunBx (W.heap.size + 1 + 1) lo hi).star F2)))) L (_, _) _ trivial ?_) ?_
    · unfold GapsOwn
      simp only [Pr.ex_star, Pr.star_ex, Sat.ex0]
      exact ⟨(a, b), HS3.out.perm (by unfold WithinOwn; dsimp only; ac_rfl)⟩
    · rintro e w' ⟨hR', (⟨rfl, hs'⟩ | ⟨rfl, hs'⟩)⟩
      · unfold GapsOwn at hs'
        simp only [Pr.ex_star, Pr.star_ex, Sat.ex0] at hs'
        obtain ⟨⟨a', b'⟩, hs'⟩ := hs'
        have hs4 : Sat ((J (L ++ [_])).star ((RunBx br a' b').star ((YldBx W.heap.size l).star ((RunBx B x1 x2).star ((PtrBx bs p).star ((WithinOwn p (W.heap.size + 1) (W.heap.size + 1 + 1) v rs lo hi).star F2)))))) w' := hs'.perm (by unfold WithinOwn; dsimp only; ac_rfl)
        clear hs' r1 r2 r3 r4 r5 r6
        obtain ⟨r1, r2, r3, r4, r5, r6⟩ := HF.out _ _ _ _ hs4
        have HS4 := Lib.hid hs4
        clear hs4
        refine ⟨_, rfl, ?_⟩
        gi_wp2
        all_goals first
         | exact FIN.out _ _ w' _ _ _ _ HS4.out hR' (.inr ⟨rfl, rfl⟩)
         | exact FIN.out _ _ w' _ _ _ _ HS4.out hR' (.inl ⟨rfl, rfl⟩)
      · unfold GapsOwn at hs'
        simp only [Pr.ex_star, Pr.star_ex, Sat.ex0] at hs'
        obtain ⟨⟨a', b'⟩, hs'⟩ := hs'
        have HS4 := Lib.hid hs'
        clear hs'
        refine ⟨_, rfl, ?_⟩
        gi_wp2
        refine ⟨hR', ?_⟩
        have h3 : Sat ((RunBx B x1 x2).star ((YldBx W.heap.size l).star (((Jx (L ++ [_])).star ((RunBx br a' b').star (PtrBx bs p))).star ((WithinOwn p (W.heap.size + 1) (W.heap.size + 1 + 1) v rs lo hi).star F2)))) w' := HS4.out.perm (by unfold WithinOwn; ac_rfl)
        refine Sat.perm (Sat.pure.2 ⟨rfl, ?_⟩) (by rw [← Pr.star_assoc, ← Pr.star_assoc])
        simp only [Pr.ex_star, Pr.star_ex, Sat.ex0]
        exact ⟨L ++ [_], (a', b'), false, h3.right.right.perm (by simp only [Bool.false_eq_true, if_false]; ac_rfl)⟩
  · gi_wp2
    all_goals try refine ⟨fun _ h => (by cases h), ?_⟩
    all_goals gi_wp2
    all_goals first
     | exact FIN.out _ _ W2 _ _ _ _ HS3.out (Stays.refl _) (.inr ⟨rfl, rfl⟩)
     | exact FIN.out _ _ W2 _ _ _ _ HS3.out (Stays.refl _) (.inl ⟨rfl, rfl⟩)
 case done =>
  intro D xs W2 _ hst hs
  simp only [Pr.ex_star, Pr.star_ex, Sat.ex0] at hs
  obtain ⟨L, ⟨a, b⟩, hs⟩ := hs
  have h1 : Sat ((RunBx br a b).star ((YldBx W.heap.size l).star ((J L).star ((PtrBx bs p).star ((WithinOwn p (W.heap.size + 1) (W.heap.size + 1 + 1) v rs lo hi).star (Pr.pts D (.deferred (some [])))))))) W2 := hs.perm (by ac_rfl)
  have r1 : W2.cell? ⟨br, 0, none⟩ = some (.int .i64 a) := by rw [cell_of_heap h1.pts_heap]; rfl
  have r2 : W2.cell? ⟨br, 1, none⟩ = some (.int .i64 b) := by rw [cell_of_heap h1.pts_heap]; rfl
  have r3 : W2.cell? ⟨W.heap.size, 0, none⟩ = some (.func (.yield l) #[] #[]) := by rw [cell_of_heap h1.right.pts_heap]; rfl
  have H1 := Lib.hid h1
  clear h1 hs HS
  gi_wp2
  refine at_yield (HY.out ((YldBx W.heap.size l).star ((PtrBx (W.heap.size + 1) p).star ((RunBx (W.heap.size + 1 + 1) lo hi).star (Pr.pts D (.deferred (some [])))))) L (_, _) _ trivial ?_) ?_
  · unfold GapsOwn
    simp only [Pr.ex_star, Pr.star_ex, Sat.ex0]
    exact ⟨(a, b), H1.out.perm (by unfold WithinOwn; dsimp only; ac_rfl)⟩
  · rintro e w' ⟨hR', hh⟩
    have hD : w'.heap[D]? = some (.deferred (some [])) := by
     rcases hh with ⟨_, hh⟩ | ⟨_, hh⟩
     · exact (hh.perm (show _ = (Pr.pts D (.deferred (some []))).star (((J (L ++ [_])).star (GapsOwn p bs br v rs)).star ((YldBx W.heap.size l).star ((PtrBx (W.heap.size + 1) p).star (RunBx (W.heap.size + 1 + 1) lo hi)))) from by ac_rfl)).pts_heap
     · exact (hh.perm (show _ = (Pr.pts D (.deferred (some []))).star (((Jx (L ++ [_])).star (GapsOwn p bs br v rs)).star ((YldBx W.heap.size l).star ((PtrBx (W.heap.size + 1) p).star (RunBx (W.heap.size + 1 + 1) lo hi)))) from by ac_rfl)).pts_heap
    rcases hh with ⟨rfl, hh⟩ | ⟨rfl, hh⟩
    all_goals
     have HH := Lib.hid hh
     have HD := Lib.hid hD
     clear hh hD
     refine ⟨_, rfl, ?_⟩
     gi_wp2
     first
      | refine marks_end1 (D := D) rfl HD.out ⟨_, results_none rfl _ _ _, ⟨_, rfl⟩, ?_, ?_⟩
      | refine marks_ret1 (D := D) rfl HD.out ⟨_, results_none rfl _ _ _, ⟨_, rfl⟩, ?_, ?_⟩
     · exact ((HR.out.trans hst).trans hR').putObj _ _
     · first
       | exact .inl ⟨_, (((HH.out.perm (show _ = (Pr.pts D (.deferred (some []))).star (((J (L ++ [_])).star (GapsOwn p bs br v rs)).star ((YldBx W.heap.size l).star ((PtrBx (W.heap.size + 1) p).star (RunBx (W.heap.size + 1 + 1) lo hi)))) from by ac_rfl)).putObj (.deferred none)).right).left⟩
       | exact .inr ⟨_, (((HH.out.perm (show _ = (Pr.pts D (.deferred (some []))).star (((Jx (L ++ [_])).star (GapsOwn p bs br v rs)).star ((YldBx W.heap.size l).star ((PtrBx (W.heap.size + 1) p).star (RunBx (W.heap.size + 1 + 1) lo hi)))) from by ac_rfl)).putObj (.deferred none)).right).left⟩
 case stop =>
  intro D c pre W2 _ hst hs
  obtain ⟨hc, hs'⟩ := Sat.pure.1 (hs.perm (show _ = (Pr.pure (c = .ret)).star ((GapsX J Jx p bs br).star ((WithinOwn p (W.heap.size + 1) (W.heap.size + 1 + 1) v rs lo hi).star (Pr.pts D (.deferred (some []))))) from by ac_rfl))
  clear hs
  subst hc
  simp only [Pr.ex_star, Pr.star_ex, Sat.ex0] at hs'
  obtain ⟨L, ⟨a, b⟩, t, hs⟩ := hs'
  have hs1 : Sat ((Pr.pts D (.deferred (some []))).star (((if t then J L else Jx L).star ((RunBx br a b).star (PtrBx bs p))).star (WithinOwn p (W.heap.size + 1) (W.heap.size + 1 + 1) v rs lo hi))) W2 := hs.perm (by ac_rfl)
  have HD := Lib.hid hs1.pts_heap
  have HH := Lib.hid (hs1.putObj (.deferred none)).right
  clear hs hs1 HS
  gi_wp2
  refine marks_ret1 (D := D) rfl HD.out ⟨_, results_none rfl _ _ _, ⟨_, rfl⟩, ?_, ?_⟩
  · exact (HR.out.trans hst).putObj _ _
  · have h2 : Sat ((PtrBx (W.heap.size + 1) p).star ((RunBx (W.heap.size + 1 + 1) lo hi).star ((if t then J L else Jx L).star ((RunBx br a b).star ((PtrBx bs p).star (SetAt p v rs)))))) (W2.putObj D (.deferred none)) := HH.out.perm (by unfold WithinOwn; ac_rfl)
    have h3 := h2.right.right
    have h4 : ∀ X : Pr, Sat (X.star ((RunBx br a b).star ((PtrBx bs p).star (SetAt p v rs)))) (W2.putObj D (.deferred none)) → Sat (X.star (GapsOwn p bs br v rs)) (W2.putObj D (.deferred none)) := by
     intro X h
     unfold GapsOwn
     simp only [Pr.ex_star, Pr.star_ex, Sat.ex0]
     exact ⟨(a, b), h⟩
    cases t with
    | true => exact .inl ⟨L, trivial, h4 (J L) h3⟩
    | false => exact .inr ⟨L, trivial, h4 (Jx L) h3⟩
end Go.Proofs.YtbobcmimkonnoaaGreat.runs2
