/- The vault: free, in the midst of an act; the conditions stand as hypotheses. -/
import Derived.Test.YtbobcmimkonnoaaGreatBlobAnswersM15
import Derived.Test.YtbobcmimkonnoaaGreatBlobAnswersM14
import Derived.Test.YtbobcmimkonnoaaGreatBlobAnswersM03
import Derived.Test.YtbobcmimkonnoaaGreatBlobAnswersM13
import Derived.Test.YtbobcmimkonnoaaGreatBlobAnswersM09
namespace Go.Cop
/-- A page to which nothing leads any longer. -/
def VaultS.freed (s : VaultS) (n : Int) : VaultS := { s with pool := s.pool.did n (-1), on := fun m => if m = n then none else s.on m }
end Go.Cop
namespace Go.Proofs.YtbobcmimkonnoaaGreat.free
open ChangeShapes WideShapes ChangeAt RowKit Sl Cop pool1 pool2 pool5 pool9 clone page vault1 vault2 vault3 vault4
theorem onIn_del {h : Hp} {f : Int → Option Value} {on : Int → Option PageV} (hO : OnIn h f on) (n : Int) : OnIn h (fun m => if m = n then none else f m) (fun m => if m = n then none else on m) := by
 intro m
 dsimp only
 by_cases hm : m = n
 · simp only [hm, if_true]
 · simp only [hm, if_false]; exact hO m
theorem was_snoc {h : Hp} {ws : List WasX} {was : List (Int × Option PageV)} (hw : WasIn h ws was) {X : WasX} {y : Int × Option PageV} (hr : WasRel h X y) : WasIn h (ws ++ [X]) (was ++ [y]) := by
 refine ⟨by simp [hw.1], fun i h1 h2 => ?_⟩
 rcases Nat.lt_or_ge i was.length with hlt | hge
 · have hx : i < ws.length := by rw [hw.1]; exact hlt
   rw [List.getElem_append_left hx, List.getElem_append_left hlt]
   exact hw.2 i hx hlt
 · have h3 : i = was.length := by simp at h2; omega
   subst h3
   have hx : ws.length ≤ was.length := by rw [hw.1]; omega
   rw [List.getElem_append_right hx, List.getElem_append_right hge]
   simpa using hr
theorem pool_state (p : Nat) (s : PoolS) (n : Int) (F : Pr) (w : World) (hF : Sat ((PoolA p s).star F) w) :
 Calls Tryz.prog 47 #[.pointer (some ⟨p, 0, none⟩), .int .i64 n] w fun e w' => e = .returned (.int .i64 (s.state n)) ∧ w = w' :=
 state_any p n w s (poolA_rd hF).2.1
set_option maxRecDepth 100000 in
set_option maxHeartbeats 2000000 in
theorem free_A (v : Nat) (s : VaultS) (ab : Nat) (mark : Int) (was : List (Int × Option PageV)) (n : Int) (hn : 1 ≤ n ∧ n ≤ 65536) (hs : s.pool.state n = 1) (hl : was.length ≤ 65536) (F : Pr) (w : World)
 (hF : Sat ((VMA v s ab mark was).star F) w) :
 Calls Tryz.prog 155 #[.pointer (some ⟨v, 0, none⟩), .pointer (some ⟨ab, 0, none⟩), .int .i64 n] w fun e w' =>
  e = .returned (.tuple #[]) ∧ Sat ((VMA v { s with on := fun m => if m = n then none else s.on m } ab mark (was ++ [(n, s.on n)])).star F) w' ∧ Stays w w' := by
 obtain ⟨x, wv, ws, ok, hws, hF⟩ := vma_iff.1 hF
 have h1 : Sat ((PoolA x.p s.pool).star ((Pr.pts v (.cells #[.pointer (some ⟨x.p, 0, none⟩), .map (some x.mb), x.av, .int .i64 s.floor] 71)).star
  ((((MapA Tryz.prog 3 x.mb x.f).star ((Row 158 2 x.av s.acts.length (actCells x.axs)).star (Pr.own x.h)))).star (((Pr.pts ab (.cells #[.int .i64 mark, wv] 158)).star (Row 172 7 wv ws.length (ws.flatMap WasX.cells))).star F)))) w := hF.perm (by unfold VMAt VaultAt; ac_rfl)
 have qv : w.cell? ⟨v, 0, none⟩ = some (.pointer (some ⟨x.p, 0, none⟩)) := by rw [cell_of_heap h1.right.pts_heap]; rfl
 have P := pool_state x.p s.pool n _ w h1
 rw [hs] at P
 have HP := Lib.hid P
 have N := Lib.hid (note_at v s x ab mark wv ws n hn ok.on (by rw [hws.1]; exact hl) F w hF)
 clear h1 P hF
 go_enter Tryz.func155, Tryz.ntmps155
 go_wp2_with fail
 refine HP.out.mono ?_
 rintro e w1 ⟨rfl, rfl⟩
 go_wp2_with fail
 refine N.out.mono ?_
 rintro e w1 ⟨rfl, ⟨wv', X, hX, h4⟩, hst⟩
 have h5 : Sat ((MapA Tryz.prog 3 x.mb x.f).star ((Pr.pts v (.cells #[.pointer (some ⟨x.p, 0, none⟩), .map (some x.mb), x.av, .int .i64 s.floor] 71)).star
  (((PoolA x.p s.pool).star ((Row 158 2 x.av s.acts.length (actCells x.axs)).star (Pr.own x.h))).star (((Pr.pts ab (.cells #[.int .i64 mark, wv'] 158)).star (Row 172 7 wv' (ws ++ [X]).length ((ws ++ [X]).flatMap WasX.cells))).star F)))) w1 := h4.perm (by unfold VMAt VaultAt; ac_rfl)
 have q1 : w1.cell? ⟨v, 1, none⟩ = some (.map (some x.mb)) := by rw [cell_of_heap h5.right.pts_heap]; rfl
 have H5 := Lib.hid h5
 clear h5 h4 qv N HP
 go_wp2_with (refine wpList_del rfl _ _ _ rfl Tryz.underlying3 Tryz.underlying68 n hn rfl rfl H5.out ?_; intro w2 hs2 hg2; have HS2 := Lib.hid hs2; have HG2 := Lib.hid hg2; clear hs2 hg2)
 trace_state
 first | refine bodyPost_ret (results_none rfl _ _ _) rfl ?_ | go_end0
 refine ⟨rfl, vma_iff.2 ⟨{ x with f := fun m => if m = n then none else x.f m }, wv', ws ++ [X], ⟨onIn_del ok.on n, ok.acts, ok.f0, ok.fb⟩, was_snoc hws hX, ?_⟩, hst.of_grown HG2.out⟩
 exact HS2.out.perm (by unfold VMAt VaultAt; dsimp only; ac_rfl)
end Go.Proofs.YtbobcmimkonnoaaGreat.free
namespace Go.Cop
def VaultS.freedAll (s : VaultS) : List Int → VaultS
 | [] => s
 | n :: ns => (s.freed n).freedAll ns
end Go.Cop
namespace Go.Proofs.YtbobcmimkonnoaaGreat.drop
open ChangeShapes WideShapes ChangeAt RowKit Sl Cop pool1 pool2 pool5 pool9 clone page vault1 vault2 vault3 vault4 kids free
end Go.Proofs.YtbobcmimkonnoaaGreat.drop
namespace Go.Cop
/-- How many pages a value takes. -/
def pagesV (V : List Int) : Nat := if V.length ≤ 32 then 0 else chunks V
theorem chain_counts {s : VaultS} {V : List Int} : ∀ {k j : Nat} {c : Int} {ns : List Int}, ChainAt s V k j c ns → ∀ n ∈ ns, s.pool.count n = 1 := by
 intro k
 induction k with
 | zero => intro j c ns h; rw [h.2]; simp
 | succ k ih =>
  intro j c ns h n hn
  obtain ⟨c', ns', rfl, _, h3, _, h5⟩ := h
  rcases List.mem_cons.1 hn with rfl | hn
  · exact h3
  · exact ih h5 n hn
theorem chain_taken {s s' : VaultS} {V : List Int} {k j : Nat} {c : Int} {ns ns' : List Int} (h : ChainAt s V k j c ns) (ok : PoolOk s.pool) (ht : Taken s s' ns') : ChainAt s' V k j c ns := by
 refine chain_keep (fun n hn => ?_) h
 have h1 := chain_counts h n hn
 exact ht.same n (fun hm => by have := count_of_free ok (ht.free n hm); omega)
end Go.Cop
namespace Go.Proofs.YtbobcmimkonnoaaGreat.apart1
open ChangeShapes WideShapes ChangeAt RowKit Sl Cop pool1 pool2 pool5 pool9 clone page vault1 vault2 vault3 vault4 vault5 vault6 vault8 blob1 blob2 blob3 blob4 blob5 eqb
theorem pagesOf_eq (V : List Int) : pagesOf V.length = pagesV V := by
 unfold pagesOf pagesV chunks
 by_cases h : V.length ≤ 32
 · rw [if_pos (by omega), if_pos h]; rfl
 · rw [if_neg (by omega), if_neg h]; omega
/-- An item under which a value is stored. -/
def StoredAt (s : VaultS) (h : Hp) (kv vv : Value) (c : Int) (V : List Int) : Prop :=
 IsSl kv ∧ IsSl vv ∧ ((V.length ≤ 32 ∧ Bytes h vv V) ∨ ((32 < V.length ∧ V.length ≤ 3840) ∧ vv = .slice none 0 0 ∧ ∃ ns, ChainAt s V (chunks V) 0 c ns))
theorem StoredAt.sub {s : VaultS} {h h' : Hp} {kv vv : Value} {c : Int} {V : List Int} (hs : h.sub h') (x : StoredAt s h kv vv c V) : StoredAt s h' kv vv c V :=
 ⟨x.1, x.2.1, x.2.2.imp (fun y => ⟨y.1, y.2.sub hs⟩) id⟩
theorem StoredAt.taken {s s' : VaultS} {h : Hp} {kv vv : Value} {c : Int} {V : List Int} {ns : List Int} (ok : PoolOk s.pool) (ht : Taken s s' ns) (x : StoredAt s h kv vv c V) : StoredAt s' h kv vv c V :=
 ⟨x.1, x.2.1, x.2.2.imp id (fun ⟨y1, y2, m, y3⟩ => ⟨y1, y2, m, chain_taken y3 ok ht⟩)⟩
end Go.Proofs.YtbobcmimkonnoaaGreat.apart1
namespace Go.Cop
end Go.Cop
namespace Go.Proofs.YtbobcmimkonnoaaGreat.dropA
open ChangeShapes WideShapes ChangeAt RowKit Sl Cop pool1 pool2 pool5 pool9 clone page vault1 vault2 vault3 vault4 vault5 kids free drop apart1
/-- The pages of what has been stored. -/
def nsOf (s : VaultS) (c : Int) (V : List Int) (ns : List Int) : Prop := (V.length ≤ 32 ∧ ns = []) ∨ ((32 < V.length ∧ V.length ≤ 3840) ∧ ChainAt s V (chunks V) 0 c ns)
end Go.Proofs.YtbobcmimkonnoaaGreat.dropA
namespace Go.Proofs.YtbobcmimkonnoaaGreat.counts
open ChangeShapes WideShapes ChangeAt RowKit Sl Cop pool1 pool2 pool5 pool9 clone page vault1 vault2
abbrev Ints (h : Hp) (v : Value) (l : List Int) : Prop := RowIn h 1 v l.length (l.map (Value.int .i64))
set_option maxRecDepth 100000 in
set_option maxHeartbeats 400000 in
theorem clone_ints (h : Hp) (v : Value) (l : List Int) (F : Pr) (w : World) (hF : Sat F w) (hh : h.le w) (hx : Ints h v l) (hn : l.length ≤ 65536) :
 Calls Tryz.prog 79 #[v] w fun e w' => ∃ v', e = .returned v' ∧ Sat ((IntsRow v' l).star F) w' ∧ Stays w w' := by
 obtain ⟨_, ad, c, rfl, hnc, hcm, hcell⟩ := id hx
 have he : ∀ wx : World, (binOp .eql 40 (.slice ad l.length c) (.slice none 0 0)).run Tryz.prog wx = .ok (.bool ad.isNone) wx := fun wx => Lib.run_eql_slice_nil wx _ _ ad _ c 0 0 Tryz.underlying40
 cases ad with
 | none =>
  have hl : l.length = 0 := by
   rcases Nat.eq_zero_or_pos l.length with h0 | h0
   · exact h0
   · obtain ⟨b, off, e1, _⟩ := hcell (by omega); cases e1
  have hl2 : l = [] := List.eq_nil_of_length_eq_zero hl
  have HF := Lib.hid hF
  have HL := Lib.hid hl2
  clear hF hx hcell hh hl2 hl
  go_enter Tryz.func79, Tryz.ntmps79
  go_wp2
  go_ret
  refine ⟨_, rfl, ?_, Stays.refl w⟩
  have h1 := HF.out
  have h2 := HL.out
  subst h2
  rw [← Sat.emp, ← Row.nil 3 1] at h1
  exact h1
 | some ad =>
  have hnew : Sat ((Row 3 1 (.slice (some ⟨w.heap.size, 0, none⟩) 0 0) 0 []).star F) (w.alloc (.cells #[] 3)) :=
   Row.mk' (xs := []) (sp := []) (by simp) (by simp) (Nat.le_refl _) (by simp) (by simpa using hF.alloc (.cells #[] 3))
  have hle : h.le (w.alloc (.cells #[] 3)) := fun k o e => (Below.heap_alloc w _ k (Array.getElem?_eq_some_iff.1 (hh k o e)).1).trans (hh k o e)
  have HF := Lib.hid hnew
  have HX := Lib.hid hx
  have HH := Lib.hid hle
  clear hF hx hcell hh hnew hle
  go_enter Tryz.func79, Tryz.ntmps79
  obtain ⟨i0, hi, hz0, hz1, hz2⟩ := info_parts infoInt
  go_wp2_with (at_builtin; refine wpList_append_row rfl _ _ _ rfl 3 i0 (.int .i64 0) 1 8 Tryz.underlying40 hi hz0 hz1 hz2 rfl _ _ _ rfl HF.out h HH.out _ _ _ rfl HX.out (by simp [Value.oneCell']) (by simp only [maxLen]; omega) (by omega) ?_; intro v' w1 hsat hgr _; have HSAT := Lib.hid hsat; clear hsat)
  go_ret
  refine ⟨_, rfl, ?_, ((Stays.refl w).alloc _).of_grown hgr⟩
  have h1 := HSAT.out
  rw [Nat.zero_add, List.nil_append] at h1
  exact h1
set_option maxRecDepth 100000 in
set_option maxHeartbeats 1000000 in
theorem counts_A (p : Nat) (s : PoolS) (F : Pr) (w : World) (hF : Sat ((PoolA p s).star F) w) :
 Calls Tryz.prog 19 #[.pointer (some ⟨p, 0, none⟩)] w fun e w' => ∃ v', e = .returned v' ∧ Sat ((IntsRow v' s.counts).star ((PoolA p s).star F)) w' ∧ Stays w w' := by
 obtain ⟨ok, cv, lv, fb, av, hA⟩ := poolA_iff.1 hF
 have hA1 : Sat ((Pr.pts p (.cells (poolCells s cv lv fb av) 124)).star ((IntsRow cv s.counts).star ((BoolsRow lv s.last).star ((SetOf fb fun m => s.state m = 1).star ((ActsA p av s.acts).star F))))) w := hA.perm (by unfold PoolAt; ac_rfl)
 have q1 : w.cell? ⟨p, 1, none⟩ = some cv := by rw [cell_of_heap hA1.pts_heap]; rfl
 obtain ⟨x, ⟨a, f, ha, hf, hd, rfl⟩, hl⟩ := hA1.right
 have C := Lib.hid (clone_ints a cv s.counts _ w hF ((Hp.le_un hd).1 hl).1 (Row.rowIn ha) ok.n2)
 clear hA hA1 hF ha hf hd hl
 go_enter Tryz.func19, Tryz.ntmps19
 go_wp2_with fail
 refine C.out.mono ?_
 rintro e w1 ⟨v', rfl, h1, hst⟩
 have H1 := Lib.hid h1
 clear h1
 go_wp2
 go_ret
 exact ⟨_, rfl, H1.out, hst⟩
theorem ints_rd {h : Hp} {v : Value} {V : List Int} (hb : Ints h v V) : ∃ a c, v = .slice a V.length c ∧ ∀ i, i < V.length → ∃ b off, a = some ⟨b, off, none⟩ ∧ ∀ w, h.le w → w.cell? ⟨b, off + i, none⟩ = some (.int .i64 (V.getD i 0)) := by
 obtain ⟨hl, a, c, e, _, _, hc⟩ := hb
 refine ⟨a, c, e, fun i hi => ?_⟩
 obtain ⟨b, off, e1, e2⟩ := hc (by omega)
 refine ⟨b, off, e1, fun w hw => ?_⟩
 refine Hp.cell_le hw ((e2 i (by omega)).trans ?_)
 simp [hi]
set_option maxRecDepth 100000 in
set_option maxHeartbeats 1000000 in
theorem eqints_same (ha hb : Hp) (va vb : Value) (V : List Int) (h1 : Ints ha va V) (h2 : Ints hb vb V) (hn : V.length ≤ 65536) (w : World) (l1 : ha.le w) (l2 : hb.le w) :
 Calls Tryz.prog 18 #[va, vb] w fun e w' => e = .returned (.bool true) ∧ Only w w' := by
 obtain ⟨a, c, rfl, r1⟩ := ints_rd h1
 obtain ⟨a', c', rfl, r2⟩ := ints_rd h2
 have R1 := Lib.hid r1
 have R2 := Lib.hid r2
 have L1 := Lib.hid l1
 have L2 := Lib.hid l2
 clear r1 r2 h1 h2 l1 l2
 go_enter Tryz.func18, Tryz.ntmps18
 go_wp2
 go_loopw [5] (fun i wr => ∃ k : Nat, k ≤ V.length ∧ i = .int .i64 k ∧ Only w wr) (fun i _ => V.length - (intOf i).toNat)
 case atStart => exact ⟨0, Nat.zero_le _, rfl, Only.refl w⟩
 case round =>
  obtain ⟨k, hk, rfl, ho⟩ := hrel
  rcases Nat.lt_or_ge k V.length with hlt | hge
  · obtain ⟨b, off, rfl, c1⟩ := R1.out k hlt
    obtain ⟨b', off', rfl, c2⟩ := R2.out k hlt
    have q1 := c1 wr (fun k o e => (ho.heap k (Array.getElem?_eq_some_iff.1 (L1.out k o e)).1).trans (L1.out k o e))
    have q2 := c2 wr (fun k o e => (ho.heap k (Array.getElem?_eq_some_iff.1 (L2.out k o e)).1).trans (L2.out k o e))
    have HO := Lib.hid ho
    clear c1 c2 ho
    generalize V.getD k 0 = x at *
    go_wp2
    go_region
    go_wp2
    go_roundw
    case rel => exact ⟨k + 1, by omega, by go_num, HO.out.drew⟩
    case measure => simp [intOf]; omega
  · have hkl : k = V.length := by omega
    subst hkl
    go_wp2
    go_ret
    exact ⟨rfl, ho⟩
end Go.Proofs.YtbobcmimkonnoaaGreat.counts
namespace Go.Proofs.YtbobcmimkonnoaaGreat.load1
open ChangeShapes WideShapes ChangeAt RowKit Sl Cop pool1 pool2 pool5 pool8 pool9 clone page counts
set_option maxRecDepth 100000 in
set_option maxHeartbeats 1000000 in
theorem min_any (h : Hp) (v : Value) (cs : List Int) (hx : Ints h v cs) (hn : 1 ≤ cs.length) (hn2 : cs.length ≤ 65536) (w : World) (hh : h.le w) :
 Calls Tryz.prog 134 #[v] w fun e w' => (∃ m, e = .returned (.int .i64 m) ∧ ∀ t, m < t ↔ ∃ c ∈ cs, c < t) ∧ w = w' := by
 obtain ⟨a, c, rfl, rd⟩ := ints_rd hx
 obtain ⟨b, off, rfl, c0⟩ := rd 0 (by omega)
 have q0 := c0 w hh
 rw [Nat.add_zero] at q0
 have hl : ((cs.length : Int) < 1) = False := eq_false (by omega)
 have RD := Lib.hid rd
 have HH := Lib.hid hh
 have HN := Lib.hid hn
 clear rd hx c0 hh
 go_enter Tryz.func134, Tryz.ntmps134
 go_wp2
 go_loopw [3, 4] (fun m i wr => ∃ (k : Nat) (mm : Int), 1 ≤ k ∧ k ≤ cs.length ∧ m = .int .i64 mm ∧ i = .int .i64 k ∧ wr = w ∧ Hid (∀ t, mm < t ↔ ∃ c ∈ cs.take k, c < t)) (fun _ i _ => cs.length - (intOf i).toNat)
 case atStart =>
  refine ⟨1, cs.getD 0 0, Nat.le_refl _, HN.out, rfl, rfl, rfl, Lib.hid fun t => ?_⟩
  have hn := HN.out
  cases cs with
  | nil => simp at hn
  | cons x l => simp
 case round =>
  obtain ⟨k, mm, hk1, hk, rfl, rfl, rfl, hc⟩ := hrel
  rcases Nat.lt_or_ge k cs.length with hlt | hge
  · obtain ⟨b', off', e', c1⟩ := RD.out k hlt
    cases e'
    have q1 := c1 wr HH.out
    have hget : cs.getD k 0 = cs[k] := by simp [hlt]
    have HT := Lib.hid (show ∀ t, (∃ c ∈ cs.take (k + 1), c < t) ↔ (∃ c ∈ cs.take k, c < t) ∨ cs.getD k 0 < t by
     intro t
     rw [List.take_succ_eq_append_getElem hlt, hget]
     constructor
     · rintro ⟨c, hc, h⟩
       rcases List.mem_append.1 hc with h1 | h1
       · exact .inl ⟨c, h1, h⟩
       · rw [List.mem_singleton.1 h1] at h; exact .inr h
     · rintro (⟨c, h1, h⟩ | h)
       · exact ⟨c, List.mem_append_left _ h1, h⟩
       · exact ⟨_, List.mem_append_right _ (List.mem_singleton.2 rfl), h⟩)
    clear c1 hget
    generalize cs.getD k 0 = x at *
    go_wp2
    go_roundw
    case rel =>
     refine ⟨k + 1, _, by omega, by omega, rfl, congrArg (Value.int .i64) (by omega), trivial, Lib.hid fun t => ?_⟩
     rw [HT.out, ← hc.out]
     omega
    case measure => simp [intOf]; omega
  · have hkl : k = cs.length := by omega
    subst hkl
    have HC := Lib.hid hc.out
    clear hc
    go_wp2
    go_ret
    refine ⟨⟨mm, rfl, ?_⟩, rfl⟩
    have := HC.out
    rw [List.take_length] at this
    exact this
set_option maxRecDepth 100000 in
set_option maxHeartbeats 1000000 in
theorem max_any (h : Hp) (v : Value) (cs : List Int) (hx : Ints h v cs) (hn : 1 ≤ cs.length) (hn2 : cs.length ≤ 65536) (w : World) (hh : h.le w) :
 Calls Tryz.prog 135 #[v] w fun e w' => (∃ m, e = .returned (.int .i64 m) ∧ ∀ t, t < m ↔ ∃ c ∈ cs, t < c) ∧ w = w' := by
 obtain ⟨a, c, rfl, rd⟩ := ints_rd hx
 obtain ⟨b, off, rfl, c0⟩ := rd 0 (by omega)
 have q0 := c0 w hh
 rw [Nat.add_zero] at q0
 have hl : ((cs.length : Int) < 1) = False := eq_false (by omega)
 have RD := Lib.hid rd
 have HH := Lib.hid hh
 have HN := Lib.hid hn
 clear rd hx c0 hh
 go_enter Tryz.func135, Tryz.ntmps135
 go_wp2
 go_loopw [3, 4] (fun m i wr => ∃ (k : Nat) (mm : Int), 1 ≤ k ∧ k ≤ cs.length ∧ m = .int .i64 mm ∧ i = .int .i64 k ∧ wr = w ∧ Hid (∀ t, t < mm ↔ ∃ c ∈ cs.take k, t < c)) (fun _ i _ => cs.length - (intOf i).toNat)
 case atStart =>
  refine ⟨1, cs.getD 0 0, Nat.le_refl _, HN.out, rfl, rfl, rfl, Lib.hid fun t => ?_⟩
  have hn := HN.out
  cases cs with
  | nil => simp at hn
  | cons x l => simp
 case round =>
  obtain ⟨k, mm, hk1, hk, rfl, rfl, rfl, hc⟩ := hrel
  rcases Nat.lt_or_ge k cs.length with hlt | hge
  · obtain ⟨b', off', e', c1⟩ := RD.out k hlt
    cases e'
    have q1 := c1 wr HH.out
    have hget : cs.getD k 0 = cs[k] := by simp [hlt]
    have HT := Lib.hid (show ∀ t, (∃ c ∈ cs.take (k + 1), t < c) ↔ (∃ c ∈ cs.take k, t < c) ∨ t < cs.getD k 0 by
     intro t
     rw [List.take_succ_eq_append_getElem hlt, hget]
     constructor
     · rintro ⟨c, hc, h⟩
       rcases List.mem_append.1 hc with h1 | h1
       · exact .inl ⟨c, h1, h⟩
       · rw [List.mem_singleton.1 h1] at h; exact .inr h
     · rintro (⟨c, h1, h⟩ | h)
       · exact ⟨c, List.mem_append_left _ h1, h⟩
       · exact ⟨_, List.mem_append_right _ (List.mem_singleton.2 rfl), h⟩)
    clear c1 hget
    generalize cs.getD k 0 = x at *
    go_wp2
    go_roundw
    case rel =>
     refine ⟨k + 1, _, by omega, by omega, rfl, congrArg (Value.int .i64) (by omega), trivial, Lib.hid fun t => ?_⟩
     rw [HT.out, ← hc.out]
     omega
    case measure => simp [intOf]; omega
  · have hkl : k = cs.length := by omega
    subst hkl
    have HC := Lib.hid hc.out
    clear hc
    go_wp2
    go_ret
    refine ⟨⟨mm, rfl, ?_⟩, rfl⟩
    have := HC.out
    rw [List.take_length] at this
    exact this
set_option maxRecDepth 100000 in
set_option maxHeartbeats 1000000 in
theorem right_any (n r : Int) (w : World) : Calls Tryz.prog 122 #[.int .i64 n, .int .i64 r] w fun e w' => e = .returned (.bool (rangeOk n r)) ∧ w = w' := by
 have fin : ∀ (b : Bool), b = rangeOk n r → Ending.returned (Value.bool b) = Ending.returned (Value.bool (rangeOk n r)) := fun b e => by rw [e]
 by_cases h1 : 1 ≤ n
 · by_cases h2 : n ≤ 65536
   · by_cases h3 : 2 ≤ r
     · go_enter Tryz.func122, Tryz.ntmps122
       go_wp2
       go_ret
       refine ⟨fin _ ?_, rfl⟩
       rw [Bool.eq_iff_iff]; simp [rangeOk, h1, h2, h3]
     · go_enter Tryz.func122, Tryz.ntmps122
       go_wp2
       go_ret
       refine ⟨fin _ ?_, rfl⟩
       rw [Bool.eq_iff_iff]; simp [rangeOk]; omega
   · go_enter Tryz.func122, Tryz.ntmps122
     go_wp2
     go_ret
     refine ⟨fin _ ?_, rfl⟩
     rw [Bool.eq_iff_iff]; simp [rangeOk]; omega
 · go_enter Tryz.func122, Tryz.ntmps122
   go_wp2
   go_ret
   refine ⟨fin _ ?_, rfl⟩
   rw [Bool.eq_iff_iff]; simp [rangeOk]; omega
theorem badC_false {refs : Int} {cs : List Int} (h : badC refs cs = false) : ∀ c ∈ cs, 0 ≤ c ∧ c ≤ refs := by
 intro c hc
 have := List.any_eq_false.1 h c hc
 simp only [decide_eq_true_eq] at this
 omega
theorem badC_min {refs : Int} {cs : List Int} (h : ∃ c ∈ cs, c < 0) : badC refs cs = true := by
 obtain ⟨c, hc, h⟩ := h
 exact List.any_eq_true.2 ⟨c, hc, by simp only [decide_eq_true_eq]; exact .inl h⟩
theorem badC_max {refs : Int} {cs : List Int} (h : ∃ c ∈ cs, refs < c) : badC refs cs = true := by
 obtain ⟨c, hc, h⟩ := h
 exact List.any_eq_true.2 ⟨c, hc, by simp only [decide_eq_true_eq]; exact .inr h⟩
theorem badC_not {refs : Int} {cs : List Int} (h1 : ¬ ∃ c ∈ cs, c < 0) (h2 : ¬ ∃ c ∈ cs, refs < c) : badC refs cs = false := by
 refine List.any_eq_false.2 fun c hc => ?_
 simp only [decide_eq_true_eq]
 rintro (h | h)
 · exact h1 ⟨c, hc, h⟩
 · exact h2 ⟨c, hc, h⟩
theorem rangeOk_iff {n r : Int} : rangeOk n r = true ↔ (1 ≤ n ∧ n ≤ 65536 ∧ 2 ≤ r ∧ r < 65536) := by unfold rangeOk; exact decide_eq_true_iff
theorem poolOk_load {refs : Int} {cs : List Int} (h : rangeOk cs.length refs = true) (hb : badC refs cs = false) : PoolOk (poolOf refs cs 0) := by
 obtain ⟨h1, h2, h3, h4⟩ := rangeOk_iff.1 h
 refine ⟨?_, ?_, ?_, h3, h4, fun c hc => ?_, Int.le_refl _, by simp⟩
 · show 1 ≤ cs.length; omega
 · show cs.length ≤ 65536; omega
 · simp [lastsOf]
 · have := badC_false hb c hc; omega
set_option maxRecDepth 100000 in
set_option maxHeartbeats 2000000 in
theorem pload_any (refs : Int) (h : Hp) (v : Value) (cs : List Int) (hx : Ints h v cs) (F : Pr) (w : World) (hF : Sat ((Pr.own h).star F) w) :
    Calls Tryz.prog 86 #[.int .i64 refs, v] w fun e w' => Stays w w' ∧
      ((rangeOk cs.length refs = false ∧ e = .returned (.tuple #[.pointer none, .int .i64 1]) ∧ Sat ((Pr.own h).star F) w') ∨
       (rangeOk cs.length refs = true ∧ badC refs cs = true ∧ e = .returned (.tuple #[.pointer none, .int .i64 13]) ∧ Sat ((Pr.own h).star F) w') ∨
       (rangeOk cs.length refs = true ∧ badC refs cs = false ∧ ∃ p, e = .returned (.tuple #[.pointer (some ⟨p, 0, none⟩), .int .i64 0]) ∧ Sat ((PoolA p (poolOf refs cs 0)).star ((Pr.own h).star F)) w')) := by
  have hx0 := hx
  obtain ⟨_, a, c, rfl, _⟩ := hx0
  cases hr : rangeOk cs.length refs with
  | false =>
    have R := fun wx => Lib.hid (right_any cs.length refs wx)
    rw [hr] at R
    go_enter Tryz.func86, Tryz.ntmps86
    go_wp2_with fail
    refine (R _).out.mono ?_
    rintro e w1 ⟨rfl, rfl⟩
    go_wp2
    go_ret2
    exact ⟨Stays.refl _, .inl ⟨trivial, rfl, hF⟩⟩
  | true =>
    obtain ⟨n1, n2, n3, n4⟩ := rangeOk_iff.1 hr
    have R := fun wx => Lib.hid (right_any cs.length refs wx)
    rw [hr] at R
    have MI := Lib.hid (min_any h _ cs hx (by omega) (by omega) w hF.own)
    have MA := Lib.hid (max_any h _ cs hx (by omega) (by omega) w hF.own)
    have OK := fun hb => Lib.hid (poolOk_load hr hb)
    have CL := Lib.hid (clone_ints h _ cs _ w hF hF.own hx (by omega))
    have HF := Lib.hid hF
    clear hF hx hr n1 n2 n3 n4
    go_enter Tryz.func86, Tryz.ntmps86
    go_wp2_with fail
    refine (R _).out.mono ?_
    rintro e w1 ⟨rfl, rfl⟩
    go_wp2_with fail
    refine MI.out.mono ?_
    rintro e w1 ⟨⟨mi, rfl, hmi⟩, rfl⟩
    have HMI := Lib.hid hmi
    clear hmi
    by_cases h0 : mi < 0
    · go_wp2
      go_ret2
      exact ⟨Stays.refl _, .inr (.inl ⟨trivial, badC_min ((HMI.out 0).1 h0), rfl, HF.out⟩)⟩
    · go_wp2_with fail
      refine MA.out.mono ?_
      rintro e w1 ⟨⟨ma, rfl, hma⟩, rfl⟩
      have HMA := Lib.hid hma
      clear hma
      by_cases h1 : refs < ma
      · go_wp2
        go_ret2
        exact ⟨Stays.refl _, .inr (.inl ⟨trivial, badC_max ((HMA.out refs).1 h1), rfl, HF.out⟩)⟩
      · have hb : badC refs cs = false := badC_not (fun h => absurd ((HMI.out 0).2 h) (by omega)) (fun h => absurd ((HMA.out refs).2 h) (by omega))
        have HB := Lib.hid hb
        have hok := Lib.hid (OK hb).out
        clear hb
        go_wp2_with fail
        refine CL.out.mono ?_
        rintro e w1 ⟨v', rfl, hs1, hst1⟩
        obtain ⟨a', c', ev, _, _⟩ := Row.read hs1
        subst ev
        have OV := Lib.hid (over_any refs _ cs _ w1 hs1 hok.out)
        go_wp2_with fail
        refine OV.out.mono ?_
        rintro e w2 ⟨p, rfl, hs2, hst2⟩
        have H2 := Lib.hid hs2
        clear hs1 hs2
        go_wp2
        go_ret2
        exact ⟨hst1.trans hst2, .inr (.inr ⟨trivial, HB.out, p, rfl, H2.out⟩)⟩
end Go.Proofs.YtbobcmimkonnoaaGreat.load1
