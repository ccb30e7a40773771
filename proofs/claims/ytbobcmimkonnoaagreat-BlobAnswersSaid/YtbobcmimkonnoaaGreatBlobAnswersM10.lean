/- The vault in memory: what was is noted, a page is put; the conditions stand as hypotheses. -/
import Derived.Test.YtbobcmimkonnoaaGreatBlobAnswersM09
namespace Go.Proofs.YtbobcmimkonnoaaGreat.vault2
open ChangeShapes WideShapes ChangeAt RowKit Sl Cop pool1 pool2 pool5 pool9 clone page vault1
structure WasX where
 no : Int
 pk : Int
 pl : Int
 vi : Value
 vd : Value
 nx : Int
 th : Bool
def WasX.cells (x : WasX) : List Value := [.int .i64 x.no, .int .i64 x.pk, .int .i64 x.pl, x.vi, x.vd, .int .i64 x.nx, .bool x.th]
def IsSl (v : Value) : Prop := ∃ a m c, v = .slice a m c
def WasRel (h : Hp) (x : WasX) (y : Int × Option PageV) : Prop :=
 x.no = y.1 ∧ IsSl x.vi ∧ IsSl x.vd ∧ match y.2 with | some g => x.th = true ∧ PageIn h (pageV x.pk x.pl x.vi x.vd x.nx) g | none => x.th = false
def WasIn (h : Hp) (xs : List WasX) (was : List (Int × Option PageV)) : Prop := xs.length = was.length ∧ ∀ i (h1 : i < xs.length) (h2 : i < was.length), WasRel h xs[i] was[i]
def ActRel (h : Hp) (x : Int × Value) (y : ActV) : Prop := x.1 = y.mark ∧ ∃ xs : List WasX, RowIn h 7 x.2 y.was.length (xs.flatMap WasX.cells) ∧ WasIn h xs y.was
def ActsIn2 (h : Hp) (xs : List (Int × Value)) (acts : List ActV) : Prop := xs.length = acts.length ∧ ∀ i (h1 : i < xs.length) (h2 : i < acts.length), ActRel h xs[i] acts[i]
def actCells (xs : List (Int × Value)) : List Value := xs.flatMap fun x => [.int .i64 x.1, x.2]
def OnIn (h : Hp) (f : Int → Option Value) (on : Int → Option PageV) : Prop := ∀ n, match on n with | none => f n = none | some g => ∃ v, f n = some v ∧ PageIn h v g
theorem WasRel.sub {a b : Hp} (hs : a.sub b) {x : WasX} {y : Int × Option PageV} (h : WasRel a x y) : WasRel b x y := by
 obtain ⟨h1, h2, h3, h4⟩ := h
 refine ⟨h1, h2, h3, ?_⟩
 cases hy : y.2 with
 | none => rw [hy] at h4; exact h4
 | some g => rw [hy] at h4; exact ⟨h4.1, h4.2.sub hs⟩
theorem WasIn.sub {a b : Hp} (hs : a.sub b) {xs : List WasX} {was : List (Int × Option PageV)} (h : WasIn a xs was) : WasIn b xs was := ⟨h.1, fun i h1 h2 => (h.2 i h1 h2).sub hs⟩
theorem ActsIn2.sub {a b : Hp} (hs : a.sub b) {xs : List (Int × Value)} {acts : List ActV} (h : ActsIn2 a xs acts) : ActsIn2 b xs acts :=
 ⟨h.1, fun i h1 h2 => ⟨(h.2 i h1 h2).1, by obtain ⟨ys, e1, e2⟩ := (h.2 i h1 h2).2; exact ⟨ys, e1.sub hs, e2.sub hs⟩⟩⟩
theorem OnIn.sub {a b : Hp} (hs : a.sub b) {f : Int → Option Value} {on : Int → Option PageV} (h : OnIn a f on) : OnIn b f on := by
 intro n
 have := h n
 cases hy : on n with
 | none => rw [hy] at this; exact this
 | some g => rw [hy] at this; obtain ⟨v, e1, e2⟩ := this; exact ⟨v, e1, e2.sub hs⟩
theorem OnIn.put {h : Hp} {f : Int → Option Value} {on : Int → Option PageV} (hO : OnIn h f on) {n : Int} {v : Value} {g : PageV} (hp : PageIn h v g) : OnIn h (fun m => if m = n then some v else f m) (fun m => if m = n then some g else on m) := by
 intro m
 dsimp only
 by_cases hm : m = n
 · simp only [hm, if_true]; exact ⟨v, rfl, hp⟩
 · simp only [hm, if_false]; exact hO m
structure VX where
 p : Nat
 mb : Nat
 av : Value
 f : Int → Option Value
 axs : List (Int × Value)
 h : Hp
def VaultAt (v : Nat) (s : VaultS) (x : VX) : Pr :=
 (Pr.pts v (.cells #[.pointer (some ⟨x.p, 0, none⟩), .map (some x.mb), x.av, .int .i64 s.floor] 71)).star ((PoolA x.p s.pool).star ((MapA Tryz.prog 3 x.mb x.f).star ((Row 158 2 x.av s.acts.length (actCells x.axs)).star (Pr.own x.h))))
structure VOk (s : VaultS) (x : VX) : Prop where
 on : OnIn x.h x.f s.on
 acts : ActsIn2 x.h x.axs s.acts
 f0 : 0 ≤ s.floor
 fb : s.floor + s.acts.length ≤ 1099511627776
/-- A vault in memory. -/
def VaultA (v : Nat) (s : VaultS) : Pr := Pr.ex fun x : VX => (Pr.pure (VOk s x)).star (VaultAt v s x)
theorem vaultA_iff {v : Nat} {s : VaultS} {F : Pr} {w : World} : Sat ((VaultA v s).star F) w ↔ ∃ x, VOk s x ∧ Sat ((VaultAt v s x).star F) w := by
 unfold VaultA
 rw [Sat.ex]
 constructor
 · rintro ⟨x, h⟩
   rw [Pr.star_assoc] at h
   obtain ⟨h1, h2⟩ := Sat.pure.1 h
   exact ⟨x, h1, h2⟩
 · rintro ⟨x, h1, h2⟩
   refine ⟨x, ?_⟩
   rw [Pr.star_assoc]
   exact Sat.pure.2 ⟨h1, h2⟩
/-- .. in the midst of an act. -/
def VMAt (v : Nat) (s : VaultS) (x : VX) (ab : Nat) (mark : Int) (wv : Value) (ws : List WasX) : Pr :=
 (VaultAt v s x).star ((Pr.pts ab (.cells #[.int .i64 mark, wv] 158)).star (Row 172 7 wv ws.length (ws.flatMap WasX.cells)))
theorem new_cells (w : World) (l : List Value) (T : TypeId) (b : Nat) (hb : b = w.heap.size) : ∀ j u, l[j]? = some u → (w.alloc (.cells l.toArray T)).cell? ((⟨b, 0, none⟩ : Addr).add j) = some u := by
 intro j u hj
 subst hb
 rw [add_cell, cell_of_heap (heap_new _ _)]
 simpa using hj
abbrev zeroPage : Value := pageV 0 0 (.slice none 0 0) (.slice none 0 0) 0
theorem zero_page (w : World) : (zeroValue 31).run Tryz.prog w = .ok zeroPage w := by kernel_rfl
theorem look_shape {h : Hp} {f : Int → Option Value} {on : Int → Option PageV} (hO : OnIn h f on) (n : Int) :
 ∃ pk pl ai mi ci ad md cd nx th, (f n).getD zeroPage = pageV pk pl (.slice ai mi ci) (.slice ad md cd) nx ∧ (f n).isSome = th ∧ WasRel h ⟨n, pk, pl, .slice ai mi ci, .slice ad md cd, nx, th⟩ (n, on n) := by
 have := hO n
 cases hy : on n with
 | none =>
  rw [hy] at this
  dsimp only at this
  exact ⟨0, 0, none, 0, 0, none, 0, 0, 0, false, by rw [this]; rfl, by rw [this]; rfl, rfl, ⟨_, _, _, rfl⟩, ⟨_, _, _, rfl⟩, rfl⟩
 | some g =>
  rw [hy] at this
  obtain ⟨v, e1, e2⟩ := this
  obtain ⟨vi, vd, e3, e4, e5⟩ := id e2
  obtain ⟨xs, _, ⟨_, ai, ci, e6, _⟩, _⟩ := id e4
  obtain ⟨_, ad, cd, e7, _⟩ := id e5
  subst e6
  subst e7
  exact ⟨g.kind, g.level, ai, _, ci, ad, _, cd, g.next, true, by rw [e1, e3]; rfl, by rw [e1]; rfl, rfl, ⟨_, _, _, rfl⟩, ⟨_, _, _, rfl⟩, rfl, by rw [← e3]; exact e2⟩
set_option maxRecDepth 100000 in
set_option maxHeartbeats 2000000 in
theorem note_at (v : Nat) (s : VaultS) (x : VX) (ab : Nat) (mark : Int) (wv : Value) (ws : List WasX) (n : Int) (hn : 1 ≤ n ∧ n ≤ 65536) (hO : OnIn x.h x.f s.on) (hl : ws.length ≤ 65536) (F : Pr) (w : World)
 (hF : Sat ((VMAt v s x ab mark wv ws).star F) w) :
 Calls Tryz.prog 153 #[.pointer (some ⟨v, 0, none⟩), .pointer (some ⟨ab, 0, none⟩), .int .i64 n] w fun e w' =>
  e = .returned (.tuple #[]) ∧ (∃ wv' X, WasRel x.h X (n, s.on n) ∧ Sat ((VMAt v s x ab mark wv' (ws ++ [X])).star F) w') ∧ Stays w w' := by
 have h1 : Sat ((MapA Tryz.prog 3 x.mb x.f).star ((Pr.pts v (.cells #[.pointer (some ⟨x.p, 0, none⟩), .map (some x.mb), x.av, .int .i64 s.floor] 71)).star ((Row 172 7 wv ws.length (ws.flatMap WasX.cells)).star ((Pr.pts ab (.cells #[.int .i64 mark, wv] 158)).star
  (((PoolA x.p s.pool).star ((Row 158 2 x.av s.acts.length (actCells x.axs)).star (Pr.own x.h))).star F))))) w := hF.perm (by unfold VMAt VaultAt; ac_rfl)
 obtain ⟨pk, pl, ai, mi, ci, ad, md, cd, nx, th, e1, e2, hrel⟩ := look_shape hO n
 have q1 : w.cell? ⟨v, 1, none⟩ = some (.map (some x.mb)) := by rw [cell_of_heap h1.right.pts_heap]; rfl
 obtain ⟨aw, cw, ew, _, _⟩ := Row.read h1.right.right
 subst ew
 have z0 := h1.right.right.right.lt
 have qb : w.cell? ⟨ab, 1, none⟩ = some (.slice aw ws.length cw) := by rw [cell_of_heap h1.right.right.right.pts_heap]; rfl
 have H1 := Lib.hid h1
 have HR := Lib.hid hrel
 clear h1 hF hrel hO
 go_enter Tryz.func153, Tryz.ntmps153
 go_wp2_with (at_lookup; refine wpList_look rfl _ _ _ true rfl Tryz.underlying3 Tryz.underlying68 zeroPage (zero_page _) n hn rfl rfl H1.out ?_; rw [e1, e2])
 have es : (w.alloc (.cells #[.int .i64 pk, .int .i64 pl, .slice ai mi ci, .slice ad md cd, .int .i64 nx] 31)).heap.size = w.heap.size + 1 := by simp
 have h2 := H1.out.alloc (.cells #[.int .i64 pk, .int .i64 pl, .slice ai mi ci, .slice ad md cd, .int .i64 nx] 31)
 have hb := h2.pts_heap
 generalize hw1 : w.alloc (.cells #[.int .i64 pk, .int .i64 pl, .slice ai mi ci, .slice ad md cd, .int .i64 nx] 31) = w1 at *
 have p0 : w1.cell? ⟨w.heap.size, 0, none⟩ = some (.int .i64 pk) := by rw [cell_of_heap hb]; rfl
 have p1 : w1.cell? ⟨w.heap.size, 1, none⟩ = some (.int .i64 pl) := by rw [cell_of_heap hb]; rfl
 have p2 : w1.cell? ⟨w.heap.size, 2, none⟩ = some (.slice ai mi ci) := by rw [cell_of_heap hb]; rfl
 have p3 : w1.cell? ⟨w.heap.size, 3, none⟩ = some (.slice ad md cd) := by rw [cell_of_heap hb]; rfl
 have p4 : w1.cell? ⟨w.heap.size, 4, none⟩ = some (.int .i64 nx) := by rw [cell_of_heap hb]; rfl
 have h3 := h2.right
 have qb : w1.cell? ⟨ab, 1, none⟩ = some (.slice aw ws.length cw) := by rw [cell_of_heap h3.right.right.right.pts_heap]; rfl
 have zb := h3.right.right.right.lt
 have zB := h2.lt
 have hsb := (hw1 ▸ ((Stays.refl w).alloc _) : Stays w w1)
 clear hw1 qb q1 hb
 have qb : w1.cell? ⟨ab, 1, none⟩ = some (.slice aw ws.length cw) := by rw [cell_of_heap h3.right.right.right.pts_heap]; rfl
 rw [← es] at *
 have h4 : Sat ((Row 172 7 (.slice aw ws.length cw) ws.length (ws.flatMap WasX.cells)).star ((Pr.pts ab (.cells #[.int .i64 mark, .slice aw ws.length cw] 158)).star ((MapA Tryz.prog 3 x.mb x.f).star ((Pr.pts v (.cells #[.pointer (some ⟨x.p, 0, none⟩), .map (some x.mb), x.av, .int .i64 s.floor] 71)).star
  ((Pr.pts w.heap.size (.cells #[.int .i64 pk, .int .i64 pl, .slice ai mi ci, .slice ad md cd, .int .i64 nx] 31)).star (((PoolA x.p s.pool).star ((Row 158 2 x.av s.acts.length (actCells x.axs)).star (Pr.own x.h))).star F)))))) w1 := h2.perm (by ac_rfl)
 have hnew := Lib.hid (new_cells w1 [.int .i64 n, .int .i64 pk, .int .i64 pl, .slice ai mi ci, .slice ad md cd, .int .i64 nx, .bool th] 172 _ rfl)
 have H5 := Lib.hid (h4.alloc (.cells #[.int .i64 n, .int .i64 pk, .int .i64 pl, .slice ai mi ci, .slice ad md cd, .int .i64 nx, .bool th] 172)).right
 have HST := Lib.hid hsb
 clear h2 h3 h4 H1 hsb
 go_wp2
 refine wp_region_staged (sz := 30) (by kernel_rfl) [0, 1, 2, 3, 4, 5, 6, 7, 8] [(9, [], [0, 1, 2, 3, 4, 5, 6, 7]), (10, [11, 12], [0, 1, 2, 3, 5, 6, 7]), (13, [], [11])] rfl (by kernel_rfl) (by kernel_rfl) (by kernel_rfl) ?_
 iterate 9 (refine wpQ_step rfl rfl (fun K hK => ?_); go_simp; refine hK _ ?_; clear hK K)
 refine wpQ_nil ?_
 refine wpRest_act rfl ?_
 go_wp2
 refine onN_mk (wpQ_nil ⟨?_, ?_⟩)
 · refine chk_cons ?_ (chk_cons ?_ (chk_cons ?_ (chk_cons ?_ (chk_cons ?_ (chk_cons ?_ (chk_cons ?_ (chk_cons ?_ chk_nil))))))) <;> (refine yieldF_of rfl rfl rfl rfl ?_; go_simp; try omega)
 refine wpRest_act rfl ?_
 obtain ⟨i0, hi, hz0, hz1, hz2⟩ := info_parts infoWas
 refine wpList_append_sl rfl _ _ _ rfl 172 i0 (.agg #[.int .i64 0, .int .i64 0, .int .i64 0, .slice none 0 0, .slice none 0 0, .int .i64 0, .bool false]) 7 88 Tryz.underlying156 hi hz0 hz1 hz2 rfl _ _ _ rfl H5.out ⟨w1.heap.size, 0, none⟩ 1 1 _ rfl rfl hnew.out (by simp [Value.oneCell']) (by simp only [maxLen]; omega) (by omega) ?_
 intro v' w2 hsat hgr _
 obtain ⟨a2, c2, hv2, _, _⟩ := Row.read hsat
 subst hv2
 have hp := hsat.right
 have hpb := hsat.right.right.right.right
 have r0 : w2.cell? ⟨w.heap.size, 0, none⟩ = some (.int .i64 pk) := by rw [cell_of_heap hpb.pts_heap]; rfl
 have r1 : w2.cell? ⟨w.heap.size, 1, none⟩ = some (.int .i64 pl) := by rw [cell_of_heap hpb.pts_heap]; rfl
 have r2 : w2.cell? ⟨w.heap.size, 2, none⟩ = some (.slice ai mi ci) := by rw [cell_of_heap hpb.pts_heap]; rfl
 have r3 : w2.cell? ⟨w.heap.size, 3, none⟩ = some (.slice ad md cd) := by rw [cell_of_heap hpb.pts_heap]; rfl
 have r4 : w2.cell? ⟨w.heap.size, 4, none⟩ = some (.int .i64 nx) := by rw [cell_of_heap hpb.pts_heap]; rfl
 have y1 := frozen_of_heap hp.pts_heap 1
 have y1c : w2.cell? ⟨ab, 1, none⟩ = some (.slice aw ws.length cw) := by rw [cell_of_heap hp.pts_heap]; rfl
 have yp := hp.lt
 have yB := hpb.lt
 have HSAT := Lib.hid hsat
 have HG := Lib.hid (((HST.out.alloc (.cells #[.int .i64 n, .int .i64 pk, .int .i64 pl, .slice ai mi ci, .slice ad md cd, .int .i64 nx, .bool th] 172)).drew).of_grown hgr)
 clear hsat hp hpb hgr p0 p1 p2 p3 p4 qb zb zB H5 hnew es
 go_wp2
 refine onN_mk ?_
 iterate 2 (refine wpQ_step rfl rfl (fun K hK => ?_); go_simp; refine hK _ ?_; clear hK K)
 refine wpQ_nil ⟨?_, ?_⟩
 · refine chk_cons ?_ (chk_cons ?_ (chk_cons ?_ (chk_cons ?_ (chk_cons ?_ (chk_cons ?_ (chk_cons ?_ chk_nil)))))) <;> (refine yieldF_of rfl rfl rfl rfl ?_; go_simp; try omega)
 refine wpRest_act rfl ?_
 go_wp2
 refine onN_mk (wpQ_nil ⟨?_, wpRest_nil ?_⟩)
 · refine chk_cons ?_ chk_nil <;> (refine yieldF_of rfl rfl rfl rfl ?_; go_simp; try omega)
 go_wp2
 first | refine bodyPost_ret (results_none rfl _ _ _) rfl ?_ | go_end0
 refine ⟨rfl, ⟨.slice a2 (ws.length + 1) c2, ⟨n, pk, pl, .slice ai mi ci, .slice ad md cd, nx, th⟩, HR.out, ?_⟩, HG.out.setCell _ _⟩
 have h6 : Sat ((Pr.pts ab (.cells #[.int .i64 mark, .slice a2 (ws.length + 1) c2] 158)).star ((Row 172 7 (.slice a2 (ws.length + 1) c2) (ws.length + 1) (ws.flatMap WasX.cells ++ [.int .i64 n, .int .i64 pk, .int .i64 pl, .slice ai mi ci, .slice ad md cd, .int .i64 nx, .bool th])).star ((MapA Tryz.prog 3 x.mb x.f).star ((Pr.pts v (.cells #[.pointer (some ⟨x.p, 0, none⟩), .map (some x.mb), x.av, .int .i64 s.floor] 71)).star ((Pr.pts w.heap.size (.cells #[.int .i64 pk, .int .i64 pl, .slice ai mi ci, .slice ad md cd, .int .i64 nx] 31)).star (((PoolA x.p s.pool).star ((Row 158 2 x.av s.acts.length (actCells x.axs)).star (Pr.own x.h))).star F)))))) _ := (HSAT.out.perm (Pr.left_comm _ _ _)).setCell (i := 1) (.slice a2 (ws.length + 1) c2)
 have h7 : Sat ((Pr.pts w.heap.size (.cells #[.int .i64 pk, .int .i64 pl, .slice ai mi ci, .slice ad md cd, .int .i64 nx] 31)).star ((((Pr.pts v (.cells #[.pointer (some ⟨x.p, 0, none⟩), .map (some x.mb), x.av, .int .i64 s.floor] 71)).star ((PoolA x.p s.pool).star ((MapA Tryz.prog 3 x.mb x.f).star ((Row 158 2 x.av s.acts.length (actCells x.axs)).star (Pr.own x.h))))).star ((Pr.pts ab (.cells #[.int .i64 mark, .slice a2 (ws.length + 1) c2] 158)).star (Row 172 7 (.slice a2 (ws.length + 1) c2) (ws.length + 1) (ws.flatMap WasX.cells ++ [.int .i64 n, .int .i64 pk, .int .i64 pl, .slice ai mi ci, .slice ad md cd, .int .i64 nx, .bool th])))).star F)) _ := h6.perm (by ac_rfl)
 have e : VMAt v s x ab mark (.slice a2 (ws.length + 1) c2) (ws ++ [⟨n, pk, pl, .slice ai mi ci, .slice ad md cd, nx, th⟩]) = ((Pr.pts v (.cells #[.pointer (some ⟨x.p, 0, none⟩), .map (some x.mb), x.av, .int .i64 s.floor] 71)).star ((PoolA x.p s.pool).star ((MapA Tryz.prog 3 x.mb x.f).star ((Row 158 2 x.av s.acts.length (actCells x.axs)).star (Pr.own x.h))))).star ((Pr.pts ab (.cells #[.int .i64 mark, .slice a2 (ws.length + 1) c2] 158)).star (Row 172 7 (.slice a2 (ws.length + 1) c2) (ws.length + 1) (ws.flatMap WasX.cells ++ [.int .i64 n, .int .i64 pk, .int .i64 pl, .slice ai mi ci, .slice ad md cd, .int .i64 nx, .bool th]))) := by
  unfold VMAt VaultAt
  rw [List.flatMap_append, List.length_append]
  rfl
 rw [e]
 exact h7.right
end Go.Proofs.YtbobcmimkonnoaaGreat.vault2
namespace Go.Proofs.YtbobcmimkonnoaaGreat.vault3
open ChangeShapes WideShapes ChangeAt RowKit Sl Cop pool1 pool2 pool5 pool9 clone page vault1 vault2
theorem page_shape {h : Hp} {pv : Value} {g : PageV} (hg : PageIn h pv g) : ∃ pk pl ai mi ci ad md cd nx, pv = pageV pk pl (.slice ai mi ci) (.slice ad md cd) nx := by
 obtain ⟨vi, vd, e3, e4, e5⟩ := id hg
 obtain ⟨xs, _, ⟨_, ai, ci, e6, _⟩, _⟩ := id e4
 obtain ⟨_, ad, cd, e7, _⟩ := id e5
 subst e6
 subst e7
 exact ⟨_, _, ai, _, ci, ad, _, cd, _, e3⟩
set_option maxRecDepth 100000 in
set_option maxHeartbeats 2000000 in
theorem put_at (v : Nat) (s : VaultS) (x : VX) (ab : Nat) (mark : Int) (wv : Value) (ws : List WasX) (n : Int) (hn : 1 ≤ n ∧ n ≤ 65536) (pv : Value) (g : PageV) (hg : PageIn x.h pv g) (hO : OnIn x.h x.f s.on) (hl : ws.length ≤ 65536) (F : Pr) (w : World)
 (hF : Sat ((VMAt v s x ab mark wv ws).star F) w) :
 Calls Tryz.prog 101 #[.pointer (some ⟨v, 0, none⟩), .pointer (some ⟨ab, 0, none⟩), .int .i64 n, pv] w fun e w' =>
  e = .returned (.tuple #[]) ∧ (∃ wv' X, WasRel x.h X (n, s.on n) ∧ Sat ((VMAt v s { x with f := fun m => if m = n then some pv else x.f m } ab mark wv' (ws ++ [X])).star F) w') ∧ Stays w w' := by
 obtain ⟨pk, pl, ai, mi, ci, ad, md, cd, nx, rfl⟩ := page_shape hg
 have h2 := hF.alloc (.cells #[.int .i64 pk, .int .i64 pl, .slice ai mi ci, .slice ad md cd, .int .i64 nx] 31)
 have h3 := h2.perm (B := (VMAt v s x ab mark wv ws).star ((Pr.pts w.heap.size (.cells #[.int .i64 pk, .int .i64 pl, .slice ai mi ci, .slice ad md cd, .int .i64 nx] 31)).star F)) (by ac_rfl)
 have C := Lib.hid (note_at v s x ab mark wv ws n hn hO hl _ _ h3)
 clear h2 h3 hF hO
 go_enter Tryz.func101, Tryz.ntmps101
 go_wp2_with fail
 refine C.out.mono ?_
 rintro e w1 ⟨rfl, ⟨wv', X, hX, h4⟩, hst⟩
 have h5 : Sat ((MapA Tryz.prog 3 x.mb x.f).star ((Pr.pts v (.cells #[.pointer (some ⟨x.p, 0, none⟩), .map (some x.mb), x.av, .int .i64 s.floor] 71)).star ((Pr.pts w.heap.size (.cells #[.int .i64 pk, .int .i64 pl, .slice ai mi ci, .slice ad md cd, .int .i64 nx] 31)).star
  (((PoolA x.p s.pool).star ((Row 158 2 x.av s.acts.length (actCells x.axs)).star (Pr.own x.h))).star (((Pr.pts ab (.cells #[.int .i64 mark, wv'] 158)).star (Row 172 7 wv' (ws ++ [X]).length ((ws ++ [X]).flatMap WasX.cells))).star F))))) w1 := h4.perm (by unfold VMAt VaultAt; ac_rfl)
 have q1 : w1.cell? ⟨v, 1, none⟩ = some (.map (some x.mb)) := by rw [cell_of_heap h5.right.pts_heap]; rfl
 have hb := h5.right.right.pts_heap
 have p0 : w1.cell? ⟨w.heap.size, 0, none⟩ = some (.int .i64 pk) := by rw [cell_of_heap hb]; rfl
 have p1 : w1.cell? ⟨w.heap.size, 1, none⟩ = some (.int .i64 pl) := by rw [cell_of_heap hb]; rfl
 have p2 : w1.cell? ⟨w.heap.size, 2, none⟩ = some (.slice ai mi ci) := by rw [cell_of_heap hb]; rfl
 have p3 : w1.cell? ⟨w.heap.size, 3, none⟩ = some (.slice ad md cd) := by rw [cell_of_heap hb]; rfl
 have p4 : w1.cell? ⟨w.heap.size, 4, none⟩ = some (.int .i64 nx) := by rw [cell_of_heap hb]; rfl
 have H5 := Lib.hid h5
 have HX := Lib.hid hX
 have HST := Lib.hid (((Stays.refl w).alloc _).trans hst)
 clear h5 h4 hb hX hst C
 go_wp2
 refine wp_region_staged (sz := 18) (by kernel_rfl) [0, 1, 2, 3, 4, 5] [(6, [], [])] rfl (by kernel_rfl) (by kernel_rfl) (by kernel_rfl) ?_
 iterate 6 (refine wpQ_step rfl rfl (fun K hK => ?_); go_simp; refine hK _ ?_; clear hK K)
 refine wpQ_nil ?_
 refine wpRest_act rfl ?_
 refine wpList_put rfl _ _ _ _ rfl Tryz.underlying3 Tryz.underlying68 n hn _ rfl rfl rfl H5.out ?_
 intro w2 hs2 hg2
 have HS2 := Lib.hid hs2
 have HG := Lib.hid ((HST.out.drew).of_grown hg2)
 clear hs2 hg2
 go_wp2
 refine onN_mk (wpQ_nil ⟨chk_nil, wpRest_nil ?_⟩)
 go_wp2
 first | refine bodyPost_ret (results_none rfl _ _ _) rfl ?_ | go_end0
 refine ⟨rfl, ⟨wv', X, HX.out, ?_⟩, HG.out⟩
 have h6 : Sat ((Pr.pts w.heap.size (.cells #[.int .i64 pk, .int .i64 pl, .slice ai mi ci, .slice ad md cd, .int .i64 nx] 31)).star ((VMAt v s { x with f := fun m => if m = n then some (pageV pk pl (.slice ai mi ci) (.slice ad md cd) nx) else x.f m } ab mark wv' (ws ++ [X])).star F)) w2 := HS2.out.perm (by unfold VMAt VaultAt; dsimp only; ac_rfl)
 exact h6.right
end Go.Proofs.YtbobcmimkonnoaaGreat.vault3
namespace Go.Cop
/-- A page has been taken, and this put on it. -/
def VaultS.made (s : VaultS) (n : Int) (g : PageV) : VaultS := { s with pool := s.pool.did n 1, on := fun m => if m = n then some g else s.on m }
end Go.Cop
namespace Go.Proofs.YtbobcmimkonnoaaGreat.vault4
open ChangeShapes WideShapes ChangeAt RowKit Sl Cop pool1 pool2 pool5 pool9 clone page vault1 vault2 vault3
def VMA (v : Nat) (s : VaultS) (ab : Nat) (mark : Int) (was : List (Int × Option PageV)) : Pr :=
 Pr.ex fun y : VX × Value × List WasX => (Pr.pure (VOk s y.1 ∧ WasIn y.1.h y.2.2 was)).star (VMAt v s y.1 ab mark y.2.1 y.2.2)
theorem vma_iff {v : Nat} {s : VaultS} {ab : Nat} {mark : Int} {was : List (Int × Option PageV)} {F : Pr} {w : World} :
 Sat ((VMA v s ab mark was).star F) w ↔ ∃ x wv ws, VOk s x ∧ WasIn x.h ws was ∧ Sat ((VMAt v s x ab mark wv ws).star F) w := by
 unfold VMA
 rw [Sat.ex]
 constructor
 · rintro ⟨⟨x, wv, ws⟩, h⟩
   rw [Pr.star_assoc] at h
   obtain ⟨⟨h1, h2⟩, h3⟩ := Sat.pure.1 h
   exact ⟨x, wv, ws, h1, h2, h3⟩
 · rintro ⟨x, wv, ws, h1, h2, h3⟩
   refine ⟨(x, wv, ws), ?_⟩
   rw [Pr.star_assoc]
   exact Sat.pure.2 ⟨⟨h1, h2⟩, h3⟩
theorem was_one {h : Hp} {X : WasX} {y : Int × Option PageV} (hr : WasRel h X y) : WasIn h [X] [y] :=
 ⟨rfl, fun i h1 h2 => by
  have : i = 0 := by simp at h1; omega
  subst this; exact hr⟩
/-- Where a pool's page lies. -/
theorem page_bd {p : Nat} {s : PoolS} {F : Pr} {w : World} (h : Sat ((PoolA p s).star F) w) {n : Int} (hn : s.there n) : 1 ≤ n ∧ n ≤ 65536 := by
 have := (poolA_rd h).1.n2
 exact ⟨hn.1, by have := hn.2; omega⟩
abbrev blobCells (vi vd : Value) (next : Int) : Array Value := #[.int .i64 3, .int .i64 0, vi, vd, .int .i64 next]
set_option maxRecDepth 100000 in
set_option maxHeartbeats 4000000 in
theorem make1_A (v : Nat) (s : VaultS) (ab : Nat) (mark : Int) (VB MB PB : Nat) (m0 : Int) (hp : Hp) (vi vd : Value) (d : List Int) (next : Int) (hd : d.length ≤ 65536) (hg : PageIn hp (.agg (blobCells vi vd next)) (blobV d next)) (F : Pr) (w : World)
 (hF : Sat ((VMA v s ab mark []).star ((Pr.pts VB (.cells #[.pointer (some ⟨v, 0, none⟩)] 35)).star ((Pr.pts MB (.cells #[.int .i64 m0] 3)).star ((Pr.pts PB (.cells (blobCells vi vd next) 31)).star ((Pr.own hp).star F))))) w)
 (hm : s.pool.floor + s.pool.acts.length < 1099511627776) :
 Calls Tryz.prog 124 #[.pointer (some ⟨ab, 0, none⟩), .pointer (some ⟨VB, 0, none⟩), .pointer (some ⟨MB, 0, none⟩), .pointer (some ⟨PB, 0, none⟩)] w fun e w' =>
  Stays w w' ∧ ((e = .returned (.int .i64 12) ∧ (∀ m, s.pool.state m ≠ 1) ∧ Sat ((VMA v s ab mark []).star ((Pr.pts MB (.cells #[.int .i64 0] 3)).star ((Pr.own hp).star F))) w') ∨
   ∃ n, e = .returned (.int .i64 0) ∧ s.pool.state n = 1 ∧ (∀ m, s.pool.state m = 1 → n ≤ m) ∧
    Sat ((VMA v (s.made n (blobV d next)) ab mark [(n, s.on n)]).star ((Pr.pts MB (.cells #[.int .i64 n] 3)).star ((Pr.own hp).star F))) w') := by
 obtain ⟨x, wv, ws, ok, hws, hF⟩ := vma_iff.1 hF
 obtain ⟨vi0, vd0, ee, hi0, hb0⟩ := id hg
 simp only [blobCells, pageV, Value.agg.injEq, Array.mk.injEq, List.cons.injEq, and_true, true_and] at ee
 obtain ⟨rfl, rfl⟩ := ee
 obtain ⟨ai, ci, rfl, _⟩ := items_none hi0
 obtain ⟨_, ad, cd, rfl, _⟩ := id hb0
 clear hi0 hb0
 have h1 : Sat ((PoolA x.p s.pool).star ((Pr.pts v (.cells #[.pointer (some ⟨x.p, 0, none⟩), .map (some x.mb), x.av, .int .i64 s.floor] 71)).star ((Pr.pts VB (.cells #[.pointer (some ⟨v, 0, none⟩)] 35)).star ((Pr.pts MB (.cells #[.int .i64 m0] 3)).star ((Pr.pts PB (.cells (blobCells (.slice ai 0 ci) (.slice ad d.length cd) next) 31)).star ((Pr.own hp).star
  ((((MapA Tryz.prog 3 x.mb x.f).star ((Row 158 2 x.av s.acts.length (actCells x.axs)).star (Pr.own x.h)))).star (((Pr.pts ab (.cells #[.int .i64 mark, wv] 158)).star (Row 172 7 wv ws.length (ws.flatMap WasX.cells))).star F)))))))) w := hF.perm (by unfold VMAt VaultAt; ac_rfl)
 have qv : w.cell? ⟨v, 0, none⟩ = some (.pointer (some ⟨x.p, 0, none⟩)) := by rw [cell_of_heap h1.right.pts_heap]; rfl
 have qV : w.cell? ⟨VB, 0, none⟩ = some (.pointer (some ⟨v, 0, none⟩)) := by rw [cell_of_heap h1.right.right.pts_heap]; rfl
 have A := Lib.hid (alloc_A x.p s.pool _ w h1 hm)
 have HB := Lib.hid (fun n (hn : s.pool.there n) => page_bd h1 hn)
 have H1 := Lib.hid h1
 clear h1 hF
 go_enter Tryz.func124, Tryz.ntmps124
 go_wp2_with fail
 refine A.out.mono ?_
 rintro e w1 (⟨rfl, hno, rfl⟩ | ⟨n, rfl, hn, hle, hs, hst⟩)
 · have qM : w.cell? ⟨MB, 0, none⟩ = some (.int .i64 m0) := by rw [cell_of_heap H1.out.right.right.right.pts_heap]; rfl
   have zM := frozen_of_heap H1.out.right.right.right.pts_heap 0
   go_wp2
   go_ret
   refine ⟨(Stays.refl w).setCell _ _, .inl ⟨rfl, hno, vma_iff.2 ⟨x, wv, ws, ok, hws, ?_⟩⟩⟩
   have h2 := (H1.out.perm (B := (Pr.pts MB (.cells #[.int .i64 m0] 3)).star ((VMAt v s x ab mark wv ws).star ((Pr.own hp).star (((Pr.pts VB (.cells #[.pointer (some ⟨v, 0, none⟩)] 35)).star ((Pr.pts PB (.cells (blobCells (.slice ai 0 ci) (.slice ad d.length cd) next) 31)))).star F)))) (by unfold VMAt VaultAt; ac_rfl)).setCell (i := 0) (.int .i64 0)
   have h3 : Sat (((Pr.pts VB (.cells #[.pointer (some ⟨v, 0, none⟩)] 35)).star ((Pr.pts PB (.cells (blobCells (.slice ai 0 ci) (.slice ad d.length cd) next) 31)))).star ((VMAt v s x ab mark wv ws).star ((Pr.pts MB (.cells #[.int .i64 0] 3)).star ((Pr.own hp).star F)))) _ := h2.perm (show (Pr.pts MB (.cells #[.int .i64 0] 3)).star _ = _ from by ac_rfl)
   exact h3.right
 · have qM : w1.cell? ⟨MB, 0, none⟩ = some (.int .i64 m0) := by rw [cell_of_heap hs.right.right.right.pts_heap]; rfl
   have zM := frozen_of_heap hs.right.right.right.pts_heap 0
   have s2 := (hs.perm (B := (Pr.pts MB (.cells #[.int .i64 m0] 3)).star ((VMAt v { s with pool := s.pool.did n 1 } x ab mark wv ws).star ((Pr.own hp).star ((Pr.pts VB (.cells #[.pointer (some ⟨v, 0, none⟩)] 35)).star ((Pr.pts PB (.cells (blobCells (.slice ai 0 ci) (.slice ad d.length cd) next) 31)).star F))))) (by unfold VMAt VaultAt; dsimp only; ac_rfl)).setCell (i := 0) (.int .i64 n)
   have hnb := HB.out n (there_of_state (by omega : s.pool.state n ≠ 0))
   have HS2 := Lib.hid s2
   have HSQ := Lib.hid (And.intro hn hle)
   clear hn hle hs H1 A HB
   have r2 := HS2.out.right.right
   have HST := Lib.hid (hst.setCell ⟨MB, 0, none⟩ (.int .i64 n))
   have qV2 : (w1.setCell ⟨MB, 0, none⟩ (.int .i64 n)).cell? ⟨VB, 0, none⟩ = some (.pointer (some ⟨v, 0, none⟩)) := by rw [cell_of_heap r2.right.pts_heap]; rfl
   have qM2 : (w1.setCell ⟨MB, 0, none⟩ (.int .i64 n)).cell? ⟨MB, 0, none⟩ = some (.int .i64 n) := by rw [cell_of_heap HS2.out.pts_heap]; rfl
   have hb := r2.right.right.pts_heap
   have p0 : (w1.setCell ⟨MB, 0, none⟩ (.int .i64 n)).cell? ⟨PB, 0, none⟩ = some (.int .i64 3) := by rw [cell_of_heap hb]; rfl
   have p1 : (w1.setCell ⟨MB, 0, none⟩ (.int .i64 n)).cell? ⟨PB, 1, none⟩ = some (.int .i64 0) := by rw [cell_of_heap hb]; rfl
   have p2 : (w1.setCell ⟨MB, 0, none⟩ (.int .i64 n)).cell? ⟨PB, 2, none⟩ = some (.slice ai 0 ci) := by rw [cell_of_heap hb]; rfl
   have p3 : (w1.setCell ⟨MB, 0, none⟩ (.int .i64 n)).cell? ⟨PB, 3, none⟩ = some (.slice ad d.length cd) := by rw [cell_of_heap hb]; rfl
   have p4 : (w1.setCell ⟨MB, 0, none⟩ (.int .i64 n)).cell? ⟨PB, 4, none⟩ = some (.int .i64 next) := by rw [cell_of_heap hb]; rfl
   have hle2 : hp.le (w1.setCell ⟨MB, 0, none⟩ (.int .i64 n)).drew := r2.drew.own
   have s3 : Sat ((VMAt v { s with pool := s.pool.did n 1 } x ab mark wv ws).star ((Pr.pts MB (.cells #[.int .i64 n] 3)).star ((Pr.own hp).star (((Pr.pts VB (.cells #[.pointer (some ⟨v, 0, none⟩)] 35)).star (Pr.pts PB (.cells (blobCells (.slice ai 0 ci) (.slice ad d.length cd) next) 31))).star F)))) (w1.setCell ⟨MB, 0, none⟩ (.int .i64 n)).drew := HS2.out.drew.perm (show (Pr.pts MB (.cells #[.int .i64 n] 3)).star _ = _ from by ac_rfl)
   have C := Lib.hid (copied_blob hp _ d next hd hg _ _ s3 hle2)
   clear s2 s3 r2 hb hle2 hst
   go_wp2
   refine wp_region_staged (sz := 23) (by kernel_rfl) [0, 1, 2, 3] [(4, [], [0, 1, 2]), (5, [], [])] rfl (by kernel_rfl) (by kernel_rfl) (by kernel_rfl) ?_
   iterate 4 (refine wpQ_step rfl rfl (fun K hK => ?_); go_simp; refine hK _ ?_; clear hK K)
   refine wpQ_nil ?_
   refine wpRest_act rfl ?_
   go_wp2_with fail
   refine C.out.mono ?_
   rintro e w3 ⟨pv, rfl, ⟨h', hpv, s4⟩, hst4⟩
   have s5 : Sat ((Pr.pts VB (.cells #[.pointer (some ⟨v, 0, none⟩)] 35)).star ((Pr.pts MB (.cells #[.int .i64 n] 3)).star ((Pr.own x.h).star ((Pr.own h').star
    (((Pr.pts v (.cells #[.pointer (some ⟨x.p, 0, none⟩), .map (some x.mb), x.av, .int .i64 s.floor] 71)).star ((PoolA x.p (s.pool.did n 1)).star ((MapA Tryz.prog 3 x.mb x.f).star (Row 158 2 x.av s.acts.length (actCells x.axs))))).star
     (((Pr.pts ab (.cells #[.int .i64 mark, wv] 158)).star (Row 172 7 wv ws.length (ws.flatMap WasX.cells))).star ((Pr.own hp).star ((Pr.pts PB (.cells (blobCells (.slice ai 0 ci) (.slice ad d.length cd) next) 31)).star F)))))))) w3 := s4.perm (by unfold VMAt VaultAt; dsimp only; ac_rfl)
   have t0 : w3.cell? ⟨VB, 0, none⟩ = some (.pointer (some ⟨v, 0, none⟩)) := by rw [cell_of_heap s5.pts_heap]; rfl
   have t1 : w3.cell? ⟨MB, 0, none⟩ = some (.int .i64 n) := by rw [cell_of_heap s5.right.pts_heap]; rfl
   have s5b : Sat ((Pr.own x.h).star ((Pr.own h').star ((Pr.pts VB (.cells #[.pointer (some ⟨v, 0, none⟩)] 35)).star ((Pr.pts MB (.cells #[.int .i64 n] 3)).star (((Pr.pts v (.cells #[.pointer (some ⟨x.p, 0, none⟩), .map (some x.mb), x.av, .int .i64 s.floor] 71)).star ((PoolA x.p (s.pool.did n 1)).star ((MapA Tryz.prog 3 x.mb x.f).star (Row 158 2 x.av s.acts.length (actCells x.axs))))).star
    (((Pr.pts ab (.cells #[.int .i64 mark, wv] 158)).star (Row 172 7 wv ws.length (ws.flatMap WasX.cells))).star ((Pr.own hp).star ((Pr.pts PB (.cells (blobCells (.slice ai 0 ci) (.slice ad d.length cd) next) 31)).star F)))))))) w3 := s5.perm (by ac_rfl)
   obtain ⟨hdis, s6⟩ := Sat.own_join s5b
   have s7 : Sat ((VMAt v { s with pool := s.pool.did n 1 } { x with h := x.h.un h' } ab mark wv ws).star ((Pr.pts MB (.cells #[.int .i64 n] 3)).star ((Pr.own hp).star ((Pr.pts PB (.cells (blobCells (.slice ai 0 ci) (.slice ad d.length cd) next) 31)).star F)))) w3 := by
    have s6b : Sat (((Pr.pts VB (.cells #[.pointer (some ⟨v, 0, none⟩)] 35))).star ((VMAt v { s with pool := s.pool.did n 1 } { x with h := x.h.un h' } ab mark wv ws).star ((Pr.pts MB (.cells #[.int .i64 n] 3)).star ((Pr.own hp).star ((Pr.pts PB (.cells (blobCells (.slice ai 0 ci) (.slice ad d.length cd) next) 31)).star F))))) w3 := s6.perm (by unfold VMAt VaultAt; dsimp only; ac_rfl)
    exact s6b.right
   have hO : OnIn (x.h.un h') x.f s.on := ok.on.sub (Hp.sub_un_left _ _)
   have hpv' : PageIn (x.h.un h') pv (blobV d next) := hpv.sub (Hp.sub_un_right hdis)
   have hwl : ws = [] := List.eq_nil_of_length_eq_zero hws.1
   subst hwl
   have P := Lib.hid (put_at v { s with pool := s.pool.did n 1 } { x with h := x.h.un h' } ab mark wv [] n hnb pv (blobV d next) hpv' hO (by simp) _ w3 s7)
   have HO := Lib.hid (And.intro hO hpv')
   have HAC := Lib.hid (ok.acts.sub (Hp.sub_un_left x.h h'))
   have HFF := Lib.hid (And.intro ok.f0 ok.fb)
   have HST4 := Lib.hid (HST.out.drew.trans hst4)
   clear s4 s5 s5b s6 s7 hO hpv hpv' C HS2 ok p0 p1 p2 p3 p4 qV2 qM2 hst4 hg
   go_wp2
   refine onN_mk (wpQ_nil ⟨?_, ?_⟩)
   · refine chk_cons ?_ (chk_cons ?_ (chk_cons ?_ chk_nil)) <;> (refine yieldF_of rfl rfl rfl rfl ?_; go_simp; try omega)
   refine wpRest_act rfl ?_
   go_wp2_with fail
   refine P.out.mono ?_
   rintro e w4 ⟨rfl, ⟨wv', X, hX, s8⟩, hst5⟩
   have HX := Lib.hid hX
   have S8 := Lib.hid s8
   clear s8 hX P
   go_wp2
   refine onN_mk (wpQ_nil ⟨chk_nil, wpRest_nil ?_⟩)
   go_wp2
   go_ret
   refine ⟨HST4.out.trans hst5, .inr ⟨n, rfl, HSQ.out.1, HSQ.out.2, vma_iff.2 ⟨{ x with f := fun m => if m = n then some pv else x.f m, h := x.h.un h' }, wv', [X], ⟨HO.out.1.put HO.out.2, HAC.out, HFF.out.1, HFF.out.2⟩, was_one HX.out, ?_⟩⟩⟩
   have s9 : Sat ((Pr.pts PB (.cells (blobCells (.slice ai 0 ci) (.slice ad d.length cd) next) 31)).star ((VMAt v (s.made n (blobV d next)) { x with f := fun m => if m = n then some pv else x.f m, h := x.h.un h' } ab mark wv' [X]).star ((Pr.pts MB (.cells #[.int .i64 n] 3)).star ((Pr.own hp).star F)))) w4 := S8.out.perm (by unfold VMAt VaultAt; dsimp only [VaultS.made]; ac_rfl)
   exact s9.right
end Go.Proofs.YtbobcmimkonnoaaGreat.vault4
namespace Go.Cop
def VaultS.acted (s : VaultS) (a : ActV) : VaultS := { s with acts := s.acts ++ [a] }
end Go.Cop
namespace Go.Proofs.YtbobcmimkonnoaaGreat.vault5
open ChangeShapes WideShapes ChangeAt RowKit Sl Cop pool1 pool2 pool5 pool9 clone page vault1 vault2 vault3 vault4
theorem acts_snoc {h : Hp} {xs : List (Int × Value)} {acts : List ActV} (ha : ActsIn2 h xs acts) {x : Int × Value} {y : ActV} (hr : ActRel h x y) : ActsIn2 h (xs ++ [x]) (acts ++ [y]) := by
 refine ⟨by simp [ha.1], fun i h1 h2 => ?_⟩
 rcases Nat.lt_or_ge i acts.length with hlt | hge
 · have hx : i < xs.length := by rw [ha.1]; exact hlt
   rw [List.getElem_append_left hx, List.getElem_append_left hlt]
   exact ha.2 i hx hlt
 · have h3 : i = acts.length := by simp at h2; omega
   subst h3
   have hx : xs.length ≤ acts.length := by rw [ha.1]; omega
   rw [List.getElem_append_right hx, List.getElem_append_right hge]
   simpa using hr
set_option maxRecDepth 100000 in
set_option maxHeartbeats 4000000 in
theorem do_ok {α : Type} (v : Nat) (s : VaultS) (g : Nat) (caps : Array Value) (R : α → Prop) (S : α → VaultS) (W : α → List (Int × Option PageV)) (F' : α → Pr) (F : Pr) (w : World) (hF : Sat ((VaultA v s).star F) w)
 (hm : s.floor + s.acts.length < 1099511627776) (eg : ∀ args w, (callFunc g args).run Tryz.prog w = .ok (.enter g args) w) (hS : ∀ z, R z → (S z).acts = s.acts ∧ (S z).floor = s.floor)
 (hc : ∀ ab w1, Sat ((VMA v s ab s.pool.mark []).star F) w1 → Calls Tryz.prog g (#[.pointer (some ⟨ab, 0, none⟩)] ++ caps) w1 fun e w' =>
  Stays w1 w' ∧ e = .returned (.int .i64 0) ∧ ∃ z, R z ∧ Sat ((VMA v (S z) ab s.pool.mark (W z)).star (F' z)) w') :
 Calls Tryz.prog 98 #[.pointer (some ⟨v, 0, none⟩), .func (.func g) #[] caps] w fun e w' =>
  Stays w w' ∧ e = .returned (.int .i64 0) ∧ ∃ z, R z ∧ Sat ((VaultA v ((S z).acted ⟨s.pool.mark, W z⟩)).star (F' z)) w' := by
 obtain ⟨x, ok, hF⟩ := vaultA_iff.1 hF
 have h1 : Sat ((PoolA x.p s.pool).star ((Pr.pts v (.cells #[.pointer (some ⟨x.p, 0, none⟩), .map (some x.mb), x.av, .int .i64 s.floor] 71)).star
  ((((MapA Tryz.prog 3 x.mb x.f).star ((Row 158 2 x.av s.acts.length (actCells x.axs)).star (Pr.own x.h)))).star F))) w := hF.perm (by unfold VaultAt; ac_rfl)
 have qv : w.cell? ⟨v, 0, none⟩ = some (.pointer (some ⟨x.p, 0, none⟩)) := by rw [cell_of_heap h1.right.pts_heap]; rfl
 have C := Lib.hid (mark_A x.p s.pool _ w h1)
 have HF := Lib.hid hF
 have OK := Lib.hid ok
 have hfl := ok.f0
 clear h1 hF ok
 go_enter Tryz.func98, Tryz.ntmps98
 go_wp2_with fail
 refine C.out.mono ?_
 rintro e w1 ⟨rfl, hst, hh⟩
 have h2 := (HF.out.ext (w' := w1) (fun _ _ => by rw [hh])).alloc (.cells #[.int .i64 s.pool.mark, .slice none 0 0] 158)
 have h3 : Sat ((VMA v s w1.heap.size s.pool.mark []).star F) _ := vma_iff.2 ⟨x, .slice none 0 0, [], OK.out, ⟨rfl, fun i h => absurd h (by simp)⟩, h2.perm (by
  unfold VMAt
  rw [show (Row 172 7 (.slice none 0 0) ([] : List WasX).length (([] : List WasX).flatMap WasX.cells)) = Pr.emp from Row.nil _ _, Pr.star_emp]
  ac_rfl)⟩
 have D := Lib.hid (hc _ _ h3)
 have HST := Lib.hid (hst.alloc (.cells #[.int .i64 s.pool.mark, .slice none 0 0] 158))
 clear h2 h3 hst hh HF C qv hc OK
 go_wp2_with fail
 refine (D.out).mono ?_
 rintro e w2 ⟨hst2, rfl, z, hR, h4⟩
 obtain ⟨x2, wv, ws, ok2, hws, h5⟩ := vma_iff.1 h4
 obtain ⟨eA, eF⟩ := hS z hR
 have h6 : Sat ((Row 158 2 x2.av (S z).acts.length (actCells x2.axs)).star ((Pr.pts v (.cells #[.pointer (some ⟨x2.p, 0, none⟩), .map (some x2.mb), x2.av, .int .i64 (S z).floor] 71)).star ((Pr.pts w1.heap.size (.cells #[.int .i64 s.pool.mark, wv] 158)).star ((Row 172 7 wv ws.length (ws.flatMap WasX.cells)).star (((PoolA x2.p (S z).pool).star ((MapA Tryz.prog 3 x2.mb x2.f).star (Pr.own x2.h))).star (F' z)))))) w2 := h5.perm (by unfold VMAt VaultAt; ac_rfl)
 rw [eA, eF] at h6
 obtain ⟨aw, cw, ew, _, _⟩ := Row.read h6.right.right.right
 obtain ⟨aa, ca, ea, _, _⟩ := Row.read h6
 have qa : w2.cell? ⟨v, 2, none⟩ = some x2.av := by rw [cell_of_heap h6.right.pts_heap]; rfl
 have q0 : w2.cell? ⟨w1.heap.size, 0, none⟩ = some (.int .i64 s.pool.mark) := by rw [cell_of_heap h6.right.right.pts_heap]; rfl
 have q1 : w2.cell? ⟨w1.heap.size, 1, none⟩ = some wv := by rw [cell_of_heap h6.right.right.pts_heap]; rfl
 have z0 := h6.right.lt
 have z1 := h6.right.right.lt
 rw [ea] at qa h6
 have H6 := Lib.hid h6
 have HO := Lib.hid (And.intro ok2 hws)
 have HST2 := Lib.hid (HST.out.trans hst2)
 have HEA := Lib.hid (And.intro eA eF)
 have HRZ := Lib.hid hR
 have HEW := Lib.hid ew
 have HEV := Lib.hid ea
 have e1 : wv = .slice aw ws.length cw := ew
 clear h4 h5 h6 D hst2 HST ok2 hws hS eA eF hR ew ea
 subst e1
 have hnew := Lib.hid (new_cells w2 [.int .i64 s.pool.mark, .slice aw ws.length cw] 158 _ rfl)
 have H7 := Lib.hid (H6.out.alloc (.cells #[.int .i64 s.pool.mark, .slice aw ws.length cw] 158)).right
 clear H6
 go_wp2
 refine wp_region_staged (sz := 31) (by kernel_rfl) [0, 1, 2, 3, 4, 5] [(6, [], [0, 1, 2, 3, 4]), (7, [8, 9], [0, 1, 2, 3]), (10, [], [8])] rfl (by kernel_rfl) (by kernel_rfl) (by kernel_rfl) ?_
 iterate 6 (refine wpQ_step rfl rfl (fun K hK => ?_); go_simp; refine hK _ ?_; clear hK K)
 refine wpQ_nil ?_
 refine wpRest_act rfl ?_
 go_wp2
 refine onN_mk (wpQ_nil ⟨?_, ?_⟩)
 · refine chk_cons ?_ (chk_cons ?_ (chk_cons ?_ (chk_cons ?_ (chk_cons ?_ chk_nil)))) <;> (refine yieldF_of rfl rfl rfl rfl ?_; go_simp; try omega)
 refine wpRest_act rfl ?_
 obtain ⟨i0, hi, hz0, hz1, hz2⟩ := info_parts infoVAct
 refine wpList_append_sl rfl _ _ _ rfl 158 i0 (.agg #[.int .i64 0, .slice none 0 0]) 2 32 Tryz.underlying69 hi hz0 hz1 hz2 rfl _ _ _ rfl H7.out ⟨w2.heap.size, 0, none⟩ 1 1 _ rfl rfl hnew.out (by simp [Value.oneCell']) (by simp only [maxLen]; omega) (by omega) ?_
 intro v' w3 hsat hgr _
 obtain ⟨a2, c2, hv2, _, _⟩ := Row.read hsat
 subst hv2
 have hp := hsat.right
 have y2 := frozen_of_heap hp.pts_heap 2
 have y2c : w3.cell? ⟨v, 2, none⟩ = some (.slice aa s.acts.length ca) := by rw [cell_of_heap hp.pts_heap]; rfl
 have yp := hp.lt
 have HSAT := Lib.hid hsat
 have HG := Lib.hid (((HST2.out.alloc (.cells #[.int .i64 s.pool.mark, .slice aw ws.length cw] 158)).drew).of_grown hgr)
 clear hsat hp hgr q0 q1 qa z0 z1 H7 hnew
 go_wp2
 refine onN_mk ?_
 iterate 2 (refine wpQ_step rfl rfl (fun K hK => ?_); go_simp; refine hK _ ?_; clear hK K)
 refine wpQ_nil ⟨?_, ?_⟩
 · refine chk_cons ?_ (chk_cons ?_ (chk_cons ?_ (chk_cons ?_ chk_nil))) <;> (refine yieldF_of rfl rfl rfl rfl ?_; go_simp; try omega)
 refine wpRest_act rfl ?_
 go_wp2
 refine onN_mk (wpQ_nil ⟨?_, wpRest_nil ?_⟩)
 · refine chk_cons ?_ chk_nil <;> (refine yieldF_of rfl rfl rfl rfl ?_; go_simp; try omega)
 go_wp2
 go_ret
 refine ⟨HG.out.setCell _ _, rfl, z, HRZ.out, ?_⟩
 have h8 : Sat ((Pr.pts v (.cells #[.pointer (some ⟨x2.p, 0, none⟩), .map (some x2.mb), .slice a2 (s.acts.length + 1) c2, .int .i64 s.floor] 71)).star ((Row 158 2 (.slice a2 (s.acts.length + 1) c2) (s.acts.length + 1) (actCells x2.axs ++ [.int .i64 s.pool.mark, .slice aw ws.length cw])).star ((Pr.pts w1.heap.size (.cells #[.int .i64 s.pool.mark, .slice aw ws.length cw] 158)).star ((Row 172 7 (.slice aw ws.length cw) ws.length (ws.flatMap WasX.cells)).star (((PoolA x2.p (S z).pool).star ((MapA Tryz.prog 3 x2.mb x2.f).star (Pr.own x2.h))).star (F' z)))))) _ := (HSAT.out.perm (Pr.left_comm _ _ _)).setCell (i := 2) (.slice a2 (s.acts.length + 1) c2)
 have h9 : Sat ((Row 172 7 (.slice aw ws.length cw) ws.length (ws.flatMap WasX.cells)).star ((Pr.own x2.h).star ((Pr.pts v (.cells #[.pointer (some ⟨x2.p, 0, none⟩), .map (some x2.mb), .slice a2 (s.acts.length + 1) c2, .int .i64 s.floor] 71)).star ((Row 158 2 (.slice a2 (s.acts.length + 1) c2) (s.acts.length + 1) (actCells x2.axs ++ [.int .i64 s.pool.mark, .slice aw ws.length cw])).star ((Pr.pts w1.heap.size (.cells #[.int .i64 s.pool.mark, .slice aw ws.length cw] 158)).star ((PoolA x2.p (S z).pool).star ((MapA Tryz.prog 3 x2.mb x2.f).star (F' z)))))))) _ := h8.perm (by ac_rfl)
 obtain ⟨h2, hrow, h10⟩ := toArena (Q := fun y => RowIn y 7 (.slice aw ws.length cw) ws.length (ws.flatMap WasX.cells)) h9 (fun y hy => Row.rowIn hy)
 obtain ⟨hdis, h11⟩ := Sat.own_join (h10.perm (Pr.left_comm _ _ _))
 have h12 : Sat ((Pr.pts w1.heap.size (.cells #[.int .i64 s.pool.mark, .slice aw ws.length cw] 158)).star ((Pr.own (x2.h.un h2)).star (((Pr.pts v (.cells #[.pointer (some ⟨x2.p, 0, none⟩), .map (some x2.mb), .slice a2 (s.acts.length + 1) c2, .int .i64 s.floor] 71)).star ((Row 158 2 (.slice a2 (s.acts.length + 1) c2) (s.acts.length + 1) (actCells x2.axs ++ [.int .i64 s.pool.mark, .slice aw ws.length cw])).star ((PoolA x2.p (S z).pool).star (MapA Tryz.prog 3 x2.mb x2.f)))).star (F' z)))) _ := h11.perm (by ac_rfl)
 obtain ⟨ok2, hws⟩ := HO.out
 obtain ⟨eA, eF⟩ := HEA.out
 refine vaultA_iff.2 ⟨{ x2 with av := .slice a2 (s.acts.length + 1) c2, axs := x2.axs ++ [(s.pool.mark, .slice aw ws.length cw)], h := x2.h.un h2 }, ⟨ok2.on.sub (Hp.sub_un_left _ _), ?_, ?_, ?_⟩, ?_⟩
 · refine acts_snoc (ok2.acts.sub (Hp.sub_un_left _ _)) ⟨rfl, ws, ?_, hws.sub (Hp.sub_un_left _ _)⟩
   have hl : (W z).length = ws.length := hws.1.symm
   dsimp only
   rw [hl]
   exact hrow.sub (Hp.sub_un_right hdis)
 · exact ok2.f0
 · show (S z).floor + (((S z).acts ++ [_]).length : Nat) ≤ _
   rw [eA, eF, List.length_append]
   simp only [List.length_cons, List.length_nil]
   omega
 · refine h12.right.perm ?_
   unfold VaultAt
   have e1 : ((S z).acted ⟨s.pool.mark, W z⟩).acts.length = s.acts.length + 1 := by
    show ((S z).acts ++ [_]).length = _
    rw [eA, List.length_append]; rfl
   have e2 : ((S z).acted ⟨s.pool.mark, W z⟩).floor = s.floor := eF
   have e3 : actCells (x2.axs ++ [(s.pool.mark, .slice aw ws.length cw)]) = actCells x2.axs ++ [.int .i64 s.pool.mark, .slice aw ws.length cw] := by
    unfold actCells; rw [List.flatMap_append]; rfl
   dsimp only
   rw [e1, e2, e3]
   show _ = (Pr.star _ ((PoolA x2.p (S z).pool).star _)).star _
   ac_rfl
end Go.Proofs.YtbobcmimkonnoaaGreat.vault5
