/- The document's copy of a vault; the conditions stand as hypotheses. -/
import Derived.Test.YtbobcmimkonnoaaGreatBlobAnswersM23
import Derived.Test.YtbobcmimkonnoaaGreatBlobAnswersM19
import Derived.Test.YtbobcmimkonnoaaGreatBlobAnswersM08
import Derived.Test.YtbobcmimkonnoaaGreatBlobAnswersM09
import Derived.Test.YtbobcmimkonnoaaGreatBlobAnswersM11
import Derived.BigQuiet
namespace Go.Proofs.YtbobcmimkonnoaaGreat.rcopy
open ChangeShapes WideShapes ChangeAt RowKit Sl Cop pool1 pool2 pool5 pool9 clone page vault1 vault2 vault6 counts items copyP copied vload ref1 ref2 ref3
theorem row_room5 {F : Pr} {w : World} (T : Nat) (z : Array Value) (n : Nat) (hn : n ≤ maxLen) (h : Sat F w) :
 Sat ((Row T 5 (.slice (some ⟨w.heap.size, 0, none⟩) 0 n) 0 []).star F) (w.alloc (.cells (madeCells z (n * 5)) T)) := by
 have h1 := h.alloc (.cells (madeCells z (n * 5)) T)
 refine Row.mk' (xs := []) (sp := (madeCells z (n * 5)).toList) (by simp) (by simp [size_madeCells]) (Nat.zero_le _) hn ?_
 rw [List.nil_append, Array.toArray_toList]
 exact h1
set_option maxRecDepth 100000 in
set_option maxHeartbeats 2000000 in
theorem copypages_any (a : Hp) (v : Value) (h : Hp) (xs : List (Value × Value)) (gs : List PageV) (hp : PgsAt h xs gs) (hx : RowIn a 5 v gs.length ((xs.zip gs).flatMap pgCells)) (hn : gs.length ≤ 65536) (F : Pr) (w : World) (hF : Sat ((Pr.own a).star F) w) :
 Calls Tryz.prog 105 #[v] w fun e w' => ∃ v', e = .returned v' ∧ Sat ((PgRow v' xs gs).star ((Pr.own a).star F)) w' ∧ Stays w w' := by
 obtain ⟨hlen, ad, cd, rfl, _, _, hc⟩ := id hx
 obtain ⟨i0, hi, hz0, hz1, hz2⟩ := info_parts infoPageF
 have hmk : ∀ wx : World, (Instr.makeSlice 85 (.int .i64 0) (.int .i64 (gs.length : Int))).run Tryz.prog wx = .ok (.slice (some ⟨wx.heap.size, 0, none⟩) 0 gs.length) (wx.alloc (.cells (madeCells #[.int .i64 0, .int .i64 0, .slice none 0 0, .slice none 0 0, .int .i64 0] (gs.length * 5)) 31)) := by
  intro wx
  have := run_make (P := Tryz.prog) wx 85 31 i0 (.agg #[.int .i64 0, .int .i64 0, .slice none 0 0, .slice none 0 0, .int .i64 0]) Tryz.underlying85 hi hz0 .i64 .i64 0 gs.length (by omega) (by omega) (by rw [hz2]; omega) (by omega)
  rw [hz1, Int.toNat_natCast] at this
  exact this
 have h2 := Lib.hid (row_room5 31 #[.int .i64 0, .int .i64 0, .slice none 0 0, .slice none 0 0, .int .i64 0] gs.length (by simp only [maxLen]; omega) hF)
 have HC := Lib.hid hc
 have HP := Lib.hid hp
 have hnn : (gs.length : Int) ≤ 65536 := by omega
 clear hF hx hc hp hlen
 go_enter Tryz.func105, Tryz.ntmps105
 go_wp2
 go_loopw [3, 4] (fun o i wr => ∃ k : Nat, k ≤ gs.length ∧ i = .int .i64 k ∧ Stays w wr ∧ Sat ((Row 31 5 o k (((xs.zip gs).take k).flatMap pgCells)).star ((Pr.own a).star F)) wr) (fun _ i _ => gs.length - (intOf i).toNat)
 case atStart => exact ⟨0, Nat.zero_le _, rfl, (Stays.refl w).alloc _, h2.out⟩
 case round =>
  obtain ⟨k, hk, rfl, hst, hs⟩ := hrel
  obtain ⟨ao, co, rfl, _, _⟩ := Row.read hs
  rcases Nat.lt_or_ge k gs.length with hlt | hge
  · obtain ⟨b, off, rfl, hcell⟩ := HC.out (by omega)
    have hkx : k < xs.length := by have := HP.out.len; omega
    have hz : k < (xs.zip gs).length := by simp; omega
    have hle := hs.right.own
    have at' : ∀ j v, (pgCells (xs[k], gs[k]))[j]? = some v → j < 5 → wr.cell? ⟨b, off + k * 5 + j, none⟩ = some v := by
     intro j v hv hj
     have h3 := hcell (k * 5 + j) (by omega)
     have h4 := flat_at pgCells 5 (fun _ => rfl) (xs.zip gs) k j hz hj
     rw [show (xs.zip gs)[k] = (xs[k], gs[k]) by simp, hv] at h4
     rw [Nat.add_assoc]
     exact Hp.cell_le hle (h3.trans h4)
    obtain ⟨y1, y2⟩ := HP.out.at' k hkx hlt
    obtain ⟨a1, d1, e1, _, _⟩ := items_rd y1
    obtain ⟨a2, d2, e2⟩ := bytes_shape y2
    have c0 := at' 0 _ rfl (by omega)
    have c1 := at' 1 _ rfl (by omega)
    have c2 := at' 2 _ rfl (by omega)
    have c3 := at' 3 _ rfl (by omega)
    have c4 := at' 4 _ rfl (by omega)
    have HT := Lib.hid (show ((xs.zip gs).take (k + 1)).flatMap pgCells = ((xs.zip gs).take k).flatMap pgCells ++ [.int .i64 gs[k].kind, .int .i64 gs[k].level, xs[k].1, xs[k].2, .int .i64 gs[k].next] by
     rw [List.take_succ_eq_append_getElem hz, List.flatMap_append]
     simp [pgCells])
    dsimp only at c2 c3
    rw [e1] at c2
    rw [e2] at c3
    rw [e1, e2] at HT
    rw [Nat.add_zero] at c0
    generalize gs[k] = g at *
    have H1 := Lib.hid (hs.alloc (.cells [.int .i64 g.kind, .int .i64 g.level, .slice a1 g.items.length d1, .slice a2 g.data.length d2, .int .i64 g.next].toArray 31)).right
    have hnew := Lib.hid (new_cells wr [.int .i64 g.kind, .int .i64 g.level, .slice a1 g.items.length d1, .slice a2 g.data.length d2, .int .i64 g.next] 31 _ rfl)
    have zb := World.block_lt_of_cell? _ _ c0
    have HST := Lib.hid hst
    clear hs hcell hle at' y1 y2 e1 e2 hst hz
    go_wp2_with (
     at_builtin
     refine wpList_append_sl rfl _ _ _ rfl 31 i0 (.agg #[.int .i64 0, .int .i64 0, .slice none 0 0, .slice none 0 0, .int .i64 0]) 5 72 Tryz.underlying85 hi hz0 hz1 hz2 rfl _ _ _ rfl H1.out ⟨wr.heap.size, 0, none⟩ 1 1 [.int .i64 g.kind, .int .i64 g.level, .slice a1 g.items.length d1, .slice a2 g.data.length d2, .int .i64 g.next] rfl rfl hnew.out (by simp [Value.oneCell']) (by simp only [maxLen]; omega) (by omega) ?_
     intro v7 w4 hs4 hg4 _
     obtain ⟨a7', c7', e7', _, _⟩ := Row.read hs4
     subst e7'
     have HS4 := Lib.hid hs4
     have HG4 := Lib.hid hg4
     clear hs4 hg4)
    refine ⟨⟨k + 1, by omega, congrArg (Value.int .i64) (by omega), (HST.out.alloc _).of_grown HG4.out, ?_⟩, by simp [intOf]; omega⟩
    rw [HT.out]
    exact HS4.out
  · have hkl : k = gs.length := by omega
    subst hkl
    have HS := Lib.hid hs
    clear hs
    go_wp2
    go_ret
    refine ⟨_, rfl, ?_, hst⟩
    have h9 := HS.out
    rw [List.take_of_length_le (by simp; omega)] at h9
    exact h9
end Go.Proofs.YtbobcmimkonnoaaGreat.rcopy
namespace Go.Sl
theorem flat_set5 {α : Type} (f : α → List Value) (hf : ∀ x, (f x).length = 5) (v0 v1 v2 v3 v4 : Value) (y : α) (hy : f y = [v0, v1, v2, v3, v4]) : ∀ (l : List α) (i : Nat), i < l.length →
 (((((l.flatMap f).set (i * 5) v0).set (i * 5 + 1) v1).set (i * 5 + 2) v2).set (i * 5 + 3) v3).set (i * 5 + 4) v4 = (l.set i y).flatMap f
 | [], i, hi => absurd hi (by simp)
 | x :: l, 0, _ => by
  have hx := hf x
  match hfx : f x, hx with
  | [a, b, c, d, e], _ => simp [hfx, hy]
 | x :: l, i + 1, hi => by
  have hx := hf x
  have ih := flat_set5 f hf v0 v1 v2 v3 v4 y hy l i (by simpa using hi)
  simp only [List.flatMap_cons, List.set_cons_succ]
  rw [List.set_append_right _ _ (by rw [hx]; omega), List.set_append_right _ _ (by rw [hx]; omega), List.set_append_right _ _ (by rw [hx]; omega), List.set_append_right _ _ (by rw [hx]; omega), List.set_append_right _ _ (by rw [hx]; omega), hx,
   show (i + 1) * 5 - 5 = i * 5 by omega, show (i + 1) * 5 + 1 - 5 = i * 5 + 1 by omega, show (i + 1) * 5 + 2 - 5 = i * 5 + 2 by omega, show (i + 1) * 5 + 3 - 5 = i * 5 + 3 by omega, show (i + 1) * 5 + 4 - 5 = i * 5 + 4 by omega, ih]
end Go.Sl
namespace Go.Proofs.YtbobcmimkonnoaaGreat.ref4
open ChangeShapes WideShapes ChangeAt RowKit Sl Cop pool1 pool2 pool5 pool9 clone page vault1 vault2 vault3 vault6 counts copyB items copyP copied load1 vloadLaw vload ref1 ref2 ref3
theorem zip_set_both {α β : Type} : ∀ (xs : List α) (l : List β) (k : Nat) (v : α) (y : β), (xs.zip l).set k (v, y) = (xs.set k v).zip (l.set k y)
 | [], l, k, v, y => by simp
 | x :: xs, [], k, v, y => by cases k <;> simp
 | x :: xs, z :: l, 0, v, y => by simp
 | x :: xs, z :: l, k + 1, v, y => by
  have := zip_set_both xs l k v y
  simp only [List.zip_cons_cons, List.set_cons_succ, this]
theorem ref_wr_count {r : Nat} {s : PoolS} {gs : List PageV} {hush : RTail} {x : RX} {F : Pr} {w : World} (h : Sat ((RefAt r s gs hush x).star F) w) {j : Nat} (hj : j < s.counts.length) :
 ∃ b c, x.cv = .slice (some ⟨b, 0, none⟩) s.counts.length c ∧ w.cell? ⟨b, j, none⟩ = some (.int .i64 (s.counts.getD j 0)) ∧ w.frozen? ⟨b, j, none⟩ = false ∧
  ∀ v : Int, Sat ((RefAt r { s with counts := s.counts.set j v } gs hush x).star F) (w.setCell ⟨b, j, none⟩ (.int .i64 v)) := by
 have h1 : Sat ((IntsRow x.cv s.counts).star ((Pr.pts r (refC s.refs x.cv x.lv x.pv hush)).star ((BoolsRow x.lv s.last).star ((PgRow x.pv x.xs gs).star ((Pr.own x.h).star F))))) w := h.perm (by unfold RefAt; ac_rfl)
 obtain ⟨a, c, e, _, hc⟩ := Row.read h1
 obtain ⟨b, eb, hd⟩ := hc (by omega)
 subst eb
 clear hc
 refine ⟨b, c, e, ?_, (hd j (by omega)).2, fun v => ?_⟩
 · rw [(hd j (by omega)).1]; simp [hj]
 · have h2 := h1
   rw [e] at h2
   have h3 := Row.set h2 j (by simpa using hj) (.int .i64 v)
   have h4 : Sat ((IntsRow x.cv (s.counts.set j v)).star ((Pr.pts r (refC s.refs x.cv x.lv x.pv hush)).star ((BoolsRow x.lv s.last).star ((PgRow x.pv x.xs gs).star ((Pr.own x.h).star F))))) (w.setCell ⟨b, j, none⟩ (.int .i64 v)) := by
    unfold IntsRow
    rw [List.length_set, List.map_set, e]
    exact h3
   exact h4.perm (by unfold RefAt; ac_rfl)
theorem ref_wr_last {r : Nat} {s : PoolS} {gs : List PageV} {hush : RTail} {x : RX} {F : Pr} {w : World} (h : Sat ((RefAt r s gs hush x).star F) w) {j : Nat} (hj : j < s.last.length) :
 ∃ b c, x.lv = .slice (some ⟨b, 0, none⟩) s.last.length c ∧ w.cell? ⟨b, j, none⟩ = some (.bool (s.last.getD j false)) ∧ w.frozen? ⟨b, j, none⟩ = false ∧
  ∀ v : Bool, Sat ((RefAt r { s with last := s.last.set j v } gs hush x).star F) (w.setCell ⟨b, j, none⟩ (.bool v)) := by
 have h1 : Sat ((BoolsRow x.lv s.last).star ((Pr.pts r (refC s.refs x.cv x.lv x.pv hush)).star ((IntsRow x.cv s.counts).star ((PgRow x.pv x.xs gs).star ((Pr.own x.h).star F))))) w := h.perm (by unfold RefAt; ac_rfl)
 obtain ⟨a, c, e, _, hc⟩ := Row.read h1
 obtain ⟨b, eb, hd⟩ := hc (by omega)
 subst eb
 clear hc
 refine ⟨b, c, e, ?_, (hd j (by omega)).2, fun v => ?_⟩
 · rw [(hd j (by omega)).1]; simp [hj]
 · have h2 := h1
   rw [e] at h2
   have h3 := Row.set h2 j (by simpa using hj) (.bool v)
   have h4 : Sat ((BoolsRow x.lv (s.last.set j v)).star ((Pr.pts r (refC s.refs x.cv x.lv x.pv hush)).star ((IntsRow x.cv s.counts).star ((PgRow x.pv x.xs gs).star ((Pr.own x.h).star F))))) (w.setCell ⟨b, j, none⟩ (.bool v)) := by
    unfold BoolsRow
    rw [List.length_set, List.map_set, e]
    exact h3
   exact h4.perm (by unfold RefAt; ac_rfl)
theorem ref_wr_page {r : Nat} {s : PoolS} {gs : List PageV} {hush : RTail} {x : RX} {F : Pr} {w : World} (hx : x.xs.length = gs.length) (h : Sat ((RefAt r s gs hush x).star F) w) {j : Nat} (hj : j < gs.length) :
 ∃ b c, x.pv = .slice (some ⟨b, 0, none⟩) gs.length c ∧ (∀ i, i < 5 → w.frozen? ⟨b, j * 5 + i, none⟩ = false ∧ ∃ v, w.cell? ⟨b, j * 5 + i, none⟩ = some v) ∧
  ∀ (g : PageV) (vi vd : Value), Sat ((RefAt r s (gs.set j g) hush { x with xs := x.xs.set j (vi, vd) }).star F) (((((w.setCell ⟨b, j * 5, none⟩ (.int .i64 g.kind)).setCell ⟨b, j * 5 + 1, none⟩ (.int .i64 g.level)).setCell ⟨b, j * 5 + 2, none⟩ vi).setCell ⟨b, j * 5 + 3, none⟩ vd).setCell ⟨b, j * 5 + 4, none⟩ (.int .i64 g.next)) := by
 have h1 : Sat ((PgRow x.pv x.xs gs).star ((Pr.pts r (refC s.refs x.cv x.lv x.pv hush)).star ((IntsRow x.cv s.counts).star ((BoolsRow x.lv s.last).star ((Pr.own x.h).star F))))) w := h.perm (by unfold RefAt; ac_rfl)
 obtain ⟨a, c, e, hlen, hc⟩ := Row.read h1
 obtain ⟨b, eb, hd⟩ := hc (by omega)
 subst eb
 clear hc
 refine ⟨b, c, e, fun i hi => ⟨(hd (j * 5 + i) (by omega)).2, ?_⟩, fun g vi vd => ?_⟩
 · have h5 := (hd (j * 5 + i) (by omega)).1
   rw [List.getElem?_eq_getElem (by omega)] at h5
   exact ⟨_, h5⟩
 · have h2 := h1
   rw [e] at h2
   have h3 := Row.set (Row.set (Row.set (Row.set (Row.set h2 (j * 5) (by omega) (.int .i64 g.kind)) (j * 5 + 1) (by simp only [List.length_set]; omega) (.int .i64 g.level)) (j * 5 + 2) (by simp only [List.length_set]; omega) vi) (j * 5 + 3) (by simp only [List.length_set]; omega) vd) (j * 5 + 4) (by simp only [List.length_set]; omega) (.int .i64 g.next)
   rw [flat_set5 pgCells (fun _ => rfl) _ _ _ _ _ ((vi, vd), g) rfl (x.xs.zip gs) j (by simp; omega), zip_set_both] at h3
   have h4 : Sat ((PgRow x.pv (x.xs.set j (vi, vd)) (gs.set j g)).star ((Pr.pts r (refC s.refs x.cv x.lv x.pv hush)).star ((IntsRow x.cv s.counts).star ((BoolsRow x.lv s.last).star ((Pr.own x.h).star F))))) (((((w.setCell ⟨b, j * 5, none⟩ (.int .i64 g.kind)).setCell ⟨b, j * 5 + 1, none⟩ (.int .i64 g.level)).setCell ⟨b, j * 5 + 2, none⟩ vi).setCell ⟨b, j * 5 + 3, none⟩ vd).setCell ⟨b, j * 5 + 4, none⟩ (.int .i64 g.next)) := by
    unfold PgRow
    rw [List.length_set, e]
    exact h3
   exact h4.perm (by unfold RefAt; ac_rfl)
end Go.Proofs.YtbobcmimkonnoaaGreat.ref4
namespace Go.Cop
/-- The pages to which a page leads. -/
def kidItem (g : PageV) (x : ItemV) : Bool := (g.kind == 2) || ((g.kind == 1) && (x.child != 0))
def kidsK (g : PageV) (k : Nat) : List Int := ((g.items.take k).filter (kidItem g)).map (·.child)
def kidsOf (g : PageV) : List Int := kidsK g g.items.length ++ (if (g.kind == 3) && (g.next != 0) then [g.next] else [])
theorem kidsK_yes {g : PageV} {k : Nat} (hk : k < g.items.length) (h : kidItem g g.items[k] = true) : kidsK g (k + 1) = kidsK g k ++ [g.items[k].child] := by
 unfold kidsK
 rw [List.take_succ_eq_append_getElem hk, List.filter_append, List.map_append]
 simp [h]
theorem kidsK_no {g : PageV} {k : Nat} (hk : k < g.items.length) (h : kidItem g g.items[k] = false) : kidsK g (k + 1) = kidsK g k := by
 unfold kidsK
 rw [List.take_succ_eq_append_getElem hk, List.filter_append, List.map_append]
 simp [h]
theorem kidsK_len (g : PageV) (k : Nat) : (kidsK g k).length ≤ k := by
 unfold kidsK
 rw [List.length_map]
 exact Nat.le_trans (List.length_filter_le _ _) (by rw [List.length_take]; omega)
theorem kidsOf_len (g : PageV) : (kidsOf g).length ≤ g.items.length + 1 := by
 unfold kidsOf
 rw [List.length_append]
 have := kidsK_len g g.items.length
 split <;> simp <;> omega
end Go.Cop
namespace Go.Proofs.YtbobcmimkonnoaaGreat.kidsG
open ChangeShapes WideShapes ChangeAt RowKit Sl Cop pool2 pool9 clone page vault1 vault2 items copyP
theorem ints_snoc {v' : Value} {l : List Int} {z : Int} {F : Pr} {w : World} (h : Sat ((Row 3 1 v' (l.length + 1) (l.map (Value.int .i64) ++ [.int .i64 z])).star F) w) : Sat ((IntsRow v' (l ++ [z])).star F) w := by
 unfold IntsRow
 rw [List.length_append, List.map_append]
 exact h
set_option maxRecDepth 100000 in
set_option maxHeartbeats 4000000 in
theorem kids_any (h : Hp) (v : Value) (g : PageV) (hv : PageIn h v g) (hn : g.items.length ≤ 65536) (F : Pr) (w : World) (hF : Sat ((Pr.own h).star F) w) :
 Calls Tryz.prog 156 #[v] w fun e w' => ∃ v', e = .returned v' ∧ Sat ((IntsRow v' (kidsOf g)).star ((Pr.own h).star F)) w' ∧ Stays w w' := by
 obtain ⟨vi, vd, rfl, hi, hd⟩ := hv
 obtain ⟨ai, ci, rfl, _, rd⟩ := items_rd hi
 obtain ⟨ad, cd, rfl⟩ := bytes_shape hd
 have h1 := hF.alloc (pageC g.kind g.level (.slice ai g.items.length ci) (.slice ad g.data.length cd) g.next)
 have H1 := Lib.hid h1
 have RD := Lib.hid rd
 have HST := Lib.hid ((Stays.refl w).alloc (pageC g.kind g.level (.slice ai g.items.length ci) (.slice ad g.data.length cd) g.next))
 have hl0 : (g.items.length : Int) ≤ 65536 := by omega
 obtain ⟨i0, hi0, hz0, hz1, hz2⟩ := info_parts infoInt
 clear hF h1 hi hd rd
 go_enter Tryz.func156, Tryz.ntmps156
 go_wp2
 go_loopw [3, 9] (fun l i wr => ∃ k : Nat, k ≤ g.items.length ∧ i = .int .i64 k ∧ Stays w wr ∧ Sat ((IntsRow l (kidsK g k)).star ((Pr.pts w.heap.size (pageC g.kind g.level (.slice ai g.items.length ci) (.slice ad g.data.length cd) g.next)).star ((Pr.own h).star F))) wr) (fun _ i _ => g.items.length - (intOf i).toNat)
 case atStart =>
  refine ⟨0, Nat.zero_le _, rfl, HST.out, ?_⟩
  show Sat ((Row 3 1 (.slice none 0 0) 0 []).star _) _
  rw [Row.nil, Pr.emp_star]
  exact H1.out
 case round =>
  obtain ⟨k, hk, rfl, hst, hs⟩ := hrel
  clear H1 HST
  obtain ⟨al, cl, rfl, _, _⟩ := Row.read hs
  obtain ⟨p0, p1, p2, p3, p4, _, pz⟩ := pts5 hs.right
  have hkl := kidsK_len g k
  rcases Nat.lt_or_ge k g.items.length with hlt | hge
  · obtain ⟨b, off, ak, ck, av, cv, rfl, hbk, hbv, hc⟩ := RD.out k hlt
    obtain ⟨c0, c1, c2, c3⟩ := hc wr hs.right.right.own
    have z0 := World.block_lt_of_cell? _ _ c0
    have HYES := Lib.hid (fun h => kidsK_yes (g := g) hlt h)
    have HNO := Lib.hid (fun h => kidsK_no (g := g) hlt h)
    have hkd : kidItem g g.items[k] = ((g.kind == 2) || ((g.kind == 1) && (g.items[k].child != 0))) := rfl
    have HSTK := Lib.hid (hst.alloc (itemC (.slice ak g.items[k].key.length ck) (.slice av g.items[k].value.length cv) g.items[k].child g.items[k].size))
    have HSK := Lib.hid ((hs.alloc (itemC (.slice ak g.items[k].key.length ck) (.slice av g.items[k].value.length cv) g.items[k].child g.items[k].size)).right)
    rw [hkd] at HYES HNO
    clear hs hst hc hkd hbk hbv
    generalize g.items[k] = y at *
    have app : ∀ wx : World, Sat ((IntsRow (.slice al (kidsK g k).length cl) (kidsK g k)).star ((Pr.pts w.heap.size (pageC g.kind g.level (.slice (some ⟨b, off, none⟩) g.items.length ci) (.slice ad g.data.length cd) g.next)).star ((Pr.own h).star F))) wx →
     Sat ((Row 3 1 (.slice al (kidsK g k).length cl) (kidsK g k).length ((kidsK g k).map (Value.int .i64))).star ((Pr.pts w.heap.size (pageC g.kind g.level (.slice (some ⟨b, off, none⟩) g.items.length ci) (.slice ad g.data.length cd) g.next)).star ((Pr.own h).star F))) (wx.alloc (.cells [.int .i64 y.child].toArray 3)) := fun wx hx => (hx.alloc _).right
    have A1 := Lib.hid (app _ HSK.out)
    have hnew := Lib.hid (new_cells (wr.alloc (itemC (.slice ak y.key.length ck) (.slice av y.value.length cv) y.child y.size)) [.int .i64 y.child] 3 (wr.heap.size + 1) (by simp))
    clear app
    by_cases hk2 : g.kind = 2
    · have hb2 : (g.kind == 2) = true := beq_iff_eq.2 hk2
      rw [hb2] at HYES HNO
      clear HNO hk2
      go_wp2_with (at_builtin; refine wpList_append_sl rfl _ _ _ rfl 3 i0 (.int .i64 0) 1 8 Tryz.underlying40 hi0 hz0 hz1 hz2 rfl _ _ _ rfl A1.out ⟨wr.heap.size + 1, 0, none⟩ 1 1 [.int .i64 y.child] rfl rfl hnew.out (by simp [Value.oneCell']) (by simp only [maxLen]; omega) (by omega) ?_; intro v7 w4 hs4 hg4 _; obtain ⟨a7', c7', e7', _, _⟩ := Row.read hs4; subst e7'; have HS4 := Lib.hid hs4; have HG4 := Lib.hid ((HSTK.out.alloc _).of_grown hg4); clear hs4 hg4)
      go_roundw
      case rel => exact ⟨k + 1, by omega, congrArg (Value.int .i64) (by omega), HG4.out, by rw [HYES.out rfl]; exact ints_snoc HS4.out⟩
      case measure => simp [intOf]; omega
    · have hb2 : (g.kind == 2) = false := beq_eq_false_iff_ne.2 hk2
      rw [hb2] at HYES HNO
      clear hk2
      by_cases hk1 : g.kind = 1
      · have hb1 : (g.kind == 1) = true := beq_iff_eq.2 hk1
        rw [hb1] at HYES HNO
        clear hk1
        by_cases hch : y.child = 0
        · have hb3 : (y.child != 0) = false := by rw [bne_eq_false_iff_eq]; exact hch
          rw [hb3] at HNO
          clear HYES hch A1
          go_wp2
          go_roundw
          case rel => exact ⟨k + 1, by omega, congrArg (Value.int .i64) (by omega), HSTK.out, by rw [HNO.out rfl]; exact HSK.out⟩
          case measure => simp [intOf]; omega
        · have hb3 : (y.child != 0) = true := by rw [bne_iff_ne]; exact hch
          rw [hb3] at HYES
          clear HNO hch
          go_wp2_with (at_builtin; refine wpList_append_sl rfl _ _ _ rfl 3 i0 (.int .i64 0) 1 8 Tryz.underlying40 hi0 hz0 hz1 hz2 rfl _ _ _ rfl A1.out ⟨wr.heap.size + 1, 0, none⟩ 1 1 [.int .i64 y.child] rfl rfl hnew.out (by simp [Value.oneCell']) (by simp only [maxLen]; omega) (by omega) ?_; intro v7 w4 hs4 hg4 _; obtain ⟨a7', c7', e7', _, _⟩ := Row.read hs4; subst e7'; have HS4 := Lib.hid hs4; have HG4 := Lib.hid ((HSTK.out.alloc _).of_grown hg4); clear hs4 hg4)
          go_roundw
          case rel => exact ⟨k + 1, by omega, congrArg (Value.int .i64) (by omega), HG4.out, by rw [HYES.out rfl]; exact ints_snoc HS4.out⟩
          case measure => simp [intOf]; omega
      · have hb1 : (g.kind == 1) = false := beq_eq_false_iff_ne.2 hk1
        rw [hb1] at HYES HNO
        clear hk1 HYES A1
        go_wp2
        go_roundw
        case rel => exact ⟨k + 1, by omega, congrArg (Value.int .i64) (by omega), HSTK.out, by rw [HNO.out rfl]; exact HSK.out⟩
        case measure => simp [intOf]; omega
  · have hkl2 : k = g.items.length := by omega
    subst hkl2
    have hko : kidsOf g = kidsK g g.items.length ++ (if (g.kind == 3) && (g.next != 0) then [g.next] else []) := rfl
    have HS := Lib.hid hs
    have HKO := Lib.hid hko
    clear hs hko
    by_cases hk3 : g.kind = 3
    · have hb3 : (g.kind == 3) = true := beq_iff_eq.2 hk3
      rw [hb3] at HKO
      by_cases hnx : g.next = 0
      · have hb4 : (g.next != 0) = false := by rw [bne_eq_false_iff_eq]; exact hnx
        rw [hb4] at HKO
        clear hnx hk3
        go_wp2
        go_ret
        refine ⟨_, rfl, ?_, hst⟩
        rw [HKO.out, if_neg (by decide), List.append_nil]
        exact (HS.out.perm (Pr.left_comm _ _ _)).right
      · have hb4 : (g.next != 0) = true := by rw [bne_iff_ne]; exact hnx
        rw [hb4] at HKO
        have A1 := Lib.hid (show Sat ((Row 3 1 (.slice al (kidsK g g.items.length).length cl) (kidsK g g.items.length).length ((kidsK g g.items.length).map (Value.int .i64))).star ((Pr.pts w.heap.size (pageC g.kind g.level (.slice ai g.items.length ci) (.slice ad g.data.length cd) g.next)).star ((Pr.own h).star F))) (wr.alloc (.cells [.int .i64 g.next].toArray 3)) from (HS.out.alloc _).right)
        have hnew := Lib.hid (new_cells wr [.int .i64 g.next] 3 _ rfl)
        clear hnx hk3
        go_wp2_with (at_builtin; refine wpList_append_sl rfl _ _ _ rfl 3 i0 (.int .i64 0) 1 8 Tryz.underlying40 hi0 hz0 hz1 hz2 rfl _ _ _ rfl A1.out ⟨wr.heap.size, 0, none⟩ 1 1 [.int .i64 g.next] rfl rfl hnew.out (by simp [Value.oneCell']) (by simp only [maxLen]; omega) (by omega) ?_; intro v7 w4 hs4 hg4 _; obtain ⟨a7', c7', e7', _, _⟩ := Row.read hs4; subst e7'; have HS4 := Lib.hid hs4; have HG4 := Lib.hid ((hst.alloc (.cells [.int .i64 g.next].toArray 3)).of_grown hg4); clear hs4 hg4)
        go_ret
        refine ⟨_, rfl, ?_, HG4.out⟩
        rw [HKO.out, if_pos (by decide)]
        exact ((ints_snoc HS4.out).perm (Pr.left_comm _ _ _)).right
    · have hb3 : (g.kind == 3) = false := beq_eq_false_iff_ne.2 hk3
      rw [hb3] at HKO
      clear hk3
      go_wp2
      go_ret
      refine ⟨_, rfl, ?_, hst⟩
      rw [HKO.out, if_neg (by simp), List.append_nil]
      exact (HS.out.perm (Pr.left_comm _ _ _)).right
end Go.Proofs.YtbobcmimkonnoaaGreat.kidsG
namespace Go.Cop
/-- One fewer, or so many more, leads to a page. -/
def addC (cs : List Int) (n b : Int) : List Int := cs.set (n.toNat - 1) (cntL cs n + b)
theorem addC_len (cs : List Int) (n b : Int) : (addC cs n b).length = cs.length := List.length_set
theorem addC_cnt {cs : List Int} {n b : Int} (hn : 1 ≤ n ∧ n ≤ cs.length) (m : Int) : cntL (addC cs n b) m = if m = n then cntL cs n + b else cntL cs m := by
 unfold cntL
 rw [addC_len]
 by_cases hm : 1 ≤ m ∧ m ≤ cs.length
 · rw [if_pos hm, if_pos hn, if_pos hm]
   unfold addC
   rw [List.getD_eq_getElem?_getD]
   by_cases h : m = n
   · subst h
     rw [if_pos rfl, List.getElem?_set_self (by omega)]
     unfold cntL
     rw [if_pos hn]
     rfl
   · rw [if_neg h, List.getElem?_set_ne (by omega), ← List.getD_eq_getElem?_getD]
 · rw [if_neg hm, if_neg hm]
   by_cases h : m = n
   · subst h; exact absurd hn hm
   · rw [if_neg h]
/-- Pages dropped one behind the other, each with what comes of it; get: what stands on a page. The error, and the counts then. -/
inductive DropR (get : Int → PageV) : List Int → List Int → Int → List Int → Prop where
  | nil (cs : List Int) : DropR get [] cs 0 cs
  | none (n : Int) (t cs : List Int) : cntL cs n = 0 → DropR get (n :: t) cs 15 cs
  | more (n : Int) (t cs : List Int) (e : Int) (c : List Int) : cntL cs n ≠ 0 → cntL (addC cs n (-1)) n ≠ 0 → DropR get t (addC cs n (-1)) e c → DropR get (n :: t) cs e c
  | last (n : Int) (t cs : List Int) (e : Int) (c : List Int) : cntL cs n ≠ 0 → cntL (addC cs n (-1)) n = 0 → DropR get (kidsOf (get n) ++ t) (addC cs n (-1)) e c → DropR get (n :: t) cs e c
theorem DropR.det {get : Int → PageV} {l cs : List Int} {e : Int} {c : List Int} (h : DropR get l cs e c) : ∀ {e2 : Int} {c2 : List Int}, DropR get l cs e2 c2 → e = e2 ∧ c = c2 := by
 induction h with
 | nil cs => intro e2 c2 h2; cases h2; exact ⟨rfl, rfl⟩
 | none n t cs h0 =>
  intro e2 c2 h2
  cases h2 with
  | none => exact ⟨rfl, rfl⟩
  | more _ _ _ _ _ h1 => exact absurd h0 h1
  | last _ _ _ _ _ h1 => exact absurd h0 h1
 | more n t cs e c h1 h2 h3 ih =>
  intro e2 c2 g
  cases g with
  | none _ _ _ g0 => exact absurd g0 h1
  | more _ _ _ _ _ _ _ g3 => exact ih g3
  | last _ _ _ _ _ _ g2 => exact absurd g2 h2
 | last n t cs e c h1 h2 h3 ih =>
  intro e2 c2 g
  cases g with
  | none _ _ _ g0 => exact absurd g0 h1
  | more _ _ _ _ _ _ g2 => exact absurd h2 g2
  | last _ _ _ _ _ _ _ g3 => exact ih g3
theorem DropR.append {get : Int → PageV} {l cs : List Int} {e : Int} {c : List Int} (h : DropR get l cs e c) : ∀ {t : List Int} {e2 : Int} {c2 : List Int}, e = 0 → DropR get t c e2 c2 → DropR get (l ++ t) cs e2 c2 := by
 induction h with
 | nil cs => intro t e2 c2 _ h2; exact h2
 | none n t cs h0 => intro t' e2 c2 h; cases h
 | more n t cs e c h1 h2 h3 ih => intro t' e2 c2 he g; exact .more _ _ _ _ _ h1 h2 (ih he g)
 | last n t cs e c h1 h2 h3 ih =>
  intro t' e2 c2 he g
  have := ih he g
  rw [List.append_assoc] at this
  exact .last _ _ _ _ _ h1 h2 this
theorem DropR.fail {get : Int → PageV} {l cs : List Int} {e : Int} {c : List Int} (h : DropR get l cs e c) : ∀ {t : List Int}, e ≠ 0 → DropR get (l ++ t) cs e c := by
 induction h with
 | nil cs => intro t h; exact absurd rfl h
 | none n t cs h0 => intro t' _; exact .none _ _ _ h0
 | more n t cs e c h1 h2 h3 ih => intro t' he; exact .more _ _ _ _ _ h1 h2 (ih he)
 | last n t cs e c h1 h2 h3 ih =>
  intro t' he
  have := ih (t := t') he
  rw [List.append_assoc] at this
  exact .last _ _ _ _ _ h1 h2 this
/-- How many lead to pages in all. -/
def sumC (cs : List Int) : Nat := (cs.map Int.toNat).sum
theorem sum_set (cs : List Nat) : ∀ (i v : Nat) (hi : i < cs.length), (cs.set i v).sum + cs[i] = cs.sum + v := by
 induction cs with
 | nil => intro i v hi; simp at hi
 | cons x cs ih =>
  intro i v hi
  cases i with
  | zero => simp only [List.set_cons_zero, List.sum_cons, List.getElem_cons_zero]; omega
  | succ i =>
   have := ih i v (by simpa using hi)
   simp only [List.set_cons_succ, List.sum_cons, List.getElem_cons_succ]
   omega
theorem sum_addC {cs : List Int} {n b : Int} (hn : 1 ≤ n ∧ n ≤ cs.length) (h0 : 0 ≤ cntL cs n) (h1 : 0 ≤ cntL cs n + b) : (sumC (addC cs n b) : Int) = sumC cs + b := by
 unfold sumC addC
 rw [List.map_set]
 have hi : n.toNat - 1 < (cs.map Int.toNat).length := by rw [List.length_map]; omega
 have h := sum_set (cs.map Int.toNat) (n.toNat - 1) (cntL cs n + b).toNat hi
 rw [List.getElem_map] at h
 have hc : cs[n.toNat - 1]'(by omega) = cntL cs n := by
  unfold cntL
  rw [if_pos hn, List.getD_eq_getElem?_getD, List.getElem?_eq_getElem (by omega)]
  rfl
 rw [hc] at h
 omega
theorem nodup_len : ∀ (N : Nat) (l : List Int), l.Nodup → (∀ x ∈ l, 1 ≤ x ∧ x ≤ N) → l.length ≤ N
 | 0, l, _, h => by
  cases l with
  | nil => exact Nat.le_refl _
  | cons x l => have := h x (by simp); omega
 | N + 1, l, hn, h => by
  have h1 := nodup_len N (l.erase ((N : Int) + 1)) (hn.erase _) (fun x hx => by
   have h2 := List.Nodup.mem_erase_iff hn |>.1 hx
   have h3 := h x h2.2
   have : x ≠ (N : Int) + 1 := h2.1
   omega)
  have h4 := List.length_erase (a := ((N : Int) + 1)) (l := l)
  split at h4 <;> omega
end Go.Cop
namespace Go.Proofs.YtbobcmimkonnoaaGreat.rinc
open ChangeShapes WideShapes ChangeAt RowKit Sl Cop pool1 pool2 pool5 pool9 clone page vault1 vault2 counts items copyP ref1 ref2 ref3 ref4 rcopy
/-- What inc answers. -/
def incL (refs : Int) (cs : List Int) (n : Int) : Int := if cntL cs n = 0 then 15 else if refs ≤ cntL cs n then 13 else 0
def RPool.counts (s : PoolS) (cs : List Int) : PoolS := { s with counts := cs }
theorem rcount_cnt (s : PoolS) (n : Int) : s.count n = cntL s.counts n := by
 unfold PoolS.count cntL PoolS.there
 rfl
theorem rok_counts {s : PoolS} {gs : List PageV} {x : RX} (ok : ROk s gs x) {cs : List Int} (hl : cs.length = s.counts.length) (h0 : ∀ c ∈ cs, 0 ≤ c) : ROk { s with counts := cs } gs x :=
 ⟨ok.pgs, by show s.last.length = cs.length; rw [hl]; exact ok.ll, by show gs.length = cs.length; rw [hl]; exact ok.gl, by show cs.length ≤ 65536; rw [hl]; exact ok.n2, h0, ok.fit⟩
theorem addC_nn {cs : List Int} {n b : Int} (h0 : ∀ c ∈ cs, 0 ≤ c) (hb : 0 ≤ cntL cs n + b) : ∀ c ∈ addC cs n b, 0 ≤ c := by
 intro c hc
 unfold addC at hc
 rcases List.mem_or_eq_of_mem_set hc with h | h
 · exact h0 c h
 · rw [h]; exact hb
theorem cnt_idx {cs : List Int} {j : Nat} (hj : j < cs.length) : cntL cs ((j : Int) + 1) = cs.getD j 0 := by
 unfold cntL
 rw [if_pos (by omega), show ((j : Int) + 1).toNat - 1 = j by omega]
theorem addC_idx {cs : List Int} {j : Nat} (hj : j < cs.length) (b : Int) : addC cs ((j : Int) + 1) b = cs.set j (cs.getD j 0 + b) := by
 unfold addC
 rw [cnt_idx hj, show ((j : Int) + 1).toNat - 1 = j by omega]
set_option maxRecDepth 100000 in
set_option maxHeartbeats 2000000 in
theorem rinc_any (r : Nat) (s : PoolS) (gs : List PageV) (hush : RTail) (n : Int) (hr : s.counts.all fun c => decide (c ≤ 65536)) (F : Pr) (w : World) (hF : Sat ((RefA r s gs hush).star F) w) :
    Calls Tryz.prog 112 #[.pointer (some ⟨r, 0, none⟩), .int .i64 n] w fun e w' => e = .returned (.int .i64 (incL s.refs s.counts n)) ∧ Stays w w' ∧
      Sat ((RefA r (if incL s.refs s.counts n = 0 then { s with counts := addC s.counts n 1 } else s) gs hush).star F) w' := by
  have IS := Lib.hid (rthere_any r s gs hush n F w hF)
  obtain ⟨x, ok, h⟩ := refA_iff.1 hF
  obtain ⟨ac, cc, al, cl, ap, cp, ⟨q1, q2, q3, q0⟩, z, _, rd⟩ := ref_rd ok h
  have HF := Lib.hid hF
  rw [rcount_cnt] at IS
  unfold incL
  by_cases h0 : cntL s.counts n = 0
  · rw [h0, decide_eq_false (by omega)] at IS
    rw [if_pos h0, if_neg (by decide)]
    clear rd h ok hF
    go_enter Tryz.func112, Tryz.ntmps112
    go_wp2_with fail
    refine IS.out.mono ?_
    rintro e w1 ⟨rfl, rfl⟩
    go_wp2
    go_ret
    exact ⟨rfl, Stays.refl _, HF.out⟩
  · have ht : s.there n := by
      by_cases ht : s.there n
      · exact ht
      · exact absurd (by unfold cntL; exact if_neg ht) h0
    obtain ⟨j, rfl, hj⟩ := there_idx ht
    have hc1 : 0 < cntL s.counts ((j : Int) + 1) := by
      rw [cnt_idx hj] at h0 ⊢
      have := ok.c0 s.counts[j] (List.getElem_mem hj)
      simp [hj] at h0 ⊢
      omega
    have hc2 : cntL s.counts ((j : Int) + 1) ≤ 65536 := by
      rw [cnt_idx hj]
      have := List.all_eq_true.1 hr s.counts[j] (List.getElem_mem hj)
      simp [hj] at this ⊢
      omega
    rw [decide_eq_true hc1] at IS
    obtain ⟨⟨b, rfl, c0⟩, _⟩ := rd j hj
    obtain ⟨b2, cc2, e2, _, f2, wr⟩ := ref_wr_count h hj
    have ebb : b2 = b := by
      have h1 : Sat ((Pr.pts r (refC s.refs x.cv x.lv x.pv hush)).star ((IntsRow x.cv s.counts).star ((BoolsRow x.lv s.last).star ((PgRow x.pv x.xs gs).star ((Pr.own x.h).star F))))) w := h.perm (by unfold RefAt; ac_rfl)
      have h2 : w.cell? ⟨r, 1, none⟩ = some x.cv := by rw [cell_of_heap h1.pts_heap]; rfl
      rw [q1, e2] at h2
      cases h2
      rfl
    subst ebb
    rw [if_neg h0]
    rw [cnt_idx hj] at hc1 hc2 h0 ⊢
    have hn2 := ok.n2
    have HOK := Lib.hid ok
    have HWR := Lib.hid wr
    have HADD := Lib.hid (addC_idx hj 1)
    have HNN := Lib.hid (addC_nn (n := (j : Int) + 1) (b := 1) ok.c0 (by rw [cnt_idx hj]; omega))
    have zc := World.block_lt_of_cell? _ _ c0
    clear rd h ok hF wr ht e2 hr
    generalize s.counts.getD j 0 = c at *
    by_cases hg : s.refs ≤ c
    · rw [if_pos hg, if_neg (by decide)]
      have hd : decide (s.refs ≤ c) = true := decide_eq_true hg
      go_enter Tryz.func112, Tryz.ntmps112
      go_wp2_with fail
      refine IS.out.mono ?_
      rintro e w1 ⟨rfl, rfl⟩
      go_wp2_with fail
      go_quiet (fail)
      go_wp2
      go_ret
      exact ⟨rfl, (Stays.refl _).drewN _, HF.out.drewN _⟩
    · rw [if_neg hg, if_pos rfl]
      have hd : decide (s.refs ≤ c) = false := decide_eq_false hg
      go_enter Tryz.func112, Tryz.ntmps112
      go_wp2_with fail
      refine IS.out.mono ?_
      rintro e w1 ⟨rfl, rfl⟩
      go_wp2_with fail
      go_quiet (fail)
      go_wp2
      go_ret
      refine ⟨rfl, ((Stays.refl _).setCell _ _).drewN _, ?_⟩
      have h9 := HWR.out (c + 1)
      rw [← HADD.out] at h9
      exact (refA_iff.2 ⟨x, rok_counts HOK.out (addC_len _ _ _) HNN.out, h9⟩).drewN _
end Go.Proofs.YtbobcmimkonnoaaGreat.rinc
