/- (*Pool).act and what it undoes by; the conditions stand as hypotheses. -/
import Derived.Test.YtbobcmimkonnoaaPool3
namespace Go.Proofs.Ytbobcmimkonnoaa.pool4
open Go.ChangeShapes Go.WideShapes Go.ChangeAt Go.RowKit Go.Sl Go.Cop Go.Proofs.Ytbobcmimkonnoaa.pool1 Go.Proofs.Ytbobcmimkonnoaa.pool2 Go.Proofs.Ytbobcmimkonnoaa.pool3


/-- An act's closure turns the count back. -/
theorem act1_any (p : Nat) (s : PoolS) (n b : Int) (bp bn bb : Nat) (h0 : Hp) (e0 : h0.cell bp 0 = some (.pointer (some ⟨p, 0, none⟩))) (e1 : h0.cell bn 0 = some (.int .i64 n)) (e2 : h0.cell bb 0 = some (.int .i64 b))
    (F : Pr) (w : World) (hh : h0.le w) (hF : Sat ((PoolA p s).star F) w) (hn : s.there n) (h1 : 0 ≤ s.count n - b) (h2 : s.count n - b ≤ 65536) (hb : -65536 ≤ b ∧ b ≤ 65536) :
    Calls Try.prog 100 #[.pointer (some ⟨bp, 0, none⟩), .pointer (some ⟨bn, 0, none⟩), .pointer (some ⟨bb, 0, none⟩)] w fun e w' =>
      e = .returned (.tuple #[]) ∧ Sat ((PoolA p (s.turn n (-b))).star F) w' ∧ Stays w w' := by
  have r0 := Hp.cell_le hh e0
  have r1 := Hp.cell_le hh e1
  have r2 := Hp.cell_le hh e2
  have C := Lib.hid (turn_any p s n (-b) F w hF hn (by omega) (by omega))
  clear hF
  go_enter Try.func100, Try.ntmps100
  go_wp2_with fail
  refine C.out.mono ?_
  rintro e w' ⟨rfl, hs, hst⟩
  go_wp2
  first | refine bodyPost_ret (results_none rfl _ _ _) rfl ?_ | go_end0
  exact ⟨rfl, hs, hst⟩

theorem _root_.Go.Cop.PoolS.act_ok {s : PoolS} (h : PoolOk s) (hm : s.floor + s.acts.length < 1099511627776) (x : Int × Int) : PoolOk { s with acts := s.acts ++ [x] } :=
  ⟨h.n1, h.n2, h.len, h.r1, h.r2, h.cs, h.fl, by simp; omega⟩

/-- What undoes the new act lies in the arena too. -/
theorem acts_end {p : Nat} {s : PoolS} {n b : Int} {cv lv : Value} {fb : Nat} {av av' : Value} {fs : List Value} {ha : Hp} {B : Nat} {F : Pr} {w : World} (ok : PoolOk (s.turn n b)) (hm : s.floor + s.acts.length < 1099511627776) (hai : ActsIn ha p s.acts fs)
    (h : Sat (((Pr.own ha).star ((Pr.pts B (.cells #[.pointer (some ⟨p, 0, none⟩)] 39)).star ((Pr.pts (B + 1) (.cells #[.int .i64 n] 3)).star (Pr.pts (B + 1 + 1) (.cells #[.int .i64 b] 3))))).star
      ((Pr.pts p (.cells ((poolCells (s.turn n b) cv lv fb av).setIfInBounds 9 av') 74)).star
      ((Row 132 1 av' (s.acts.length + 1) (fs ++ [Value.func (.func 100) #[] #[.pointer (some ⟨B, 0, none⟩), .pointer (some ⟨B + 1, 0, none⟩), .pointer (some ⟨B + 1 + 1, 0, none⟩)]])).star
      ((IntsRow cv (s.turn n b).counts).star ((BoolsRow lv (s.turn n b).last).star ((SetOf fb fun m => (s.turn n b).state m = 1).star F)))))) w) :
    Sat ((PoolA p { s.turn n b with acts := s.acts ++ [(n, b)] }).star F) w := by
  obtain ⟨h0, hA, hS⟩ := Sat.toOwn h
  obtain ⟨x1, y1, p1, q1, s1, t1⟩ := star_sub hA
  obtain ⟨x2, y2, p2, q2, s2, t2⟩ := star_sub q1
  obtain ⟨x3, y3, p3, q3, s3, t3⟩ := star_sub q2
  cases p1; cases p2; cases p3; cases q3
  have e0 : h0.cell B 0 = some (.pointer (some ⟨p, 0, none⟩)) := Hp.cell_sub (s2.trans t1) (by simp [Hp.cell])
  have e1 : h0.cell (B + 1) 0 = some (.int .i64 n) := Hp.cell_sub (s3.trans (t2.trans t1)) (by simp [Hp.cell])
  have e2 : h0.cell (B + 1 + 1) 0 = some (.int .i64 b) := Hp.cell_sub (t3.trans (t2.trans t1)) (by simp [Hp.cell])
  refine poolA_iff.2 ⟨PoolS.act_ok (s := s.turn n b) ok hm (n, b), cv, lv, fb, av', ?_⟩
  have hai2 : ActsIn h0 p (s.acts ++ [(n, b)]) (fs ++ [Value.func (.func 100) #[] #[.pointer (some ⟨B, 0, none⟩), .pointer (some ⟨B + 1, 0, none⟩), .pointer (some ⟨B + 1 + 1, 0, none⟩)]]) := by
    obtain ⟨l1, l2⟩ := hai
    refine ⟨by simp [l1], fun i hi hf => ?_⟩
    by_cases hlt : i < s.acts.length
    · rw [List.getElem_append_left hlt, List.getElem_append_left (by omega)]
      exact (l2 i hlt (by omega)).sub s1
    · have he : i = s.acts.length := by simp at hi; omega
      subst he
      rw [List.getElem_append_right (by omega), List.getElem_append_right (by omega)]
      simp only [l1, Nat.sub_self, List.getElem_cons_zero]
      exact ⟨_, _, _, rfl, e0, e1, e2⟩
  have e : (s.acts ++ [(n, b)]).length = s.acts.length + 1 := by simp
  have hact : Sat ((ActsA p av' (s.acts ++ [(n, b)])).star ((Pr.pts p (.cells ((poolCells (s.turn n b) cv lv fb av).setIfInBounds 9 av') 74)).star ((IntsRow cv (s.turn n b).counts).star ((BoolsRow lv (s.turn n b).last).star ((SetOf fb fun m => (s.turn n b).state m = 1).star F))))) w := by
    unfold ActsA
    refine Sat.ex.2 ⟨(fs ++ [Value.func (.func 100) #[] #[.pointer (some ⟨B, 0, none⟩), .pointer (some ⟨B + 1, 0, none⟩), .pointer (some ⟨B + 1 + 1, 0, none⟩)]], h0), ?_⟩
    rw [Pr.star_assoc]
    refine Sat.pure.2 ⟨hai2, ?_⟩
    dsimp only
    rw [e]
    exact hS.perm (by ac_rfl)
  unfold PoolAt
  exact hact.perm (show _ = ((Pr.pts p (.cells ((poolCells (s.turn n b) cv lv fb av).setIfInBounds 9 av') 74)).star ((IntsRow cv (s.turn n b).counts).star ((BoolsRow lv (s.turn n b).last).star ((SetOf fb fun m => (s.turn n b).state m = 1).star (ActsA p av' (s.acts ++ [(n, b)])))))).star F from by ac_rfl)

theorem infoAct : (Try.prog.info? 132).map (fun i => (i.zero, i.size, i.bytes)) = some (some (.agg #[.nilFunc]), 1, 8) := by kernel_rfl

set_option maxHeartbeats 1000000 in
theorem act_any (p : Nat) (s : PoolS) (n b : Int) (F : Pr) (w : World) (hF : Sat ((PoolA p s).star F) w) (hn : s.there n) (h0 : 0 ≤ s.count n + b) (h1 : s.count n + b ≤ 65536) (hm : s.floor + s.acts.length < 1099511627776) :
    Calls Try.prog 80 #[.pointer (some ⟨p, 0, none⟩), .int .i64 n, .int .i64 b] w fun e w' =>
      e = .returned (.tuple #[]) ∧ Sat ((PoolA p { s.turn n b with acts := s.acts ++ [(n, b)] }).star F) w' ∧ Stays w w' := by
  have hB := ((hF.alloc (.cells #[.pointer (some ⟨p, 0, none⟩)] 39)).alloc (.cells #[.int .i64 n] 3)).alloc (.cells #[.int .i64 b] 3)
  rw [World.size_alloc, World.size_alloc] at hB
  have hB1 : Sat ((PoolA p s).star ((Pr.pts w.heap.size (.cells #[.pointer (some ⟨p, 0, none⟩)] 39)).star ((Pr.pts (w.heap.size + 1) (.cells #[.int .i64 n] 3)).star ((Pr.pts (w.heap.size + 1 + 1) (.cells #[.int .i64 b] 3)).star F)))) _ := hB.perm (by ac_rfl)
  have C := Lib.hid (turn_any p s n b _ _ hB1 hn h0 h1)
  clear hB hB1 hF
  go_enter Try.func80, Try.ntmps80
  go_wp2_with fail
  refine C.out.mono ?_
  rintro e w' ⟨rfl, hs, hst⟩
  have HST := Lib.hid ((((Stays.refl w).alloc _).alloc _).alloc _ |>.trans hst)
  clear C hst
  generalize w.heap.size = B at *
  obtain ⟨ok, cv, lv, fb, av, hA⟩ := poolA_iff.1 hs
  have hA1 : Sat ((ActsA p av s.acts).star ((Pr.pts p (.cells (poolCells (s.turn n b) cv lv fb av) 74)).star ((Pr.pts B (.cells #[.pointer (some ⟨p, 0, none⟩)] 39)).star ((Pr.pts (B + 1) (.cells #[.int .i64 n] 3)).star ((Pr.pts (B + 1 + 1) (.cells #[.int .i64 b] 3)).star
      ((IntsRow cv (s.turn n b).counts).star ((BoolsRow lv (s.turn n b).last).star ((SetOf fb fun m => (s.turn n b).state m = 1).star F)))))))) w' := hA.perm (show ((Pr.pts p _).star ((IntsRow cv (s.turn n b).counts).star ((BoolsRow lv (s.turn n b).last).star ((SetOf fb fun m => (s.turn n b).state m = 1).star (ActsA p av s.acts))))).star _ = _ from by ac_rfl)
  generalize hR : ((IntsRow cv (s.turn n b).counts).star ((BoolsRow lv (s.turn n b).last).star ((SetOf fb fun m => (s.turn n b).state m = 1).star F))) = RST at hA1
  have HR := Lib.hid hR
  clear hR hA hs
  unfold ActsA at hA1
  obtain ⟨⟨fs, ha⟩, h2⟩ := Sat.ex.1 hA1
  rw [Pr.star_assoc] at h2
  obtain ⟨hai, h3⟩ := Sat.pure.1 h2
  dsimp only at hai h3
  have h4 : Sat ((Row 132 1 av s.acts.length fs).star ((Pr.pts p (.cells (poolCells (s.turn n b) cv lv fb av) 74)).star ((Pr.pts B (.cells #[.pointer (some ⟨p, 0, none⟩)] 39)).star ((Pr.pts (B + 1) (.cells #[.int .i64 n] 3)).star ((Pr.pts (B + 1 + 1) (.cells #[.int .i64 b] 3)).star ((Pr.own ha).star RST)))))) w' := h3.perm (by ac_rfl)
  clear h2 h3 hA1
  obtain ⟨aa, ca, hav, _, _⟩ := Row.read h4
  subst hav
  have hp := h4.right
  have hb0 := h4.right.right
  have hb1 := h4.right.right.right
  have hb2 := h4.right.right.right.right
  have r0 : w'.cell? ⟨B, 0, none⟩ = some (.pointer (some ⟨p, 0, none⟩)) := by rw [cell_of_heap hb0.pts_heap]; rfl
  have r9 : w'.cell? ⟨p, 9, none⟩ = some (.slice aa s.acts.length ca) := by rw [cell_of_heap hp.pts_heap]; rfl
  have z0 := hb0.lt
  have zp := hp.lt
  have hfl0 : 0 ≤ s.floor := ok.fl
  have HAI := Lib.hid hai
  have hnew : Hid (∀ j u, [Value.func (.func 100) #[] #[.pointer (some ⟨B, 0, none⟩), .pointer (some ⟨B + 1, 0, none⟩), .pointer (some ⟨B + 1 + 1, 0, none⟩)]][j]? = some u →
      (w'.alloc (.cells #[Value.func (.func 100) #[] #[.pointer (some ⟨B, 0, none⟩), .pointer (some ⟨B + 1, 0, none⟩), .pointer (some ⟨B + 1 + 1, 0, none⟩)]] 132)).cell? ((⟨w'.heap.size, 0, none⟩ : Addr).add j) = some u) := Lib.hid (by
    intro j u hj
    cases j with
    | zero => rw [add_cell, cell_of_heap (heap_new _ _)]; simpa using hj
    | succ j => simp at hj)
  have H5 := Lib.hid (h4.alloc (.cells #[Value.func (.func 100) #[] #[.pointer (some ⟨B, 0, none⟩), .pointer (some ⟨B + 1, 0, none⟩), .pointer (some ⟨B + 1 + 1, 0, none⟩)]] 132)).right
  clear hp hb0 hb1 hb2 h4 hai
  have hsl : s.acts.length ≤ 1099511627776 := by omega
  go_wp2
  refine wp_region_staged (sz := 21) (by kernel_rfl) [0, 1, 2, 3, 4, 5, 6] [(7, [], [0, 1, 2, 3, 4, 5]), (8, [9, 10], [0, 1, 2, 3, 5]), (11, [], [9])] rfl (by kernel_rfl) (by kernel_rfl) (by kernel_rfl) ?_
  iterate 7 (refine wpQ_step rfl rfl (fun K hK => ?_); go_simp; refine hK _ ?_; clear hK K)
  refine wpQ_nil ?_
  refine wpRest_act rfl ?_
  go_wp2
  refine onN_mk (wpQ_nil ⟨?_, ?_⟩)
  · refine chk_cons ?_ (chk_cons ?_ (chk_cons ?_ (chk_cons ?_ (chk_cons ?_ (chk_cons ?_ chk_nil))))) <;> (refine yieldF_of rfl rfl rfl rfl ?_; go_simp; try omega)
  refine wpRest_act rfl ?_
  obtain ⟨i0, hi, hz0, hz1, hz2⟩ := info_parts infoAct
  refine wpList_append_sl rfl _ _ _ rfl 132 i0 (.agg #[.nilFunc]) 1 8 Try.underlying72 hi hz0 hz1 hz2 rfl _ _ _ rfl H5.out ⟨w'.heap.size, 0, none⟩ 1 1 _ rfl rfl hnew.out (by simp [Value.oneCell']) (by simp only [maxLen]; omega) (by omega) ?_
  intro v' w1 hsat hgr _
  obtain ⟨a2, c2, hv2, _, _⟩ := Row.read hsat
  subst hv2
  have hp := hsat.right
  have q0 : w1.cell? ⟨B, 0, none⟩ = some (.pointer (some ⟨p, 0, none⟩)) := by rw [cell_of_heap hp.right.pts_heap]; rfl
  have q9 := frozen_of_heap hp.pts_heap 9
  have q9c : w1.cell? ⟨p, 9, none⟩ = some (.slice aa s.acts.length ca) := by rw [cell_of_heap hp.pts_heap]; rfl
  have y0 := hp.right.lt
  have yp := hp.lt
  have HSAT := Lib.hid hsat
  clear hsat hp r0 r9 z0 zp
  go_wp2
  refine onN_mk ?_
  iterate 2 (refine wpQ_step rfl rfl (fun K hK => ?_); go_simp; refine hK _ ?_; clear hK K)
  refine wpQ_nil ⟨?_, ?_⟩
  · refine chk_cons ?_ (chk_cons ?_ (chk_cons ?_ (chk_cons ?_ (chk_cons ?_ chk_nil)))) <;> (refine yieldF_of rfl rfl rfl rfl ?_; go_simp; try omega)
  refine wpRest_act rfl ?_
  go_wp2
  refine onN_mk (wpQ_nil ⟨?_, wpRest_nil ?_⟩)
  · refine chk_cons ?_ chk_nil <;> (refine yieldF_of rfl rfl rfl rfl ?_; go_simp; try omega)
  go_wp2
  first | refine bodyPost_ret (results_none rfl _ _ _) rfl ?_ | go_end0
  refine ⟨rfl, acts_end (B := B) (cv := cv) (lv := lv) (fb := fb) (av := .slice aa s.acts.length ca) (av' := .slice a2 (s.acts.length + 1) c2) ok hm HAI.out ?_, ?_⟩
  · have h6 := (HSAT.out.perm (Pr.left_comm _ _ _)).setCell (i := 9) (.slice a2 (s.acts.length + 1) c2)
    have h7 := HR.out
    subst h7
    exact h6.perm (by ac_rfl)
  · exact ((HST.out.alloc _).drew.of_grown hgr).setCell _ _
end Go.Proofs.Ytbobcmimkonnoaa.pool4
