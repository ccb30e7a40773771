/- The document's Settle, Tally, lowest; the conditions stand as hypotheses. -/
import Derived.Test.YtbobcmimkonnoaaGreatBlobAnswersM27
import Derived.Test.YtbobcmimkonnoaaGreatBlobAnswersM28
import Derived.Test.YtbobcmimkonnoaaGreatBlobAnswersM22
import Derived.Test.YtbobcmimkonnoaaGreatBlobAnswersM01
namespace Go.Proofs.YtbobcmimkonnoaaGreat.rsettle
open ChangeShapes WideShapes ChangeAt RowKit Sl Cop pool1 pool2 pool5 pool8 pool9 clone page vault1 vault2 counts items copyP ref1 ref2 ref3 ref4 rload rcopy rinc rdrop
/-- All that is known of the document's vault at one page. -/
theorem ref_all {r : Nat} {s : PoolS} {gs : List PageV} {hush : RTail} {x : RX} {F : Pr} {w : World} (ok : ROk s gs x) (h : Sat ((RefAt r s gs hush x).star F) w) {j : Nat} (hj : j < s.counts.length) :
 ∃ b c b2 c2 b3 c3, (x.cv = .slice (some ⟨b, 0, none⟩) s.counts.length c ∧ x.lv = .slice (some ⟨b2, 0, none⟩) s.counts.length c2 ∧ x.pv = .slice (some ⟨b3, 0, none⟩) s.counts.length c3) ∧
  (w.cell? ⟨r, 1, none⟩ = some (.slice (some ⟨b, 0, none⟩) s.counts.length c) ∧ w.cell? ⟨r, 2, none⟩ = some (.slice (some ⟨b2, 0, none⟩) s.counts.length c2) ∧ w.cell? ⟨r, 3, none⟩ = some (.slice (some ⟨b3, 0, none⟩) s.counts.length c3)) ∧
  (w.cell? ⟨b, j, none⟩ = some (.int .i64 (s.counts.getD j 0)) ∧ w.frozen? ⟨b, j, none⟩ = false) ∧ (w.cell? ⟨b2, j, none⟩ = some (.bool (s.last.getD j false)) ∧ w.frozen? ⟨b2, j, none⟩ = false) ∧
  (∀ i, i < 5 → w.frozen? ⟨b3, j * 5 + i, none⟩ = false ∧ ∃ v, w.cell? ⟨b3, j * 5 + i, none⟩ = some v) ∧
  (r ≠ b ∧ r ≠ b2 ∧ r ≠ b3 ∧ b ≠ b2 ∧ b ≠ b3 ∧ b2 ≠ b3) ∧ (r < w.heap.size ∧ b < w.heap.size ∧ b2 < w.heap.size ∧ b3 < w.heap.size) := by
 obtain ⟨b, c, e1, k1, f1, _⟩ := ref_wr_count h hj
 obtain ⟨b2, c2, e2, k2, f2, _⟩ := ref_wr_last h (j := j) (by rw [ok.ll]; exact hj)
 obtain ⟨b3, c3, e3, hcl, _⟩ := ref_wr_page ok.pgs.len h (j := j) (by rw [ok.gl]; exact hj)
 rw [ok.ll] at e2
 rw [ok.gl] at e3
 have h1 : Sat ((Pr.pts r (refC s.refs x.cv x.lv x.pv hush)).star ((IntsRow x.cv s.counts).star ((BoolsRow x.lv s.last).star ((PgRow x.pv x.xs gs).star ((Pr.own x.h).star F))))) w := h.perm (by unfold RefAt; ac_rfl)
 have g1 : Sat ((Row 3 1 x.cv s.counts.length (s.counts.map (Value.int .i64))).star ((Pr.pts r (refC s.refs x.cv x.lv x.pv hush)).star ((Row 4 1 x.lv s.last.length (s.last.map Value.bool)).star ((Row 31 5 x.pv gs.length ((x.xs.zip gs).flatMap pgCells)).star ((Pr.own x.h).star F))))) w := h1.perm (by unfold IntsRow BoolsRow PgRow; ac_rfl)
 have q1 : w.cell? ⟨r, 1, none⟩ = some x.cv := by rw [cell_of_heap h1.pts_heap]; rfl
 have q2 : w.cell? ⟨r, 2, none⟩ = some x.lv := by rw [cell_of_heap h1.pts_heap]; rfl
 have q3 : w.cell? ⟨r, 3, none⟩ = some x.pv := by rw [cell_of_heap h1.pts_heap]; rfl
 have ll := ok.ll
 have gl := ok.gl
 obtain ⟨v0, kk⟩ := (hcl 0 (by omega)).2
 have z3 := World.block_lt_of_cell? _ _ kk
 have z1 := World.block_lt_of_cell? _ _ k1
 have z2 := World.block_lt_of_cell? _ _ k2
 rw [ll, gl] at g1
 rw [e1] at q1 g1
 rw [e2] at q2 g1
 rw [e3] at q3 g1
 refine ⟨b, c, b2, c2, b3, c3, ⟨e1, e2, e3⟩, ⟨q1, q2, q3⟩, ⟨k1, f1⟩, ⟨k2, f2⟩, hcl, ⟨pts_row_ne g1, ?_, ?_, ?_, ?_, ?_⟩, h1.lt, z1, z2, z3⟩
 · exact pts_row_ne (k := 1) (T := 4) (g1.perm (B := (Row 4 1 (.slice (some ⟨b2, 0, none⟩) s.counts.length c2) s.counts.length (s.last.map Value.bool)).star ((Pr.pts r (refC s.refs (.slice (some ⟨b, 0, none⟩) s.counts.length c) (.slice (some ⟨b2, 0, none⟩) s.counts.length c2) (.slice (some ⟨b3, 0, none⟩) s.counts.length c3) hush)).star ((Row 3 1 (.slice (some ⟨b, 0, none⟩) s.counts.length c) s.counts.length (s.counts.map (Value.int .i64))).star ((Row 31 5 (.slice (some ⟨b3, 0, none⟩) s.counts.length c3) s.counts.length ((x.xs.zip gs).flatMap pgCells)).star ((Pr.own x.h).star F))))) (by ac_rfl))
 · exact pts_row_ne (k := 5) (T := 31) (g1.perm (B := (Row 31 5 (.slice (some ⟨b3, 0, none⟩) s.counts.length c3) s.counts.length ((x.xs.zip gs).flatMap pgCells)).star ((Pr.pts r (refC s.refs (.slice (some ⟨b, 0, none⟩) s.counts.length c) (.slice (some ⟨b2, 0, none⟩) s.counts.length c2) (.slice (some ⟨b3, 0, none⟩) s.counts.length c3) hush)).star ((Row 3 1 (.slice (some ⟨b, 0, none⟩) s.counts.length c) s.counts.length (s.counts.map (Value.int .i64))).star ((Row 4 1 (.slice (some ⟨b2, 0, none⟩) s.counts.length c2) s.counts.length (s.last.map Value.bool)).star ((Pr.own x.h).star F))))) (by ac_rfl))
 · exact row_row_ne (T := 3) (T2 := 4) (k := 1) (k2 := 1) (g1.perm (B := (Row 3 1 (.slice (some ⟨b, 0, none⟩) s.counts.length c) s.counts.length (s.counts.map (Value.int .i64))).star ((Row 4 1 (.slice (some ⟨b2, 0, none⟩) s.counts.length c2) s.counts.length (s.last.map Value.bool)).star ((Pr.pts r (refC s.refs (.slice (some ⟨b, 0, none⟩) s.counts.length c) (.slice (some ⟨b2, 0, none⟩) s.counts.length c2) (.slice (some ⟨b3, 0, none⟩) s.counts.length c3) hush)).star ((Row 31 5 (.slice (some ⟨b3, 0, none⟩) s.counts.length c3) s.counts.length ((x.xs.zip gs).flatMap pgCells)).star ((Pr.own x.h).star F))))) (by ac_rfl))
 · exact row_row_ne (T := 3) (T2 := 31) (k := 1) (k2 := 5) (g1.perm (B := (Row 3 1 (.slice (some ⟨b, 0, none⟩) s.counts.length c) s.counts.length (s.counts.map (Value.int .i64))).star ((Row 31 5 (.slice (some ⟨b3, 0, none⟩) s.counts.length c3) s.counts.length ((x.xs.zip gs).flatMap pgCells)).star ((Pr.pts r (refC s.refs (.slice (some ⟨b, 0, none⟩) s.counts.length c) (.slice (some ⟨b2, 0, none⟩) s.counts.length c2) (.slice (some ⟨b3, 0, none⟩) s.counts.length c3) hush)).star ((Row 4 1 (.slice (some ⟨b2, 0, none⟩) s.counts.length c2) s.counts.length (s.last.map Value.bool)).star ((Pr.own x.h).star F))))) (by ac_rfl))
 · exact row_row_ne (T := 4) (T2 := 31) (k := 1) (k2 := 5) (g1.perm (B := (Row 4 1 (.slice (some ⟨b2, 0, none⟩) s.counts.length c2) s.counts.length (s.last.map Value.bool)).star ((Row 31 5 (.slice (some ⟨b3, 0, none⟩) s.counts.length c3) s.counts.length ((x.xs.zip gs).flatMap pgCells)).star ((Pr.pts r (refC s.refs (.slice (some ⟨b, 0, none⟩) s.counts.length c) (.slice (some ⟨b2, 0, none⟩) s.counts.length c2) (.slice (some ⟨b3, 0, none⟩) s.counts.length c3) hush)).star ((Row 3 1 (.slice (some ⟨b, 0, none⟩) s.counts.length c) s.counts.length (s.counts.map (Value.int .i64))).star ((Pr.own x.h).star F))))) (by ac_rfl))
/-- How many of the first m pages are in a state. -/
def tallyTo (s : PoolS) (k : Int) (m : Nat) : Nat := ((List.range m).filter fun i : Nat => s.state ((i : Int) + 1) == k).length
theorem tallyTo_le (s : PoolS) (k : Int) (m : Nat) : tallyTo s k m ≤ m := by
 unfold tallyTo
 exact Nat.le_trans (List.length_filter_le _ _) (by rw [List.length_range]; exact Nat.le_refl _)
theorem tallyTo_yes {s : PoolS} {k : Int} {m : Nat} (h : s.state ((m : Int) + 1) = k) : tallyTo s k (m + 1) = tallyTo s k m + 1 := by
 unfold tallyTo
 rw [List.range_succ, List.filter_append, List.length_append]
 simp [h]
theorem tallyTo_no {s : PoolS} {k : Int} {m : Nat} (h : s.state ((m : Int) + 1) ≠ k) : tallyTo s k (m + 1) = tallyTo s k m := by
 unfold tallyTo
 rw [List.range_succ, List.filter_append, List.length_append]
 simp [h]
set_option maxRecDepth 100000 in
set_option maxHeartbeats 2000000 in
theorem rtally_any (r : Nat) (s : PoolS) (gs : List PageV) (hush : RTail) (k : Int) (F : Pr) (w : World) (hF : Sat ((RefA r s gs hush).star F) w) :
 Calls Tryz.prog 50 #[.pointer (some ⟨r, 0, none⟩), .int .i64 k] w fun e w' => e = .returned (.int .i64 (tallyTo s k s.counts.length : Nat)) ∧ w = w' := by
 obtain ⟨x, ok, h⟩ := refA_iff.1 hF
 have ST := fun n : Int => Lib.hid (rstate_any r s gs hush n F w hF)
 have q1 : ∃ a c, w.cell? ⟨r, 1, none⟩ = some (.slice a s.counts.length c) := by
  obtain ⟨ac, cc, al, cl, ap, cp, ⟨q1, _⟩, _⟩ := ref_rd ok h
  exact ⟨_, _, q1⟩
 obtain ⟨a1, d1, q1⟩ := q1
 have hn2 := ok.n2
 have hn3 : (s.counts.length : Int) ≤ 65536 := by omega
 clear h ok hF
 go_enter Tryz.func50, Tryz.ntmps50
 go_wp2
 go_loopw [5, 6] (fun t i wr => ∃ m : Nat, m ≤ s.counts.length ∧ t = .int .i64 (tallyTo s k m : Nat) ∧ i = .int .i64 ((m : Int) + 1) ∧ wr = w) (fun _ i _ => s.counts.length + 1 - (intOf i).toNat)
 case atStart => exact ⟨0, Nat.zero_le _, rfl, rfl, rfl⟩
 case round =>
  obtain ⟨m, hm, rfl, rfl, rfl⟩ := hrel
  have htm := tallyTo_le s k m
  have HYES := Lib.hid (fun h => tallyTo_yes (s := s) (k := k) (m := m) h)
  have HNO := Lib.hid (fun h => tallyTo_no (s := s) (k := k) (m := m) h)
  rcases Nat.lt_or_ge m s.counts.length with hlt | hge
  · have ST1 := ST ((m : Int) + 1)
    clear ST
    by_cases hk : s.state ((m : Int) + 1) = k
    · have hb : (s.state ((m : Int) + 1) == k) = true := beq_iff_eq.2 hk
      have HK := Lib.hid hk
      clear hk
      generalize s.state ((m : Int) + 1) = sm at *
      generalize htt : tallyTo s k m = tm at *
      have HTT := Lib.hid htt
      clear htt
      go_wp2_with fail
      refine ST1.out.mono ?_
      rintro e w1 ⟨rfl, rfl⟩
      go_wp2
      go_roundw
      case rel => exact ⟨m + 1, by omega, congrArg (Value.int .i64) (by rw [HYES.out HK.out]; omega), congrArg (Value.int .i64) (by omega), trivial⟩
      case measure => simp [intOf]; omega
    · have hb : (s.state ((m : Int) + 1) == k) = false := beq_eq_false_iff_ne.2 hk
      have HK := Lib.hid hk
      clear hk
      generalize s.state ((m : Int) + 1) = sm at *
      generalize htt : tallyTo s k m = tm at *
      have HTT := Lib.hid htt
      clear htt
      go_wp2_with fail
      refine ST1.out.mono ?_
      rintro e w1 ⟨rfl, rfl⟩
      go_wp2
      go_roundw
      case rel => exact ⟨m + 1, by omega, congrArg (Value.int .i64) (by rw [HNO.out HK.out]), congrArg (Value.int .i64) (by omega), trivial⟩
      case measure => simp [intOf]; omega
  · have hme : m = s.counts.length := by omega
    subst hme
    clear ST HYES HNO
    go_wp2
    go_ret
    exact ⟨rfl, rfl⟩
set_option maxRecDepth 100000 in
set_option maxHeartbeats 2000000 in
/-- The lowest free page, or 0. -/
theorem rlowest_any (r : Nat) (s : PoolS) (gs : List PageV) (hush : RTail) (F : Pr) (w : World) (hF : Sat ((RefA r s gs hush).star F) w) :
 Calls Tryz.prog 104 #[.pointer (some ⟨r, 0, none⟩)] w fun e w' => w = w' ∧ ∃ m : Int, e = .returned (.int .i64 m) ∧
  ((m = 0 ∧ ∀ n, s.state n ≠ 1) ∨ (s.state m = 1 ∧ ∀ n, s.state n = 1 → m ≤ n)) := by
 obtain ⟨x, ok, h⟩ := refA_iff.1 hF
 have q1 : ∃ a c, w.cell? ⟨r, 1, none⟩ = some (.slice a s.counts.length c) := by
  obtain ⟨ac, cc, al, cl, ap, cp, ⟨q1, _⟩, _⟩ := ref_rd ok h
  exact ⟨_, _, q1⟩
 obtain ⟨a1, d1, q1⟩ := q1
 have hn2 := ok.n2
 have hn3 : (s.counts.length : Int) ≤ 65536 := by omega
 have HX := Lib.hid (And.intro ok h)
 clear h ok hF
 go_enter Tryz.func104, Tryz.ntmps104
 go_wp2
 go_loopw [3] (fun i wr => ∃ m : Nat, m ≤ s.counts.length ∧ i = .int .i64 ((m : Int) + 1) ∧ wr = w ∧ Hid (∀ n, s.state n = 1 → (m : Int) + 1 ≤ n)) (fun i _ => s.counts.length + 1 - (intOf i).toNat)
 case atStart => exact ⟨0, Nat.zero_le _, rfl, rfl, Lib.hid (fun n hn => by have := there_of_state (by omega : s.state n ≠ 0); have := this.1; omega)⟩
 case round =>
  obtain ⟨m, hm, rfl, rfl, hlow⟩ := hrel
  rcases Nat.lt_or_ge m s.counts.length with hlt | hge
  · obtain ⟨ok, h⟩ := HX.out
    obtain ⟨b, c, b2, c2, b3, c3, _, ⟨w1, w2, _⟩, ⟨k1, _⟩, ⟨k2, _⟩, _⟩ := ref_all ok h hlt
    rw [q1] at w1
    cases w1
    have hst : s.state ((m : Int) + 1) = stateOf (s.counts.getD m 0) (s.last.getD m false) := by
     have ht : s.there ((m : Int) + 1) := ⟨by omega, by omega⟩
     rw [state_there ht, count_idx hlt, lasts_idx]
    have hc0 : 0 ≤ s.counts.getD m 0 := by
     have := ok.c0 s.counts[m] (List.getElem_mem hlt)
     simpa [hlt] using this
    have HST := Lib.hid hst
    clear ok h hst
    generalize s.counts.getD m 0 = cv at *
    generalize s.last.getD m false = lv at *
    by_cases hcz : cv = 0
    · have hb : (cv == 0) = true := beq_iff_eq.2 hcz
      cases lv with
      | false =>
       have hs1 : s.state ((m : Int) + 1) = 1 := by rw [HST.out, hcz]; rfl
       have HS1 := Lib.hid hs1
       clear hcz hs1 HST
       go_wp2
       go_ret
       exact ⟨rfl, (m : Int) + 1, rfl, .inr ⟨HS1.out, hlow.out⟩⟩
      | true =>
       have hs1 : s.state ((m : Int) + 1) ≠ 1 := by rw [HST.out, hcz]; decide
       have HS1 := Lib.hid hs1
       clear hcz hs1 HST
       go_wp2
       go_roundw
       case rel =>
        refine ⟨m + 1, by omega, congrArg (Value.int .i64) (by omega), trivial, Lib.hid (fun n hn => ?_)⟩
        have h1 := hlow.out n hn
        have h2 : n ≠ (m : Int) + 1 := fun e => HS1.out (e ▸ hn)
        omega
       case measure => simp [intOf]; omega
    · have hb : (cv == 0) = false := beq_eq_false_iff_ne.2 hcz
      have hs1 : s.state ((m : Int) + 1) ≠ 1 := by
       rw [HST.out]
       unfold stateOf
       rw [if_pos (by omega)]
       split <;> omega
      have HS1 := Lib.hid hs1
      clear hcz hs1 HST
      go_wp2
      go_roundw
      case rel =>
       refine ⟨m + 1, by omega, congrArg (Value.int .i64) (by omega), trivial, Lib.hid (fun n hn => ?_)⟩
       have h1 := hlow.out n hn
       have h2 : n ≠ (m : Int) + 1 := fun e => HS1.out (e ▸ hn)
       omega
      case measure => simp [intOf]; omega
  · have hme : m = s.counts.length := by omega
    subst hme
    clear HX
    go_wp2
    go_ret
    refine ⟨rfl, 0, rfl, .inl ⟨rfl, fun n hn => ?_⟩⟩
    have h1 := hlow.out n hn
    have h2 := (there_of_state (by omega : s.state n ≠ 0)).2
    omega
/-- Settled so far. -/
def lastK (s : PoolS) : Nat → List Bool
 | 0 => s.last
 | k + 1 => (lastK s k).set k (decide (0 < s.counts.getD k 0))
def gsK (s : PoolS) (gs : List PageV) : Nat → List PageV
 | 0 => gs
 | k + 1 => if s.counts.getD k 0 = 0 then (gsK s gs k).set k zeroP else gsK s gs k
theorem lastK_len (s : PoolS) (k : Nat) : (lastK s k).length = s.last.length := by
 induction k with
 | zero => rfl
 | succ k ih => show ((lastK s k).set k _).length = _; rw [List.length_set, ih]
theorem gsK_len (s : PoolS) (gs : List PageV) (k : Nat) : (gsK s gs k).length = gs.length := by
 induction k with
 | zero => rfl
 | succ k ih => unfold gsK; split; rw [List.length_set, ih]; exact ih
theorem lastK_at (s : PoolS) (k j : Nat) (hj : j < s.last.length) : (lastK s k)[j]? = if j < k then some (decide (0 < s.counts.getD j 0)) else s.last[j]? := by
 induction k with
 | zero => rfl
 | succ k ih =>
  show ((lastK s k).set k _)[j]? = _
  by_cases h : j = k
  · subst h
    rw [List.getElem?_set_self (by rw [lastK_len]; exact hj), if_pos (by omega)]
  · rw [List.getElem?_set_ne (fun e => h e.symm), ih]
    by_cases h2 : j < k
    · rw [if_pos h2, if_pos (by omega)]
    · rw [if_neg h2, if_neg (by omega)]
theorem lastK_end {s : PoolS} (hl : s.last.length = s.counts.length) : lastK s s.counts.length = lastsOf s.counts := by
 apply List.ext_getElem?
 intro j
 rcases Nat.lt_or_ge j s.counts.length with h | h
 · rw [lastK_at s _ j (by omega), if_pos h]
   unfold lastsOf
   rw [List.getElem?_map, List.getElem?_eq_getElem h]
   simp [h]
 · rw [List.getElem?_eq_none (by rw [lastK_len]; omega), List.getElem?_eq_none (by unfold lastsOf; rw [List.length_map]; omega)]
theorem gsK_at (s : PoolS) (gs : List PageV) (k j : Nat) (hj : j < gs.length) : (gsK s gs k)[j]? = if j < k ∧ s.counts.getD j 0 = 0 then some zeroP else gs[j]? := by
  induction k with
  | zero => rfl
  | succ k ih =>
    unfold gsK
    by_cases h : j = k
    · subst h
      by_cases hc : s.counts.getD j 0 = 0
      · rw [if_pos hc, List.getElem?_set_self (by rw [gsK_len]; exact hj), if_pos ⟨by omega, hc⟩]
      · rw [if_neg hc, ih, if_neg (fun e => hc e.2), if_neg (fun e => hc e.2)]
    · have e : (if s.counts.getD k 0 = 0 then (gsK s gs k).set k zeroP else gsK s gs k)[j]? = (gsK s gs k)[j]? := by
        split
        · exact List.getElem?_set_ne (fun e => h e.symm)
        · rfl
      rw [e, ih]
      by_cases h2 : j < k
      · by_cases h3 : s.counts.getD j 0 = 0
        · rw [if_pos ⟨h2, h3⟩, if_pos ⟨by omega, h3⟩]
        · rw [if_neg (fun e => h3 e.2), if_neg (fun e => h3 e.2)]
      · rw [if_neg (fun e => h2 e.1), if_neg (fun e => by omega)]
end Go.Proofs.YtbobcmimkonnoaaGreat.rsettle
namespace Go.Proofs.YtbobcmimkonnoaaGreat.rsettle2
open ChangeShapes WideShapes ChangeAt RowKit Sl Cop pool1 pool2 pool5 pool8 pool9 clone page vault1 vault2 counts items copyP ref1 ref2 ref3 ref4 rload rcopy rinc rdrop rsettle
theorem fit_zero0 : Fit zeroP := ⟨by simp, by simp, fun x hx => by cases hx⟩
set_option maxRecDepth 100000 in
set_option maxHeartbeats 1000000 in
theorem rmark_any (r : Nat) (s : PoolS) (gs : List PageV) (hush : RTail) (aa : Option Addr) (na ca : Nat) (hav : hush.av = .slice aa na ca) (hb : -1099511627776 ≤ hush.fl ∧ hush.fl + na ≤ 1099511627776) (F : Pr) (w : World) (hF : Sat ((RefA r s gs hush).star F) w) :
 Calls Tryz.prog 55 #[.pointer (some ⟨r, 0, none⟩)] w fun e w' => e = .returned (.int .i64 (hush.fl + na)) ∧ ∃ k, w' = w.drewN k := by
 obtain ⟨x, ok, h⟩ := refA_iff.1 hF
 have h1 : Sat ((Pr.pts r (refC s.refs x.cv x.lv x.pv hush)).star ((IntsRow x.cv s.counts).star ((BoolsRow x.lv s.last).star ((PgRow x.pv x.xs gs).star ((Pr.own x.h).star F))))) w := h.perm (by unfold RefAt; ac_rfl)
 have q4 : w.cell? ⟨r, 4, none⟩ = some (.slice aa na ca) := by rw [cell_of_heap h1.pts_heap, ← hav]; rfl
 have q5 : w.cell? ⟨r, 5, none⟩ = some (.int .i64 hush.fl) := by rw [cell_of_heap h1.pts_heap]; rfl
 clear hF h h1 ok hav
 generalize hush.fl = fl at *
 go_enter Tryz.func55, Tryz.ntmps55
 go_wp2_with fail
 go_quiet (fail)
 go_wp2
 go_ret
 exact ⟨rfl, _, rfl⟩
set_option maxRecDepth 100000 in
set_option maxHeartbeats 4000000 in
theorem rsettle_any (r : Nat) (s : PoolS) (gs : List PageV) (hush : RTail) (aa : Option Addr) (na ca : Nat) (hav : hush.av = .slice aa na ca) (hb : -1099511627776 ≤ hush.fl ∧ hush.fl + na ≤ 1099511627776) (F : Pr) (w : World) (hF : Sat ((RefA r s gs hush).star F) w) :
 Calls Tryz.prog 58 #[.pointer (some ⟨r, 0, none⟩)] w fun e w' => e = .returned (.tuple #[]) ∧ Stays w w' ∧
  Sat ((RefA r { s with last := lastsOf s.counts } (gsK s gs s.counts.length) ⟨.slice none 0 0, hush.fl + na, hush.q⟩).star F) w' := by
 have hll : s.last.length = s.counts.length := by
  obtain ⟨x, ok, h⟩ := refA_iff.1 hF
  exact ok.ll
 have hn3 : (s.counts.length : Int) ≤ 65536 := by
  obtain ⟨x, ok, h⟩ := refA_iff.1 hF
  have := ok.n2
  omega
 have HF := Lib.hid hF
 have HLL := Lib.hid hll
 clear hF hll
 go_enter Tryz.func58, Tryz.ntmps58
 go_wp2
 go_loopw [2] (fun i wr => ∃ k : Nat, k ≤ s.counts.length ∧ i = .int .i64 k ∧ Stays w wr ∧ Sat ((RefA r { s with last := lastK s k } (gsK s gs k) hush).star F) wr) (fun i _ => s.counts.length - (intOf i).toNat)
 case atStart => exact ⟨0, Nat.zero_le _, rfl, Stays.refl w, HF.out⟩
 case round =>
  obtain ⟨k, hk, rfl, hst, hs⟩ := hrel
  clear HF
  have q1 : ∃ a c, wr.cell? ⟨r, 1, none⟩ = some (.slice a s.counts.length c) := by
   obtain ⟨x, ok, h⟩ := refA_iff.1 hs
   obtain ⟨ac, cc, al, cl, ap, cp, ⟨q1, _⟩, _⟩ := ref_rd ok h
   exact ⟨_, _, q1⟩
  obtain ⟨a1, d1, q1⟩ := q1
  rcases Nat.lt_or_ge k s.counts.length with hlt | hge
  · obtain ⟨x, ok, h⟩ := refA_iff.1 hs
    obtain ⟨b, c, b2, c2, b3, c3, ⟨e1, e2, e3⟩, ⟨w1, w2, w3⟩, ⟨k1, _⟩, ⟨k2, f2⟩, hcl, ⟨n1, n2, n3, n4, n5, n6⟩, zr, zb, zb2, zb3⟩ := ref_all ok h (j := k) hlt
    dsimp only at e1 e2 e3 w1 w2 w3 k1 k2
    rw [q1] at w1
    cases w1
    obtain ⟨b2', c2', e2', _, _, wl⟩ := ref_wr_last h (j := k) (by show k < (lastK s k).length; rw [lastK_len, HLL.out]; exact hlt)
    rw [e2] at e2'
    cases (Value.slice.inj e2').1
    clear e2'
    have h5 := (wl (decide (0 < s.counts.getD k 0))).drew
    have hc0 : 0 ≤ s.counts.getD k 0 := by
     have := ok.c0 s.counts[k] (List.getElem_mem hlt)
     simpa [hlt] using this
    have e6 : (lastK s k).set k (decide (0 < s.counts.getD k 0)) = lastK s (k + 1) := rfl
    have e7 : gsK s gs (k + 1) = if s.counts.getD k 0 = 0 then (gsK s gs k).set k zeroP else gsK s gs k := rfl
    dsimp only at h5
    rw [e6] at h5
    have ok5 : ROk { s with last := lastK s (k + 1) } (gsK s gs k) x := ⟨ok.pgs, by show (lastK s (k + 1)).length = _; rw [lastK_len]; exact HLL.out, ok.gl, ok.n2, ok.c0, ok.fit⟩
    have HE7 := Lib.hid e7
    have H5 := Lib.hid h5
    have HOK := Lib.hid ok5
    have HSTK := Lib.hid (hst.setCell ⟨b2, k, none⟩ (.bool (decide (0 < s.counts.getD k 0)))).drew
    have HE := Lib.hid (And.intro e1 (And.intro e2 e3))
    clear hs h ok wl e6 e7 ok5 hcl hst e1 e2 e3 h5
    generalize hcv : s.counts.getD k 0 = cv at *
    have HCV := Lib.hid hcv
    clear hcv
    by_cases hcz : cv = 0
    · have hbz : (cv == 0) = true := beq_iff_eq.2 hcz
      have hd : decide (0 < cv) = false := decide_eq_false (by omega)
      have HCZ := Lib.hid hcz
      clear hcz
      go_wp2_with fail
      refine wp_region_staged (sz := 49) (by kernel_rfl) [0, 1, 2, 3, 4, 5, 6, 7, 8, 9, 10, 11, 12, 13] [(14, [], [])] rfl (by kernel_rfl) (by kernel_rfl) (by kernel_rfl) ?_
      refine wpQ_all _ rfl rfl ?_
      simp only [pick, pkA, pkB, pkC, pkD, pkE, pkF]
      iterate 14 (go_big_quiet_step (fail))
      refine wpQuiet_nil ?_
      refine wpRest_act rfl ?_
      go_wp2
      refine onN_mk ?_
      refine wpQ_nil ⟨?_, ?_⟩
      · exact chk_nil
      refine wpRest_nil ?_
      have T5 := H5.out
      have U5 := HSTK.out
      rw [hd] at T5 U5
      clear H5 HSTK w2 w3 k1 k2 f2 n1 n2 n3 n4 n5 n6 zr zb zb2 zb3 q1
      generalize (wr.setCell ⟨b2, k, none⟩ (.bool false)).drew = w5 at *
      obtain ⟨b4, c4, b5, c5, b6, c6, ⟨e4, e5, e6⟩, ⟨q1, q2, q3⟩, ⟨k1, _⟩, _, hcl, ⟨n1, n2, n3, n4, n5, n6⟩, zr, zb, zb2, zb3⟩ := ref_all HOK.out T5 (j := k) hlt
      dsimp only at e4 e5 e6 q1 q2 q3 k1
      obtain ⟨b9, d9, epv, _, wr8⟩ := ref_wr_page HOK.out.pgs.len T5 (j := k) (by rw [gsK_len]; have := HOK.out.gl; rw [gsK_len] at this; rw [this]; exact hlt)
      rw [e6] at epv
      cases (Value.slice.inj epv).1
      obtain ⟨g0, u0, k0⟩ := hcl 0 (by omega)
      obtain ⟨g1, u1, k1'⟩ := hcl 1 (by omega)
      obtain ⟨g2, u2, k2⟩ := hcl 2 (by omega)
      obtain ⟨g3, u3, k3⟩ := hcl 3 (by omega)
      obtain ⟨g4, u4, k4⟩ := hcl 4 (by omega)
      rw [Nat.add_zero] at g0 k0
      rw [HCV.out, HCZ.out] at k1
      have W8 := Lib.hid (wr8 zeroP (.slice none 0 0) (.slice none 0 0))
      have HST7 := Lib.hid U5
      clear hcl wr8 epv e4 e5 e6 T5 U5 HE
      go_wp2
      go_roundw
      case rel =>
       refine ⟨k + 1, by omega, congrArg (Value.int .i64) (by omega), ((((HST7.out.setCell _ _).setCell _ _).setCell _ _).setCell _ _).setCell _ _, ?_⟩
       have h9 := ref_put (g := zeroP) (h' := Hp.nil) (F := F) HOK.out ⟨_, _, rfl, items_mk (Nat.zero_le _), RowIn.nil _ _⟩ fit_zero0 (by rw [own_nil, Pr.emp_star]; exact W8.out)
       rw [HE7.out, if_pos HCZ.out]
       exact h9
      case measure => simp [intOf]; omega
    · have hbz : (cv == 0) = false := beq_eq_false_iff_ne.2 hcz
      have hd : decide (0 < cv) = true := decide_eq_true (by omega)
      have HCZ := Lib.hid hcz
      clear hcz
      go_wp2_with fail
      refine wp_region_staged (sz := 49) (by kernel_rfl) [0, 1, 2, 3, 4, 5, 6, 7, 8, 9, 10, 11, 12, 13] [(14, [], [])] rfl (by kernel_rfl) (by kernel_rfl) (by kernel_rfl) ?_
      refine wpQ_all _ rfl rfl ?_
      simp only [pick, pkA, pkB, pkC, pkD, pkE, pkF]
      iterate 14 (go_big_quiet_step (fail))
      refine wpQuiet_nil ?_
      refine wpRest_act rfl ?_
      go_wp2
      refine onN_mk ?_
      refine wpQ_nil ⟨?_, ?_⟩
      · exact chk_nil
      refine wpRest_nil ?_
      have T5 := H5.out
      have U5 := HSTK.out
      rw [hd] at T5 U5
      clear H5 HSTK w2 w3 k1 k2 f2 n1 n2 n3 n4 n5 n6 zr zb zb2 zb3 q1
      generalize (wr.setCell ⟨b2, k, none⟩ (.bool true)).drew = w5 at *
      obtain ⟨b4, c4, b5, c5, b6, c6, ⟨e4, e5, e6⟩, ⟨q1, q2, q3⟩, ⟨k1, _⟩, _, hcl, ⟨n1, n2, n3, n4, n5, n6⟩, zr, zb, zb2, zb3⟩ := ref_all HOK.out T5 (j := k) hlt
      dsimp only at q1 k1
      rw [HCV.out] at k1
      have H5 := Lib.hid (refA_iff.2 ⟨x, HOK.out, T5⟩)
      have HST7 := Lib.hid U5
      clear hcl e4 e5 e6 T5 U5 HE q2 q3
      go_wp2
      go_roundw
      case rel =>
       refine ⟨k + 1, by omega, congrArg (Value.int .i64) (by omega), HST7.out, ?_⟩
       rw [HE7.out, if_neg HCZ.out]
       exact H5.out
      case measure => simp [intOf]; omega
  · have hke : k = s.counts.length := by omega
    subst hke
    have MK := Lib.hid (rmark_any r _ _ hush aa na ca hav hb _ _ hs)
    have HS := Lib.hid hs
    clear hs
    go_wp2_with fail
    refine MK.out.mono ?_
    rintro e w1 ⟨rfl, kk, rfl⟩
    obtain ⟨x, ok, h⟩ := refA_iff.1 (HS.out.drewN kk)
    have h1 : Sat ((Pr.pts r (refC s.refs x.cv x.lv x.pv hush)).star ((IntsRow x.cv s.counts).star ((BoolsRow x.lv (lastK s s.counts.length)).star ((PgRow x.pv x.xs (gsK s gs s.counts.length)).star ((Pr.own x.h).star F))))) _ := h.perm (by unfold RefAt; dsimp only; ac_rfl)
    have q4 : (wr.drewN kk).cell? ⟨r, 4, none⟩ = some (.slice aa na ca) := by rw [cell_of_heap h1.pts_heap, ← hav]; rfl
    have q5 : (wr.drewN kk).cell? ⟨r, 5, none⟩ = some (.int .i64 hush.fl) := by rw [cell_of_heap h1.pts_heap]; rfl
    have f4 := frozen_of_heap h1.pts_heap 4
    have f5 := frozen_of_heap h1.pts_heap 5
    have zr := h1.lt
    have H2 := Lib.hid (show Sat ((Pr.pts r (refC s.refs x.cv x.lv x.pv ⟨.slice none 0 0, hush.fl + na, hush.q⟩)).star ((IntsRow x.cv s.counts).star ((BoolsRow x.lv (lastK s s.counts.length)).star ((PgRow x.pv x.xs (gsK s gs s.counts.length)).star ((Pr.own x.h).star F))))) _ from (h1.setCell (i := 5) (.int .i64 (hush.fl + na))).setCell (i := 4) (.slice none 0 0))
    have HOK := Lib.hid ok
    have HSTK := Lib.hid (((hst.drewN kk).setCell ⟨r, 5, none⟩ (.int .i64 (hush.fl + na))).setCell ⟨r, 4, none⟩ (.slice none 0 0))
    clear h h1 ok hst HS MK
    go_wp2
    first | refine bodyPost_ret (results_none rfl _ _ _) rfl ?_ | go_end0
    refine ⟨rfl, HSTK.out, ?_⟩
    rw [← lastK_end HLL.out]
    exact refA_iff.2 ⟨x, ⟨HOK.out.pgs, HOK.out.ll, HOK.out.gl, HOK.out.n2, HOK.out.c0, HOK.out.fit⟩, H2.out.perm (by unfold RefAt; dsimp only; ac_rfl)⟩
end Go.Proofs.YtbobcmimkonnoaaGreat.rsettle2
namespace Go.Proofs.YtbobcmimkonnoaaGreat.rmake
open ChangeShapes WideShapes ChangeAt RowKit Sl Cop pool1 pool2 pool5 pool8 pool9 clone page vault1 vault2 counts items copyP rchk2 ref1 ref2 ref3 ref4 rload rcopy rinc rdrop rsettle
set_option maxRecDepth 100000 in
set_option maxHeartbeats 1000000 in
theorem ract_hush (r : Nat) (s : PoolS) (gs : List PageV) (hush : RTail) (hq : hush.q = true) (F : Pr) (w : World) (hF : Sat ((RefA r s gs hush).star F) w) :
 Calls Tryz.prog 147 #[.pointer (some ⟨r, 0, none⟩)] w fun e w' => e = .returned (.tuple #[]) ∧ w = w' := by
 obtain ⟨x, ok, h⟩ := refA_iff.1 hF
 have h1 : Sat ((Pr.pts r (refC s.refs x.cv x.lv x.pv hush)).star ((IntsRow x.cv s.counts).star ((BoolsRow x.lv s.last).star ((PgRow x.pv x.xs gs).star ((Pr.own x.h).star F))))) w := h.perm (by unfold RefAt; ac_rfl)
 have q6 : w.cell? ⟨r, 6, none⟩ = some (.bool true) := by rw [cell_of_heap h1.pts_heap, ← hq]; rfl
 clear hF h h1 ok
 go_enter Tryz.func147, Tryz.ntmps147
 go_wp2
 first | refine bodyPost_ret (results_none rfl _ _ _) rfl ?_ | go_end0
 exact ⟨rfl, rfl⟩
set_option maxRecDepth 100000 in
set_option maxHeartbeats 4000000 in
theorem rmake_any (r : Nat) (s : PoolS) (gs : List PageV) (hush : RTail) (hq : hush.q = true) (h : Hp) (pv : Value) (g : PageV) (hpg : PageIn h pv g) (F : Pr) (w : World) (hF : Sat ((RefA r s gs hush).star ((Pr.own h).star F)) w) :
    Calls Tryz.prog 94 #[.pointer (some ⟨r, 0, none⟩), pv] w fun e w' => Stays w w' ∧
      ((checkP g ≠ 0 ∧ e = .returned (.tuple #[.int .i64 0, .int .i64 (checkP g)]) ∧ Sat ((RefA r s gs hush).star ((Pr.own h).star F)) w') ∨
       (checkP g = 0 ∧ (∀ n, s.state n ≠ 1) ∧ e = .returned (.tuple #[.int .i64 0, .int .i64 12]) ∧ Sat ((RefA r s gs hush).star ((Pr.own h).star F)) w') ∨
       (checkP g = 0 ∧ ∃ n, s.state n = 1 ∧ (∀ m, s.state m = 1 → n ≤ m) ∧ e = .returned (.tuple #[.int .i64 n, .int .i64 0]) ∧ Sat ((RefA r { s with counts := s.counts.set (n.toNat - 1) 1 } (gs.set (n.toNat - 1) g) hush).star ((Pr.own h).star F)) w')) := by
  obtain ⟨vi, vd, rfl, hi, hd⟩ := id hpg
  obtain ⟨ai, ci, rfl, _, _⟩ := items_rd hi
  obtain ⟨ad, cd, rfl⟩ := bytes_shape hd
  have h1 := hF.alloc (pageC g.kind g.level (.slice ai g.items.length ci) (.slice ad g.data.length cd) g.next)
  have h2 := h1.perm (B := (RefA r s gs hush).star ((Pr.own h).star ((Pr.pts w.heap.size (pageC g.kind g.level (.slice ai g.items.length ci) (.slice ad g.data.length cd) g.next)).star F))) (by ac_rfl)
  have CK := Lib.hid (rcheck_any g h _ hpg _ h2.right.own)
  have H2 := Lib.hid h2
  have HPG := Lib.hid hpg
  have HST := Lib.hid ((Stays.refl w).alloc (pageC g.kind g.level (.slice ai g.items.length ci) (.slice ad g.data.length cd) g.next))
  have HFIT := Lib.hid (fun he => fit_of_check (g := g) he)
  obtain ⟨er, her⟩ : ∃ er, checkP g = er := ⟨_, rfl⟩
  rw [her] at CK HFIT
  rw [her]
  clear h1 h2 hF hpg hi hd her
  go_enter Tryz.func94, Tryz.ntmps94
  go_wp2_with fail
  refine CK.out.mono ?_
  rintro e w1 ⟨rfl, ho⟩
  have h3 := H2.out.only ho
  have HST1 := Lib.hid (HST.out.trans ho.st)
  by_cases he : er = 0
  · have hb : (er != 0) = false := by rw [bne_eq_false_iff_eq]; exact he
    have hfit := HFIT.out he
    have HE := Lib.hid he
    have LO := Lib.hid (rlowest_any r s gs hush _ _ h3)
    have H3 := Lib.hid h3
    have HFT := Lib.hid hfit
    clear h3 ho H2 CK HFIT HST hfit he
    go_wp2_with fail
    refine LO.out.mono ?_
    rintro e w2 ⟨rfl, m, rfl, (⟨rfl, hno⟩ | ⟨hm, hle⟩)⟩
    · have HNO := Lib.hid hno
      clear hno
      go_wp2
      go_ret2
      exact ⟨HST1.out, .inr (.inl ⟨HE.out, HNO.out, rfl, (H3.out.perm (B := (Pr.pts w.heap.size (pageC g.kind g.level (.slice ai g.items.length ci) (.slice ad g.data.length cd) g.next)).star ((RefA r s gs hush).star ((Pr.own h).star F))) (by ac_rfl)).right⟩)⟩
    · have hth := there_of_state (by omega : s.state m ≠ 0)
      obtain ⟨j, rfl, hj⟩ := there_idx hth
      have AC := Lib.hid (ract_hush r s gs hush hq _ _ H3.out)
      obtain ⟨x, ok, h4⟩ := refA_iff.1 H3.out
      have hn2 := ok.n2
      obtain ⟨b, c, b2, c2, b3, c3, ⟨e1, e2, e3⟩, ⟨q1, q2, q3⟩, ⟨k1, f1⟩, _, _, ⟨n1, n2, n3, n4, n5, n6⟩, zr, zb, zb2, zb3⟩ := ref_all ok h4 (j := j) hj
      obtain ⟨b', c', e1', _, _, wc⟩ := ref_wr_count h4 hj
      rw [e1] at e1'
      cases (Value.slice.inj e1').1
      have h5 := wc 1
      have ok5 : ROk { s with counts := s.counts.set j 1 } gs x := rok_counts ok (by rw [List.length_set]) (fun c0 hc => by
        rcases List.mem_or_eq_of_mem_set hc with hc | hc
        · exact ok.c0 c0 hc
        · rw [hc]; decide)
      have HM := Lib.hid (And.intro hm hle)
      have H5 := Lib.hid h5
      have HU5 := Lib.hid (HST1.out.setCell ⟨b, j, none⟩ (.int .i64 1))
      have OK5 := Lib.hid ok5
      have HE3 := Lib.hid e3
      have hm0 : ((j : Int) + 1 == 0) = false := beq_eq_false_iff_ne.2 (by omega)
      clear h4 ok wc h5 ok5 e1 e2 e3 e1' hm hle hth LO q2
      generalize s.counts.getD j 0 = cj at *
      go_wp2_with fail
      refine AC.out.mono ?_
      rintro e w2 ⟨rfl, rfl⟩
      go_wp2_with fail
      have T5 := H5.out
      have U5 := HU5.out
      clear HU5 H5 q1 q3 k1 f1 n1 n2 n3 n4 n5 n6 zr zb zb2 zb3
      generalize w1.setCell ⟨b, j, none⟩ (.int .i64 1) = w5 at *
      have hj2 : j < (s.counts.set j 1).length := by rw [List.length_set]; exact hj
      obtain ⟨b, c, b2, c2, b3, c3, ⟨e1, e2, e3⟩, ⟨_, _, q3⟩, _, _, _, _, zr, _, _, zb3⟩ := ref_all OK5.out T5 (j := j) hj2
      dsimp only at e3 q3
      rw [List.length_set] at e3 q3
      have h6 := T5.perm (B := ((Pr.pts w.heap.size (pageC g.kind g.level (.slice ai g.items.length ci) (.slice ad g.data.length cd) g.next)).star ((RefAt r { s with counts := s.counts.set j 1 } gs hush x).star ((Pr.own h).star F)))) (by ac_rfl)
      obtain ⟨p0, p1, p2, p3, p4, _, pz⟩ := pts5 h6
      have CP := Lib.hid (copypage_any h _ g HPG.out (by have := HFT.out.n; omega) (fun y hy => by have := fit_keys HFT.out y hy; omega) (by have := HFT.out.d; omega) _ w5.drew (T5.drew.perm (B := ((Pr.own h).star ((RefAt r { s with counts := s.counts.set j 1 } gs hush x).star ((Pr.pts w.heap.size (pageC g.kind g.level (.slice ai g.items.length ci) (.slice ad g.data.length cd) g.next)).star F)))) (by ac_rfl)))
      have HE4 := Lib.hid e3
      have HST5 := Lib.hid U5
      clear T5 U5 h6 e1 e2 e3 HE3
      refine wp_region_staged (sz := 36) (by kernel_rfl) [0, 1, 2, 3, 4, 5, 6] [(7, [8], [0, 1, 2, 3, 4, 5]), (9, [], [])] rfl (by kernel_rfl) (by kernel_rfl) (by kernel_rfl) ?_
      refine wpQ_all _ rfl rfl ?_
      simp only [pick, pkA, pkB, pkC, pkD, pkE, pkF]
      iterate 7 (go_big_quiet_step (fail))
      refine wpQuiet_nil ?_
      refine wpRest_act rfl ?_
      go_wp2_with fail
      refine CP.out.mono ?_
      rintro e w6 ⟨pv, h', rfl, hpv, hs7, st7⟩
      obtain ⟨vi, vd, rfl, hit, hby⟩ := id hpv
      obtain ⟨a8, c8, rfl, _, _⟩ := items_rd hit
      obtain ⟨a9, c9, rfl⟩ := bytes_shape hby
      have H7 : Sat ((RefAt r { s with counts := s.counts.set j 1 } gs hush x).star ((Pr.own h').star ((Pr.pts w.heap.size (pageC g.kind g.level (.slice ai g.items.length ci) (.slice ad g.data.length cd) g.next)).star ((Pr.own h).star F)))) w6 := hs7.perm (by ac_rfl)
      obtain ⟨b9, d9, epv, hcl, wr8⟩ := ref_wr_page OK5.out.pgs.len H7 (j := j) (by have := OK5.out.gl; rw [this]; exact hj2)
      rw [HE4.out] at epv
      cases (Value.slice.inj epv).1
      obtain ⟨g0, u0, k0⟩ := hcl 0 (by omega)
      obtain ⟨g1, u1, k1⟩ := hcl 1 (by omega)
      obtain ⟨g2, u2, k2⟩ := hcl 2 (by omega)
      obtain ⟨g3, u3, k3⟩ := hcl 3 (by omega)
      obtain ⟨g4, u4, k4⟩ := hcl 4 (by omega)
      rw [Nat.add_zero] at g0 k0
      have W8 := Lib.hid (wr8 g (.slice a8 g.items.length c8) (.slice a9 g.data.length c9))
      have HST7 := Lib.hid (HST5.out.drew.trans st7)
      clear q3 zr zb3 p0 p1 p2 p3 p4 pz
      obtain ⟨_, _, _, _, b3', c3', ⟨_, _, e3'⟩, ⟨_, _, q3⟩, _, _, _, _, zr, _, _, zb3⟩ := ref_all OK5.out H7 (j := j) hj2
      dsimp only at e3' q3
      rw [List.length_set] at e3' q3
      rw [HE4.out] at e3'
      cases e3'
      obtain ⟨p0, p1, p2, p3, p4, _, pz⟩ := pts5 (H7.perm (B := ((Pr.pts w.heap.size (pageC g.kind g.level (.slice ai g.items.length ci) (.slice ad g.data.length cd) g.next)).star ((RefAt r { s with counts := s.counts.set j 1 } gs hush x).star ((Pr.own h').star ((Pr.own h).star F))))) (by ac_rfl))
      have HPV := Lib.hid hpv
      clear hs7 st7 H7 hcl wr8 hit hby CP hpv epv
      go_wp2
      refine onN_mk ?_
      refine wpQ_all _ rfl rfl ?_
      simp only [pick, pkA, pkB, pkC, pkD, pkE, pkF]
      iterate 1 (go_big_quiet_step (fail))
      refine wpQuiet_nil ⟨?_, ?_⟩
      · refine chk_all _ rfl rfl ?_
        simp only [pick, Same, pkA, pkB, pkC, pkD, pkE, pkF, and_true]
        repeat' (first | apply And.intro | (go_big_quiet_step (fail); exact wpQuiet_nil rfl))
      refine wpRest_act rfl ?_
      go_wp2
      refine onN_mk (wpQ_nil ⟨chk_nil, wpRest_nil ?_⟩)
      go_wp2
      go_ret2
      refine ⟨((((HST7.out.setCell _ _).setCell _ _).setCell _ _).setCell _ _).setCell _ _, .inr (.inr ⟨HE.out, (j : Int) + 1, HM.out.1, HM.out.2, rfl, ?_⟩)⟩
      have h9 := ref_put (g := g) (h' := h') OK5.out HPV.out HFT.out W8.out
      rw [show ((j : Int) + 1).toNat - 1 = j by omega]
      exact (h9.perm (B := ((Pr.pts w.heap.size (pageC g.kind g.level (.slice ai g.items.length ci) (.slice ad g.data.length cd) g.next)).star ((RefA r { s with counts := s.counts.set j 1 } (gs.set j g) hush).star ((Pr.own h).star F)))) (by ac_rfl)).right
  · have hb : (er != 0) = true := by rw [bne_iff_ne]; exact he
    have HE := Lib.hid he
    have H3 := Lib.hid h3
    clear h3 ho H2 CK HFIT he
    go_wp2
    go_ret2
    exact ⟨HST1.out, .inl ⟨HE.out, rfl, (H3.out.perm (B := (Pr.pts w.heap.size (pageC g.kind g.level (.slice ai g.items.length ci) (.slice ad g.data.length cd) g.next)).star ((RefA r s gs hush).star ((Pr.own h).star F))) (by ac_rfl)).right⟩⟩
end Go.Proofs.YtbobcmimkonnoaaGreat.rmake
