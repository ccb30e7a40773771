/- The pool: a new one, Tally; the conditions stand as hypotheses. -/
import Derived.Test.YtbobcmimkonnoaaPool8
import Derived.Test.YtbobcmimkonnoaaClone
import Derived.Deep.OwnRows
namespace Go.Proofs.Ytbobcmimkonnoaa.pool9
open Go.ChangeShapes Go.WideShapes Go.ChangeAt Go.RowKit Go.Sl Go.Cop Go.Proofs.Ytbobcmimkonnoaa.pool1 Go.Proofs.Ytbobcmimkonnoaa.pool2 Go.Proofs.Ytbobcmimkonnoaa.pool3 Go.Proofs.Ytbobcmimkonnoaa.pool4 Go.Proofs.Ytbobcmimkonnoaa.pool5 Go.Proofs.Ytbobcmimkonnoaa.pool8 Go.Proofs.Ytbobcmimkonnoaa.runs1 Go.Proofs.Ytbobcmimkonnoaa.runs6 Go.Proofs.Ytbobcmimkonnoaa.clone

abbrev poolOf (refs : Int) (cs : List Int) (fl : Int) : PoolS := { refs := refs, counts := cs, last := lastsOf cs, acts := [], floor := fl }

theorem own_nil : Pr.own Hp.nil = Pr.emp := rfl
theorem acts_nil {p : Nat} {F : Pr} {w : World} (h : Sat F w) : Sat ((ActsA p (.slice none 0 0) []).star F) w := by
  unfold ActsA
  refine Sat.ex.2 ⟨([], Hp.nil), ?_⟩
  rw [Pr.star_assoc]
  refine Sat.pure.2 ⟨⟨rfl, fun i hi => absurd hi (by simp)⟩, ?_⟩
  show Sat (((Row _ 1 (.slice none 0 0) 0 []).star (Pr.own Hp.nil)).star F) w
  rw [Row.nil, own_nil, Pr.star_emp, Pr.emp_star]
  exact h

theorem mid_end {p fb : Nat} {refs : Int} {cv lv : Value} {cs : List Int} {last : List Bool} {fl : Int} {F : Pr} {w : World} (hl : last.length = cs.length) (ok : PoolOk (poolOf refs cs fl))
    (h : Sat ((Mid p fb refs cv lv cs last fl cs.length).star F) w) : Sat ((PoolA p (poolOf refs cs fl)).star F) w := by
  refine poolA_iff.2 ⟨ok, cv, lv, fb, .slice none 0 0, ?_⟩
  have h1 := acts_nil (p := p) h
  refine h1.perm ?_
  unfold PoolAt Mid
  have e1 : setCells refs cv lv fb (cs.take cs.length) fl = poolCells (poolOf refs cs fl) cv lv fb (.slice none 0 0) := by
    have t : ∀ k, 1 ≤ k ∧ k ≤ 4 → (poolOf refs cs fl).tally k = inState cs k := fun k hk => by
      unfold PoolS.tally
      rw [if_neg (by omega), many_settled cs k _ rfl rfl]
    unfold setCells poolCells
    rw [t 1 (by omega), t 2 (by omega), t 3 (by omega), t 4 (by omega), inState_none cs 2 (by omega) (by omega), inState_none cs 3 (by omega) (by omega), List.take_length]
  have e2 : lastsOf (cs.take cs.length) ++ last.drop cs.length = lastsOf cs := by rw [List.take_length, List.drop_eq_nil_of_le (by omega), List.append_nil]
  have e3 : (SetOf fb fun n => 1 ≤ n ∧ n ≤ ((cs.length : Nat) : Int) ∧ cs.getD (n.toNat - 1) 0 = 0) = SetOf fb fun n => (poolOf refs cs fl).state n = 1 := by
    refine setOf_congr fun n => ⟨fun ⟨b1, b2, b3⟩ => ?_, fun hs => ?_⟩
    · have ht : (poolOf refs cs fl).there n := ⟨b1, b2⟩
      rw [state_there ht]
      unfold PoolS.count PoolS.lasts
      rw [if_pos ht]
      have : ((poolOf refs cs fl).last).getD (n.toNat - 1) false = decide (0 < cs.getD (n.toNat - 1) 0) := by
        show (lastsOf cs).getD _ _ = _
        rw [List.getD_eq_getElem?_getD, List.getD_eq_getElem?_getD]
        simp [lastsOf, List.getElem?_eq_getElem (show n.toNat - 1 < cs.length by omega)]
      rw [this]
      show stateOf (cs.getD (n.toNat - 1) 0) _ = 1
      rw [b3, stateOf_zero]
    · have ht : (poolOf refs cs fl).there n := there_of_state (by omega)
      have h0 := count_of_free ok hs
      unfold PoolS.count at h0
      rw [if_pos ht] at h0
      exact ⟨ht.1, ht.2, h0⟩
  rw [e1, e2, e3]
  ac_rfl

set_option maxRecDepth 100000 in
set_option maxHeartbeats 1000000 in
theorem right_yes (n r : Int) (h : 1 ≤ n ∧ n ≤ 65536 ∧ 2 ≤ r ∧ r < 65536) (w : World) : Calls Try.prog 46 #[.int .i64 n, .int .i64 r] w fun e w' => e = .returned (.bool true) ∧ w = w' := by
  obtain ⟨h1, h2, h3, h4⟩ := h
  go_enter Try.func46, Try.ntmps46
  go_wp2
  go_ret
  exact ⟨rfl, rfl⟩

set_option maxRecDepth 100000 in
set_option maxHeartbeats 1000000 in
theorem tally_A (p : Nat) (s : PoolS) (k : Int) (hk : k = 1 ∨ k = 4) (F : Pr) (w : World) (hF : Sat ((PoolA p s).star F) w) :
    Calls Try.prog 14 #[.pointer (some ⟨p, 0, none⟩), .int .i64 k] w fun e w' => e = .returned (.int .i64 (s.tally k)) ∧ w = w' := by
  obtain ⟨ok, cv, lv, fb, av, hA⟩ := poolA_iff.1 hF
  unfold PoolAt at hA
  rw [Pr.star_assoc] at hA
  have q1 : w.cell? ⟨p, 5, none⟩ = some (.int .i64 (s.tally 1)) := by rw [cell_of_heap hA.pts_heap]; rfl
  have q4 : w.cell? ⟨p, 8, none⟩ = some (.int .i64 (s.tally 4)) := by rw [cell_of_heap hA.pts_heap]; rfl
  clear hF hA ok
  rcases hk with rfl | rfl
  all_goals
    go_enter Try.func14, Try.ntmps14
    go_wp2
    go_ret
    exact ⟨rfl, rfl⟩

theorem infoBool : (Try.prog.info? 4).map (fun i => (i.zero, i.size, i.bytes)) = some (some (.bool false), 1, 1) := by kernel_rfl

theorem made_rep (z : Value) (n : Nat) : madeCells #[z] n = (List.replicate n z).toArray := by
  refine Array.ext (by simp [size_madeCells]) fun i h1 h2 => ?_
  simp [madeCells, Nat.mod_one]
theorem row_made {F : Pr} {w : World} (T : Nat) (z : Value) (n : Nat) (hn : n ≤ maxLen) (h : Sat F w) :
    Sat ((Row T 1 (.slice (some ⟨w.heap.size, 0, none⟩) n n) n (List.replicate n z)).star F) (w.alloc (.cells (madeCells #[z] n) T)) := by
  have h1 := h.alloc (.cells (madeCells #[z] n) T)
  rw [made_rep] at h1 ⊢
  refine Row.mk' (sp := []) (by simp) (by simp) (Nat.le_refl _) hn ?_
  rw [List.append_nil]
  exact h1

set_option maxRecDepth 100000 in
set_option maxHeartbeats 1000000 in
theorem over_any (refs : Int) (cv : Value) (cs : List Int) (F : Pr) (w : World) (hF : Sat ((IntsRow cv cs).star F) w) (ok : PoolOk (poolOf refs cs 0)) :
    Calls Try.prog 47 #[.int .i64 refs, cv] w fun e w' => ∃ p, e = .returned (.pointer (some ⟨p, 0, none⟩)) ∧ Sat ((PoolA p (poolOf refs cs 0)).star F) w' ∧ Stays w w' := by
  have o1 : 1 ≤ cs.length := ok.n1
  have o2 : cs.length ≤ 65536 := ok.n2
  have hmk := run_make_row' (P := Try.prog) 69 4 (.bool false) 1 Try.underlying69 infoBool rfl .i64 .i64 cs.length (by omega) (by omega)
  obtain ⟨bc, cc, ec, _⟩ := ints_read hF (by omega)
  subst ec
  have h1 := row_made 4 (.bool false) cs.length (by simp only [maxLen]; omega) hF
  have e1 : Row 4 1 (.slice (some ⟨w.heap.size, 0, none⟩) cs.length cs.length) cs.length (List.replicate cs.length (.bool false)) = BoolsRow (.slice (some ⟨w.heap.size, 0, none⟩) cs.length cs.length) (List.replicate cs.length false) := by
    unfold BoolsRow
    rw [List.length_replicate, List.map_replicate]
  rw [e1] at h1
  have h2 := h1.alloc (.cells #[.int .i64 refs, .slice (some ⟨bc, 0, none⟩) cs.length cc, .slice (some ⟨w.heap.size, 0, none⟩) cs.length cs.length, .pointer none, .int .i64 0, .int .i64 0, .int .i64 0, .int .i64 0, .int .i64 0, .slice none 0 0, .int .i64 0] 74)
  have es : (w.alloc (.cells (madeCells #[.bool false] cs.length) 4)).heap.size = w.heap.size + 1 := by simp
  rw [es] at h2
  have h3 := h2.perm (B := (Pr.pts (w.heap.size + 1) (.cells #[.int .i64 refs, .slice (some ⟨bc, 0, none⟩) cs.length cc, .slice (some ⟨w.heap.size, 0, none⟩) cs.length cs.length, .pointer none, .int .i64 0, .int .i64 0, .int .i64 0, .int .i64 0, .int .i64 0, .slice none 0 0, .int .i64 0] 74)).star ((IntsRow (.slice (some ⟨bc, 0, none⟩) cs.length cc) cs).star ((BoolsRow (.slice (some ⟨w.heap.size, 0, none⟩) cs.length cs.length) (List.replicate cs.length false)).star F))) (by ac_rfl)
  have C := settle_low (w.heap.size + 1) refs _ _ _ _ _ _ _ _ none 0 0 0 cs (List.replicate cs.length false) F _ h3 o1 o2 (by simp) ok.cs (by omega) (by omega)
  have HC := Lib.hid C
  have HOK := Lib.hid ok
  clear C h1 h2 h3 hF e1 ok es
  go_enter Try.func47, Try.ntmps47
  go_wp2_with fail
  refine HC.out.mono ?_
  rintro e w1 ⟨rfl, ⟨fb, h4⟩, hst⟩
  have H4 := Lib.hid (mid_end (p := _) (by simp) HOK.out h4)
  clear h4
  go_wp2
  go_ret
  exact ⟨_, rfl, H4.out, (((Stays.refl w).alloc _).alloc _).trans hst⟩

theorem poolOk_new (pages refs : Int) (h : 1 ≤ pages ∧ pages ≤ 65536 ∧ 2 ≤ refs ∧ refs < 65536) : PoolOk (poolOf refs (List.replicate pages.toNat 0) 0) := by
  refine ⟨?_, ?_, ?_, h.2.2.1, h.2.2.2, ?_, Int.le_refl _, ?_⟩
  · show 1 ≤ (List.replicate _ _).length; rw [List.length_replicate]; omega
  · show (List.replicate _ _).length ≤ _; rw [List.length_replicate]; omega
  · simp [lastsOf]
  · intro c hc
    have := List.eq_of_mem_replicate hc
    omega
  · show (0 : Int) + (([] : List (Int × Int)).length : Nat) ≤ _
    simp

set_option maxRecDepth 100000 in
set_option maxHeartbeats 1000000 in
theorem new_any (pages refs : Int) (h : 1 ≤ pages ∧ pages ≤ 65536 ∧ 2 ≤ refs ∧ refs < 65536) (F : Pr) (w : World) (hF : Sat F w) :
    Calls Try.prog 21 #[.int .i64 pages, .int .i64 refs] w fun e w' =>
      ∃ p, e = .returned (.tuple #[.pointer (some ⟨p, 0, none⟩), .int .i64 0]) ∧ Sat ((PoolA p (poolOf refs (List.replicate pages.toNat 0) 0)).star F) w' ∧ Stays w w' := by
  have hok := poolOk_new pages refs h
  obtain ⟨n, rfl⟩ : ∃ n : Nat, pages = n := ⟨pages.toNat, by omega⟩
  rw [Int.toNat_natCast] at hok ⊢
  have hmk := run_make_row' (P := Try.prog) 45 3 (.int .i64 0) 8 Try.underlying45 infoInt rfl .i64 .i64 n (by omega) (by omega)
  have h1 := row_made 3 (.int .i64 0) n (by simp only [maxLen]; omega) hF
  have e1 : Row 3 1 (.slice (some ⟨w.heap.size, 0, none⟩) n n) n (List.replicate n (.int .i64 0)) = IntsRow (.slice (some ⟨w.heap.size, 0, none⟩) n n) (List.replicate n 0) := by
    unfold IntsRow
    rw [List.length_replicate, List.map_replicate]
  rw [e1] at h1
  have HC := Lib.hid (over_any refs _ _ F _ h1 hok)
  clear h1 e1 hok hF
  go_enter Try.func21, Try.ntmps21
  go_wp2_with fail
  refine (right_yes _ _ h _).mono ?_
  rintro e w1 ⟨rfl, rfl⟩
  go_wp2_with fail
  refine HC.out.mono ?_
  rintro e w1 ⟨p, rfl, h4, hst⟩
  have H4 := Lib.hid h4
  clear h4
  go_wp2
  go_ret2
  exact ⟨p, rfl, H4.out, ((Stays.refl w).alloc _).trans hst⟩
end Go.Proofs.Ytbobcmimkonnoaa.pool9
