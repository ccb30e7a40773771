/- The set of runs: a run is taken out; the lowest number; a new set. By walks; the conditions stand as hypotheses. -/
import Derived.Test.YtbobcmimkonnoaaRuns4
namespace Go.Proofs.Ytbobcmimkonnoaa.runs5
open Go.ChangeShapes Go.WideShapes Go.ChangeAt Go.RowKit Go.Sl Go.Shelf Go.Proofs.Ytbobcmimkonnoaa.runs1 Go.Proofs.Ytbobcmimkonnoaa.runs2 Go.Proofs.Ytbobcmimkonnoaa.runs3 Go.Proofs.Ytbobcmimkonnoaa.runs4
attribute [local go_sem] Oper.semAt_some

def remOne (lo hi : Int) (x : Int × Int) : List (Int × Int) :=
  if x.2 < lo ∨ hi < x.1 then [x] else (if x.1 < lo then [(x.1, lo - 1)] else []) ++ (if hi < x.2 then [(hi + 1, x.2)] else [])
def remRuns (rs : List (Int × Int)) (lo hi : Int) : List (Int × Int) := rs.flatMap (remOne lo hi)
theorem remOne_len (lo hi : Int) (x : Int × Int) : (remOne lo hi x).length ≤ 2 := by
  unfold remOne; split
  · simp
  · split <;> split <;> simp
theorem remRuns_snoc (rs : List (Int × Int)) (lo hi : Int) (k : Nat) (h : k < rs.length) : remRuns (rs.take (k + 1)) lo hi = remRuns (rs.take k) lo hi ++ remOne lo hi rs[k] := by
  unfold remRuns; rw [List.take_succ_eq_append_getElem h, List.flatMap_append]; simp
theorem remRuns_len (rs : List (Int × Int)) (lo hi : Int) : (remRuns rs lo hi).length ≤ rs.length * 2 := by
  unfold remRuns
  induction rs with
  | nil => simp
  | cons x rs ih => have := remOne_len lo hi x; simp only [List.flatMap_cons, List.length_append, List.length_cons]; omega
theorem one2 (a b : Int) : ∀ u ∈ [Value.int .i64 a, .int .i64 b], u.oneCell' = true := fun u hu => by
  simp only [List.mem_cons, List.not_mem_nil, or_false] at hu
  rcases hu with rfl | rfl <;> rfl

set_option maxRecDepth 100000 in
set_option maxHeartbeats 4000000 in
theorem remove_any (p : Nat) (v : Value) (rs : List (Int × Int)) (lo hi : Int) (hs : ∀ x ∈ rs, Small x) (hlh : Small (lo, hi)) (hl : rs.length ≤ 65536) (F : Pr) (w : World) (hF : Sat ((SetAt p v rs).star F) w) :
    Calls Try.prog 104 #[.pointer (some ⟨p, 0, none⟩), .int .i64 lo, .int .i64 hi] w fun e w' =>
      ∃ (n : Int) (v' : Value), e = .returned (.int .i64 n) ∧ Sat ((SetAt p v' (remRuns rs lo hi)).star F) w' ∧ Stays w w' := by
  obtain ⟨s1, s2, s3⟩ := hlh
  dsimp only at s1 s2 s3
  have HL := Lib.hid hF
  clear hF
  refine calls_of_wp_marks (n := 9) Try.func104 rfl ?_
  simp only [Try.ntmps104, List.size_toArray, List.length_cons, List.length_nil, Nat.reduceAdd, Nat.reduceSub, Array.replicate_succ, Array.replicate_zero, List.push_toArray, List.append_toArray, List.nil_append, List.cons_append]
  go_wp2_with (go_at_call 106; refine (within_any _ _ _ _).mono ?_; rintro e w' ⟨rfl, rfl⟩)
  have HS : Sat (((SomeCnt w.heap.size).star F).star (WithinOwn p (w.heap.size + 1) (w.heap.size + 1 + 1) v rs lo hi))
      (((w.alloc (.cells #[.int .u64 0] 140)).alloc (.cells #[.pointer (some ⟨p, 0, none⟩)] 70)).alloc (.cells #[.int .i64 lo, .int .i64 hi] 138)) := by
    have h0 := ((HL.out.alloc (.cells #[.int .u64 0] 140)).alloc (.cells #[.pointer (some ⟨p, 0, none⟩)] 70)).alloc (.cells #[.int .i64 lo, .int .i64 hi] 138)
    simp only [World.size_alloc] at h0
    have h1 : Sat ((RunBx (w.heap.size + 1 + 1) lo hi).star ((PtrBx (w.heap.size + 1) p).star ((CntBx w.heap.size 0).star ((SetAt p v rs).star F)))) _ := h0
    unfold WithinOwn
    simp only [Pr.ex_star, Sat.ex0]
    exact ⟨0, h1.perm (by ac_rfl)⟩
  have HR : Stays w (((w.alloc (.cells #[.int .u64 0] 140)).alloc (.cells #[.pointer (some ⟨p, 0, none⟩)] 70)).alloc (.cells #[.int .i64 lo, .int .i64 hi] 138)) := (((Stays.refl w).alloc _).alloc _).alloc _
  obtain ⟨W0, hW0⟩ : ∃ W0, (((w.alloc (.cells #[.int .u64 0] 140)).alloc (.cells #[.pointer (some ⟨p, 0, none⟩)] 70)).alloc (.cells #[.int .i64 lo, .int .i64 hi] 138)) = W0 := ⟨_, rfl⟩
  rw [hW0] at HS HR ⊢
  clear hW0 HL
  obtain ⟨R, hR⟩ : ∃ R, w.heap.size = R := ⟨_, rfl⟩
  rw [hR] at HS ⊢
  clear hR
  have HSM := Lib.hid hs
  clear hs
  have HS := Lib.hid HS
  have HR := Lib.hid HR
  refine wp_rangeFunc_sl 9 (gf := 108) rfl (enters_of Try.func108 (by kernel_rfl) rfl) (within1 p (R + 1) (R + 1 + 1) v rs lo hi (by omega)) (fun _ => rfl)
    (fun _ => (SomeCnt R).star F) (fun _ _ => Pr.pure False) HS.out ?round ?done ?stop
  case round =>
    intro l' pre x W1 F1 _ hs
    obtain ⟨x1, x2⟩ := x
    have HS1 := Lib.hid hs
    clear hs
    simp only [encRun]
    gi_wp2
    have hsA : Sat ((RunBx W1.heap.size x1 x2).star ((((SomeCnt R).star F).star (WithinOwn p (R + 1) (R + 1 + 1) v rs lo hi)).star F1)) _ := HS1.out.alloc (.cells #[.int .i64 x1, .int .i64 x2] 138)
    refine ⟨(RunBx W1.heap.size x1 x2).star (((SomeCnt R).star F).star (WithinOwn p (R + 1) (R + 1 + 1) v rs lo hi)), (Stays.refl _).alloc _, hsA.perm (by ac_rfl), ?_⟩
    clear hsA HS1
    generalize W1.heap.size = B
    intro F2 W2 _ hs2
    simp only [Pr.ex_star, Pr.star_ex, Sat.ex0] at hs2
    obtain ⟨n, hs2⟩ := hs2
    have h1 : Sat ((CntBx R n).star ((RunBx B x1 x2).star (F.star ((WithinOwn p (R + 1) (R + 1 + 1) v rs lo hi).star F2)))) W2 := hs2.perm (by ac_rfl)
    have r1 : W2.cell? ⟨R, 0, none⟩ = some (.int .u64 n) := by rw [cell_of_heap h1.pts_heap]; rfl
    have r2 : W2.cell? ⟨B, 0, none⟩ = some (.int .i64 x1) := by rw [cell_of_heap h1.right.pts_heap]; rfl
    have r3 : W2.cell? ⟨B, 1, none⟩ = some (.int .i64 x2) := by rw [cell_of_heap h1.right.pts_heap]; rfl
    have r4 := frozen_of_heap h1.pts_heap 0
    have z1 := h1.lt
    have H1 := Lib.hid h1
    clear h1 hs2
    gi_wp2_with (refine ⟨trivial, ?_⟩; gi_at_call 102; refine (CallsIn.inRound _ (callsIn_wide.2 (with_any _ _ _ _))).mono ?_; rintro e w' ⟨⟨m, rfl⟩, rfl⟩)
    have h2 : Sat ((CntBx R m).star _) (W2.setCell ⟨R, 0, none⟩ (.int .u64 m)) := H1.out.setCell (i := 0) (.int .u64 m)
    have h3 := (h2.alloc (.cells #[.int .i64 x1, .int .i64 x2] 138)).right
    refine ⟨((Stays.refl _).setCell _ _).alloc _, ?_⟩
    simp only [Pr.ex_star, Sat.ex0]
    exact ⟨m, (h3.perm (Pr.left_comm _ _ _)).right.perm (by ac_rfl)⟩
  case stop =>
    intro D c pre W2 _ hst hs
    exact (Sat.pure.1 (hs.perm (Pr.star_assoc _ _ _))).1.elim
  case done =>
    intro D xs W2 _ hst hs
    simp only [Pr.ex_star, Sat.ex0] at hs
    obtain ⟨n, hs⟩ := hs
    have h1 : Sat ((RunBx (R + 1 + 1) lo hi).star ((PtrBx (R + 1) p).star ((SetAt p v rs).star ((Pr.pts D (.deferred (some []))).star ((CntBx R n).star F))))) W2 := hs.perm (by unfold WithinOwn; ac_rfl)
    have h2 := h1.right.right
    clear hs h1
    have h3 : Sat ((Pr.pts p (.cells #[v] 136)).star ((Row 138 2 v rs.length (runCells rs)).star ((Pr.pts D (.deferred (some []))).star ((CntBx R n).star F)))) W2 := h2.perm (by unfold SetAt; ac_rfl)
    have r1 : W2.cell? ⟨p, 0, none⟩ = some v := by rw [cell_of_heap h3.pts_heap]; rfl
    obtain ⟨a0, c0, rfl, _, _⟩ := Row.read h3.right
    have HI := Lib.hid (info_parts infoRun)
    have H3 := Lib.hid h3
    have HST := Lib.hid (HR.out.trans hst)
    clear h2 h3 hst HS HR
    go_wp2
    go_loopw [9, 29] (fun vb i wr => ∃ (k : Nat), k ≤ rs.length ∧ i = .int .i64 k ∧ Stays w wr ∧
      Sat ((Row 138 2 vb (remRuns (rs.take k) lo hi).length (runCells (remRuns (rs.take k) lo hi))).star ((SetAt p (.slice a0 rs.length c0) rs).star ((Pr.pts D (.deferred (some []))).star ((CntBx R n).star F)))) wr) (fun _ i _ => rs.length - (intOf i).toNat)
    case atStart =>
      refine ⟨0, Nat.zero_le _, rfl, HST.out, ?_⟩
      show Sat ((Row _ 2 (.slice none 0 0) 0 []).star _) _
      rw [Row.nil, Pr.emp_star]
      exact H3.out.perm (by unfold SetAt; ac_rfl)
    case round =>
      obtain ⟨k, hk, rfl, hst2, hinv⟩ := hrel
      by_cases hlt : k < rs.length
      · have hx := HSM.out _ (List.getElem_mem hlt)
        have hsn := remRuns_snoc rs lo hi k hlt
        have hlen := remRuns_len (rs.take k) lo hi
        have hlk : (rs.take k).length ≤ k := List.length_take_le _ _
        have hk1 := (runCells_at rs k hlt).1
        have hk2 := (runCells_at rs k hlt).2
        generalize remRuns (rs.take k) lo hi = L at *
        generalize rs[k] = x at *
        obtain ⟨x1, x2⟩ := x
        obtain ⟨hx1, hx2, hx3⟩ := hx
        dsimp only at hx1 hx2 hx3 hk1 hk2
        have hr : Sat ((Row 138 2 (.slice a0 rs.length c0) rs.length (runCells rs)).star ((Pr.pts p (.cells #[.slice a0 rs.length c0] 136)).star ((Row 138 2 u9 L.length (runCells L)).star ((Pr.pts D (.deferred (some []))).star ((CntBx R n).star F))))) wr := hinv.perm (by unfold SetAt; ac_rfl)
        obtain ⟨a1, c1, e1, _, hrow⟩ := Row.read hr
        cases e1
        obtain ⟨b, rfl, hc⟩ := hrow (by omega)
        have q1 := (hc (k * 2) (by omega)).1.trans hk1
        have q2 := (hc (k * 2 + 1) (by omega)).1.trans hk2
        have HSN := Lib.hid hsn
        have HV := Lib.hid hinv
        clear hsn hinv hr hc hrow hk1 hk2
        obtain ⟨i0, hi', hz0, hz1, hz2⟩ := HI.out
        have mk : ∀ (y1 y2 : Int), Sat ((Row 138 2 u9 L.length (runCells L)).star ((Pr.pts wr.heap.size (.cells #[.int .i64 x1, .int .i64 x2] 138)).star ((SetAt p (.slice (some ⟨b, 0, none⟩) rs.length c0) rs).star ((Pr.pts D (.deferred (some []))).star ((CntBx R n).star F)))))
            ((wr.alloc (.cells #[.int .i64 x1, .int .i64 x2] 138)).alloc (.cells #[.int .i64 y1, .int .i64 y2] 138)) ∧
            ∀ j u, [Value.int .i64 y1, .int .i64 y2][j]? = some u → ((wr.alloc (.cells #[.int .i64 x1, .int .i64 x2] 138)).alloc (.cells #[.int .i64 y1, .int .i64 y2] 138)).cell? ((⟨wr.heap.size + 1, 0, none⟩ : Addr).add j) = some u := by
          intro y1 y2
          refine ⟨((HV.out.alloc (.cells #[.int .i64 x1, .int .i64 x2] 138)).alloc (.cells #[.int .i64 y1, .int .i64 y2] 138)).right.perm (Pr.left_comm _ _ _), ?_⟩
          have := cell_two_new (wr.alloc (.cells #[.int .i64 x1, .int .i64 x2] 138)) (.int .i64 y1) (.int .i64 y2) 138
          rwa [World.size_alloc] at this
        have MK := Lib.hid mk
        have hll : L.length ≤ 131072 := by omega
        clear mk HI
        have out : ∀ (vv : Value) (ys : List (Int × Int)) (ws : World) (m : Nat) (cs : List Value), remOne lo hi (x1, x2) = ys → L.length + ys.length = m → runCells L ++ runCells ys = cs →
            Sat ((Row 138 2 vv m cs).star ((Pr.pts wr.heap.size (.cells #[.int .i64 x1, .int .i64 x2] 138)).star ((SetAt p (.slice (some ⟨b, 0, none⟩) rs.length c0) rs).star ((Pr.pts D (.deferred (some []))).star ((CntBx R n).star F))))) ws →
            Sat ((Row 138 2 vv (remRuns (rs.take (k + 1)) lo hi).length (runCells (remRuns (rs.take (k + 1)) lo hi))).star ((SetAt p (.slice (some ⟨b, 0, none⟩) rs.length c0) rs).star ((Pr.pts D (.deferred (some []))).star ((CntBx R n).star F)))) ws := by
          intro vv ys ws m cs e1 e2 e3 h
          rw [HSN.out, e1, runCells_append, List.length_append, e2, e3]
          exact (h.perm (Pr.left_comm _ _ _)).right
        have OUT := Lib.hid out
        clear out HSN
        by_cases c1 : x2 < lo
        · have e : remOne lo hi (x1, x2) = [(x1, x2)] := by unfold remOne; rw [if_pos (Or.inl c1)]
          have HE := Lib.hid e
          clear e
          go_wp2_with (at_builtin; refine wpList_append_sl rfl _ _ _ rfl 138 i0 (.agg #[.int .i64 0, .int .i64 0]) 2 16 Try.underlying134 hi' hz0 hz1 hz2 rfl _ _ _ rfl (MK.out (x1) (x2)).1 ⟨wr.heap.size + 1, 0, none⟩ 1 1 [.int .i64 (x1), .int .i64 (x2)] rfl rfl (MK.out (x1) (x2)).2 (one2 _ _) (by simp only [maxLen]; omega) (by omega) ?_; intro v' w1 hsat hgr _; have HSAT := Lib.hid hsat; have kx1 : w1.cell? ⟨wr.heap.size, 0, none⟩ = some (.int .i64 x1) := (by rw [cell_of_heap (HSAT.out.right.pts_heap)]; rfl); have kx2 : w1.cell? ⟨wr.heap.size, 1, none⟩ = some (.int .i64 x2) := (by rw [cell_of_heap (HSAT.out.right.pts_heap)]; rfl); clear hsat MK)
          go_roundw
          case rel => exact ⟨k + 1, by omega, by go_num, (((hst2.alloc _).alloc _).of_grown hgr), OUT.out _ _ _ _ _ HE.out rfl rfl HSAT.out⟩
          case measure => simp [intOf]; omega
        · by_cases c2 : hi < x1
          · have e : remOne lo hi (x1, x2) = [(x1, x2)] := by unfold remOne; rw [if_pos (Or.inr c2)]
            have HE := Lib.hid e
            clear e
            go_wp2_with (at_builtin; refine wpList_append_sl rfl _ _ _ rfl 138 i0 (.agg #[.int .i64 0, .int .i64 0]) 2 16 Try.underlying134 hi' hz0 hz1 hz2 rfl _ _ _ rfl (MK.out (x1) (x2)).1 ⟨wr.heap.size + 1, 0, none⟩ 1 1 [.int .i64 (x1), .int .i64 (x2)] rfl rfl (MK.out (x1) (x2)).2 (one2 _ _) (by simp only [maxLen]; omega) (by omega) ?_; intro v' w1 hsat hgr _; have HSAT := Lib.hid hsat; have kx1 : w1.cell? ⟨wr.heap.size, 0, none⟩ = some (.int .i64 x1) := (by rw [cell_of_heap (HSAT.out.right.pts_heap)]; rfl); have kx2 : w1.cell? ⟨wr.heap.size, 1, none⟩ = some (.int .i64 x2) := (by rw [cell_of_heap (HSAT.out.right.pts_heap)]; rfl); clear hsat MK)
            go_roundw
            case rel => exact ⟨k + 1, by omega, by go_num, (((hst2.alloc _).alloc _).of_grown hgr), OUT.out _ _ _ _ _ HE.out rfl rfl HSAT.out⟩
            case measure => simp [intOf]; omega
          · have e0 : remOne lo hi (x1, x2) = (if x1 < lo then [(x1, lo - 1)] else []) ++ (if hi < x2 then [(hi + 1, x2)] else []) := by unfold remOne; rw [if_neg (by dsimp only; omega)]
            by_cases c3 : x1 < lo
            · by_cases c4 : hi < x2
              · have e : remOne lo hi (x1, x2) = [(x1, lo - 1), (hi + 1, x2)] := by rw [e0, if_pos c3, if_pos c4]; rfl
                have HE := Lib.hid e
                clear e e0
                go_wp2_with (first | (at_builtin; refine wpList_append_sl rfl _ _ _ rfl 138 i0 (.agg #[.int .i64 0, .int .i64 0]) 2 16 Try.underlying134 hi' hz0 hz1 hz2 rfl _ _ _ rfl (MK.out (x1) (lo - 1)).1 ⟨wr.heap.size + 1, 0, none⟩ 1 1 [.int .i64 (x1), .int .i64 (lo - 1)] rfl rfl (MK.out (x1) (lo - 1)).2 (one2 _ _) (by simp only [maxLen]; omega) (by omega) ?_; intro v' w1 hsat hgr _; have HSAT := Lib.hid hsat; have kx1 : w1.cell? ⟨wr.heap.size, 0, none⟩ = some (.int .i64 x1) := (by rw [cell_of_heap (HSAT.out.right.pts_heap)]; rfl); have kx2 : w1.cell? ⟨wr.heap.size, 1, none⟩ = some (.int .i64 x2) := (by rw [cell_of_heap (HSAT.out.right.pts_heap)]; rfl); clear hsat MK) | (at_builtin; refine wpList_append_sl rfl _ _ _ rfl 138 i0 (.agg #[.int .i64 0, .int .i64 0]) 2 16 Try.underlying134 hi' hz0 hz1 hz2 rfl _ _ _ rfl (HSAT.out.alloc _).right ⟨w1.heap.size, 0, none⟩ 1 1 [.int .i64 (hi + 1), .int .i64 x2] rfl rfl (cell_two_new _ _ _ _) (one2 _ _) (by simp only [maxLen]; omega) (by omega) ?_; intro v2 w2 hsat2 hgr2 _; have HSAT2 := Lib.hid hsat2; clear hsat2))
                go_roundw
                case rel => exact ⟨k + 1, by omega, by go_num, (((((hst2.alloc _).alloc _).of_grown hgr).alloc _).of_grown hgr2), OUT.out _ _ _ _ _ HE.out (by simp) (by rw [show [(x1, lo - 1), (hi + 1, x2)] = [(x1, lo - 1)] ++ [(hi + 1, x2)] from rfl, runCells_append, ← List.append_assoc]; rfl) HSAT2.out⟩
                case measure => simp [intOf]; omega
              · have e : remOne lo hi (x1, x2) = [(x1, lo - 1)] := by rw [e0, if_pos c3, if_neg c4]; rfl
                have HE := Lib.hid e
                clear e e0
                go_wp2_with (at_builtin; refine wpList_append_sl rfl _ _ _ rfl 138 i0 (.agg #[.int .i64 0, .int .i64 0]) 2 16 Try.underlying134 hi' hz0 hz1 hz2 rfl _ _ _ rfl (MK.out (x1) (lo - 1)).1 ⟨wr.heap.size + 1, 0, none⟩ 1 1 [.int .i64 (x1), .int .i64 (lo - 1)] rfl rfl (MK.out (x1) (lo - 1)).2 (one2 _ _) (by simp only [maxLen]; omega) (by omega) ?_; intro v' w1 hsat hgr _; have HSAT := Lib.hid hsat; have kx1 : w1.cell? ⟨wr.heap.size, 0, none⟩ = some (.int .i64 x1) := (by rw [cell_of_heap (HSAT.out.right.pts_heap)]; rfl); have kx2 : w1.cell? ⟨wr.heap.size, 1, none⟩ = some (.int .i64 x2) := (by rw [cell_of_heap (HSAT.out.right.pts_heap)]; rfl); clear hsat MK)
                go_roundw
                case rel => exact ⟨k + 1, by omega, by go_num, (((hst2.alloc _).alloc _).of_grown hgr), OUT.out _ _ _ _ _ HE.out rfl rfl HSAT.out⟩
                case measure => simp [intOf]; omega
            · by_cases c4 : hi < x2
              · have e : remOne lo hi (x1, x2) = [(hi + 1, x2)] := by rw [e0, if_neg c3, if_pos c4]; rfl
                have HE := Lib.hid e
                clear e e0
                go_wp2_with (at_builtin; refine wpList_append_sl rfl _ _ _ rfl 138 i0 (.agg #[.int .i64 0, .int .i64 0]) 2 16 Try.underlying134 hi' hz0 hz1 hz2 rfl _ _ _ rfl (MK.out (hi + 1) (x2)).1 ⟨wr.heap.size + 1, 0, none⟩ 1 1 [.int .i64 (hi + 1), .int .i64 (x2)] rfl rfl (MK.out (hi + 1) (x2)).2 (one2 _ _) (by simp only [maxLen]; omega) (by omega) ?_; intro v' w1 hsat hgr _; have HSAT := Lib.hid hsat; have kx1 : w1.cell? ⟨wr.heap.size, 0, none⟩ = some (.int .i64 x1) := (by rw [cell_of_heap (HSAT.out.right.pts_heap)]; rfl); have kx2 : w1.cell? ⟨wr.heap.size, 1, none⟩ = some (.int .i64 x2) := (by rw [cell_of_heap (HSAT.out.right.pts_heap)]; rfl); clear hsat MK)
                go_roundw
                case rel => exact ⟨k + 1, by omega, by go_num, (((hst2.alloc _).alloc _).of_grown hgr), OUT.out _ _ _ _ _ HE.out rfl rfl HSAT.out⟩
                case measure => simp [intOf]; omega
              · have e : remOne lo hi (x1, x2) = [] := by rw [e0, if_neg c3, if_neg c4]; rfl
                have HE := Lib.hid e
                clear e e0
                go_wp2
                go_roundw
                case rel => exact ⟨k + 1, by omega, by go_num, hst2.alloc _, OUT.out _ _ _ _ _ HE.out rfl (by simp [runCells]) ((HV.out.alloc _).perm (Pr.left_comm _ _ _))⟩
                case measure => simp [intOf]; omega
      · have hkl : k = rs.length := by omega
        subst hkl
        rw [List.take_length] at hinv
        have hq : Sat ((Pr.pts p (.cells #[.slice a0 rs.length c0] 136)).star ((CntBx R n).star ((Pr.pts D (.deferred (some []))).star ((Row 138 2 u9 (remRuns rs lo hi).length (runCells (remRuns rs lo hi))).star (F.star (Row 138 2 (.slice a0 rs.length c0) rs.length (runCells rs))))))) wr := hinv.perm (by unfold SetAt; ac_rfl)
        obtain ⟨av, cv, e1, _, _⟩ := Row.read hq.right.right.right
        have r3 : wr.cell? ⟨p, 0, none⟩ = some (.slice a0 rs.length c0) := by rw [cell_of_heap hq.pts_heap]; rfl
        have r4 := frozen_of_heap hq.pts_heap 0
        have r5 : wr.cell? ⟨R, 0, none⟩ = some (.int .u64 n) := by rw [cell_of_heap hq.right.pts_heap]; rfl
        have hpr : p ≠ R := hq.pts_ne
        subst e1
        have HQ : Hid (Sat ((Pr.pts p (.cells #[.slice av (remRuns rs lo hi).length cv] 136)).star _) _) := hq.setCell (i := 0) (.slice av (remRuns rs lo hi).length cv)
        clear hq hinv
        generalize hnn : (remRuns rs lo hi).length = nn at *
        have HNN := Lib.hid hnn
        clear hnn
        go_wp2
        have q1 : Sat ((Pr.pts D (.deferred (some []))).star (((SetAt p (.slice av nn cv) (remRuns rs lo hi)).star F).star ((CntBx R n).star (Row 138 2 (.slice a0 rs.length c0) rs.length (runCells rs))))) (wr.setCell ⟨p, 0, none⟩ (.slice av nn cv)) := HQ.out.perm (by unfold SetAt; rw [HNN.out]; ac_rfl)
        refine marks_ret1 (D := D) rfl q1.pts_heap ⟨_, results_tmp rfl _ _ _, _, .slice av nn cv, rfl, (q1.putObj (.deferred none)).right.left, ?_⟩
        exact (hst2.setCell _ _).putObj _ _
end Go.Proofs.Ytbobcmimkonnoaa.runs5
