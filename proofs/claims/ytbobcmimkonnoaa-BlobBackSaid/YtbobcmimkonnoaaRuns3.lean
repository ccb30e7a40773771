/- The library's Grow and Concat at rows of runs. By walks; the conditions stand as hypotheses. -/
import Derived.Test.YtbobcmimkonnoaaRead
import Derived.Test.YtbobcmimkonnoaaRuns2
namespace Go.Proofs.Ytbobcmimkonnoaa.runs3
open Go.ChangeShapes Go.WideShapes Go.ChangeAt Go.RowKit Go.Sl Go.Proofs.Ytbobcmimkonnoaa.runs1

theorem infoRun : (Try.prog.info? 138).map (fun i => (i.zero, i.size, i.bytes)) = some (some (.agg #[.int .i64 0, .int .i64 0]), 2, 16) := by kernel_rfl

theorem zeros_run (n : Nat) (h0 : 0 < n) (hn : n ≤ 4294967296) (wx : World) : ∃ (cap : Nat) (cells : List Value), n ≤ cap ∧ cap ≤ maxLen ∧ cells.length = cap * 2 ∧
    (Builtin.append_ #[134, 3] 134 #[.slice none 0 0, .int .i64 n]).run Try.prog wx = .ok (.slice (some ⟨wx.heap.size, 0, none⟩) n cap) (wx.drew.alloc (.cells cells.toArray 138)) := by
  obtain ⟨i0, hi, hz0, hz1, hz2⟩ := info_parts infoRun
  have hr := Lib.run_append_nil_zeros (P := Try.prog) wx 134 3 134 138 i0 (.agg #[.int .i64 0, .int .i64 0]) .i64 .i64 Try.underlying134 Try.underlying3 hi hz0 n h0 (by omega) (by omega) (by rw [hz2]; omega)
  have hg := grownCap_ge wx n 0 138
  refine ⟨grownCap wx n 0 138, (Builtin.zeroCells #[.int .i64 0, .int .i64 0] n ++ Builtin.zeroCells #[.int .i64 0, .int .i64 0] (grownCap wx n 0 138 - n)).toList, hg, grownCap_le_maxLen wx n 0 _ (by simp only [maxLen]; omega), ?_, hr⟩
  rw [Array.length_toList, Array.size_append, size_zeros, size_zeros]
  show n * 2 + _ * 2 = _
  omega

theorem grow_after {cap : Nat} {cells : List Value} {F : Pr} {w : World} (hF : Sat F w) (h1 : cap ≤ maxLen) (h2 : cells.length = cap * 2) :
    Sat ((Row 138 2 (.slice (some ⟨w.heap.size, 0, none⟩) 0 cap) 0 []).star F) (w.drew.alloc (.cells cells.toArray 138)) :=
  Row.mk' (sp := cells) (by simp) (by simpa using h2) (Nat.zero_le _) h1 (by simpa using (hF.drew).alloc (.cells cells.toArray 138))

set_option maxRecDepth 100000 in
set_option maxHeartbeats 400000 in
theorem grow_nil (n : Nat) (hn : n ≤ 4294967296) (F : Pr) (w : World) (hF : Sat F w) :
    Calls Try.prog 107 #[.slice none 0 0, .int .i64 n] w fun e w' =>
      ∃ v, e = .returned v ∧ Sat ((Row 138 2 v 0 []).star F) w' ∧ Stays w w' := by
  by_cases h0 : 0 < n
  · obtain ⟨cap, cells, h1, h2, h3, h4⟩ := zeros_run n h0 hn w
    have HR := Lib.hid h4
    have HF := Lib.hid (grow_after hF h2 h3)
    clear h4 hF h3
    go_enter Try.func107, Try.ntmps107
    go_wp2_with (at_builtin; refine Lib.wpList_append_run _ rfl _ _ _ _ rfl _ _ rfl rfl _ _ HR.out ?_)
    go_ret
    exact ⟨_, rfl, HF.out, ((Stays.refl w).drew).alloc _⟩
  · have : n = 0 := by omega
    subst this
    go_enter Try.func107, Try.ntmps107
    go_wp2
    go_ret
    exact ⟨.slice none 0 0, rfl, by rw [Row.nil, Pr.emp_star]; exact hF, Stays.refl w⟩

def total (ps : List (Value × Nat × List Value)) : Nat := (ps.map fun x => x.2.1).sum
def flat (ps : List (Value × Nat × List Value)) : List Value := ps.flatMap fun x => x.2.2
theorem total_snoc (ps : List (Value × Nat × List Value)) (k : Nat) (h : k < ps.length) : total (ps.take (k + 1)) = total (ps.take k) + ps[k].2.1 := by
  unfold total; rw [List.take_succ_eq_append_getElem h, List.map_append, List.sum_append]; simp
theorem flat_snoc (ps : List (Value × Nat × List Value)) (k : Nat) (h : k < ps.length) : flat (ps.take (k + 1)) = flat (ps.take k) ++ ps[k].2.2 := by
  unfold flat; rw [List.take_succ_eq_append_getElem h, List.flatMap_append]; simp
theorem total_le (ps : List (Value × Nat × List Value)) (k : Nat) : total (ps.take k) ≤ total ps := by
  unfold total
  have := List.take_append_drop k ps
  have h2 : (ps.map fun x => x.2.1).sum = ((ps.take k).map fun x => x.2.1).sum + ((ps.drop k).map fun x => x.2.1).sum := by
    rw [← List.sum_append, ← List.map_append, this]
  omega

set_option maxRecDepth 100000 in
set_option maxHeartbeats 1000000 in
theorem concat_any (h : Hp) (sv : Value) (ps : List (Value × Nat × List Value)) (hs : RowIn h 1 sv ps.length (ps.map fun x => x.1))
    (hps : ∀ x ∈ ps, RowIn h 2 x.1 x.2.1 x.2.2 ∧ ∀ u ∈ x.2.2, u.oneCell' = true) (hb : total ps ≤ 4294967296) (hlen : ps.length ≤ 65536) (F : Pr) (w : World) (hF : Sat ((Pr.own h).star F) w) :
    Calls Try.prog 103 #[sv] w fun e w' =>
      ∃ v, e = .returned v ∧ Sat ((Row 138 2 v (total ps) (flat ps)).star ((Pr.own h).star F)) w' ∧ Stays w w' := by
  obtain ⟨_, a, c, rfl, _, _, hcell⟩ := hs
  have cells : ∀ (k : Nat) (hk : k < ps.length) (wx : World), h.le wx → ∃ b off a' n' c', a = some ⟨b, off, none⟩ ∧ ps[k].1 = .slice a' n' c' ∧ n' = ps[k].2.1 ∧ wx.cell? ⟨b, off + k, none⟩ = some (.slice a' n' c') := by
    intro k hk wx hle
    obtain ⟨b, off, e1, hc⟩ := hcell (by omega)
    obtain ⟨_, a', c', e2, _⟩ := (hps _ (List.getElem_mem hk)).1
    refine ⟨b, off, a', _, c', e1, e2, rfl, ?_⟩
    refine Hp.cell_le hle ((hc k (by omega)).trans ?_)
    simp [hk, e2]
  have HC := Lib.hid cells
  have HL := Lib.hid hF
  have HPS := Lib.hid hps
  have hle := hF.own
  clear cells hF hcell hps
  go_enter Try.func103, Try.ntmps103
  go_wp2
  go_loop [3, 11] (fun s i => ∃ k : Nat, k ≤ ps.length ∧ i = .int .i64 k ∧ s = .int .i64 (total (ps.take k) : Nat)) (fun _ i => ps.length - (intOf i).toNat)
  case atStart => exact ⟨0, Nat.zero_le _, rfl, rfl⟩
  case round =>
    obtain ⟨k, hk, rfl, rfl⟩ := hrel
    have ht := total_le ps k
    by_cases hlt : k < ps.length
    · obtain ⟨b, off, a', n', c', rfl, e2, e3, e4⟩ := HC.out k hlt w hle
      have hs1 := total_snoc ps k hlt
      have ht1 := total_le ps (k + 1)
      rw [← e3] at hs1
      have HS1 := Lib.hid hs1
      have hn' : total (ps.take k) + n' ≤ 4294967296 := by omega
      clear hs1 ht1 e2 e3
      generalize total (ps.take k) = tk at *
      go_wp2
      go_round
      case rel => exact ⟨k + 1, by omega, by go_num, by rw [HS1.out]; go_num⟩
      case measure => simp [intOf]; omega
    · have hkl : k = ps.length := by omega
      subst hkl
      rw [List.take_length] at *
      go_wp2_with (go_at_call 107; refine (grow_nil _ hb _ _ HL.out).mono ?_; rintro e w' ⟨v0, rfl, hg, hst⟩)
      have HG := Lib.hid hg
      clear hg
      go_loopw [6, 27] (fun v i wr => ∃ k : Nat, k ≤ ps.length ∧ i = .int .i64 k ∧ Stays w wr ∧ Sat ((Row 138 2 v (total (ps.take k)) (flat (ps.take k))).star ((Pr.own h).star F)) wr) (fun _ i _ => ps.length - (intOf i).toNat)
      case atStart => exact ⟨0, Nat.zero_le _, rfl, hst, HG.out⟩
      case round =>
        obtain ⟨k, hk, rfl, hst2, hrow⟩ := hrel
        by_cases hlt : k < ps.length
        · have hle2 := hrow.right.own
          obtain ⟨b, off, a', n', c', rfl, e2, e3, e4⟩ := HC.out k hlt _ hle2
          have hx := HPS.out _ (List.getElem_mem hlt)
          rw [e2, ← e3] at hx
          have hs1 := total_snoc ps k hlt
          have hs2 := flat_snoc ps k hlt
          have ht1 := total_le ps (k + 1)
          rw [← e3] at hs1
          have HS1 := Lib.hid hs1
          have HS2 := Lib.hid hs2
          have hn' : total (ps.take k) + n' ≤ 4294967296 := by omega
          have HX := Lib.hid hx
          have HROW := Lib.hid hrow
          have HLE := Lib.hid hle2
          have HI := Lib.hid (info_parts infoRun)
          clear hs1 hs2 ht1 e2 e3 hx hrow hle2 hst hle
          generalize total (ps.take k) = tk at *
          generalize ps[k].2.2 = news at *
          obtain ⟨i0, hi, hz0, hz1, hz2⟩ := HI.out
          go_wp2_with (at_builtin; refine wpList_append_row rfl _ _ _ rfl 138 i0 (.agg #[.int .i64 0, .int .i64 0]) 2 16 Try.underlying134 hi hz0 hz1 hz2 rfl _ _ _ rfl HROW.out h HLE.out _ _ _ rfl HX.out.1 HX.out.2 (by simp only [maxLen]; omega) (by omega) ?_; intro v' w1 hsat hgr _; have HSAT := Lib.hid hsat; clear hsat)
          go_roundw
          case rel => exact ⟨k + 1, by omega, by go_num, hst2.of_grown hgr, by rw [HS1.out, HS2.out]; exact HSAT.out⟩
          case measure => simp [intOf]; omega
        · have hkl : k = ps.length := by omega
          subst hkl
          rw [List.take_length] at hrow
          have HROW := Lib.hid hrow
          clear hrow
          go_wp2
          go_ret
          exact ⟨_, rfl, HROW.out, hst2⟩
end Go.Proofs.Ytbobcmimkonnoaa.runs3
