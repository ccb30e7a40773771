/- The vault: Undo of pages made; the conditions stand as hypotheses. -/
import Derived.Test.YtbobcmimkonnoaaVault7
namespace Go.Cop
/-- Free pages bear nothing. -/
def Bare (s : VaultS) : Prop := ∀ n, s.pool.state n = 1 → s.on n = none
theorem Bare.make {s : VaultS} (h : Bare s) {n : Int} (hn : s.pool.state n = 1) (h0 : s.pool.count n = 0) (g : PageV) : Bare (s.make n g) := by
  intro m hm
  have hs := did_state (s := s.pool) (b := 1) (m := m) (there_of_state (by omega : s.pool.state n ≠ 0))
  have hm' : (s.pool.did n 1).state m = 1 := hm
  rw [hm'] at hs
  by_cases hmn : m = n
  · rw [if_pos hmn, h0] at hs
    unfold stateOf at hs
    simp at hs
    split at hs <;> omega
  · rw [if_neg hmn] at hs
    show (if m = n then some g else s.on m) = none
    rw [if_neg hmn]
    exact h m hs.symm
end Go.Cop
namespace Go.Proofs.Ytbobcmimkonnoaa.vault8
open Go.ChangeShapes Go.WideShapes Go.ChangeAt Go.RowKit Go.Sl Go.Cop Go.Proofs.Ytbobcmimkonnoaa.pool1 Go.Proofs.Ytbobcmimkonnoaa.pool2 Go.Proofs.Ytbobcmimkonnoaa.pool5 Go.Proofs.Ytbobcmimkonnoaa.pool9 Go.Proofs.Ytbobcmimkonnoaa.clone Go.Proofs.Ytbobcmimkonnoaa.page Go.Proofs.Ytbobcmimkonnoaa.vault1 Go.Proofs.Ytbobcmimkonnoaa.vault2 Go.Proofs.Ytbobcmimkonnoaa.vault3 Go.Proofs.Ytbobcmimkonnoaa.vault4 Go.Proofs.Ytbobcmimkonnoaa.vault5 Go.Proofs.Ytbobcmimkonnoaa.vault6 Go.Proofs.Ytbobcmimkonnoaa.back1 Go.Proofs.Ytbobcmimkonnoaa.back2 Go.Proofs.Ytbobcmimkonnoaa.blob1

theorem row_cutk {T k n c m : Nat} {a : Option Addr} {xs : List Value} {F : Pr} {w : World} (h : Sat ((Row T k (.slice a n c) n xs).star F) w) (hm : m ≤ n) : Sat ((Row T k (.slice a m c) m (xs.take (m * k))).star F) w := by
  refine h.mono fun x hx => ?_
  have hmk : m * k ≤ n * k := Nat.mul_le_mul_right _ hm
  obtain ⟨hl, (⟨e, hn, hx⟩ | ⟨b, cap, sp, e, h1, h2, h3, h4⟩)⟩ := hx
  · cases e
    have : m = 0 := by omega
    subst this
    exact ⟨by simp, .inl ⟨rfl, rfl, hx⟩⟩
  · cases e
    refine ⟨by rw [List.length_take]; omega, .inr ⟨b, c, xs.drop (m * k) ++ sp, rfl, by rw [List.length_take, List.length_append, List.length_drop]; omega, by omega, h3, ?_⟩⟩
    rw [← List.append_assoc, List.take_append_drop]
    exact h4
theorem actCells_snoc (l : List (Int × Value)) (x : Int × Value) : actCells (l ++ [x]) = actCells l ++ [.int .i64 x.1, x.2] := by
  unfold actCells; rw [List.flatMap_append]; rfl
theorem actCells_len (l : List (Int × Value)) : (actCells l).length = l.length * 2 := by
  induction l with
  | nil => rfl
  | cons a l ih => simp only [actCells, List.flatMap_cons, List.length_append, List.length_cons] at ih ⊢; simp at ih ⊢; omega

/-- The last act taken off. -/
theorem acts_unsnoc {h : Hp} {axs : List (Int × Value)} {acts : List ActV} {a : ActV} (ha : ActsIn2 h axs (acts ++ [a])) : ∃ axs' x, axs = axs' ++ [x] ∧ ActsIn2 h axs' acts ∧ ActRel h x a := by
  have hl := ha.1
  rw [List.length_append] at hl
  have hne : axs ≠ [] := fun e => by rw [e] at hl; simp at hl
  obtain ⟨axs', x, rfl⟩ : ∃ axs' x, axs = axs' ++ [x] := ⟨axs.dropLast, axs.getLast hne, (List.dropLast_concat_getLast hne).symm⟩
  have hl2 : axs'.length = acts.length := by simpa using hl
  refine ⟨axs', x, rfl, ⟨hl2, fun i h1 h2 => ?_⟩, ?_⟩
  · have := ha.2 i (by simp; omega) (by simp; omega)
    rw [List.getElem_append_left h1, List.getElem_append_left h2] at this
    exact this
  · have := ha.2 acts.length (by simp; omega) (by simp)
    rw [List.getElem_append_right (by omega), List.getElem_append_right (Nat.le_refl _)] at this
    simpa [hl2] using this

theorem steps_acts {s0 s : VaultS} (h : Go.Cop.Steps s0 s) : s.floor = s0.floor ∧ s0.acts.length ≤ s.acts.length := by
  induction h with
  | refl => exact ⟨rfl, Nat.le_refl _⟩
  | step n g h hn h0 ih =>
    refine ⟨ih.1, Nat.le_trans ih.2 ?_⟩
    show _ ≤ (_ ++ [_]).length
    rw [List.length_append]
    exact Nat.le_add_right _ _
theorem steps_bare {s0 s : VaultS} (h : Go.Cop.Steps s0 s) (hb : Bare s0) : Bare s := by
  induction h with
  | refl => exact hb
  | step n g h hn h0 ih => exact ih.make hn h0 g

set_option maxRecDepth 100000 in
set_option maxHeartbeats 4000000 in
theorem vundo_A (v : Nat) (s0 s : VaultS) (hst : Go.Cop.Steps s0 s) (hb : Bare s0) (F : Pr) (w : World) (hF : Sat ((VaultA v s).star F) w) :
    Calls Try.prog 25 #[.pointer (some ⟨v, 0, none⟩), .int .i64 (s0.floor + s0.acts.length)] w fun e w' =>
      e = .returned (.bool true) ∧ Sat ((VaultA v s0).star F) w' ∧ Stays w w' := by
  obtain ⟨okp, b1, b2⟩ := vault_ok hF
  obtain ⟨e1, e2⟩ : s.floor = s0.floor ∧ s0.acts.length ≤ s.acts.length := steps_acts hst
  have q3 : w.cell? ⟨v, 3, none⟩ = some (.int .i64 s.floor) := by
    obtain ⟨x, ok, h1⟩ := vaultA_iff.1 hF
    have h2 : Sat ((Pr.pts v (.cells #[.pointer (some ⟨x.p, 0, none⟩), .map (some x.mb), x.av, .int .i64 s.floor] 43)).star
      ((((MapA Try.prog 3 x.mb x.f).star ((PoolA x.p s.pool).star ((Row 94 2 x.av s.acts.length (actCells x.axs)).star (Pr.own x.h))))).star F)) w := h1.perm (by unfold VaultAt; ac_rfl)
    rw [cell_of_heap h2.pts_heap]; rfl
  have M := Lib.hid (vmark_A v s F w hF)
  have HF := Lib.hid hF
  have HS := Lib.hid hst
  have HE := Lib.hid e1
  rw [e1] at q3 M b1 b2
  clear hF hst e1
  have d1 : decide (s0.floor + (s0.acts.length : Int) < s0.floor) = false := by rw [decide_eq_false_iff_not]; omega
  have d2 : ¬ s.acts.length < s0.acts.length := by omega
  go_enter Try.func25, Try.ntmps25
  go_wp2_with fail
  refine M.out.mono ?_
  rintro e w1 ⟨rfl, ho⟩
  have h1 := HF.out.only ho
  have H1 := Lib.hid h1
  have HO := Lib.hid ho
  clear h1 ho M HF q3
  go_wp2
  go_loopw [5] (fun _ wr => ∃ s1 : VaultS, Go.Cop.Steps s0 s1 ∧ Stays w wr ∧ Sat ((VaultA v s1).star F) wr) (fun _ wr => match wr.cell? ⟨v, 2, none⟩ with | some (.slice _ n _) => n | _ => 0)
  case atStart => exact ⟨s, HS.out, HO.out.st, H1.out⟩
  case round =>
    obtain ⟨s1, hs1, hst, hinv⟩ := hrel
    cases hs1 with
    | refl =>
      have M := Lib.hid (vmark_A v s0 F wr hinv)
      have HINV := Lib.hid hinv
      clear hinv
      go_wp2_with fail
      refine M.out.mono ?_
      rintro e w2 ⟨rfl, ho⟩
      have HR := Lib.hid (And.intro (HINV.out.only ho) (hst.trans ho.st))
      clear ho
      go_wp2
      go_ret
      exact ⟨rfl, HR.out.1, HR.out.2⟩
    | @step t n g hs1 hn h0 =>
      have M := vmark_A v (t.make n g) F wr hinv
      obtain ⟨okp1, f1, f2⟩ := vault_ok hinv
      obtain ⟨t1, t2⟩ := steps_acts hs1
      have hbare := steps_bare hs1 hb n hn
      have eL : (t.make n g).acts.length = t.acts.length + 1 := by
        show (t.acts ++ [_]).length = _
        rw [List.length_append]; rfl
      have eF : (t.make n g).floor = t.floor := rfl
      rw [eL, eF] at M f2
      rw [eF] at f1
      rw [show t.floor + ((t.acts.length + 1 : Nat) : Int) = s0.floor + (t.acts.length : Int) + 1 by omega] at M
      obtain ⟨x, ok, hx⟩ := vaultA_iff.1 hinv
      obtain ⟨axs', ax, eax, ha1, ha2⟩ := acts_unsnoc ok.acts
      obtain ⟨em, xs, hrow, hwas⟩ := ha2
      have hx2 : Sat ((Row 94 2 x.av (t.make n g).acts.length (actCells x.axs)).star ((Pr.pts v (.cells #[.pointer (some ⟨x.p, 0, none⟩), .map (some x.mb), x.av, .int .i64 (t.make n g).floor] 43)).star
        ((((MapA Try.prog 3 x.mb x.f).star ((PoolA x.p (t.make n g).pool).star (Pr.own x.h)))).star F))) wr := hx.perm (by unfold VaultAt; ac_rfl)
      rw [eL] at hx2
      obtain ⟨aa, ca, ea, hlen, hcells⟩ := Row.read hx2
      obtain ⟨b, eb, hc⟩ := hcells (by omega)
      subst eb
      have hal : axs'.length = t.acts.length := ha1.1
      have hac : (actCells axs').length = t.acts.length * 2 := by rw [actCells_len, hal]
      have k0 := (hc (t.acts.length * 2) (by omega)).1
      have k1 := (hc (t.acts.length * 2 + 1) (by omega)).1
      rw [eax, actCells_snoc, List.getElem?_append_right (by omega), hac] at k0 k1
      rw [show t.acts.length * 2 - t.acts.length * 2 = 0 by omega] at k0
      rw [show t.acts.length * 2 + 1 - t.acts.length * 2 = 1 by omega] at k1
      rw [em] at k0
      have q2 : wr.cell? ⟨v, 2, none⟩ = some x.av := by rw [cell_of_heap hx2.right.pts_heap]; rfl
      rw [ea] at q2
      have hx1 : xs.length = 1 := hwas.1
      obtain ⟨X, rfl⟩ : ∃ X, xs = [X] := by
        cases xs with
        | nil => simp at hx1
        | cons X l => cases l with
          | nil => exact ⟨X, rfl⟩
          | cons _ _ => simp at hx1
      obtain ⟨w1', w2', w3', w4'⟩ := hwas.2 0 (by simp) (by simp)
      simp only [List.getElem_cons_zero] at w1' w2' w3' w4'
      rw [hbare] at w4'
      have hrow' : RowIn x.h 7 ax.2 1 ([X].flatMap WasX.cells) := hrow
      obtain ⟨_, aw, cw, ew, _, _, _⟩ := id hrow'
      rw [ew] at hrow'
      have k0' : wr.cell? ⟨b, t.acts.length * 2, none⟩ = some (.int .i64 (t.pool.floor + t.pool.acts.length)) := k0
      have k1' : wr.cell? ⟨b, t.acts.length * 2 + 1, none⟩ = some (.slice aw 1 cw) := by rw [k1, ← ew]; rfl
      have hth := there_of_state (by omega : t.pool.state n ≠ 0)
      have htr : Trail (t.make n g).pool t.pool.counts ((t.make n g).pool.acts.drop t.pool.acts.length) (t.make n g).pool.counts := by
        rw [show (t.make n g).pool.acts = t.pool.acts ++ [(n, 1)] from rfl, List.drop_left]
        exact ⟨hth, by show 0 ≤ t.pool.count n; omega, by show t.pool.count n ≤ _; omega, by dsimp only; omega, rfl⟩
      have hpe : ({ (t.make n g).pool with counts := t.pool.counts, acts := (t.make n g).pool.acts.take t.pool.acts.length } : PoolS) = t.pool := by
        show ({ t.pool with counts := t.pool.counts, acts := (t.pool.acts ++ [(n, 1)]).take t.pool.acts.length } : PoolS) = t.pool
        rw [List.take_left]
      have B := fun wx hwx => back_none v (t.make n g) x t.pool.acts.length t.pool.counts (.slice aw 1 cw) [X] hrow' (by simp) (fun Y hY => by
        rw [List.mem_singleton] at hY
        subst hY
        exact ⟨w4', by rw [w1']; exact ⟨hth.1, by have h3 := hth.2; have h4 := okp1.n2; have h5 : (t.make n g).pool.counts.length = t.pool.counts.length := List.length_set; omega⟩, w2', w3'⟩) F wx hwx (by show _ ≤ (t.pool.acts ++ [_]).length; rw [List.length_append]; omega) htr
      rw [hpe] at B
      have hon : OnIn x.h (struck x.f (backs [X])) t.on := by
        intro m
        have h3 := ok.on m
        have h4 : struck x.f (backs [X]) m = if m = n then none else x.f m := by
          rw [show backs [X] = [] ++ [((0 : Int), X)] from rfl, struck_snoc, struck_nil]
          dsimp only
          rw [w1']
        rw [h4]
        by_cases hmn : m = n
        · rw [hmn, hbare, if_pos rfl]
        · rw [if_neg hmn]
          rw [show (t.make n g).on m = if m = n then some g else t.on m from rfl, if_neg hmn] at h3
          exact h3
      have HB := Lib.hid B
      have HX := Lib.hid hx
      have HM := Lib.hid M
      have HFIN := Lib.hid (And.intro hon ha1)
      have HEA := Lib.hid (And.intro ea eax)
      have HS1 := Lib.hid hs1
      have HAC := Lib.hid hac
      have hLb : t.acts.length ≤ 1099511627776 := by omega
      have hLc : s0.acts.length ≤ t.acts.length := t2
      have htf : t.floor = s0.floor := t1
      have HTF := Lib.hid htf
      have HEL := Lib.hid eL
      have hca := Row.bd (ea ▸ hx2)
      have hcl : t.acts.length ≤ ca := by
        have hx3 := hx2
        rw [ea] at hx3
        obtain ⟨_, (⟨e5, _, _⟩ | ⟨_, _, _, e5, _, h5, _, _⟩)⟩ := Row.open' hx3
        · cases e5
        · cases e5; omega
      clear B M hinv hx hx2 hc hcells hrow hrow' hwas ha1 hon ok eax hac hal k0 k1 htr hpe okp1 eL eF w1' w2' w3' w4' ea em hs1 htf
      have HQ2 := Lib.hid q2
      generalize hLL : t.acts.length = L at *
      have HLL := Lib.hid hLL
      clear hLL
      go_wp2_with fail
      refine HM.out.mono ?_
      rintro e w2 ⟨rfl, ho⟩
      have g2 := ho.cell q2
      have g0 := ho.cell k0'
      have g1 := ho.cell k1'
      have HB2 := Lib.hid (HB.out w2 (HX.out.only ho))
      have HST2 := Lib.hid (hst.trans ho.st)
      clear ho q2 k0' k1' hst
      go_wp2_with fail
      refine HB2.out.mono ?_
      rintro e w3 ⟨rfl, h3, hst3⟩
      have h4 : Sat ((Row 94 2 x.av (t.make n g).acts.length (actCells x.axs)).star ((Pr.pts v (.cells #[.pointer (some ⟨x.p, 0, none⟩), .map (some x.mb), x.av, .int .i64 t.floor] 43)).star (((MapA Try.prog 3 x.mb (struck x.f (backs [X]))).star ((PoolA x.p t.pool).star (Pr.own x.h))).star F))) w3 := h3.perm (by unfold VaultAt; show ((Pr.pts v (.cells #[.pointer (some ⟨x.p, 0, none⟩), .map (some x.mb), x.av, .int .i64 t.floor] _)).star ((PoolA x.p t.pool).star ((MapA Try.prog 3 x.mb (struck x.f (backs [X]))).star ((Row _ 2 x.av (t.make n g).acts.length (actCells x.axs)).star (Pr.own x.h))))).star F = _; ac_rfl)
      rw [HEL.out, HEA.out.1] at h4
      have j2 : w3.cell? ⟨v, 2, none⟩ = some (.slice (some ⟨b, 0, none⟩) (L + 1) ca) := by rw [cell_of_heap h4.right.pts_heap]; rfl
      have jz := frozen_of_heap h4.right.pts_heap 2
      have h5 := row_cutk h4 (Nat.le_succ L)
      have h6 : Sat ((Pr.pts v (.cells #[.pointer (some ⟨x.p, 0, none⟩), .map (some x.mb), .slice (some ⟨b, 0, none⟩) L ca, .int .i64 t.floor] 43)).star ((Row 94 2 (.slice (some ⟨b, 0, none⟩) L ca) L ((actCells x.axs).take (L * 2))).star (((MapA Try.prog 3 x.mb (struck x.f (backs [X]))).star ((PoolA x.p t.pool).star (Pr.own x.h))).star F))) (w3.setCell ⟨v, 2, none⟩ (.slice (some ⟨b, 0, none⟩) L ca)) := (h5.perm (Pr.left_comm _ _ _)).setCell (i := 2) (.slice (some ⟨b, 0, none⟩) L ca)
      have H6 := Lib.hid h6
      have HST3 := Lib.hid ((HST2.out.trans hst3).setCell ⟨v, 2, none⟩ (.slice (some ⟨b, 0, none⟩) L ca))
      clear h3 h4 h5 h6 hst3 HB2 g2 g0 g1 HB HX HM
      go_wp2
      go_roundw
      case rel =>
        refine ⟨t, HS1.out, HST3.out, vaultA_iff.2 ⟨{ x with f := struck x.f (backs [X]), av := .slice (some ⟨b, 0, none⟩) L ca, axs := axs' }, ⟨HFIN.out.1, HFIN.out.2, by have := HTF.out; omega, ?_⟩, ?_⟩⟩
        · rw [HLL.out]; omega
        · have e6 : (actCells x.axs).take (L * 2) = actCells axs' := by rw [HEA.out.2, actCells_snoc, ← HAC.out, List.take_left]
          have h7 := H6.out
          rw [e6] at h7
          refine h7.perm ?_
          unfold VaultAt
          dsimp only
          rw [HLL.out]
          ac_rfl
      case measure =>
        have e7 := cell_of_heap H6.out.pts_heap 2
        rw [show (#[.pointer (some ⟨x.p, 0, none⟩), .map (some x.mb), .slice (some ⟨b, 0, none⟩) L ca, .int .i64 t.floor] : Array Value)[2]? = some (.slice (some ⟨b, 0, none⟩) L ca) from rfl] at e7
        rw [e7, HQ2.out]
        exact Nat.lt_succ_self L
end Go.Proofs.Ytbobcmimkonnoaa.vault8
