/- The library's Backward over what was, its iterator; the conditions stand as hypotheses. -/
import Derived.Test.YtbobcmimkonnoaaVault6
import Derived.Test.YtbobcmimkonnoaaPool7
namespace Go.Proofs.Ytbobcmimkonnoaa.back1
open Go.ChangeShapes Go.WideShapes Go.ChangeAt Go.RowKit Go.Sl Go.Cop Go.Shelf Go.Proofs.Ytbobcmimkonnoaa.pool1 Go.Proofs.Ytbobcmimkonnoaa.pool2 Go.Proofs.Ytbobcmimkonnoaa.pool5 Go.Proofs.Ytbobcmimkonnoaa.pool9 Go.Proofs.Ytbobcmimkonnoaa.clone Go.Proofs.Ytbobcmimkonnoaa.page Go.Proofs.Ytbobcmimkonnoaa.vault1 Go.Proofs.Ytbobcmimkonnoaa.vault2 Go.Proofs.Ytbobcmimkonnoaa.vault3 Go.Proofs.Ytbobcmimkonnoaa.vault4 Go.Proofs.Ytbobcmimkonnoaa.vault5 Go.Proofs.Ytbobcmimkonnoaa.vault6
attribute [local go_sem] Oper.semAt_some

def encW (x : Int × WasX) : Array Value := #[.int .i64 x.1, .agg x.2.cells.toArray]
/-- What was, the last first, each with its index. -/
def backs (ws : List WasX) : List (Int × WasX) := (ws.zipIdx.map fun x => ((x.2 : Int), x.1)).reverse
theorem backs_len (ws : List WasX) : (backs ws).length = ws.length := by simp [backs]
theorem backs_at (ws : List WasX) (k : Nat) (hk : k < ws.length) : (backs ws)[k]'(by rw [backs_len]; exact hk) = (((ws.length - 1 - k : Nat) : Int), ws[ws.length - 1 - k]'(by omega)) := by
  simp [backs]
theorem was_cells_at (ws : List WasX) (k j : Nat) (hk : k < ws.length) (hj : j < 7) : (ws.flatMap WasX.cells)[k * 7 + j]? = ws[k].cells[j]? := by
  induction ws generalizing k with
  | nil => simp at hk
  | cons x ws ih =>
    have hx : x.cells.length = 7 := rfl
    cases k with
    | zero => simp only [List.flatMap_cons, Nat.zero_mul, Nat.zero_add, List.getElem_cons_zero]; rw [List.getElem?_append_left (by omega)]
    | succ k =>
      simp only [List.flatMap_cons, List.getElem_cons_succ]
      rw [List.getElem?_append_right (by omega), hx, show (k + 1) * 7 + j - 7 = k * 7 + j by omega]
      exact ih k (by simpa using hk)

def BackOwn (sb : Nat) (wv : Value) (h : Hp) : Pr := (Pr.pts sb (.cells #[wv] 92)).star (Pr.own h)

set_option maxRecDepth 100000 in
set_option maxHeartbeats 1000000 in
theorem backward1 (sb : Nat) (wv : Value) (h : Hp) (ws : List WasX) (hrow : RowIn h 7 wv ws.length (ws.flatMap WasX.cells)) (hl : ws.length ≤ 65536) :
    IterSl Try.prog 97 #[.pointer (some ⟨sb, 0, none⟩)] encW (backs ws) (BackOwn sb wv h) := by
  intro l J Jx W hY h0
  refine (callsIn_wide (n := 3)).1 ?_
  refine callsIn_of_wp Try.func97 rfl trivial ?_ rfl
  simp only [Try.ntmps97, List.size_toArray, List.length_cons, List.length_nil, Nat.reduceAdd, Nat.reduceSub, Array.replicate_succ, Array.replicate_zero, List.push_toArray, List.append_toArray, List.nil_append, List.cons_append]
  obtain ⟨_, aw, cw, rfl, _, _, hc⟩ := hrow
  have facts : ∀ (A : Pr) (wr : World), Sat (A.star (BackOwn sb (.slice aw ws.length cw) h)) wr → wr.cell? ⟨sb, 0, none⟩ = some (.slice aw ws.length cw) ∧ sb < wr.heap.size ∧ h.le wr := by
    intro A wr hs
    unfold BackOwn at hs
    have h1 : Sat ((Pr.pts sb (.cells #[.slice aw ws.length cw] 92)).star ((Pr.own h).star A)) wr := hs.perm (by ac_rfl)
    exact ⟨by rw [cell_of_heap h1.pts_heap]; rfl, h1.lt, h1.right.own⟩
  have F0 := facts _ _ h0
  obtain ⟨q1, z1, _⟩ := F0
  have HF := Lib.hid facts
  have HY := Lib.hid hY
  have H0 := Lib.hid h0
  have HC := Lib.hid hc
  clear facts hY h0 hc
  gi_wp2
  gi_loopw [3] (fun i wr => ∃ r : Nat, r ≤ ws.length ∧ i = .int .i64 ((r : Int) - 1) ∧ Stays W wr ∧ Sat ((J ((backs ws).take (ws.length - r))).star (BackOwn sb (.slice aw ws.length cw) h)) wr) (fun i _ => (intOf i + 1).toNat)
  case atStart => exact ⟨ws.length, Nat.le_refl _, rfl, Stays.refl _, by rw [Nat.sub_self]; exact H0.out⟩
  case round =>
    obtain ⟨r, hr, rfl, hR, hs⟩ := hrel
    cases r with
    | zero =>
      gi_wp2
      go_end0
      refine ⟨⟨_, rfl⟩, hR, .inl ⟨_, rfl, ?_⟩⟩
      rw [Nat.sub_zero, List.take_of_length_le (by rw [backs_len]; exact Nat.le_refl _)] at hs
      exact hs
    | succ r =>
      obtain ⟨q1, z1, hle⟩ := HF.out _ _ hs
      obtain ⟨b, off, e1, hcell⟩ := HC.out (by omega)
      subst e1
      have hlt : r < ws.length := by omega
      have cells : ∀ j, j < 7 → wr.cell? ⟨b, off + r * 7 + j, none⟩ = ws[r].cells[j]? := fun j hj => by
        have h1 := hcell (r * 7 + j) (by omega)
        rw [was_cells_at ws r j hlt hj] at h1
        have h2 : ∃ u, ws[r].cells[j]? = some u := ⟨ws[r].cells[j]'(by show j < 7; exact hj), List.getElem?_eq_getElem _⟩
        obtain ⟨u, hu⟩ := h2
        rw [hu] at h1 ⊢
        rw [Nat.add_assoc]
        exact Hp.cell_le hle h1
      have hat := backs_at ws (ws.length - (r + 1)) (by omega)
      have hidx : ws.length - 1 - (ws.length - (r + 1)) = r := by omega
      simp only [hidx] at hat
      have hcat : (backs ws).take (ws.length - r) = (backs ws).take (ws.length - (r + 1)) ++ [((r : Int), ws[r])] := by
        rw [show ws.length - r = ws.length - (r + 1) + 1 by omega, List.take_succ_eq_append_getElem (by rw [backs_len]; omega), hat]
      have hpre : (backs ws).take (ws.length - (r + 1)) ++ [((r : Int), ws[r])] <+: backs ws := by
        rw [← hcat]; exact List.take_prefix _ _
      have HCAT := Lib.hid hcat
      have HP := Lib.hid hpre
      have HS := Lib.hid hs
      clear hat hidx hcat hpre hs hcell
      generalize ws[r] = X at *
      obtain ⟨no, pk, pl, vi, vd, nx, th⟩ := X
      have c0 : wr.cell? ⟨b, off + r * 7, none⟩ = some (.int .i64 no) := cells 0 (by omega)
      have c1 : wr.cell? ⟨b, off + r * 7 + 1, none⟩ = some (.int .i64 pk) := cells 1 (by omega)
      have c2 : wr.cell? ⟨b, off + r * 7 + 2, none⟩ = some (.int .i64 pl) := cells 2 (by omega)
      have c3 : wr.cell? ⟨b, off + r * 7 + 3, none⟩ = some vi := cells 3 (by omega)
      have c4 : wr.cell? ⟨b, off + r * 7 + 4, none⟩ = some vd := cells 4 (by omega)
      have c5 : wr.cell? ⟨b, off + r * 7 + 5, none⟩ = some (.int .i64 nx) := cells 5 (by omega)
      have c6 : wr.cell? ⟨b, off + r * 7 + 6, none⟩ = some (.bool th) := cells 6 (by omega)
      clear cells
      rw [show ((r + 1 : Nat) : Int) - 1 = (r : Int) by omega]
      gi_wp2
      refine at_yield (HY.out Pr.emp ((backs ws).take (ws.length - (r + 1))) ((r : Int), ⟨no, pk, pl, vi, vd, nx, th⟩) _ HP.out (HS.out.perm (Pr.star_emp _).symm)) ?_
      rintro e w' ⟨hR', (⟨rfl, hs'⟩ | ⟨rfl, hs'⟩)⟩ <;> rw [Pr.star_emp] at hs'
      · refine ⟨_, rfl, ?_⟩
        rw [← HCAT.out] at hs'
        have HS' := Lib.hid hs'
        clear hs'
        gi_wp2
        go_roundw
        case rel => exact ⟨r, by omega, rfl, hR.trans hR', HS'.out⟩
        case measure => simp [intOf]
      · refine ⟨_, rfl, ?_⟩
        have HS' := Lib.hid hs'
        clear hs'
        gi_wp2
        refine bodyPost_ret (results_none rfl _ _ _) rfl ?_
        exact ⟨⟨_, rfl⟩, hR.trans hR', .inr ⟨_, HP.out, HS'.out⟩⟩
end Go.Proofs.Ytbobcmimkonnoaa.back1
