/- The vault's Drop of any page; the conditions stand as hypotheses. -/
import Derived.Test.YtbobcmimkonnoaaGreatBlobAnswersM31
import Derived.Test.YtbobcmimkonnoaaGreatBlobAnswersM08
import Derived.Test.YtbobcmimkonnoaaGreatBlobAnswersM19
import Derived.Test.YtbobcmimkonnoaaGreatBlobAnswersM13
import Derived.Test.YtbobcmimkonnoaaGreatBlobAnswersM10
import Derived.Test.YtbobcmimkonnoaaGreatBlobAnswersM14
import Derived.Test.YtbobcmimkonnoaaGreatBlobAnswersM01
namespace Go.Proofs.YtbobcmimkonnoaaGreat.dropB
open ChangeShapes WideShapes ChangeAt RowKit Sl Cop pool1 pool2 pool5 pool9 clone page vault1 vault2 vault3 vault4 vault5 doG dropG
set_option maxRecDepth 100000 in
set_option maxHeartbeats 2000000 in
theorem drop1_any (v ab : Nat) (mark : Int) (VB NB : Nat) (s : VaultS) (n : Int) (hb : Bare s) (hfit : ∀ n g, s.on n = some g → g.items.length ≤ 65535) (hm : s.pool.floor + s.pool.acts.length + sumC s.pool.counts < 1099511627776) (F : Pr) (w : World)
 (hF : Sat ((VMA v s ab mark []).star ((Pr.pts VB (.cells #[.pointer (some ⟨v, 0, none⟩)] 35)).star ((Pr.pts NB (.cells #[.int .i64 n] 3)).star F))) w) :
 Calls Tryz.prog 113 #[.pointer (some ⟨ab, 0, none⟩), .pointer (some ⟨VB, 0, none⟩), .pointer (some ⟨NB, 0, none⟩)] w fun e w' =>
  Stays w w' ∧ ∃ z : Int × VaultS × List (Int × Option PageV), (DropR s.get [n] s.pool.counts z.1 z.2.1.pool.counts ∧ DInv s z.2.1 z.2.2 ∧ Far s z.2.1) ∧ e = .returned (.int .i64 z.1) ∧ Sat ((VMA v z.2.1 ab mark z.2.2).star F) w' := by
 have q1 : w.cell? ⟨VB, 0, none⟩ = some (.pointer (some ⟨v, 0, none⟩)) := by rw [cell_of_heap hF.right.pts_heap]; rfl
 have q2 : w.cell? ⟨NB, 0, none⟩ = some (.int .i64 n) := by rw [cell_of_heap hF.right.right.pts_heap]; rfl
 have D := Lib.hid (drop_any v ab mark s hfit (sumC s.pool.counts + 1) s [] n _ w (Nat.lt_succ_self _) (DInv.refl hb) hm hF)
 clear hF hb hfit hm
 go_enter Tryz.func113, Tryz.ntmps113
 go_wp2_with fail
 refine D.out.mono ?_
 rintro e w1 ⟨hst, er, t, W, rfl, h1, h2, h3, h4⟩
 have h5 := h4.perm (B := ((Pr.pts VB (.cells #[.pointer (some ⟨v, 0, none⟩)] 35)).star (Pr.pts NB (.cells #[.int .i64 n] 3))).star ((VMA v t ab mark W).star F)) (by ac_rfl)
 have H5 := Lib.hid h5.right
 have HR := Lib.hid (And.intro h1 (And.intro h2 h3))
 clear h1 h2 h3 h4 h5
 go_wp2
 go_ret
 exact ⟨hst, (er, t, W), HR.out, rfl, H5.out⟩
set_option maxRecDepth 100000 in
set_option maxHeartbeats 2000000 in
/-- Drop, whole or not at all. -/
theorem vdrop_any (v : Nat) (s : VaultS) (n : Int) (hb : Bare s) (hfit : ∀ n g, s.on n = some g → g.items.length ≤ 65535) (hm : s.pool.floor + s.pool.acts.length + sumC s.pool.counts < 1099511627776) (hvm : s.floor + s.acts.length < 1099511627776) (F : Pr) (w : World)
 (hF : Sat ((VaultA v s).star F) w) :
 Calls Tryz.prog 42 #[.pointer (some ⟨v, 0, none⟩), .int .i64 n] w fun e w' =>
  Stays w w' ∧ ∃ er t W, e = .returned (.int .i64 er) ∧ DropR s.get [n] s.pool.counts er t.pool.counts ∧ DInv s t W ∧ Far s t ∧ Sat ((if er = 0 then VaultA v (t.acted ⟨s.pool.mark, W⟩) else VaultA v s).star F) w' := by
 have es : (w.alloc (.cells #[.pointer (some ⟨v, 0, none⟩)] 35)).heap.size = w.heap.size + 1 := by simp
 have h1 := (hF.alloc (.cells #[.pointer (some ⟨v, 0, none⟩)] 35)).alloc (.cells #[.int .i64 n] 3)
 rw [es] at h1
 have h2 := h1.perm (B := (VaultA v s).star ((Pr.pts w.heap.size (.cells #[.pointer (some ⟨v, 0, none⟩)] 35)).star ((Pr.pts (w.heap.size + 1) (.cells #[.int .i64 n] 3)).star F))) (by ac_rfl)
 have D := Lib.hid (do_any v s 113 #[.pointer (some ⟨w.heap.size, 0, none⟩), .pointer (some ⟨w.heap.size + 1, 0, none⟩)] (fun z : Int × VaultS × List (Int × Option PageV) => z.1)
  (fun z => DropR s.get [n] s.pool.counts z.1 z.2.1.pool.counts ∧ DInv s z.2.1 z.2.2 ∧ Far s z.2.1) (fun z => z.2.1) (fun z => z.2.2) (fun _ => F) _ _ h2 hvm (fun _ _ => rfl) (fun z hz => hz.2.1.mid) (fun ab wx hwx =>
   drop1_any v ab s.pool.mark w.heap.size (w.heap.size + 1) s n hb hfit hm F wx hwx))
 have HST := Lib.hid (((Stays.refl w).alloc (.cells #[.pointer (some ⟨v, 0, none⟩)] 35)).alloc (.cells #[.int .i64 n] 3))
 clear h1 h2 hF hb hfit hm es
 go_enter Tryz.func42, Tryz.ntmps42
 go_wp2_with fail
 refine D.out.mono ?_
 rintro e w1 ⟨hst, ⟨er, t, W⟩, hR, rfl, h3⟩
 have H3 := Lib.hid h3
 have HR := Lib.hid hR
 clear h3 hR
 go_wp2
 go_ret
 exact ⟨HST.out.trans hst, er, t, W, rfl, HR.out.1, HR.out.2.1, HR.out.2.2, H3.out⟩
end Go.Proofs.YtbobcmimkonnoaaGreat.dropB
namespace Go.Proofs.YtbobcmimkonnoaaGreat.incG
open ChangeShapes WideShapes ChangeAt RowKit Sl Cop pool1 pool2 pool4 pool5
/-- What Inc answers. -/
def incE (s : PoolS) (n : Int) : Int := if s.count n = 0 then 15 else if s.count n = s.refs then 13 else 0
set_option maxHeartbeats 1000000 in
theorem inc_A (p : Nat) (s : PoolS) (n : Int) (F : Pr) (w : World) (hF : Sat ((PoolA p s).star F) w) (hm : s.floor + s.acts.length < 1099511627776) (hr : s.count n ≤ s.refs) :
 Calls Tryz.prog 111 #[.pointer (some ⟨p, 0, none⟩), .int .i64 n] w fun e w' =>
  e = .returned (.int .i64 (incE s n)) ∧ Stays w w' ∧ ((incE s n ≠ 0 ∧ Sat ((PoolA p s).star F) w') ∨ (incE s n = 0 ∧ Sat ((PoolA p (s.did n 1)).star F) w')) := by
 have ok := (poolA_rd hF).1
 have C := Lib.hid (count_A p s n F w hF)
 have HF := Lib.hid hF
 have q0 : w.cell? ⟨p, 0, none⟩ = some (.int .i64 s.refs) := by
  obtain ⟨ok, cv, lv, fb, av, hA⟩ := poolA_iff.1 hF
  have hA1 : Sat ((Pr.pts p (.cells (poolCells s cv lv fb av) 124)).star ((ActsA p av s.acts).star ((IntsRow cv s.counts).star ((BoolsRow lv s.last).star ((SetOf fb fun m => s.state m = 1).star F))))) w := hA.perm (by unfold PoolAt; ac_rfl)
  rw [cell_of_heap hA1.pts_heap]; rfl
 obtain ⟨b1, b2⟩ := count_bd ok n
 have r2 := ok.r2
 clear hF
 unfold incE
 by_cases h0 : s.count n = 0
 · rw [h0] at C
   simp only [h0, if_true]
   go_enter Tryz.func111, Tryz.ntmps111
   go_wp2_with fail
   refine C.out.mono ?_
   rintro e w' ⟨rfl, rfl⟩
   go_wp2
   go_ret
   exact ⟨rfl, Stays.refl _, .inl ⟨by decide, HF.out⟩⟩
 · have hne : (s.count n == 0) = false := by simpa using h0
   by_cases h1 : s.count n = s.refs
   · have hq : (s.count n == s.refs) = true := beq_iff_eq.2 h1
     rw [if_neg h0, if_pos h1]
     clear h1 hr
     generalize s.refs = rf at *
     generalize s.count n = k at *
     go_enter Tryz.func111, Tryz.ntmps111
     go_wp2_with fail
     refine C.out.mono ?_
     rintro e w' ⟨rfl, rfl⟩
     go_wp2
     go_ret
     exact ⟨rfl, Stays.refl _, .inl ⟨by decide, HF.out⟩⟩
   · have hq : (s.count n == s.refs) = false := beq_eq_false_iff_ne.2 h1
     have ht := there_of_count h0
     have A := Lib.hid (act_any p s n 1 F w HF.out ht (by omega) (by omega) hm)
     rw [if_neg h0, if_neg h1]
     clear h1 hr ht
     generalize s.refs = rf at *
     generalize s.count n = k at *
     go_enter Tryz.func111, Tryz.ntmps111
     go_wp2_with fail
     refine C.out.mono ?_
     rintro e w' ⟨rfl, rfl⟩
     go_wp2_with fail
     refine A.out.mono ?_
     rintro e w' ⟨rfl, hs, hst⟩
     have HS := Lib.hid hs
     clear hs
     go_wp2
     go_ret
     exact ⟨rfl, hst, .inr ⟨trivial, HS.out⟩⟩
end Go.Proofs.YtbobcmimkonnoaaGreat.incG
namespace Go.Proofs.YtbobcmimkonnoaaGreat.keepG
open ChangeShapes WideShapes ChangeAt RowKit Sl Cop pool1 pool2 pool5 pool9 clone page vault1 vault2 vault3 vault4 vault5 blob1 doG dropG incG
set_option maxRecDepth 100000 in
set_option maxHeartbeats 2000000 in
theorem keep1_any (v ab : Nat) (mark : Int) (VB NB : Nat) (s : VaultS) (n : Int) (hr : s.pool.count n ≤ s.pool.refs) (hm : s.pool.floor + s.pool.acts.length < 1099511627776) (F : Pr) (w : World)
 (hF : Sat ((VMA v s ab mark []).star ((Pr.pts VB (.cells #[.pointer (some ⟨v, 0, none⟩)] 35)).star ((Pr.pts NB (.cells #[.int .i64 n] 3)).star F))) w) :
 Calls Tryz.prog 110 #[.pointer (some ⟨ab, 0, none⟩), .pointer (some ⟨VB, 0, none⟩), .pointer (some ⟨NB, 0, none⟩)] w fun e w' =>
  Stays w w' ∧ e = .returned (.int .i64 (incE s.pool n)) ∧ Sat ((VMA v (if incE s.pool n = 0 then { s with pool := s.pool.did n 1 } else s) ab mark []).star F) w' := by
 obtain ⟨x, wv, ws, ok, hws, hF1⟩ := vma_iff.1 hF
 have h1 : Sat ((PoolA x.p s.pool).star ((Pr.pts v (.cells #[.pointer (some ⟨x.p, 0, none⟩), .map (some x.mb), x.av, .int .i64 s.floor] 71)).star ((Pr.pts VB (.cells #[.pointer (some ⟨v, 0, none⟩)] 35)).star ((Pr.pts NB (.cells #[.int .i64 n] 3)).star
  ((((MapA Tryz.prog 3 x.mb x.f).star ((Row 158 2 x.av s.acts.length (actCells x.axs)).star (Pr.own x.h)))).star (((Pr.pts ab (.cells #[.int .i64 mark, wv] 158)).star (Row 172 7 wv ws.length (ws.flatMap WasX.cells))).star F)))))) w := hF1.perm (by unfold VMAt VaultAt; ac_rfl)
 have qv : w.cell? ⟨v, 0, none⟩ = some (.pointer (some ⟨x.p, 0, none⟩)) := by rw [cell_of_heap h1.right.pts_heap]; rfl
 have q1 : w.cell? ⟨VB, 0, none⟩ = some (.pointer (some ⟨v, 0, none⟩)) := by rw [cell_of_heap h1.right.right.pts_heap]; rfl
 have q2 : w.cell? ⟨NB, 0, none⟩ = some (.int .i64 n) := by rw [cell_of_heap h1.right.right.right.pts_heap]; rfl
 have zv := h1.right.lt
 have zV := h1.right.right.lt
 have zN := h1.right.right.right.lt
 have I := Lib.hid (inc_A x.p s.pool n _ _ h1.drew hm hr)
 obtain ⟨er, her⟩ : ∃ er, incE s.pool n = er := ⟨_, rfl⟩
 rw [her] at I ⊢
 obtain ⟨T, hT⟩ : ∃ T, (if er = 0 then { s with pool := s.pool.did n 1 } else s) = T := ⟨_, rfl⟩
 rw [hT]
 have HX := Lib.hid (And.intro ok hws)
 have HT := Lib.hid hT
 clear hF hF1 h1 ok hws her hT
 go_enter Tryz.func110, Tryz.ntmps110
 go_wp2_with fail
 refine wp_region_staged (sz := 11) (by kernel_rfl) [0, 1, 2, 3, 4] [(5, [6], [0, 1, 2, 4])] rfl (by kernel_rfl) (by kernel_rfl) (by kernel_rfl) ?_
 refine wpQ_all _ rfl rfl ?_
 simp only [pick, pkA, pkB, pkC, pkD, pkE, pkF]
 iterate 5 (go_big_quiet_step (fail))
 refine wpQuiet_nil ?_
 refine wpRest_act rfl ?_
 go_wp2_with fail
 refine I.out.mono ?_
 rintro e w1 ⟨rfl, hst, h2⟩
 have h3 : Sat ((VMA v T ab mark []).star ((Pr.pts VB (.cells #[.pointer (some ⟨v, 0, none⟩)] 35)).star ((Pr.pts NB (.cells #[.int .i64 n] 3)).star F))) w1 := by
  obtain ⟨ok, hws⟩ := HX.out
  rw [← HT.out]
  rcases h2 with ⟨he, h2⟩ | ⟨he, h2⟩
  · rw [if_neg he]
    exact vma_iff.2 ⟨x, wv, ws, ok, hws, h2.perm (by unfold VMAt VaultAt; ac_rfl)⟩
  · rw [if_pos he]
    exact vma_iff.2 ⟨x, wv, ws, ⟨ok.on, ok.acts, ok.f0, ok.fb⟩, hws, h2.perm (by unfold VMAt VaultAt; dsimp only; ac_rfl)⟩
 have h4 := h3.perm (B := (Pr.pts VB (.cells #[.pointer (some ⟨v, 0, none⟩)] 35)).star ((Pr.pts NB (.cells #[.int .i64 n] 3)).star ((VMA v T ab mark []).star F))) (by ac_rfl)
 clear q1 q2 qv zv zV zN
 have q1 : w1.cell? ⟨VB, 0, none⟩ = some (.pointer (some ⟨v, 0, none⟩)) := by rw [cell_of_heap h4.pts_heap]; rfl
 have q2 : w1.cell? ⟨NB, 0, none⟩ = some (.int .i64 n) := by rw [cell_of_heap h4.right.pts_heap]; rfl
 have zV := h4.lt
 have zN := h4.right.lt
 have H5 := Lib.hid h4.right.right
 have HST := Lib.hid ((Stays.refl w).drew.trans hst)
 clear h2 h3 h4 hst I
 go_wp2
 refine onN_mk ?_
 refine wpQ_all _ rfl rfl ?_
 simp only [pick, pkA, pkB, pkC, pkD, pkE, pkF]
 iterate 1 (go_big_quiet_step (fail))
 refine wpQuiet_nil ⟨?_, ?_⟩
 · refine chk_all _ rfl rfl ?_
   simp only [pick, Same, pkA, pkB, pkC, pkD, pkE, pkF, and_true]
   repeat' (first | apply And.intro | (go_big_quiet_step (fail); exact wpQuiet_nil rfl))
 refine wpRest_nil ?_
 go_wp2
 go_ret
 exact ⟨HST.out, rfl, H5.out⟩
set_option maxRecDepth 100000 in
set_option maxHeartbeats 2000000 in
/-- Keep. -/
theorem vkeep_any (v : Nat) (s : VaultS) (n : Int) (hr : s.pool.count n ≤ s.pool.refs) (hm : s.pool.floor + s.pool.acts.length < 1099511627776) (hvm : s.floor + s.acts.length < 1099511627776) (F : Pr) (w : World)
 (hF : Sat ((VaultA v s).star F) w) :
 Calls Tryz.prog 40 #[.pointer (some ⟨v, 0, none⟩), .int .i64 n] w fun e w' =>
  Stays w w' ∧ e = .returned (.int .i64 (incE s.pool n)) ∧ Sat ((if incE s.pool n = 0 then VaultA v ({ s with pool := s.pool.did n 1 }.acted ⟨s.pool.mark, []⟩) else VaultA v s).star F) w' := by
 have es : (w.alloc (.cells #[.pointer (some ⟨v, 0, none⟩)] 35)).heap.size = w.heap.size + 1 := by simp
 have h1 := (hF.alloc (.cells #[.pointer (some ⟨v, 0, none⟩)] 35)).alloc (.cells #[.int .i64 n] 3)
 rw [es] at h1
 have h2 := h1.perm (B := (VaultA v s).star ((Pr.pts w.heap.size (.cells #[.pointer (some ⟨v, 0, none⟩)] 35)).star ((Pr.pts (w.heap.size + 1) (.cells #[.int .i64 n] 3)).star F))) (by ac_rfl)
 obtain ⟨okp, _, _⟩ := vault_ok h2
 have hmid : Mid s (if incE s.pool n = 0 then { s with pool := s.pool.did n 1 } else s) [] := by
  by_cases he : incE s.pool n = 0
  · rw [if_pos he]
    have h0 : s.pool.count n ≠ 0 := fun h => by unfold incE at he; rw [if_pos h] at he; cases he
    have hb := count_bd okp n
    exact (Mid.refl s).did (there_of_count h0) hb.1 hb.2 (by omega)
  · rw [if_neg he]; exact Mid.refl s
 have D := Lib.hid (do_any v s 110 #[.pointer (some ⟨w.heap.size, 0, none⟩), .pointer (some ⟨w.heap.size + 1, 0, none⟩)] (fun _ : Unit => incE s.pool n)
  (fun _ => True) (fun _ => if incE s.pool n = 0 then { s with pool := s.pool.did n 1 } else s) (fun _ => []) (fun _ => F) _ _ h2 hvm (fun _ _ => rfl) (fun _ _ => hmid) (fun ab wx hwx =>
   (keep1_any v ab s.pool.mark w.heap.size (w.heap.size + 1) s n hr hm F wx hwx).mono (fun e w' ⟨a, b, c⟩ => ⟨a, (), trivial, b, c⟩)))
 have HST := Lib.hid (((Stays.refl w).alloc (.cells #[.pointer (some ⟨v, 0, none⟩)] 35)).alloc (.cells #[.int .i64 n] 3))
 obtain ⟨er, her⟩ : ∃ er, incE s.pool n = er := ⟨_, rfl⟩
 rw [her] at D
 rw [her]
 obtain ⟨A, hA⟩ : ∃ A, (if er = 0 then VaultA v ({ s with pool := s.pool.did n 1 }.acted ⟨s.pool.mark, []⟩) else VaultA v s) = A := ⟨_, rfl⟩
 rw [hA]
 have HA := Lib.hid hA
 clear h1 h2 hF es hmid okp hr her hA
 go_enter Tryz.func40, Tryz.ntmps40
 go_wp2_with fail
 refine D.out.mono ?_
 rintro e w1 ⟨hst, _, _, rfl, h3⟩
 have H3 := Lib.hid h3
 clear h3 D
 go_wp2
 go_ret
 refine ⟨HST.out.trans hst, rfl, ?_⟩
 have h4 := H3.out
 rw [← HA.out]
 by_cases he : er = 0
 · rw [if_pos he] at h4 ⊢
   rw [if_pos he] at h4
   exact h4
 · rw [if_neg he] at h4 ⊢
   exact h4
end Go.Proofs.YtbobcmimkonnoaaGreat.keepG
namespace Go.Cop
/-- The pages in a state among the first m ones. -/
def pagesTo (s : PoolS) (k : Int) (m : Nat) : List Int := ((List.range m).filter fun i : Nat => s.state ((i : Int) + 1) == k).map fun i : Nat => (i : Int) + 1
abbrev pagesIn (s : PoolS) (k : Int) : List Int := pagesTo s k s.counts.length
theorem pagesTo_yes {s : PoolS} {k : Int} {m : Nat} (h : s.state ((m : Int) + 1) = k) : pagesTo s k (m + 1) = pagesTo s k m ++ [(m : Int) + 1] := by
 unfold pagesTo
 rw [List.range_succ, List.filter_append, List.map_append]
 simp [h]
theorem pagesTo_no {s : PoolS} {k : Int} {m : Nat} (h : s.state ((m : Int) + 1) ≠ k) : pagesTo s k (m + 1) = pagesTo s k m := by
 unfold pagesTo
 rw [List.range_succ, List.filter_append, List.map_append]
 simp [h]
theorem pagesTo_len (s : PoolS) (k : Int) (m : Nat) : (pagesTo s k m).length ≤ m := by
 unfold pagesTo
 rw [List.length_map]
 exact Nat.le_trans (List.length_filter_le _ _) (by rw [List.length_range]; exact Nat.le_refl _)
theorem pages_mem {s : PoolS} {k n : Int} : n ∈ pagesIn s k ↔ s.there n ∧ s.state n = k := by
 unfold pagesIn pagesTo
 simp only [List.mem_map, List.mem_filter, List.mem_range, beq_iff_eq]
 constructor
 · rintro ⟨i, ⟨h1, h2⟩, rfl⟩
   exact ⟨⟨by omega, by omega⟩, h2⟩
 · rintro ⟨⟨h1, h2⟩, h3⟩
   refine ⟨n.toNat - 1, ⟨by omega, ?_⟩, by omega⟩
   rw [show ((n.toNat - 1 : Nat) : Int) + 1 = n by omega]
   exact h3
end Go.Cop
namespace Go.Proofs.YtbobcmimkonnoaaGreat.settleP
open ChangeShapes WideShapes ChangeAt RowKit Sl Cop Go.Shelf pool1 pool2 pool5 pool8 pool9 clone vault2
attribute [local go_sem] Oper.semAt_some
theorem psettle_any (p : Nat) (s : PoolS) (F : Pr) (w : World) (hF : Sat ((PoolA p s).star F) w) :
 Calls Tryz.prog 120 #[.pointer (some ⟨p, 0, none⟩)] w fun e w' => e = .returned (.tuple #[]) ∧ Sat ((PoolA p s.settled).star F) w' ∧ Stays w w' := by
 obtain ⟨ok, cv, lv, fb, av, hA⟩ := poolA_iff.1 hF
 have hA1 : Sat ((ActsA p av s.acts).star ((Pr.pts p (.cells (poolCells s cv lv fb av) 124)).star ((IntsRow cv s.counts).star ((BoolsRow lv s.last).star ((SetOf fb fun m => s.state m = 1).star F))))) w := hA.perm (by unfold PoolAt; ac_rfl)
 obtain ⟨a9, c9, e9⟩ : ∃ a9 c9, av = .slice a9 s.acts.length c9 := by
  have h1 := hA1
  unfold ActsA at h1
  obtain ⟨⟨fs, hx⟩, h2⟩ := Sat.ex.1 h1
  rw [Pr.star_assoc] at h2
  obtain ⟨_, h3⟩ := Sat.pure.1 h2
  dsimp only at h3
  rw [Pr.star_assoc] at h3
  obtain ⟨a, c, hav, _, _⟩ := Row.read h3
  exact ⟨a, c, hav⟩
 subst e9
 have h2 := hA1.perm (B := (Pr.pts p (.cells (poolCells s cv lv fb (.slice a9 s.acts.length c9)) 124)).star ((IntsRow cv s.counts).star ((BoolsRow lv s.last).star ((ActsA p (.slice a9 s.acts.length c9) s.acts).star ((SetOf fb fun m => s.state m = 1).star F))))) (by ac_rfl)
 refine (settle_low p s.refs cv lv _ _ _ _ _ _ a9 s.acts.length c9 s.floor s.counts s.last _ w h2 ok.n1 ok.n2 ok.len ok.cs ok.fl ok.mb).mono ?_
 rintro e w' ⟨rfl, ⟨fb2, h3⟩, hst⟩
 have okp : PoolOk (poolOf s.refs s.counts (s.floor + s.acts.length)) := ⟨ok.n1, ok.n2, by show (lastsOf s.counts).length = _; unfold lastsOf; rw [List.length_map], ok.r1, ok.r2, ok.cs, by have := ok.fl; show (0 : Int) ≤ s.floor + _; omega, by have := ok.mb; show s.floor + _ + ((0 : Nat) : Int) ≤ _; omega⟩
 have h4 := mid_end ok.len okp h3
 exact ⟨rfl, (h4.perm (B := (ActsA p (.slice a9 s.acts.length c9) s.acts).star ((SetOf fb fun m => s.state m = 1).star ((PoolA p s.settled).star F))) (by show (PoolA p s.settled).star _ = _; ac_rfl)).right.right, hst⟩
set_option maxRecDepth 100000 in
set_option maxHeartbeats 2000000 in
theorem ppages_any (p : Nat) (s : PoolS) (k : Int) (F : Pr) (w : World) (hF : Sat ((PoolA p s).star F) w) :
 Calls Tryz.prog 116 #[.pointer (some ⟨p, 0, none⟩), .int .i64 k] w fun e w' =>
  Stays w w' ∧ ∃ lb lv, e = .returned (.func (.func 158) #[] #[.pointer (some ⟨lb, 0, none⟩)]) ∧
   Sat ((Pr.pts lb (.cells #[lv] 40)).star ((IntsRow lv (pagesIn s k)).star ((PoolA p s).star F))) w' := by
 obtain ⟨ok, rd, _, _, _⟩ := poolA_rd hF
 obtain ⟨b, c, h1, _⟩ := rd.cs
 have zp := World.block_lt_of_cell? _ _ h1
 have hn2 := ok.n2
 have hn3 : (s.counts.length : Int) ≤ 65536 := by omega
 have HB := Lib.hid (hF.alloc (.cells #[.slice none 0 0] 40))
 have HST := Lib.hid ((Stays.refl w).alloc (.cells #[.slice none 0 0] 40))
 obtain ⟨i0, hi0, hz0, hz1, hz2⟩ := info_parts infoInt
 clear hF rd ok
 go_enter Tryz.func116, Tryz.ntmps116
 go_wp2
 go_loopw [12] (fun i wr => ∃ (m : Nat) (lv : Value), m ≤ s.counts.length ∧ i = .int .i64 m ∧ Stays w wr ∧ Sat ((Pr.pts w.heap.size (.cells #[lv] 40)).star ((IntsRow lv (pagesTo s k m)).star ((PoolA p s).star F))) wr) (fun i _ => s.counts.length - (intOf i).toNat)
 case atStart =>
  refine ⟨0, .slice none 0 0, Nat.zero_le _, rfl, HST.out, ?_⟩
  rw [show IntsRow (.slice none 0 0) (pagesTo s k 0) = Pr.emp from Row.nil _ _, Pr.emp_star]
  exact HB.out
 case round =>
  obtain ⟨m, lv, hm, rfl, hst, hs⟩ := hrel
  clear HB HST
  obtain ⟨al, cl, rfl, _, _⟩ := Row.read hs.right
  have q0 : wr.cell? ⟨w.heap.size, 0, none⟩ = some (.slice al (pagesTo s k m).length cl) := by rw [cell_of_heap hs.pts_heap]; rfl
  have f0 := frozen_of_heap hs.pts_heap 0
  have z0 := hs.lt
  have hml := pagesTo_len s k m
  have ST := Lib.hid (state_any p ((m : Int) + 1) wr s (poolA_rd (hs.right.right)).2.1)
  have HYES := Lib.hid (fun h => pagesTo_yes (s := s) (k := k) (m := m) h)
  have HNO := Lib.hid (fun h => pagesTo_no (s := s) (k := k) (m := m) h)
  rcases Nat.lt_or_ge m s.counts.length with hlt | hge
  · by_cases hk : s.state ((m : Int) + 1) = k
    · have hb : (s.state ((m : Int) + 1) == k) = true := beq_iff_eq.2 hk
      have HK := Lib.hid hk
      have A1 := Lib.hid ((hs.perm (Pr.left_comm _ _ _)).alloc (.cells [.int .i64 ((m : Int) + 1)].toArray 3)).right
      have hnew := Lib.hid (new_cells wr [.int .i64 ((m : Int) + 1)] 3 _ rfl)
      have HSTK := Lib.hid (hst.alloc (.cells [.int .i64 ((m : Int) + 1)].toArray 3))
      clear hs hst hk
      generalize s.state ((m : Int) + 1) = sm at *
      go_wp2_with fail
      refine ST.out.mono ?_
      rintro e w1 ⟨rfl, rfl⟩
      go_wp2_with (
       at_builtin
       refine wpList_append_sl rfl _ _ _ rfl 3 i0 (.int .i64 0) 1 8 Tryz.underlying40 hi0 hz0 hz1 hz2 rfl _ _ _ rfl A1.out ⟨wr.heap.size, 0, none⟩ 1 1 [.int .i64 ((m : Int) + 1)] rfl rfl hnew.out (by simp [Value.oneCell']) (by simp only [maxLen]; omega) (by omega) ?_
       intro v7 w4 hs4 hg4 _
       obtain ⟨a7', c7', e7', _, _⟩ := Row.read hs4
       subst e7'
       have g0 : w4.cell? ⟨w.heap.size, 0, none⟩ = some (.slice al (pagesTo s k m).length cl) := by
        rw [cell_of_heap hs4.right.pts_heap]
        rfl
       have gf := frozen_of_heap hs4.right.pts_heap 0
       have gz := hs4.right.lt
       have HS4 := Lib.hid hs4
       have HG4 := Lib.hid (HSTK.out.of_grown hg4)
       clear hs4 hg4)
      go_roundw
      case rel =>
       refine ⟨m + 1, .slice a7' ((pagesTo s k m).length + 1) c7', by omega, congrArg (Value.int .i64) (by omega), HG4.out.setCell _ _, ?_⟩
       have h9 := (HS4.out.perm (Pr.left_comm _ _ _)).setCell (i := 0) (.slice a7' ((pagesTo s k m).length + 1) c7')
       rw [HYES.out HK.out]
       unfold IntsRow
       rw [List.length_append, List.map_append]
       exact h9
      case measure => simp [intOf]; omega
    · have hb : (s.state ((m : Int) + 1) == k) = false := beq_eq_false_iff_ne.2 hk
      have HK := Lib.hid hk
      have HS := Lib.hid hs
      clear hs hk
      generalize s.state ((m : Int) + 1) = sm at *
      go_wp2_with fail
      refine ST.out.mono ?_
      rintro e w1 ⟨rfl, rfl⟩
      go_wp2
      go_roundw
      case rel => exact ⟨m + 1, _, by omega, congrArg (Value.int .i64) (by omega), hst, by rw [HNO.out HK.out]; exact HS.out⟩
      case measure => simp [intOf]; omega
  · have hme : m = s.counts.length := by omega
    subst hme
    have HS := Lib.hid hs
    clear hs ST
    go_wp2
    go_ret
    exact ⟨hst, _, _, rfl, HS.out⟩
def PagesOwn (lb : Nat) (lv : Value) (xs : List Int) : Pr := (Pr.pts lb (.cells #[lv] 40)).star (IntsRow lv xs)
def encI (n : Int) : Array Value := #[.int .i64 n]
set_option maxRecDepth 100000 in
set_option maxHeartbeats 1000000 in
theorem pages1 (lb : Nat) (lv : Value) (xs : List Int) (hl : xs.length ≤ 65536) :
 IterSl Tryz.prog 158 #[.pointer (some ⟨lb, 0, none⟩)] encI xs (PagesOwn lb lv xs) := by
 intro l J Jx W hY h0
 refine (callsIn_wide (n := 3)).1 ?_
 refine callsIn_of_wp Tryz.func158 rfl trivial ?_ rfl
 simp only [Tryz.ntmps158, List.size_toArray, List.length_cons, List.length_nil, Nat.reduceAdd, Nat.reduceSub, Array.replicate_succ, Array.replicate_zero, List.push_toArray, List.append_toArray, List.nil_append, List.cons_append]
 have facts : ∀ (A : Pr) (wr : World), Sat (A.star (PagesOwn lb lv xs)) wr → ∃ a c, lv = .slice a xs.length c ∧ wr.cell? ⟨lb, 0, none⟩ = some (.slice a xs.length c) ∧ lb < wr.heap.size ∧ ∀ i, i < xs.length → ∃ b, a = some ⟨b, 0, none⟩ ∧ wr.cell? ⟨b, i, none⟩ = some (.int .i64 (xs.getD i 0)) := by
  intro A wr hs
  unfold PagesOwn at hs
  have h1 : Sat ((Pr.pts lb (.cells #[lv] 40)).star ((IntsRow lv xs).star A)) wr := hs.perm (by ac_rfl)
  obtain ⟨a, c, e, _, hc⟩ := Row.read h1.right
  subst e
  refine ⟨a, c, rfl, by rw [cell_of_heap h1.pts_heap]; rfl, h1.lt, fun i hi => ?_⟩
  obtain ⟨b, eb, hd⟩ := hc (by omega)
  refine ⟨b, eb, ?_⟩
  rw [(hd i (by omega)).1]
  simp [hi]
 have F0 := facts _ _ h0
 obtain ⟨a, c, elv, q1, z1, _⟩ := F0
 have hl3 : (xs.length : Int) ≤ 65536 := by omega
 have HF := Lib.hid facts
 have HY := Lib.hid hY
 have H0 := Lib.hid h0
 have HE := Lib.hid elv
 clear facts hY h0 elv
 gi_wp2
 gi_loopw [7] (fun i wr => ∃ r : Nat, r ≤ xs.length ∧ i = .int .i64 (r : Int) ∧ Stays W wr ∧ Sat ((J (xs.take r)).star (PagesOwn lb lv xs)) wr) (fun i _ => xs.length - (intOf i).toNat)
 case atStart => exact ⟨0, Nat.zero_le _, rfl, Stays.refl _, H0.out⟩
 case round =>
  obtain ⟨r, hr, rfl, hR, hs⟩ := hrel
  rcases Nat.lt_or_ge r xs.length with hlt | hge
  · obtain ⟨a2, c2, e2, _, _, hcell⟩ := HF.out _ _ hs
    have e3 := HE.out
    rw [e3] at e2
    cases e2
    obtain ⟨b, rfl, q2⟩ := hcell r hlt
    have hcat : xs.take (r + 1) = xs.take r ++ [xs.getD r 0] := by
     rw [List.take_succ_eq_append_getElem hlt]
     simp [hlt]
    have hpre : xs.take r ++ [xs.getD r 0] <+: xs := by rw [← hcat]; exact List.take_prefix _ _
    have HCAT := Lib.hid hcat
    have HP := Lib.hid hpre
    have HS := Lib.hid hs
    have z2 := World.block_lt_of_cell? _ _ q2
    clear hcat hpre hs hcell e3
    generalize xs.getD r 0 = y at *
    gi_wp2
    refine at_yield (HY.out Pr.emp (xs.take r) y _ HP.out (HS.out.perm (Pr.star_emp _).symm)) ?_
    rintro e w' ⟨hR', (⟨rfl, hs'⟩ | ⟨rfl, hs'⟩)⟩ <;> rw [Pr.star_emp] at hs'
    · refine ⟨_, rfl, ?_⟩
      rw [← HCAT.out] at hs'
      have HS' := Lib.hid hs'
      clear hs'
      gi_wp2
      go_roundw
      case rel => exact ⟨r + 1, by omega, congrArg (Value.int .i64) (by omega), hR.trans hR', HS'.out⟩
      case measure => simp [intOf]; omega
    · refine ⟨_, rfl, ?_⟩
      have HS' := Lib.hid hs'
      clear hs'
      gi_wp2
      refine bodyPost_ret (results_none rfl _ _ _) rfl ?_
      exact ⟨⟨_, rfl⟩, hR.trans hR', .inr ⟨_, HP.out, HS'.out⟩⟩
  · have hre : r = xs.length := by omega
    subst hre
    have HS := Lib.hid hs
    clear hs
    gi_wp2
    go_end0
    refine ⟨⟨_, rfl⟩, hR, .inl ⟨_, rfl, ?_⟩⟩
    have h9 := HS.out
    rw [List.take_length] at h9
    exact h9
end Go.Proofs.YtbobcmimkonnoaaGreat.settleP
namespace Go.Cop
def VaultS.settled (s : VaultS) : VaultS := { pool := s.pool.settled, on := fun m => if s.pool.state m = 2 then none else s.on m, acts := [], floor := s.floor + s.acts.length }
end Go.Cop
namespace Go.Proofs.YtbobcmimkonnoaaGreat.settleV
open ChangeShapes WideShapes ChangeAt RowKit Sl Cop Go.Shelf pool1 pool2 pool5 pool8 pool9 clone page vault1 vault2 vault3 vault4 vault6 blob1 settleP
attribute [local go_sem] Oper.semAt_some
def gone (f : Int → Option Value) (l : List Int) : Int → Option Value := fun m => if m ∈ l then none else f m
theorem gone_nil (f : Int → Option Value) : gone f [] = f := by funext m; simp [gone]
theorem gone_snoc (f : Int → Option Value) (l : List Int) (y : Int) : gone f (l ++ [y]) = fun m => if m = y then none else gone f l m := by
 funext m
 simp only [gone, List.mem_append, List.mem_singleton]
 by_cases h : m = y
 · rw [if_pos (Or.inr h), if_pos h]
 · rw [if_neg h]
   by_cases h2 : m ∈ l
   · rw [if_pos (Or.inl h2), if_pos h2]
   · rw [if_neg (fun h3 => h3.elim h2 h), if_neg h2]
set_option maxRecDepth 100000 in
set_option maxHeartbeats 4000000 in
theorem vsettle_any (v : Nat) (s : VaultS) (F : Pr) (w : World) (hF : Sat ((VaultA v s).star F) w) :
 Calls Tryz.prog 57 #[.pointer (some ⟨v, 0, none⟩)] w fun e w' => e = .returned (.tuple #[]) ∧ Sat ((VaultA v s.settled).star F) w' ∧ Stays w w' := by
 have h1 := hF.alloc (.cells #[.pointer (some ⟨v, 0, none⟩)] 35)
 have h2 := h1.perm (B := (VaultA v s).star ((Pr.pts w.heap.size (.cells #[.pointer (some ⟨v, 0, none⟩)] 35)).star F)) (by ac_rfl)
 obtain ⟨okp, fb0, fb1⟩ := vault_ok h2
 have M := Lib.hid (vmark_A v s _ _ h2.drew)
 have H2 := Lib.hid h2
 have OKP := Lib.hid okp
 have HST := Lib.hid ((Stays.refl w).alloc (.cells #[.pointer (some ⟨v, 0, none⟩)] 35))
 clear h1 h2 hF okp
 refine calls_of_wp_marks (n := 9) Tryz.func57 rfl ?_
 simp only [Tryz.ntmps57, List.size_toArray, List.length_cons, List.length_nil, Nat.reduceAdd, Nat.reduceSub, Array.replicate_succ, Array.replicate_zero, List.push_toArray, List.append_toArray, List.nil_append, List.cons_append]
 go_wp2_with fail
 refine wp_region_staged (sz := 27) (by kernel_rfl) [0, 1, 2] [(3, [4, 5], [0, 1]), (6, [7, 8], [1, 4]), (9, [], [7])] rfl (by kernel_rfl) (by kernel_rfl) (by kernel_rfl) ?_
 refine wpQ_all _ rfl rfl ?_
 simp only [pick, pkA, pkB, pkC, pkD, pkE, pkF]
 iterate 3 (go_big_quiet_step (fail))
 refine wpQuiet_nil ?_
 refine wpRest_act rfl ?_
 go_wp2_with fail
 refine M.out.mono ?_
 rintro e w1 ⟨rfl, ho⟩
 obtain ⟨x, ok, hx⟩ := vaultA_iff.1 (H2.out.drew.only ho)
 have h4 : Sat ((Pr.pts v (.cells #[.pointer (some ⟨x.p, 0, none⟩), .map (some x.mb), x.av, .int .i64 s.floor] 71)).star ((Pr.pts w.heap.size (.cells #[.pointer (some ⟨v, 0, none⟩)] 35)).star ((PoolA x.p s.pool).star ((MapA Tryz.prog 3 x.mb x.f).star ((Row 158 2 x.av s.acts.length (actCells x.axs)).star ((Pr.own x.h).star F)))))) w1 := hx.perm (by unfold VaultAt; ac_rfl)
 have r0 : w1.cell? ⟨w.heap.size, 0, none⟩ = some (.pointer (some ⟨v, 0, none⟩)) := by rw [cell_of_heap h4.right.pts_heap]; rfl
 have c2 : w1.cell? ⟨v, 2, none⟩ = some x.av := by rw [cell_of_heap h4.pts_heap]; rfl
 have c3 : w1.cell? ⟨v, 3, none⟩ = some (.int .i64 s.floor) := by rw [cell_of_heap h4.pts_heap]; rfl
 have f2 := frozen_of_heap h4.pts_heap 2
 have f3 := frozen_of_heap h4.pts_heap 3
 have zb := h4.right.lt
 have zv := h4.lt
 have hs5 : Sat ((Pr.pts v (.cells #[.pointer (some ⟨x.p, 0, none⟩), .map (some x.mb), .slice none 0 0, .int .i64 (s.floor + s.acts.length)] 71)).star ((Pr.pts w.heap.size (.cells #[.pointer (some ⟨v, 0, none⟩)] 35)).star ((PoolA x.p s.pool).star ((MapA Tryz.prog 3 x.mb x.f).star ((Row 158 2 x.av s.acts.length (actCells x.axs)).star ((Pr.own x.h).star F)))))) _ := (h4.setCell (i := 3) (.int .i64 (s.floor + s.acts.length))).setCell (i := 2) (.slice none 0 0)
 have HS5 := Lib.hid hs5
 have HST1 := Lib.hid (((HST.out.drew.trans ho.st).setCell ⟨v, 3, none⟩ (.int .i64 (s.floor + s.acts.length))).setCell ⟨v, 2, none⟩ (.slice none 0 0))
 have HOK := Lib.hid ok
 clear h4 hx hs5 ok ho M H2 HST
 go_wp2
 refine onN_mk ?_
 refine wpQ_all _ rfl rfl ?_
 simp only [pick, pkA, pkB, pkC, pkD, pkE, pkF]
 iterate 2 (go_big_quiet_step (fail))
 refine wpQuiet_nil ⟨?_, ?_⟩
 · refine chk_all _ rfl rfl ?_
   simp only [pick, Same, pkA, pkB, pkC, pkD, pkE, pkF, and_true]
   repeat' (first | apply And.intro | (go_big_quiet_step (fail); exact wpQuiet_nil rfl))
 refine wpRest_act rfl ?_
 go_wp2
 refine onN_mk ?_
 refine wpQ_all _ rfl rfl ?_
 simp only [pick, pkA, pkB, pkC, pkD, pkE, pkF]
 iterate 2 (go_big_quiet_step (fail))
 refine wpQuiet_nil ⟨?_, ?_⟩
 · refine chk_all _ rfl rfl ?_
   simp only [pick, Same, pkA, pkB, pkC, pkD, pkE, pkF, and_true]
   repeat' (first | apply And.intro | (go_big_quiet_step (fail); exact wpQuiet_nil rfl))
 refine wpRest_act rfl ?_
 go_wp2
 refine onN_mk ?_
 refine wpQ_nil ⟨?_, ?_⟩
 · refine chk_all _ rfl rfl ?_
   simp only [pick, Same, pkA, pkB, pkC, pkD, pkE, pkF, and_true]
   repeat' (first | apply And.intro | (go_big_quiet_step (fail); exact wpQuiet_nil rfl))
 refine wpRest_nil ?_
 have T1 := HST1.out
 have T2 := HS5.out
 clear HST1 HS5 r0 c2 c3 f2 f3 zb zv
 generalize (w1.setCell ⟨v, 3, none⟩ (.int .i64 (s.floor + s.acts.length))).setCell ⟨v, 2, none⟩ (.slice none 0 0) = w2 at *
 have r0 : w2.cell? ⟨w.heap.size, 0, none⟩ = some (.pointer (some ⟨v, 0, none⟩)) := by rw [cell_of_heap T2.right.pts_heap]; rfl
 have r1 : w2.cell? ⟨v, 0, none⟩ = some (.pointer (some ⟨x.p, 0, none⟩)) := by rw [cell_of_heap T2.pts_heap]; rfl
 have zb := T2.right.lt
 have zv := T2.lt
 have PG := Lib.hid (ppages_any x.p s.pool 2 _ _ (T2.perm (B := ((PoolA x.p s.pool).star ((Pr.pts v (.cells #[.pointer (some ⟨x.p, 0, none⟩), .map (some x.mb), .slice none 0 0, .int .i64 (s.floor + s.acts.length)] 71)).star ((Pr.pts w.heap.size (.cells #[.pointer (some ⟨v, 0, none⟩)] 35)).star ((MapA Tryz.prog 3 x.mb x.f).star ((Row 158 2 x.av s.acts.length (actCells x.axs)).star ((Pr.own x.h).star F))))))) (by ac_rfl)))
 have HST2 := Lib.hid T1
 clear T1 T2
 go_wp2_with fail
 refine PG.out.mono ?_
 rintro e w3 ⟨st3, lb, lv, rfl, hs6⟩
 have HS6 := Lib.hid hs6
 have HST3 := Lib.hid (HST2.out.trans st3)
 clear hs6 st3 PG HST2 r0 r1 zb zv
 go_wp2
 refine wp_rangeFunc_sl 9 (gf := 158) rfl (enters_of Tryz.func158 (by kernel_rfl) rfl) (pages1 lb lv (pagesIn s.pool 2) (Nat.le_trans (pagesTo_len _ _ _) OKP.out.n2)) (fun _ => rfl)
  (fun pre => ((Pr.pts w.heap.size (.cells #[.pointer (some ⟨v, 0, none⟩)] 35)).star ((Pr.pts v (.cells #[.pointer (some ⟨x.p, 0, none⟩), .map (some x.mb), .slice none 0 0, .int .i64 (s.floor + s.acts.length)] 71)).star ((PoolA x.p s.pool).star ((MapA Tryz.prog 3 x.mb (gone x.f pre)).star ((Row 158 2 x.av s.acts.length (actCells x.axs)).star ((Pr.own x.h).star F))))))) (fun _ _ => Pr.pure False) ?start ?round ?done ?stop
 case start =>
  rw [gone_nil]
  exact HS6.out.perm (by unfold PagesOwn; ac_rfl)
 case round =>
  intro l' pre y W1 F1 hpre hs
  have hmem : y ∈ pagesIn s.pool 2 := hpre.subset (List.mem_append_right _ (List.mem_singleton_self y))
  have hth := (pages_mem.1 hmem).1
  have hno : 1 ≤ y ∧ y ≤ 65536 := ⟨hth.1, by have := hth.2; have := OKP.out.n2; omega⟩
  have HS1 := Lib.hid hs
  clear hs hmem hth hpre
  simp only [encI]
  gi_wp2
  refine ⟨((Pr.pts w.heap.size (.cells #[.pointer (some ⟨v, 0, none⟩)] 35)).star ((Pr.pts v (.cells #[.pointer (some ⟨x.p, 0, none⟩), .map (some x.mb), .slice none 0 0, .int .i64 (s.floor + s.acts.length)] 71)).star ((PoolA x.p s.pool).star ((MapA Tryz.prog 3 x.mb (gone x.f pre)).star ((Row 158 2 x.av s.acts.length (actCells x.axs)).star ((Pr.own x.h).star F)))))).star (PagesOwn lb lv (pagesIn s.pool 2)), Stays.refl _, HS1.out, ?_⟩
  clear HS1
  intro F2 W2 _ hs2
  have h1 : Sat ((MapA Tryz.prog 3 x.mb (gone x.f pre)).star ((Pr.pts w.heap.size (.cells #[.pointer (some ⟨v, 0, none⟩)] 35)).star ((Pr.pts v (.cells #[.pointer (some ⟨x.p, 0, none⟩), .map (some x.mb), .slice none 0 0, .int .i64 (s.floor + s.acts.length)] 71)).star ((PoolA x.p s.pool).star ((Row 158 2 x.av s.acts.length (actCells x.axs)).star ((Pr.own x.h).star (F.star ((PagesOwn lb lv (pagesIn s.pool 2)).star F2)))))))) W2 := hs2.perm (by ac_rfl)
  have gV : W2.cell? ⟨w.heap.size, 0, none⟩ = some (.pointer (some ⟨v, 0, none⟩)) := by rw [cell_of_heap h1.right.pts_heap]; rfl
  have gm : W2.cell? ⟨v, 1, none⟩ = some (.map (some x.mb)) := by rw [cell_of_heap h1.right.right.pts_heap]; rfl
  have zV := h1.right.lt
  have zv := h1.right.right.lt
  have H1 := Lib.hid h1
  clear h1 hs2
  gi_wp2_with (
   refine wpListIn_del rfl _ _ _ rfl Tryz.underlying3 Tryz.underlying68 y hno rfl rfl H1.out ?_
   intro w4 hs4 hg4
   have HS4 := Lib.hid hs4
   have HG4 := Lib.hid hg4
   clear hs4 hg4)
  refine ⟨(Stays.refl W2).of_grown HG4.out, ?_⟩
  dsimp only
  rw [gone_snoc]
  exact HS4.out.perm (by ac_rfl)
 case done =>
  intro D xs W2 hxs hst hs
  subst hxs
  have h10 : Sat ((Pr.pts D (.deferred (some []))).star ((Pr.pts w.heap.size (.cells #[.pointer (some ⟨v, 0, none⟩)] 35)).star ((Pr.pts v (.cells #[.pointer (some ⟨x.p, 0, none⟩), .map (some x.mb), .slice none 0 0, .int .i64 (s.floor + s.acts.length)] 71)).star ((PoolA x.p s.pool).star ((MapA Tryz.prog 3 x.mb (gone x.f (pagesIn s.pool 2))).star ((Row 158 2 x.av s.acts.length (actCells x.axs)).star ((Pr.own x.h).star (F.star (PagesOwn lb lv (pagesIn s.pool 2)))))))))) W2 := hs.perm (by ac_rfl)
  have r0 : W2.cell? ⟨w.heap.size, 0, none⟩ = some (.pointer (some ⟨v, 0, none⟩)) := by rw [cell_of_heap h10.right.pts_heap]; rfl
  have r1 : W2.cell? ⟨v, 0, none⟩ = some (.pointer (some ⟨x.p, 0, none⟩)) := by rw [cell_of_heap h10.right.right.pts_heap]; rfl
  have zb := h10.right.lt
  have zv := h10.right.right.lt
  have PS := Lib.hid (psettle_any x.p s.pool _ _ (h10.perm (B := ((PoolA x.p s.pool).star ((Pr.pts D (.deferred (some []))).star ((Pr.pts w.heap.size (.cells #[.pointer (some ⟨v, 0, none⟩)] 35)).star ((Pr.pts v (.cells #[.pointer (some ⟨x.p, 0, none⟩), .map (some x.mb), .slice none 0 0, .int .i64 (s.floor + s.acts.length)] 71)).star ((MapA Tryz.prog 3 x.mb (gone x.f (pagesIn s.pool 2))).star ((Row 158 2 x.av s.acts.length (actCells x.axs)).star ((Pr.own x.h).star (F.star (PagesOwn lb lv (pagesIn s.pool 2))))))))))) (by ac_rfl)))
  have HST4 := Lib.hid (HST3.out.trans hst)
  clear hs h10 hst
  go_wp2_with fail
  refine PS.out.mono ?_
  rintro e w5 ⟨rfl, hs7, st5⟩
  have h11 : Sat ((Pr.pts D (.deferred (some []))).star ((Pr.pts w.heap.size (.cells #[.pointer (some ⟨v, 0, none⟩)] 35)).star ((Row 158 2 x.av s.acts.length (actCells x.axs)).star ((PagesOwn lb lv (pagesIn s.pool 2)).star ((Pr.pts v (.cells #[.pointer (some ⟨x.p, 0, none⟩), .map (some x.mb), .slice none 0 0, .int .i64 (s.floor + s.acts.length)] 71)).star ((PoolA x.p s.pool.settled).star ((MapA Tryz.prog 3 x.mb (gone x.f (pagesIn s.pool 2))).star ((Pr.own x.h).star F)))))))) w5 := hs7.perm (by ac_rfl)
  have H11 := Lib.hid h11
  have HST5 := Lib.hid (HST4.out.trans st5)
  clear hs7 h11 st5 PS
  go_wp2
  refine marks_end1 (D := D) rfl H11.out.pts_heap ⟨_, results_none rfl _ _ _, rfl, ?_, HST5.out.putObj _ _⟩
  have h12 := (H11.out.putObj (.deferred none)).right.right.right.right
  refine vaultA_iff.2 ⟨{ x with f := gone x.f (pagesIn s.pool 2), av := .slice none 0 0, axs := [] }, ⟨?_, ⟨rfl, fun i h1 => absurd h1 (by simp)⟩, ?_, ?_⟩, ?_⟩
  · intro m
    have h13 := HOK.out.on m
    show (match (if s.pool.state m = 2 then none else s.on m) with | none => gone x.f (pagesIn s.pool 2) m = none | some g => ∃ v, gone x.f (pagesIn s.pool 2) m = some v ∧ PageIn x.h v g)
    unfold gone
    by_cases hm : s.pool.state m = 2
    · rw [if_pos hm, if_pos (pages_mem.2 ⟨there_of_state (by omega), hm⟩)]
    · rw [if_neg hm, if_neg (fun h => hm (pages_mem.1 h).2)]
      exact h13
  · show (0 : Int) ≤ s.floor + s.acts.length
    omega
  · show s.floor + s.acts.length + ((0 : Nat) : Int) ≤ _
    omega
  · refine h12.perm ?_
    unfold VaultAt
    show _ = (Pr.star (Pr.pts v (.cells #[.pointer (some ⟨x.p, 0, none⟩), .map (some x.mb), .slice none 0 0, .int .i64 (s.floor + s.acts.length)] 71)) ((PoolA x.p s.pool.settled).star ((MapA Tryz.prog 3 x.mb (gone x.f (pagesIn s.pool 2))).star ((Row 158 2 (.slice none 0 0) 0 []).star (Pr.own x.h))))).star F
    rw [Row.nil, Pr.emp_star]
    ac_rfl
 case stop =>
  intro D c pre W2 _ hst hs
  exact (Sat.pure.1 (hs.perm (Pr.star_assoc _ _ _))).1.elim
end Go.Proofs.YtbobcmimkonnoaaGreat.settleV
