/- How many pages a value takes; the calls whose answers are fixed. -/
import Derived.Test.YtbobcmimkonnoaaGreatBlobAnswersM12
import Derived.Lib.SmallJoins
import Derived.Deep.Slices
import Derived.WideKeyArgs
import Derived.Test.YtbobcmimkonnoaaGreatBlobAnswersM08
import Derived.Test.YtbobcmimkonnoaaGreatBlobAnswersM11
namespace Go.Proofs.YtbobcmimkonnoaaGreat.blob3
open ChangeShapes WideShapes ChangeAt RowKit Sl Cop pool1 pool2 pool5 pool9 clone page vault1 vault2 vault3 vault4 vault5 vault6 blob1 blob2
def pagesOf (n : Int) : Int := if n ≤ 32 then 0 else (n - 1) / 480 + 1
set_option maxRecDepth 100000 in
set_option maxHeartbeats 400000 in
theorem pages_any (n : Int) (hn : n ≤ 9223372036854775807) (w : World) : Calls Tryz.prog 72 #[.int .i64 n] w fun e w' => e = .returned (.int .i64 (pagesOf n)) ∧ w = w' := by
 unfold pagesOf
 by_cases h : n ≤ 32
 · rw [if_pos h]
   go_enter Tryz.func72, Tryz.ntmps72
   go_wp2
   go_ret
   exact ⟨rfl, rfl⟩
 · rw [if_neg h]
   have hq : Int.tdiv (n - 1) 480 = (n - 1) / 480 := by rw [Int.tdiv_eq_ediv_of_nonneg (by omega)]
   have hb : 0 ≤ (n - 1) / 480 ∧ (n - 1) / 480 ≤ 9223372036854775000 := by omega
   generalize (n - 1) / 480 = q at *
   go_enter Tryz.func72, Tryz.ntmps72
   go_wp2
   go_ret
   exact ⟨rfl, rfl⟩
set_option maxRecDepth 100000 in
set_option maxHeartbeats 400000 in
theorem rpages_any (n : Int) (hn : n ≤ 9223372036854775807) (w : World) : Calls Tryz.prog 78 #[.int .i64 n] w fun e w' => e = .returned (.int .i64 (pagesOf n)) ∧ w = w' := by
 unfold pagesOf
 by_cases h : n ≤ 32
 · rw [if_pos h]
   go_enter Tryz.func78, Tryz.ntmps78
   go_wp2
   go_ret
   exact ⟨rfl, rfl⟩
 · rw [if_neg h]
   have hq : Int.tdiv n 480 = n / 480 := by rw [Int.tdiv_eq_ediv_of_nonneg (by omega)]
   have hr : Int.tmod n 480 = n % 480 := by rw [Int.tmod_eq_emod_of_nonneg (by omega)]
   have hb : 0 ≤ n / 480 ∧ n / 480 ≤ 9223372036854775000 := by omega
   by_cases h0 : n % 480 = 0
   · have e : (n - 1) / 480 + 1 = n / 480 := by omega
     rw [e]
     generalize n / 480 = q at *
     generalize n % 480 = r at *
     subst h0
     go_enter Tryz.func78, Tryz.ntmps78
     go_wp2
     go_ret
     exact ⟨rfl, rfl⟩
   · have e : (n - 1) / 480 + 1 = n / 480 + 1 := by omega
     rw [e]
     have hne : (n % 480 == 0) = false := by rw [beq_eq_false_iff_ne]; exact h0
     generalize n / 480 = q at *
     generalize n % 480 = r at *
     go_enter Tryz.func78, Tryz.ntmps78
     go_wp2
     go_ret
     exact ⟨rfl, rfl⟩
def longV : List Int := (List.replicate 500 0).set 499 7
theorem long_len : longV.length = 500 := by rw [longV, List.length_set, List.length_replicate]
theorem long_chunks : chunks longV = 2 := by unfold chunks; rw [long_len]
theorem new3_many : (newV 2 3).pool.many 1 = 3 := by decide
theorem child_two {s' : VaultS} {c : Int} {ns : List Int} (ok : PoolOk s'.pool) (ht : Taken (newV 2 3) s' ns) (hc : ChainAt s' longV 2 0 c ns) : c = 2 ∧ s'.pool.many 1 = 1 := by
 obtain ⟨c1, ns1, rfl, hb, _, _, c2, ns2, rfl, hb2, _, _, _, rfl⟩ := hc
 have h1 := ht.many
 rw [new3_many] at h1
 simp only [List.length_cons, List.length_nil] at h1
 have h2 := ht.desc
 simp only [List.pairwise_cons, List.mem_singleton] at h2
 have h3 := h2.1 c1 (by simp)
 obtain ⟨m, hm⟩ := free_of_many ok (k := 1) (by omega)
 have h4 := ht.low m hm c (by simp)
 have h5 := there_of_state (by omega : s'.pool.state m ≠ 0)
 have h6 := ht.len
 have h7 : (newV 2 3).pool.counts.length = 3 := rfl
 have h8 := h5.2
 omega
set_option maxRecDepth 100000 in
set_option maxHeartbeats 4000000 in
theorem fixed_yes (F : Pr) (w : World) (hF : Sat F w) : Calls Tryz.prog 15 #[] w fun e w' => e = .returned (.bool true) ∧ Sat F w' ∧ Stays w w' := by
 have C := Lib.hid (vnew_any 3 2 (by omega) F w hF)
 have hmk : ∀ wx : World, (Instr.makeSlice 29 (.int .i64 500) (.int .i64 500)).run Tryz.prog wx = .ok (.slice (some ⟨wx.heap.size, 0, none⟩) 500 500) (wx.alloc (.cells (madeCells #[.int .u8 0] 500) 5)) :=
  run_make_row' (P := Tryz.prog) 29 5 (.int .u8 0) 1 Tryz.underlying29 infoByte rfl .i64 .i64 500 (by omega) (by omega)
 clear hF
 go_enter Tryz.func15, Tryz.ntmps15
 go_wp2_with fail
 refine C.out.mono ?_
 rintro e w1 ⟨hst, v, rfl, h1⟩
 clear C
 have e3 : (madeCells #[Value.int .u8 0] 500).setIfInBounds 499 (.int .u8 7) = (longV.map (Value.int .u8)).toArray := by
  rw [made_rep, List.setIfInBounds_toArray, longV, List.map_set, List.map_replicate]
 have hl : (longV.map (Value.int .u8)).length = 500 := by rw [List.length_map, long_len]
 have qc : (w1.alloc (.cells (madeCells #[.int .u8 0] 500) 5)).cell? ⟨w1.heap.size, 499, none⟩ = some (.int .u8 0) := by
  rw [cell_of_heap (heap_new _ _), made_rep, List.getElem?_toArray, List.getElem?_replicate]; rfl
 have es : (w1.alloc (.cells ((madeCells #[Value.int .u8 0] 500).setIfInBounds 499 (.int .u8 7)) 5)).heap.size = w1.heap.size + 1 := by simp
 have h2 : Sat ((Row 5 1 (.slice (some ⟨w1.heap.size, 0, none⟩) 500 500) 500 (longV.map (Value.int .u8))).star ((VaultA v (newV 2 3)).star F)) (w1.alloc (.cells ((madeCells #[Value.int .u8 0] 500).setIfInBounds 499 (.int .u8 7)) 5)) := by
  rw [e3]
  refine Row.mk' (sp := []) (by rw [hl]) (by rw [hl]; rfl) (Nat.le_refl _) (by simp [maxLen]) ?_
  rw [List.append_nil]
  exact h1.alloc _
 have h3 := h2.alloc (.cells #[.int .u8 107] 5 (1, 2))
 rw [es] at h3
 have hcv := Go.Joins.run_convert_bytes_const_at (P := Tryz.prog) (w1.alloc (.cells ((madeCells #[Value.int .u8 0] 500).setIfInBounds 499 (.int .u8 7)) 5)) 29 5 #[.int .u8 107] 1 1 (w1.heap.size + 1) es.symm Tryz.underlying29 Tryz.underlying5
 obtain ⟨hp, ⟨hpk, hpv⟩, h4⟩ := toArena (F := (VaultA v (newV 2 3)).star F) (A := (Pr.pts (w1.heap.size + 1) (.cells #[.int .u8 107] 5 (1, 2))).star (Row 5 1 (.slice (some ⟨w1.heap.size, 0, none⟩) 500 500) 500 (longV.map (Value.int .u8))))
  (Q := fun x => Bytes x (.slice (some ⟨w1.heap.size + 1, 0, none⟩) 1 1) [107] ∧ Bytes x (.slice (some ⟨w1.heap.size, 0, none⟩) 500 500) longV) (h3.perm (by ac_rfl)) (by
   intro x hx
   obtain ⟨a, b, ha, hb, s1, s2⟩ := star_sub hx
   refine ⟨⟨by simp, _, _, rfl, Nat.le_refl _, by simp [maxLen], fun _ => ⟨_, _, rfl, fun i hi => ?_⟩⟩, ?_⟩
   · have : i = 0 := by simp at hi; omega
     subst this
     exact Hp.cell_sub s1 (show a.cell _ _ = _ by rw [ha]; simp [Hp.cell])
   · unfold Bytes
     rw [long_len]
     exact (Row.rowIn hb).sub s2)
 have S := store_long v (newV 2 3) (.slice (some ⟨w1.heap.size + 1, 0, none⟩) 1 1) (.slice (some ⟨w1.heap.size, 0, none⟩) 500 500) hp [107] longV hpk hpv (by simp) (by rw [long_len]; omega) F _ (h4.perm (by ac_rfl)) (by rw [long_chunks, new3_many]; omega) (by rw [long_chunks]; decide) (by rw [long_chunks]; decide)
 have HS := Lib.hid S
 have HST := Lib.hid ((hst.alloc (.cells ((madeCells #[Value.int .u8 0] 500).setIfInBounds 499 (.int .u8 7)) 5)).alloc (.cells #[.int .u8 107] 5 (1, 2)))
 clear S h1 h2 h3 h4 hpk hpv e3 es hst
 go_wp2_with fail
 refine HS.out.mono ?_
 rintro e w2 ⟨hst2, kv', c, s', ns, h', rfl, hk', ht, hc, h5⟩
 rw [long_chunks] at hc
 have h6 := h5.perm (B := (VaultA v s').star ((Pr.own h').star ((Pr.own hp).star F))) (by ac_rfl)
 obtain ⟨rfl, hmany⟩ := child_two (vault_ok h6).1 ht hc
 obtain ⟨_, ak, ck, rfl, _⟩ := hk'
 rw [long_len]
 have h7 := h6.alloc (.cells #[.slice ak [107].length ck, .slice none 0 0, .int .i64 2, .int .i64 500] 58)
 have h8 := h7.perm (B := (VaultA v s').star ((Pr.pts w2.heap.size (.cells #[.slice ak [107].length ck, .slice none 0 0, .int .i64 2, .int .i64 500] 58)).star ((Pr.own h').star ((Pr.own hp).star F)))) (by ac_rfl)
 have L := load_long v s' ak [107].length ck 2 longV ns (by rw [long_chunks]; exact hc) (by rw [long_len]; omega) _ _ h8
 rw [long_len] at L
 have HL := Lib.hid L
 have HST2 := Lib.hid ((HST.out.trans hst2).alloc (.cells #[.slice ak [107].length ck, .slice none 0 0, .int .i64 2, .int .i64 500] 58))
 have HT := Lib.hid hmany
 clear L h5 h6 h7 h8 hst2 ht hc HS hmany
 go_wp2_with fail
 refine HL.out.mono ?_
 rintro e w3 ⟨hst3, o, rfl, h9⟩
 obtain ⟨ao, co, eo, _, hrow⟩ := Row.read h9
 rw [long_len] at eo hrow
 obtain ⟨bo, ebo, hcells⟩ := hrow (by omega)
 subst ebo
 subst eo
 have q7 := (hcells 499 (by omega)).1
 rw [show (longV.map (Value.int .u8))[499]? = some (.int .u8 7) from by rw [List.getElem?_map, longV, List.getElem?_set_self (by rw [List.length_replicate]; omega)]; rfl] at q7
 have h10 := h9.right.perm (Pr.left_comm _ _ _)
 have i2 : w3.cell? ⟨w2.heap.size, 2, none⟩ = some (.int .i64 2) := by rw [cell_of_heap h10.pts_heap]; rfl
 have i3 : w3.cell? ⟨w2.heap.size, 3, none⟩ = some (.int .i64 500) := by rw [cell_of_heap h10.pts_heap]; rfl
 obtain ⟨x, ok, h11⟩ := vaultA_iff.1 h9.right
 have h12 : Sat ((PoolA x.p s'.pool).star ((Pr.pts v (.cells #[.pointer (some ⟨x.p, 0, none⟩), .map (some x.mb), x.av, .int .i64 s'.floor] 71)).star
  ((((MapA Tryz.prog 3 x.mb x.f).star ((Row 158 2 x.av s'.acts.length (actCells x.axs)).star (Pr.own x.h)))).star ((Pr.pts w2.heap.size (.cells #[.slice ak [107].length ck, .slice none 0 0, .int .i64 2, .int .i64 500] 58)).star ((Pr.own h').star ((Pr.own hp).star F)))))) w3 := h11.perm (by unfold VaultAt; ac_rfl)
 have qv : w3.cell? ⟨v, 0, none⟩ = some (.pointer (some ⟨x.p, 0, none⟩)) := by rw [cell_of_heap h12.right.pts_heap]; rfl
 have T := tally_A x.p s'.pool 1 (.inl rfl) _ _ h12
 have et : s'.pool.tally 1 = 1 := by
  unfold PoolS.tally
  rw [if_neg (by omega), HT.out]
  rfl
 rw [et] at T
 have HTA := Lib.hid T
 have HF := Lib.hid h9.right.right.right.right.right
 have HST3 := Lib.hid (HST2.out.trans hst3)
 clear h9 h10 h11 h12 T ok hcells hrow hst3 HL et hmk
 go_wp2_with fail
 refine HTA.out.mono ?_
 rintro e w4 ⟨rfl, rfl⟩
 go_wp2_with fail
 refine (pages_any 481 (by omega) _).mono ?_
 rintro e w4 ⟨rfl, rfl⟩
 rw [show pagesOf 481 = 2 from by decide]
 go_wp2
 go_ret
 exact ⟨rfl, HF.out, HST3.out⟩
end Go.Proofs.YtbobcmimkonnoaaGreat.blob3
namespace Go.Proofs.YtbobcmimkonnoaaGreat.close
open ChangeShapes WideShapes ChangeAt RowKit Sl
/-- All that there is. -/
def heapOf (w : World) : Hp := fun k => w.heap[k]?
theorem sat_heap (w : World) : Sat (Pr.own (heapOf w)) w := ⟨heapOf w, rfl, fun _ _ e => e⟩
theorem heap_of_sat {w w' : World} (h : Sat (Pr.own (heapOf w)) w') : ∀ k, k < w.heap.size → w'.heap[k]? = w.heap[k]? := by
 obtain ⟨x, rfl, hl⟩ := h
 intro k hk
 have e : heapOf w k = some w.heap[k] := Array.getElem?_eq_getElem hk
 rw [hl k _ e]
 exact e.symm
theorem kept_of {w w' : World} (hs : Stays w w') (h : ∀ k, k < w.heap.size → w'.heap[k]? = w.heap[k]?) (may : MemPlace → Prop) : w.keptBut w' may := by
 refine ⟨hs.os, hs.output, fun i hi => ?_⟩
 rw [h i hi]
 cases w.heap[i]? with
 | none => rfl
 | some o => cases o <;> simp
end Go.Proofs.YtbobcmimkonnoaaGreat.close
namespace Go.Proofs.YtbobcmimkonnoaaGreat.openArgs
open ChangeShapes WideShapes ChangeAt RowKit Sl Cop Deep clone close
theorem laidOut : laidOutB Tryz.prog = true := by kernel_rfl
theorem heap_cell {w : World} {b i : Nat} {v : Value} (h : w.cell? ⟨b, i, none⟩ = some v) : (heapOf w).cell b i = some v := by
 unfold World.cell? at h
 unfold Hp.cell heapOf
 simp only at h
 cases hb : w.heap[b]? with
 | none => rw [hb] at h; simp at h
 | some o =>
  rw [hb] at h
  cases o <;> simp_all
section
variable {H : Type} {enc : TypeId × Value → H}
theorem cells_u8 : Tryz.prog.cellsOf 5 = 1 := by kernel_rfl
set_option maxRecDepth 100000 in
/-- Read again. -/
theorem stays {W W' : World} (hh : ∀ k, k < W.heap.size → W'.heap[k]? = W.heap[k]?) {t : TypeId} (hr : Tryz.prog.readableRec t = true) (ht : t < Tryz.prog.types.size) {v : Value} {d : DataW H} {p : List MemPlace}
 (h : DataW.Trod enc Tryz.prog W 0 (fun _ => true) true t v d p) (hp : ∀ x ∈ p, x.block < W.heap.size) : DataW.Trod enc Tryz.prog W' 0 (fun x => decide (x < W.heap.size)) true t v d p :=
 WideElems.Trod_stays (P := Tryz.prog) laidOut hr ht h
  (fun x hx => by
   have hlt := hp x hx
   cases x with
   | cell b o =>
    show W'.cell? ⟨b, o, none⟩ = W.cell? ⟨b, o, none⟩
    unfold World.cell?
    rw [hh b hlt]
   | map b => exact hh b hlt)
  (fun x hx => by simpa using hp x hx)
end
end Go.Proofs.YtbobcmimkonnoaaGreat.openArgs
namespace Go.Cop
/-- The counts c1 come of c0 by these acts. -/
def Trail (s : PoolS) : List Int → List (Int × Int) → List Int → Prop
 | c0, [], c1 => c0 = c1
 | c0, a :: l, c1 => ({ s with counts := c0 } : PoolS).there a.1 ∧ 0 ≤ ({ s with counts := c0 } : PoolS).count a.1 ∧ ({ s with counts := c0 } : PoolS).count a.1 ≤ 65536 ∧ (-65536 ≤ a.2 ∧ a.2 ≤ 65536) ∧
  Trail s (({ s with counts := c0 } : PoolS).turn a.1 a.2).counts l c1
theorem trail_snoc {s : PoolS} {a : Int × Int} : ∀ {l : List (Int × Int)} {c0 c : List Int}, Trail s c0 (l ++ [a]) c → ∃ c', Trail s c0 l c' ∧ ({ s with counts := c' } : PoolS).there a.1 ∧
 0 ≤ ({ s with counts := c' } : PoolS).count a.1 ∧ ({ s with counts := c' } : PoolS).count a.1 ≤ 65536 ∧ (-65536 ≤ a.2 ∧ a.2 ≤ 65536) ∧ c = (({ s with counts := c' } : PoolS).turn a.1 a.2).counts := by
 intro l
 induction l with
 | nil => intro c0 c h; obtain ⟨h1, h2, h3, h4, h5⟩ := h; exact ⟨c0, rfl, h1, h2, h3, h4, h5.symm⟩
 | cons x l ih =>
  intro c0 c h
  obtain ⟨h1, h2, h3, h4, h5⟩ := h
  obtain ⟨c', h6, h7⟩ := ih h5
  exact ⟨c', ⟨h1, h2, h3, h4, h6⟩, h7⟩
theorem trail_then {s : PoolS} {a : Int × Int} : ∀ {l : List (Int × Int)} {c0 c : List Int}, Trail s c0 l c → ({ s with counts := c } : PoolS).there a.1 →
 0 ≤ ({ s with counts := c } : PoolS).count a.1 → ({ s with counts := c } : PoolS).count a.1 ≤ 65536 → (-65536 ≤ a.2 ∧ a.2 ≤ 65536) → Trail s c0 (l ++ [a]) (({ s with counts := c } : PoolS).turn a.1 a.2).counts := by
 intro l
 induction l with
 | nil => intro c0 c h h1 h2 h3 h4; cases h; exact ⟨h1, h2, h3, h4, rfl⟩
 | cons x l ih =>
  intro c0 c h h1 h2 h3 h4
  obtain ⟨g1, g2, g3, g4, g5⟩ := h
  exact ⟨g1, g2, g3, g4, ih g5 h1 h2 h3 h4⟩
theorem turn_back {s : PoolS} {n b : Int} (h : s.there n) : (s.turn n b).turn n (-b) = s := by
 have hc := turn_count (b := b) (m := n) h
 rw [if_pos rfl] at hc
 have hx : s.count n = s.counts.getD (n.toNat - 1) 0 := by unfold PoolS.count; rw [if_pos h]
 obtain ⟨h1, h2⟩ := h
 have : (s.turn n b).turn n (-b) = { s with counts := ((s.turn n b).counts).set (n.toNat - 1) ((s.turn n b).count n + -b) } := rfl
 rw [this, hc]
 have e : (s.turn n b).counts.set (n.toNat - 1) (s.count n + b + -b) = s.counts := by
  show (s.counts.set _ _).set _ _ = _
  rw [List.set_set, show s.count n + b + -b = s.count n by omega, hx]
  apply List.ext_getElem?
  intro i
  by_cases hi : i = n.toNat - 1
  · subst hi
    rw [List.getElem?_set_self (by omega), List.getD_eq_getElem?_getD, List.getElem?_eq_getElem (by omega)]
    rfl
  · rw [List.getElem?_set_ne (by omega)]
 rw [e]
end Go.Cop
namespace Go.Proofs.YtbobcmimkonnoaaGreat.pool6
open ChangeShapes WideShapes ChangeAt RowKit Sl Cop pool1 pool2 pool3 pool4 pool5
/-- One act, to be undone. -/
theorem poolA_act {p : Nat} {s : PoolS} {F : Pr} {w : World} (h : Sat ((PoolA p s).star F) w) {k : Nat} (hk : k < s.acts.length) :
 ∃ ab c bp bn bb, ∃ h0 : Hp, h0.le w ∧ w.cell? ⟨p, 9, none⟩ = some (.slice (some ⟨ab, 0, none⟩) s.acts.length c) ∧
  w.cell? ⟨ab, k, none⟩ = some (.func (.func 165) #[] #[.pointer (some ⟨bp, 0, none⟩), .pointer (some ⟨bn, 0, none⟩), .pointer (some ⟨bb, 0, none⟩)]) ∧
  h0.cell bp 0 = some (.pointer (some ⟨p, 0, none⟩)) ∧ h0.cell bn 0 = some (.int .i64 s.acts[k].1) ∧ h0.cell bb 0 = some (.int .i64 s.acts[k].2) := by
 obtain ⟨ok, cv, lv, fb, av, hA⟩ := poolA_iff.1 h
 have hA1 : Sat ((ActsA p av s.acts).star ((Pr.pts p (.cells (poolCells s cv lv fb av) 124)).star ((IntsRow cv s.counts).star ((BoolsRow lv s.last).star ((SetOf fb fun m => s.state m = 1).star F))))) w := hA.perm (by unfold PoolAt; ac_rfl)
 unfold ActsA at hA1
 obtain ⟨⟨fs, hx⟩, h2⟩ := Sat.ex.1 hA1
 rw [Pr.star_assoc] at h2
 obtain ⟨⟨l1, l2⟩, h3⟩ := Sat.pure.1 h2
 dsimp only at h3 l1 l2
 rw [Pr.star_assoc] at h3
 obtain ⟨a, c, hav, _, hrow⟩ := Row.read h3
 obtain ⟨ab, hab, hc⟩ := hrow (by omega)
 subst hab
 subst hav
 obtain ⟨bp, bn, bb, e, g1, g2, g3⟩ := l2 k hk (by omega)
 refine ⟨ab, c, bp, bn, bb, hx, h3.right.own, by rw [cell_of_heap h3.right.right.pts_heap]; rfl, ?_, g1, g2, g3⟩
 rw [(hc k (by omega)).1, List.getElem?_eq_getElem (by omega), e]
end Go.Proofs.YtbobcmimkonnoaaGreat.pool6
namespace Go.Proofs.YtbobcmimkonnoaaGreat.pool7
open ChangeShapes WideShapes ChangeAt RowKit Sl Cop pool1 pool2 pool3 pool4 pool5 pool6
theorem cap_of {p : Nat} {s : PoolS} {cv lv : Value} {fb : Nat} {av : Value} {F : Pr} {w : World} {a : Option Addr} {c : Nat} (h : Sat ((PoolAt p s cv lv fb av).star F) w) (h9 : w.cell? ⟨p, 9, none⟩ = some (.slice a s.acts.length c)) : s.acts.length ≤ c := by
 have hA1 : Sat ((Pr.pts p (.cells (poolCells s cv lv fb av) 124)).star ((ActsA p av s.acts).star ((IntsRow cv s.counts).star ((BoolsRow lv s.last).star ((SetOf fb fun m => s.state m = 1).star F))))) w := h.perm (by unfold PoolAt; ac_rfl)
 have e : w.cell? ⟨p, 9, none⟩ = some av := by rw [cell_of_heap hA1.pts_heap]; rfl
 rw [e] at h9
 cases h9
 have h2 := hA1.right
 unfold ActsA at h2
 obtain ⟨⟨fs, hx⟩, h3⟩ := Sat.ex.1 h2
 rw [Pr.star_assoc] at h3
 obtain ⟨_, h4⟩ := Sat.pure.1 h3
 dsimp only at h4
 rw [Pr.star_assoc] at h4
 obtain ⟨_, (⟨e1, e2, _⟩ | ⟨b', cap', sp, e1, _, e2, _, _⟩)⟩ := Row.open' h4
 · simp only [Value.slice.injEq] at e1; omega
 · simp only [Value.slice.injEq] at e1; omega
theorem row_cut {T n c m : Nat} {a : Option Addr} {xs : List Value} {F : Pr} {w : World} (h : Sat ((Row T 1 (.slice a n c) n xs).star F) w) (hm : m ≤ n) : Sat ((Row T 1 (.slice a m c) m (xs.take m)).star F) w := by
 refine h.mono fun x hx => ?_
 obtain ⟨hl, (⟨e, hn, hx⟩ | ⟨b, cap, sp, e, h1, h2, h3, h4⟩)⟩ := hx
 · cases e
   have : m = 0 := by omega
   subst this
   exact ⟨by simp, .inl ⟨rfl, rfl, hx⟩⟩
 · cases e
   refine ⟨by simp; omega, .inr ⟨b, c, xs.drop m ++ sp, rfl, by simp; omega, by omega, h3, ?_⟩⟩
   rw [← List.append_assoc, List.take_append_drop]
   exact h4
theorem acts_cut {p : Nat} {s : PoolS} {cv lv : Value} {fb : Nat} {a : Option Addr} {c m : Nat} {F : Pr} {w : World} (ok : PoolOk s) (hm : m ≤ s.acts.length)
 (h : Sat ((PoolAt p s cv lv fb (.slice a s.acts.length c)).star F) w) : Sat ((PoolA p { s with acts := s.acts.take m }).star F) (w.setCell ⟨p, 9, none⟩ (.slice a m c)) := by
 have hlen : (s.acts.take m).length = m := by rw [List.length_take]; omega
 have ok' : PoolOk { s with acts := s.acts.take m } := ⟨ok.n1, ok.n2, ok.len, ok.r1, ok.r2, ok.cs, ok.fl, by
  have := ok.mb
  show s.floor + ((s.acts.take m).length : Nat) ≤ _
  rw [hlen]; omega⟩
 refine poolA_iff.2 ⟨ok', cv, lv, fb, .slice a m c, ?_⟩
 have hA1 : Sat ((ActsA p (.slice a s.acts.length c) s.acts).star ((Pr.pts p (.cells (poolCells s cv lv fb (.slice a s.acts.length c)) 124)).star ((IntsRow cv s.counts).star ((BoolsRow lv s.last).star ((SetOf fb fun m => s.state m = 1).star F))))) w := h.perm (by unfold PoolAt; ac_rfl)
 unfold ActsA at hA1
 obtain ⟨⟨fs, hx⟩, h2⟩ := Sat.ex.1 hA1
 rw [Pr.star_assoc] at h2
 obtain ⟨⟨l1, l2⟩, h3⟩ := Sat.pure.1 h2
 dsimp only at l1 l2 h3
 rw [Pr.star_assoc] at h3
 have h4 := row_cut h3 hm
 have h5 : Sat ((Pr.pts p (.cells (poolCells s cv lv fb (.slice a s.acts.length c)) 124)).star ((Row 179 1 (.slice a m c) m (fs.take m)).star ((Pr.own hx).star ((IntsRow cv s.counts).star ((BoolsRow lv s.last).star ((SetOf fb fun m => s.state m = 1).star F)))))) w := h4.perm (by ac_rfl)
 have h6 : Sat ((Pr.pts p (.cells (poolCells s cv lv fb (.slice a m c)) 124)).star ((Row 179 1 (.slice a m c) m (fs.take m)).star ((Pr.own hx).star ((IntsRow cv s.counts).star ((BoolsRow lv s.last).star ((SetOf fb fun m => s.state m = 1).star F)))))) (w.setCell ⟨p, 9, none⟩ (.slice a m c)) := h5.setCell (i := 9) (.slice a m c)
 have h7 : Sat (((Row 179 1 (.slice a m c) m (fs.take m)).star (Pr.own hx)).star ((Pr.pts p (.cells (poolCells s cv lv fb (.slice a m c)) 124)).star ((IntsRow cv s.counts).star ((BoolsRow lv s.last).star ((SetOf fb fun m => s.state m = 1).star F))))) (w.setCell ⟨p, 9, none⟩ (.slice a m c)) := h6.perm (by ac_rfl)
 have h8 : Sat ((ActsA p (.slice a m c) (s.acts.take m)).star ((Pr.pts p (.cells (poolCells s cv lv fb (.slice a m c)) 124)).star ((IntsRow cv s.counts).star ((BoolsRow lv s.last).star ((SetOf fb fun m => s.state m = 1).star F))))) (w.setCell ⟨p, 9, none⟩ (.slice a m c)) := by
  unfold ActsA
  refine Sat.ex.2 ⟨(fs.take m, hx), ?_⟩
  rw [Pr.star_assoc]
  refine Sat.pure.2 ⟨⟨by rw [List.length_take, List.length_take, l1], fun i hi hf => ?_⟩, ?_⟩
  · have h1 : i < s.acts.length := by rw [hlen] at hi; omega
    rw [List.getElem_take, List.getElem_take]
    exact l2 i h1 (by omega)
  · rw [hlen]; exact h7
 exact h8.perm (show _ = ((Pr.pts p (.cells (poolCells s cv lv fb (.slice a m c)) 124)).star ((IntsRow cv s.counts).star ((BoolsRow lv s.last).star ((SetOf fb fun m => s.state m = 1).star (ActsA p (.slice a m c) (s.acts.take m)))))).star F from by ac_rfl)
set_option maxHeartbeats 1000000 in
theorem undo_any (p : Nat) (s : PoolS) (m : Nat) (cm : List Int) (F : Pr) (w : World) (hF : Sat ((PoolA p s).star F) w) (hm : m ≤ s.acts.length) (ht : Trail s cm (s.acts.drop m) s.counts) :
 Calls Tryz.prog 162 #[.pointer (some ⟨p, 0, none⟩), .int .i64 (s.floor + m)] w fun e w' =>
  e = .returned (.bool true) ∧ Sat ((PoolA p { s with counts := cm, acts := s.acts.take m }).star F) w' ∧ Stays w w' := by
 obtain ⟨ok, _, h10, ⟨aa, cc, h9⟩, _⟩ := poolA_rd hF
 have C := Lib.hid (mark_A p s F w hF)
 have b1 := ok.fl
 have b2 := ok.mb
 have em : s.mark = s.floor + s.acts.length := rfl
 rw [em] at C
 have HF := Lib.hid hF
 have HT := Lib.hid ht
 clear hF ht ok em
 go_enter Tryz.func162, Tryz.ntmps162
 go_wp2_with fail
 refine C.out.mono ?_
 rintro e w1 ⟨rfl, hst, hh⟩
 have h9' : w1.cell? ⟨p, 9, none⟩ = some (.slice aa s.acts.length cc) := by unfold World.cell? at h9 ⊢; rw [hh]; exact h9
 have h10' : w1.cell? ⟨p, 10, none⟩ = some (.int .i64 s.floor) := by unfold World.cell? at h10 ⊢; rw [hh]; exact h10
 have H1 := Lib.hid (HF.out.ext (w' := w1) (fun _ _ => by rw [hh]))
 have hd : decide (s.acts.length < m) = false := by rw [decide_eq_false_iff_not]; omega
 have hd2 : ¬ s.acts.length < m := by omega
 clear h9 h10 hh C
 go_wp2
 clear hd hd2
 go_loopw [5] (fun i wr => ∃ (j : Nat) (c : List Int), j ≤ s.acts.length - m ∧ i = .int .i64 ((m : Int) + j - 1) ∧ Stays w wr ∧ Trail s cm ((s.acts.drop m).take j) c ∧ Sat ((PoolA p { s with counts := c }).star F) wr) (fun i _ => (intOf i + 1).toNat)
 case atStart =>
  refine ⟨s.acts.length - m, s.counts, Nat.le_refl _, ?_, hst, ?_, H1.out⟩
  · congr 1; omega
  · rw [List.take_of_length_le (by simp)]; exact HT.out
 case round =>
  obtain ⟨j, c, hj, rfl, hst2, htr, hinv⟩ := hrel
  obtain ⟨ok2, _, h10, ⟨a3, c3, h9⟩, _⟩ := poolA_rd hinv
  dsimp only at h10 h9
  cases j with
  | zero =>
   have hz : cm = c := htr
   subst hz
   have zp : wr.frozen? ⟨p, 9, none⟩ = false := by
    obtain ⟨_, cv, lv, fb, av, hA⟩ := poolA_iff.1 hinv
    unfold PoolAt at hA
    rw [Pr.star_assoc] at hA
    exact frozen_of_heap hA.pts_heap 9
   have hcap : s.acts.length ≤ c3 := by
    obtain ⟨_, cv, lv, fb, av, hA⟩ := poolA_iff.1 hinv
    exact cap_of (s := { s with counts := cm }) hA h9
   have HI := Lib.hid hinv
   clear hinv htr ok2
   go_wp2
   refine wp_region_staged (sz := 57) (by kernel_rfl) [0, 1, 2, 3, 4, 5, 6, 7, 8, 9, 10, 11, 12, 13] [(14, [], [12])] rfl (by kernel_rfl) (by kernel_rfl) (by kernel_rfl) ?_
   have hw : IntKind.i64.wrap (s.floor + (m : Int) - s.floor) = (m : Int) := by rw [show s.floor + (m : Int) - s.floor = (m : Int) by omega, IntKind.wrap_i64]; omega
   have hcond : (0 : Int) ≤ (m : Int) ∧ (m : Int) ≤ (c3 : Int) := by omega
   iterate 14 (refine wpQ_step rfl rfl (fun K hK => ?_); go_simp; (try simp only [hw]); (try rw [if_pos hcond]); refine hK _ ?_; clear hK K)
   refine wpQ_nil ?_
   refine wpRest_act rfl ?_
   go_wp2
   refine onN_mk (wpQ_nil ⟨?_, wpRest_nil ?_⟩)
   · refine chk_cons ?_ chk_nil <;> (refine yieldF_of rfl rfl rfl rfl ?_; go_simp; try omega)
   go_wp2
   go_ret
   obtain ⟨ok2, cv, lv, fb, av, hA⟩ := poolA_iff.1 HI.out
   have e9 : wr.cell? ⟨p, 9, none⟩ = some av := by
    have h9' : Sat ((Pr.pts p (.cells (poolCells { s with counts := cm } cv lv fb av) 124)).star ((ActsA p av s.acts).star ((IntsRow cv cm).star ((BoolsRow lv s.last).star ((SetOf fb fun m => ({ s with counts := cm } : PoolS).state m = 1).star F))))) wr := hA.perm (by unfold PoolAt; ac_rfl)
    rw [cell_of_heap h9'.pts_heap]; rfl
   rw [h9] at e9
   simp only [Option.some.injEq] at e9
   subst e9
   exact ⟨rfl, acts_cut (s := { s with counts := cm }) ok2 hm (hA.drew), (hst2.drew).setCell _ _⟩
  | succ j =>
   have hlt : m + j < s.acts.length := by omega
   have etk : (s.acts.drop m).take (j + 1) = (s.acts.drop m).take j ++ [s.acts[m + j]] := by
    rw [List.take_succ_eq_append_getElem (by simp; omega)]
    simp
   rw [etk] at htr
   obtain ⟨c', t1, t2, t3, t4, t5, t6⟩ := trail_snoc htr
   obtain ⟨ab, c4, bp, bn, bb, h0, hle, g9, gk, g1, g2, g3⟩ := poolA_act hinv (k := m + j) hlt
   dsimp only at g9 gk g1 g2 g3
   have e2 : ({ s with counts := c } : PoolS) = ({ s with counts := c' } : PoolS).turn s.acts[m + j].1 s.acts[m + j].2 := by rw [t6]; rfl
   have hcn := turn_count (b := s.acts[m + j].2) (m := s.acts[m + j].1) t2
   rw [if_pos rfl] at hcn
   have A := act1_any p ({ s with counts := c } : PoolS) s.acts[m + j].1 s.acts[m + j].2 bp bn bb h0 g1 g2 g3 F wr hle hinv (by rw [e2]; exact turn_there.2 t2) (by rw [e2, hcn]; omega) (by rw [e2, hcn]; omega) t5
   have e3 : ({ s with counts := c } : PoolS).turn s.acts[m + j].1 (-s.acts[m + j].2) = { s with counts := c' } := by rw [e2]; exact turn_back t2
   rw [e3] at A
   have HA := Lib.hid A
   have HTR := Lib.hid t1
   clear A e3 hcn e2 t1 t2 t3 t4 t5 t6 htr etk hinv ok2 h9 g1 g2 g3
   go_wp2_with fail
   refine HA.out.mono ?_
   rintro e w2 ⟨rfl, hs, hst3⟩
   go_wp2
   rw [show (m : Int) + ((j : Int) + 1) - 1 - 1 = (m : Int) + j - 1 by omega]
   go_roundw
   case rel => exact ⟨j, c', by omega, rfl, hst2.trans hst3, HTR.out, hs⟩
   case measure => simp [intOf]; omega
end Go.Proofs.YtbobcmimkonnoaaGreat.pool7
namespace Go.Proofs.YtbobcmimkonnoaaGreat.back1
open ChangeShapes WideShapes ChangeAt RowKit Sl Cop Go.Shelf pool1 pool2 pool5 pool9 clone page vault1 vault2 vault3 vault4 vault5 vault6
attribute [local go_sem] Oper.semAt_some
def encW (x : Int × WasX) : Array Value := #[.int .i64 x.1, .agg x.2.cells.toArray]
/-- What was, the last first, each with its index. -/
def backs (ws : List WasX) : List (Int × WasX) := (ws.zipIdx.map fun x => ((x.2 : Int), x.1)).reverse
theorem backs_len (ws : List WasX) : (backs ws).length = ws.length := by simp [backs]
theorem backs_at (ws : List WasX) (k : Nat) (hk : k < ws.length) : (backs ws)[k]'(by rw [backs_len]; exact hk) = (((ws.length - 1 - k : Nat) : Int), ws[ws.length - 1 - k]'(by omega)) := by
 simp [backs]
theorem was_cells_at (ws : List WasX) (k j : Nat) (hk : k < ws.length) (hj : j < 7) : (ws.flatMap WasX.cells)[k * 7 + j]? = ws[k].cells[j]? := by
 induction ws generalizing k with
 | nil => simp at hk
 | cons x ws ih =>
  have hx : x.cells.length = 7 := rfl
  cases k with
  | zero => simp only [List.flatMap_cons, Nat.zero_mul, Nat.zero_add, List.getElem_cons_zero]; rw [List.getElem?_append_left (by omega)]
  | succ k =>
   simp only [List.flatMap_cons, List.getElem_cons_succ]
   rw [List.getElem?_append_right (by omega), hx, show (k + 1) * 7 + j - 7 = k * 7 + j by omega]
   exact ih k (by simpa using hk)
def BackOwn (sb : Nat) (wv : Value) (h : Hp) : Pr := (Pr.pts sb (.cells #[wv] 156)).star (Pr.own h)
set_option maxRecDepth 100000 in
set_option maxHeartbeats 1000000 in
theorem backward1 (sb : Nat) (wv : Value) (h : Hp) (ws : List WasX) (hrow : RowIn h 7 wv ws.length (ws.flatMap WasX.cells)) (hl : ws.length ≤ 65536) :
 IterSl Tryz.prog 169 #[.pointer (some ⟨sb, 0, none⟩)] encW (backs ws) (BackOwn sb wv h) := by
 intro l J Jx W hY h0
 refine (callsIn_wide (n := 3)).1 ?_
 refine callsIn_of_wp Tryz.func169 rfl trivial ?_ rfl
 simp only [Tryz.ntmps169, List.size_toArray, List.length_cons, List.length_nil, Nat.reduceAdd, Nat.reduceSub, Array.replicate_succ, Array.replicate_zero, List.push_toArray, List.append_toArray, List.nil_append, List.cons_append]
 obtain ⟨_, aw, cw, rfl, _, _, hc⟩ := hrow
 have facts : ∀ (A : Pr) (wr : World), Sat (A.star (BackOwn sb (.slice aw ws.length cw) h)) wr → wr.cell? ⟨sb, 0, none⟩ = some (.slice aw ws.length cw) ∧ sb < wr.heap.size ∧ h.le wr := by
  intro A wr hs
  unfold BackOwn at hs
  have h1 : Sat ((Pr.pts sb (.cells #[.slice aw ws.length cw] 156)).star ((Pr.own h).star A)) wr := hs.perm (by ac_rfl)
  exact ⟨by rw [cell_of_heap h1.pts_heap]; rfl, h1.lt, h1.right.own⟩
 have F0 := facts _ _ h0
 obtain ⟨q1, z1, _⟩ := F0
 have HF := Lib.hid facts
 have HY := Lib.hid hY
 have H0 := Lib.hid h0
 have HC := Lib.hid hc
 clear facts hY h0 hc
 gi_wp2
 gi_loopw [3] (fun i wr => ∃ r : Nat, r ≤ ws.length ∧ i = .int .i64 ((r : Int) - 1) ∧ Stays W wr ∧ Sat ((J ((backs ws).take (ws.length - r))).star (BackOwn sb (.slice aw ws.length cw) h)) wr) (fun i _ => (intOf i + 1).toNat)
 case atStart => exact ⟨ws.length, Nat.le_refl _, rfl, Stays.refl _, by rw [Nat.sub_self]; exact H0.out⟩
 case round =>
  obtain ⟨r, hr, rfl, hR, hs⟩ := hrel
  cases r with
  | zero =>
   gi_wp2
   go_end0
   refine ⟨⟨_, rfl⟩, hR, .inl ⟨_, rfl, ?_⟩⟩
   rw [Nat.sub_zero, List.take_of_length_le (by rw [backs_len]; exact Nat.le_refl _)] at hs
   exact hs
  | succ r =>
   obtain ⟨q1, z1, hle⟩ := HF.out _ _ hs
   obtain ⟨b, off, e1, hcell⟩ := HC.out (by omega)
   subst e1
   have hlt : r < ws.length := by omega
   have cells : ∀ j, j < 7 → wr.cell? ⟨b, off + r * 7 + j, none⟩ = ws[r].cells[j]? := fun j hj => by
    have h1 := hcell (r * 7 + j) (by omega)
    rw [was_cells_at ws r j hlt hj] at h1
    have h2 : ∃ u, ws[r].cells[j]? = some u := ⟨ws[r].cells[j]'(by show j < 7; exact hj), List.getElem?_eq_getElem _⟩
    obtain ⟨u, hu⟩ := h2
    rw [hu] at h1 ⊢
    rw [Nat.add_assoc]
    exact Hp.cell_le hle h1
   have hat := backs_at ws (ws.length - (r + 1)) (by omega)
   have hidx : ws.length - 1 - (ws.length - (r + 1)) = r := by omega
   simp only [hidx] at hat
   have hcat : (backs ws).take (ws.length - r) = (backs ws).take (ws.length - (r + 1)) ++ [((r : Int), ws[r])] := by
    rw [show ws.length - r = ws.length - (r + 1) + 1 by omega, List.take_succ_eq_append_getElem (by rw [backs_len]; omega), hat]
   have hpre : (backs ws).take (ws.length - (r + 1)) ++ [((r : Int), ws[r])] <+: backs ws := by
    rw [← hcat]; exact List.take_prefix _ _
   have HCAT := Lib.hid hcat
   have HP := Lib.hid hpre
   have HS := Lib.hid hs
   clear hat hidx hcat hpre hs hcell
   generalize ws[r] = X at *
   obtain ⟨no, pk, pl, vi, vd, nx, th⟩ := X
   have c0 : wr.cell? ⟨b, off + r * 7, none⟩ = some (.int .i64 no) := cells 0 (by omega)
   have c1 : wr.cell? ⟨b, off + r * 7 + 1, none⟩ = some (.int .i64 pk) := cells 1 (by omega)
   have c2 : wr.cell? ⟨b, off + r * 7 + 2, none⟩ = some (.int .i64 pl) := cells 2 (by omega)
   have c3 : wr.cell? ⟨b, off + r * 7 + 3, none⟩ = some vi := cells 3 (by omega)
   have c4 : wr.cell? ⟨b, off + r * 7 + 4, none⟩ = some vd := cells 4 (by omega)
   have c5 : wr.cell? ⟨b, off + r * 7 + 5, none⟩ = some (.int .i64 nx) := cells 5 (by omega)
   have c6 : wr.cell? ⟨b, off + r * 7 + 6, none⟩ = some (.bool th) := cells 6 (by omega)
   clear cells
   rw [show ((r + 1 : Nat) : Int) - 1 = (r : Int) by omega]
   gi_wp2
   refine at_yield (HY.out Pr.emp ((backs ws).take (ws.length - (r + 1))) ((r : Int), ⟨no, pk, pl, vi, vd, nx, th⟩) _ HP.out (HS.out.perm (Pr.star_emp _).symm)) ?_
   rintro e w' ⟨hR', (⟨rfl, hs'⟩ | ⟨rfl, hs'⟩)⟩ <;> rw [Pr.star_emp] at hs'
   · refine ⟨_, rfl, ?_⟩
     rw [← HCAT.out] at hs'
     have HS' := Lib.hid hs'
     clear hs'
     gi_wp2
     go_roundw
     case rel => exact ⟨r, by omega, rfl, hR.trans hR', HS'.out⟩
     case measure => simp [intOf]
   · refine ⟨_, rfl, ?_⟩
     have HS' := Lib.hid hs'
     clear hs'
     gi_wp2
     refine bodyPost_ret (results_none rfl _ _ _) rfl ?_
     exact ⟨⟨_, rfl⟩, hR.trans hR', .inr ⟨_, HP.out, HS'.out⟩⟩
end Go.Proofs.YtbobcmimkonnoaaGreat.back1
