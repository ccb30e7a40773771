/- blob.Store where there is room; the conditions stand as hypotheses. -/
import Derived.Test.YtbobcmimkonnoaaGreatBlobAnswersM11
import Derived.Defers
namespace Go.Proofs.YtbobcmimkonnoaaGreat.blob1
open ChangeShapes WideShapes ChangeAt RowKit Sl Cop pool1 pool2 pool5 pool9 clone page vault1 vault2 vault3 vault4 vault5 vault6
theorem vault_ok {v : Nat} {s : VaultS} {F : Pr} {w : World} (h : Sat ((VaultA v s).star F) w) : PoolOk s.pool ∧ 0 ≤ s.floor ∧ s.floor + s.acts.length ≤ 1099511627776 := by
 obtain ⟨x, ok, h1⟩ := vaultA_iff.1 h
 have h2 : Sat ((PoolA x.p s.pool).star ((Pr.pts v (.cells #[.pointer (some ⟨x.p, 0, none⟩), .map (some x.mb), x.av, .int .i64 s.floor] 71)).star
  ((((MapA Tryz.prog 3 x.mb x.f).star ((Row 158 2 x.av s.acts.length (actCells x.axs)).star (Pr.own x.h)))).star F))) w := h1.perm (by unfold VaultAt; ac_rfl)
 exact ⟨(poolA_rd h2).1, ok.f0, ok.fb⟩
set_option maxRecDepth 100000 in
set_option maxHeartbeats 400000 in
theorem vmark_A (v : Nat) (s : VaultS) (F : Pr) (w : World) (hF : Sat ((VaultA v s).star F) w) :
 Calls Tryz.prog 54 #[.pointer (some ⟨v, 0, none⟩)] w fun e w' => e = .returned (.int .i64 (s.floor + s.acts.length)) ∧ Only w w' := by
 obtain ⟨_, b1, b2⟩ := vault_ok hF
 obtain ⟨x, ok, h1⟩ := vaultA_iff.1 hF
 have h2 : Sat ((Row 158 2 x.av s.acts.length (actCells x.axs)).star ((Pr.pts v (.cells #[.pointer (some ⟨x.p, 0, none⟩), .map (some x.mb), x.av, .int .i64 s.floor] 71)).star
  ((((MapA Tryz.prog 3 x.mb x.f).star ((PoolA x.p s.pool).star (Pr.own x.h)))).star F))) w := h1.perm (by unfold VaultAt; ac_rfl)
 obtain ⟨aa, ca, ea, _, _⟩ := Row.read h2
 have q2 : w.cell? ⟨v, 2, none⟩ = some (.slice aa s.acts.length ca) := by rw [cell_of_heap h2.right.pts_heap, ← ea]; rfl
 have q3 : w.cell? ⟨v, 3, none⟩ = some (.int .i64 s.floor) := by rw [cell_of_heap h2.right.pts_heap]; rfl
 clear h2 h1 hF ok ea
 generalize s.floor = fl at *
 generalize s.acts.length = al at *
 go_enter Tryz.func54, Tryz.ntmps54
 go_wp2
 go_region
 go_wp2
 go_ret
 exact ⟨rfl, (Only.refl w).drew⟩
set_option maxRecDepth 100000 in
set_option maxHeartbeats 400000 in
theorem store1_ok (EB VB MB IB : Nat) (u : FrameMode) (w : World) (h : w.cell? ⟨EB, 0, none⟩ = some (.int .i64 0)) :
 CallsD Tryz.prog 126 #[.pointer (some ⟨EB, 0, none⟩), .pointer (some ⟨VB, 0, none⟩), .pointer (some ⟨MB, 0, none⟩), .pointer (some ⟨IB, 0, none⟩)] u w fun e u' w' => u' = u ∧ (e = .returned (.tuple #[]) ∧ w' = w) := by
 go_enter_d Tryz.func126, Tryz.ntmps126
 go_wp2
 first | refine bodyPost_ret (results_none rfl _ _ _) rfl ?_ | go_end0
 exact ⟨rfl, rfl⟩
theorem bytes_sub {h : Hp} {b off c : Nat} {V : List Int} (hV : Bytes h (.slice (some ⟨b, off, none⟩) V.length c) V) {lo hi : Nat} (h1 : lo ≤ hi) (h2 : hi ≤ V.length) :
 RowIn h 1 (.slice (some ⟨b, off + lo, none⟩) (hi - lo) (c - lo)) (hi - lo) (((V.drop lo).take (hi - lo)).map (Value.int .u8)) := by
 obtain ⟨_, a, c', e, e1, e2, e3⟩ := hV
 simp only [Value.slice.injEq, true_and] at e
 obtain ⟨rfl, rfl⟩ := e
 refine ⟨by simp; omega, _, _, rfl, by omega, by omega, fun h0 => ⟨b, off + lo, rfl, fun i hi' => ?_⟩⟩
 obtain ⟨b', off', e4, e5⟩ := e3 (by omega)
 simp only [Option.some.injEq, Addr.mk.injEq, and_true] at e4
 obtain ⟨rfl, rfl⟩ := e4
 have := e5 (lo + i) (by omega)
 rw [Nat.add_assoc, this]
 simp only [List.getElem?_map]
 rw [List.getElem?_take_of_lt (by omega), List.getElem?_drop]
theorem chain_next {s : VaultS} {V : List Int} {k j : Nat} {c : Int} {ns : List Int} (h : ChainAt s V k j c ns) : c = 0 ∨ 1 ≤ c ∧ c ≤ 65536 := by
 cases k with
 | zero => exact .inl h.1
 | succ k => obtain ⟨_, _, _, h2, _⟩ := h; exact .inr h2
theorem load_errno {w : World} {b : Nat} {x : Int} {fz : Nat × Nat} (h : w.heap[b]? = some (.cells #[.int .i64 x] 36 fz)) : (loadVar 36 ⟨b, 0, none⟩).run Tryz.prog w = .ok (.int .i64 x) w := by
 have hc : w.cell? ⟨b, 0, none⟩ = some (.int .i64 x) := by rw [cell_of_heap h]; rfl
 go_simp
theorem infoItemS : (Tryz.prog.info? 58).map (·.size) = some 4 := by kernel_rfl
theorem results_cell_cell {fn : Func} {p u : Tmp} {ty tu : TypeId} (h : fn.results = #[.cell p ty, .cell u tu]) (tmps : Array Value) (w : World) (g : Nat) (x : Value)
 (hp : tmps.getD p undef = .pointer (some ⟨g, 0, none⟩)) (hr : (loadVar ty ⟨g, 0, none⟩).run Tryz.prog w = .ok x w) (g2 : Nat) (y : Value) (hu : tmps.getD u undef = .pointer (some ⟨g2, 0, none⟩)) (hr2 : (loadVar tu ⟨g2, 0, none⟩).run Tryz.prog w = .ok y w) :
 (results fn tmps).run Tryz.prog w = .ok (.tuple #[x, y]) w := by
 have hp' : tmps[p]?.getD undef = .pointer (some ⟨g, 0, none⟩) := by simpa using hp
 have hu' : tmps[u]?.getD undef = .pointer (some ⟨g2, 0, none⟩) := by simpa using hu
 simp [results, h, hp', hu', asAddr, Sem.run_bind, Result.andThen, hr, hr2]
set_option maxRecDepth 100000 in
set_option maxHeartbeats 4000000 in
theorem store_long (v : Nat) (s : VaultS) (kv vv : Value) (hp : Hp) (K V : List Int) (hK : Bytes hp kv K) (hV : Bytes hp vv V) (hk : 1 ≤ K.length ∧ K.length ≤ 24) (hv : 32 < V.length ∧ V.length ≤ 3840) (F : Pr) (w : World)
 (hF : Sat ((VaultA v s).star ((Pr.own hp).star F)) w) (hroom : chunks V ≤ s.pool.many 1) (hm : s.pool.floor + s.pool.acts.length + chunks V ≤ 1099511627776) (hm2 : s.floor + s.acts.length + chunks V ≤ 1099511627776) :
 Calls Tryz.prog 70 #[.pointer (some ⟨v, 0, none⟩), kv, vv] w fun e w' =>
  Stays w w' ∧ ∃ kv' c s' ns h', e = .returned (.tuple #[.agg #[kv', .slice none 0 0, .int .i64 c, .int .i64 V.length], .int .i64 0]) ∧ Bytes h' kv' K ∧ Taken s s' ns ∧ ChainAt s' V (chunks V) 0 c ns ∧
   Sat ((Pr.own h').star ((VaultA v s').star ((Pr.own hp).star F))) w' := by
 obtain ⟨_, ak, ck, rfl, _⟩ := id hK
 obtain ⟨_, av, cv, rfl, hcv, hcv2, hcell⟩ := id hV
 obtain ⟨bv, ov, eav, _⟩ := hcell (by omega)
 subst eav
 have es : (w.alloc (.cells #[.pointer (some ⟨v, 0, none⟩)] 35)).heap.size = w.heap.size + 1 := by simp
 have es2 : ((w.alloc (.cells #[.pointer (some ⟨v, 0, none⟩)] 35)).alloc (.cells #[.slice none 0 0, .slice none 0 0, .int .i64 0, .int .i64 0] 58)).heap.size = w.heap.size + 1 + 1 := by simp
 have h1 := ((hF.alloc (.cells #[.pointer (some ⟨v, 0, none⟩)] 35)).alloc (.cells #[.slice none 0 0, .slice none 0 0, .int .i64 0, .int .i64 0] 58)).alloc (.cells #[.int .i64 0] 36)
 rw [es2, es] at h1
 have hle := (h1.perm (B := (Pr.own hp).star ((VaultA v s).star ((Pr.pts (w.heap.size + 1 + 1) (.cells #[.int .i64 0] 36)).star ((Pr.pts (w.heap.size + 1) (.cells #[.slice none 0 0, .slice none 0 0, .int .i64 0, .int .i64 0] 58)).star ((Pr.pts w.heap.size (.cells #[.pointer (some ⟨v, 0, none⟩)] 35)).star F))))) (by ac_rfl)).own
 have C := Lib.hid (bclone_any hp _ K _ _ h1 hle hK (by omega))
 have HST := Lib.hid ((((Stays.refl w).alloc (.cells #[.pointer (some ⟨v, 0, none⟩)] 35)).alloc (.cells #[.slice none 0 0, .slice none 0 0, .int .i64 0, .int .i64 0] 58)).alloc (.cells #[.int .i64 0] 36))
 have HV := Lib.hid hV
 clear h1 hle hF es es2 hK hV hcell
 go_enter_defers Tryz.func70, Tryz.ntmps70
 go_wp2_with fail
 refine C.out.mono ?_
 rintro e w1 ⟨kv', rfl, h1, hst⟩
 obtain ⟨ak', ck', ek, _, _⟩ := Row.read h1
 have h2 : Sat ((Pr.pts (w.heap.size + 1) (.cells #[.slice none 0 0, .slice none 0 0, .int .i64 0, .int .i64 0] 58)).star ((BytesRow kv' K).star ((Pr.pts (w.heap.size + 1 + 1) (.cells #[.int .i64 0] 36)).star ((Pr.pts w.heap.size (.cells #[.pointer (some ⟨v, 0, none⟩)] 35)).star
  ((VaultA v s).star ((Pr.own hp).star F)))))) w1 := h1.perm (by ac_rfl)
 subst ek
 have f0 : w1.cell? ⟨w.heap.size + 1, 0, none⟩ = some (.slice none 0 0) := by rw [cell_of_heap h2.pts_heap]; rfl
 have f1 : w1.cell? ⟨w.heap.size + 1, 1, none⟩ = some (.slice none 0 0) := by rw [cell_of_heap h2.pts_heap]; rfl
 have f2 : w1.cell? ⟨w.heap.size + 1, 2, none⟩ = some (.int .i64 0) := by rw [cell_of_heap h2.pts_heap]; rfl
 have f3 : w1.cell? ⟨w.heap.size + 1, 3, none⟩ = some (.int .i64 0) := by rw [cell_of_heap h2.pts_heap]; rfl
 have z0 := frozen_of_heap h2.pts_heap 0
 have z1 := frozen_of_heap h2.pts_heap 1
 have z2 := frozen_of_heap h2.pts_heap 2
 have z3 := frozen_of_heap h2.pts_heap 3
 have s3 := (((h2.setCell (i := 0) (.slice ak' K.length ck')).setCell (i := 1) (.slice none 0 0)).setCell (i := 2) (.int .i64 0)).setCell (i := 3) (.int .i64 V.length)
 have h3 : Sat ((VaultA v s).star ((Pr.pts (w.heap.size + 1) (.cells #[.slice ak' K.length ck', .slice none 0 0, .int .i64 0, .int .i64 V.length] 58)).star ((BytesRow (.slice ak' K.length ck') K).star ((Pr.pts (w.heap.size + 1 + 1) (.cells #[.int .i64 0] 36)).star ((Pr.pts w.heap.size (.cells #[.pointer (some ⟨v, 0, none⟩)] 35)).star
  ((Pr.own hp).star F)))))) _ := s3.perm (show (Pr.pts (w.heap.size + 1) (.cells #[.slice ak' K.length ck', .slice none 0 0, .int .i64 0, .int .i64 V.length] 58)).star _ = _ from by ac_rfl)
 have q0 := cell_of_heap h3.right.right.right.right.pts_heap 0
 have M := Lib.hid (vmark_A v s _ _ h3)
 have H3 := Lib.hid h3
 have HST2 := Lib.hid ((((HST.out.trans hst).setCell ⟨w.heap.size + 1, 0, none⟩ (.slice ak' K.length ck')).setCell ⟨w.heap.size + 1, 1, none⟩ (.slice none 0 0)).setCell ⟨w.heap.size + 1, 2, none⟩ (.int .i64 0) |>.setCell ⟨w.heap.size + 1, 3, none⟩ (.int .i64 V.length))
 clear h1 h2 h3 s3 hst HST C
 go_wp2_with fail
 refine M.out.mono ?_
 rintro e w2 ⟨rfl, ho⟩
 have h4 := (H3.out.only ho)
 have HST3 := Lib.hid (HST2.out.trans ho.st)
 clear M H3 HST2 ho f0 f1 f2 f3 z0 z1 z2 z3 q0
 have h5 := h4.alloc (.cells #[.int .i64 (s.floor + s.acts.length)] 3)
 have H5 := Lib.hid h5
 clear h4 h5
 have hN : V.length ≤ 480 * chunks V ∧ 480 * chunks V < V.length + 480 := by unfold chunks; omega
 go_wp2
 go_loopw [9] (fun e wr => ∃ (j : Nat) (c : Int) (s' : VaultS) (ns : List Int), j ≤ chunks V ∧ e = .int .i64 (min V.length (480 * j) : Nat) ∧ Stays w wr ∧ Taken s s' ns ∧ ChainAt s' V (chunks V - j) j c ns ∧
  Sat ((VaultA v s').star ((Pr.pts (w.heap.size + 1) (.cells #[.slice ak' K.length ck', .slice none 0 0, .int .i64 c, .int .i64 V.length] 58)).star ((BytesRow (.slice ak' K.length ck') K).star ((Pr.pts (w.heap.size + 1 + 1) (.cells #[.int .i64 0] 36)).star ((Pr.pts w.heap.size (.cells #[.pointer (some ⟨v, 0, none⟩)] 35)).star ((Pr.pts w2.heap.size (.cells #[.int .i64 (s.floor + s.acts.length)] 3)).star ((Pr.own hp).star F))))))) wr) (fun e _ => (intOf e).toNat)
 case atStart =>
  refine ⟨chunks V, 0, s, [], Nat.le_refl _, by rw [Nat.min_eq_left hN.1], HST3.out.alloc _, Taken.refl s, ?_, ?_⟩
  · rw [Nat.sub_self]; exact ⟨rfl, rfl⟩
  · exact H5.out.perm (by ac_rfl)
 case round =>
  obtain ⟨j, c, s', ns, hj, rfl, hst, ht, hch, hinv⟩ := hrel
  have hi : Sat ((Pr.pts (w.heap.size + 1) (.cells #[.slice ak' K.length ck', .slice none 0 0, .int .i64 c, .int .i64 V.length] 58)).star ((Pr.pts (w.heap.size + 1 + 1) (.cells #[.int .i64 0] 36)).star ((Pr.pts w.heap.size (.cells #[.pointer (some ⟨v, 0, none⟩)] 35)).star ((BytesRow (.slice ak' K.length ck') K).star ((VaultA v s').star ((Pr.pts w2.heap.size (.cells #[.int .i64 (s.floor + s.acts.length)] 3)).star ((Pr.own hp).star F))))))) wr := hinv.perm (by ac_rfl)
  have f0 : wr.cell? ⟨w.heap.size + 1, 0, none⟩ = some (.slice ak' K.length ck') := by rw [cell_of_heap hi.pts_heap]; rfl
  have f1 : wr.cell? ⟨w.heap.size + 1, 1, none⟩ = some (.slice none 0 0) := by rw [cell_of_heap hi.pts_heap]; rfl
  have f2 : wr.cell? ⟨w.heap.size + 1, 2, none⟩ = some (.int .i64 c) := by rw [cell_of_heap hi.pts_heap]; rfl
  have f3 : wr.cell? ⟨w.heap.size + 1, 3, none⟩ = some (.int .i64 V.length) := by rw [cell_of_heap hi.pts_heap]; rfl
  have e0 : wr.cell? ⟨w.heap.size + 1 + 1, 0, none⟩ = some (.int .i64 0) := by rw [cell_of_heap hi.right.pts_heap]; rfl
  have b0 : wr.cell? ⟨w.heap.size, 0, none⟩ = some (.pointer (some ⟨v, 0, none⟩)) := by rw [cell_of_heap hi.right.right.pts_heap]; rfl
  cases j with
  | zero =>
   have z0 := frozen_of_heap hi.pts_heap 0
   have z1 := frozen_of_heap hi.pts_heap 1
   have z2 := frozen_of_heap hi.pts_heap 2
   have z3 := frozen_of_heap hi.pts_heap 3
   have ze := frozen_of_heap hi.right.pts_heap 0
   have s3 := (((hi.setCell (i := 0) (.slice ak' K.length ck')).setCell (i := 1) (.slice none 0 0)).setCell (i := 2) (.int .i64 c)).setCell (i := 3) (.int .i64 V.length)
   have s4 : Sat ((Pr.pts (w.heap.size + 1 + 1) (.cells #[.int .i64 0] 36)).star ((Pr.pts (w.heap.size + 1) (.cells #[.slice ak' K.length ck', .slice none 0 0, .int .i64 c, .int .i64 V.length] 58)).star ((Pr.pts w.heap.size (.cells #[.pointer (some ⟨v, 0, none⟩)] 35)).star ((BytesRow (.slice ak' K.length ck') K).star ((VaultA v s').star ((Pr.pts w2.heap.size (.cells #[.int .i64 (s.floor + s.acts.length)] 3)).star ((Pr.own hp).star F))))))) _ := s3.perm (show (Pr.pts (w.heap.size + 1) (.cells #[.slice ak' K.length ck', .slice none 0 0, .int .i64 c, .int .i64 V.length] 58)).star _ = _ from Pr.left_comm _ _ _)
   have s5 : Sat ((Pr.pts (w.heap.size + 1 + 1) (.cells #[.int .i64 0] 36)).star ((Pr.pts (w.heap.size + 1) (.cells #[.slice ak' K.length ck', .slice none 0 0, .int .i64 c, .int .i64 V.length] 58)).star ((Pr.pts w.heap.size (.cells #[.pointer (some ⟨v, 0, none⟩)] 35)).star ((BytesRow (.slice ak' K.length ck') K).star ((VaultA v s').star ((Pr.pts w2.heap.size (.cells #[.int .i64 (s.floor + s.acts.length)] 3)).star ((Pr.own hp).star F))))))) _ := s4.setCell (i := 0) (.int .i64 0)
   have S5 := Lib.hid s5
   have HST4 := Lib.hid ((((hst.setCell ⟨w.heap.size + 1, 0, none⟩ (.slice ak' K.length ck')).setCell ⟨w.heap.size + 1, 1, none⟩ (.slice none 0 0)).setCell ⟨w.heap.size + 1, 2, none⟩ (.int .i64 c)).setCell ⟨w.heap.size + 1, 3, none⟩ (.int .i64 V.length) |>.setCell ⟨w.heap.size + 1 + 1, 0, none⟩ (.int .i64 0))
   rw [Nat.sub_zero] at hch
   clear hi hinv s3 s4 s5 hst
   rw [show min V.length (480 * 0) = 0 by omega] at *
   go_wp2
   refine leaves_cons (f := 126) (args := #[.pointer (some ⟨w.heap.size + 1 + 1, 0, none⟩), .pointer (some ⟨w.heap.size, 0, none⟩), .pointer (some ⟨w2.heap.size, 0, none⟩), .pointer (some ⟨w.heap.size + 1, 0, none⟩)]) (by simp) (by simp [go_sem]) ?_
   refine (store1_ok _ _ _ _ .returning _ (by rw [cell_of_heap S5.out.pts_heap]; rfl)).mono ?_
   rintro e u' w'' ⟨rfl, rfl, rfl⟩
   refine ⟨_, results_cell_cell rfl _ _ (w.heap.size + 1) _ rfl (run_loadVar_row _ (w.heap.size + 1) _ _ _ _ _ S5.out.right.pts_heap Tryz.underlying58 rfl infoItemS) (w.heap.size + 1 + 1) (.int .i64 0) rfl ?_, HST4.out, .slice ak' K.length ck', c, s', ns, ?_⟩
   · exact load_errno S5.out.pts_heap
   · obtain ⟨h', e1, e2⟩ := toArena (Q := fun x => Bytes x (.slice ak' K.length ck') K) (S5.out.right.right.right) (fun x hx => Row.rowIn hx)
     refine ⟨h', rfl, e1, ht, hch, ?_⟩
     have e3 : Sat ((Pr.pts w2.heap.size (.cells #[.int .i64 (s.floor + s.acts.length)] 3)).star ((Pr.own h').star ((VaultA v s').star ((Pr.own hp).star F)))) _ := e2.perm (by ac_rfl)
     exact e3.right
  | succ j =>
   have hE : ∃ E : Nat, E = min V.length (480 * (j + 1)) := ⟨_, rfl⟩
   obtain ⟨E, hE⟩ := hE
   have hE1 : 480 * j < E ∧ E ≤ 480 * j + 480 ∧ E ≤ V.length := by omega
   rw [← hE]
   have hq : Int.tdiv ((E : Int) - 1) 480 = j := by rw [Int.tdiv_eq_ediv_of_nonneg (by omega)]; omega
   have hcl : (chunk V j).length = E - 480 * j := by rw [chunk_len, hE]; omega
   have hce : chunk V j = (V.drop (480 * j)).take (E - 480 * j) := by
    unfold chunk
    rw [List.take_eq_take_iff, List.length_drop]
    omega
   have hpg : PageIn hp (.agg (blobCells (.slice none 0 0) (.slice (some ⟨bv, ov + 480 * j, none⟩) (E - 480 * j) (cv - 480 * j)) c)) (blobV (chunk V j) c) := by
    refine ⟨_, _, rfl, items_mk (Nat.zero_le _), ?_⟩
    show RowIn _ _ _ (chunk V j).length _
    rw [hcl, hce]
    exact bytes_sub HV.out (by omega) hE1.2.2
   obtain ⟨okp, _, _⟩ := vault_ok hinv
   have hnl := chain_len hch
   have hmn := ht.many
   have C := make_ok v s' hp _ _ (chunk V j) c (by omega) (chain_next hch) hpg ((Pr.pts (w.heap.size + 1) (.cells #[.slice ak' K.length ck', .slice none 0 0, .int .i64 c, .int .i64 V.length] 58)).star ((Pr.pts (w.heap.size + 1 + 1) (.cells #[.int .i64 0] 36)).star ((Pr.pts w.heap.size (.cells #[.pointer (some ⟨v, 0, none⟩)] 35)).star ((BytesRow (.slice ak' K.length ck') K).star ((Pr.pts w2.heap.size (.cells #[.int .i64 (s.floor + s.acts.length)] 3)).star F))))) wr.drew (hinv.drew.perm (by ac_rfl)) (free_of_many okp (by omega)) (by have := ht.pf; have := ht.pa; omega) (by have := ht.vf; have := ht.va; omega)
   have HC := Lib.hid C
   have HOK := Lib.hid okp
   clear C okp hpg hcl hce hnl hmn
   have HIN := Lib.hid hinv
   have HCH := Lib.hid hch
   have HT := Lib.hid ht
   have HTE := Lib.hid hE
   clear hinv hch ht hE
   obtain ⟨B, hB⟩ : ∃ B : Nat, B = 480 * j := ⟨_, rfl⟩
   go_wp2
   rw [show (j : Int) * 480 = (B : Int) by omega]
   rw [← hB] at hE1
   have HB := Lib.hid hB
   clear hB
   have hne : ¬ cv = B := by omega
   have hEc : E ≤ cv := by omega
   have hBE : B ≤ E := by omega
   refine wp_region_staged (sz := 68) (by kernel_rfl) [0, 1, 2, 3, 4, 5, 6, 7] [(8, [9, 10, 11, 12], [1, 2, 3, 4, 5, 6]), (13, [], [11]), (14, [], [])] rfl (by kernel_rfl) (by kernel_rfl) (by kernel_rfl) ?_
   iterate 8 (refine wpQ_step rfl rfl (fun K hK => ?_); go_simp; refine hK _ ?_; clear hK K)
   refine wpQ_nil ?_
   refine wpRest_act rfl ?_
   go_wp2_with fail
   have HC2 := HC.out
   rw [← HB.out] at HC2
   refine HC2.mono ?_
   rintro e w3 ⟨hst3, n, rfl, ⟨hn, hle⟩, h6⟩
   have h7 : Sat ((Pr.pts (w.heap.size + 1) (.cells #[.slice ak' K.length ck', .slice none 0 0, .int .i64 c, .int .i64 V.length] 58)).star ((Pr.pts (w.heap.size + 1 + 1) (.cells #[.int .i64 0] 36)).star ((Pr.pts w.heap.size (.cells #[.pointer (some ⟨v, 0, none⟩)] 35)).star ((BytesRow (.slice ak' K.length ck') K).star ((VaultA v (s'.make n (blobV (chunk V j) c))).star ((Pr.pts w2.heap.size (.cells #[.int .i64 (s.floor + s.acts.length)] 3)).star ((Pr.own hp).star F))))))) w3 := h6.perm (show (VaultA v (s'.make n (blobV (chunk V j) c))).star _ = _ from by ac_rfl)
   have g0 : w3.cell? ⟨w.heap.size, 0, none⟩ = some (.pointer (some ⟨v, 0, none⟩)) := by rw [cell_of_heap h7.right.right.pts_heap]; rfl
   have g2 : w3.cell? ⟨w.heap.size + 1, 2, none⟩ = some (.int .i64 c) := by rw [cell_of_heap h7.pts_heap]; rfl
   have ge : w3.cell? ⟨w.heap.size + 1 + 1, 0, none⟩ = some (.int .i64 0) := by rw [cell_of_heap h7.right.pts_heap]; rfl
   have y2 := frozen_of_heap h7.pts_heap 2
   have ye := frozen_of_heap h7.right.pts_heap 0
   have s8 : Sat ((Pr.pts (w.heap.size + 1 + 1) (.cells #[.int .i64 0] 36)).star ((Pr.pts (w.heap.size + 1) (.cells #[.slice ak' K.length ck', .slice none 0 0, .int .i64 n, .int .i64 V.length] 58)).star ((Pr.pts w.heap.size (.cells #[.pointer (some ⟨v, 0, none⟩)] 35)).star ((BytesRow (.slice ak' K.length ck') K).star ((VaultA v (s'.make n (blobV (chunk V j) c))).star ((Pr.pts w2.heap.size (.cells #[.int .i64 (s.floor + s.acts.length)] 3)).star ((Pr.own hp).star F))))))) _ := (h7.setCell (i := 2) (.int .i64 n)).perm (show (Pr.pts (w.heap.size + 1) (.cells #[.slice ak' K.length ck', .slice none 0 0, .int .i64 n, .int .i64 V.length] 58)).star _ = _ from Pr.left_comm _ _ _)
   have s9 : Sat ((Pr.pts (w.heap.size + 1 + 1) (.cells #[.int .i64 0] 36)).star ((Pr.pts (w.heap.size + 1) (.cells #[.slice ak' K.length ck', .slice none 0 0, .int .i64 n, .int .i64 V.length] 58)).star ((Pr.pts w.heap.size (.cells #[.pointer (some ⟨v, 0, none⟩)] 35)).star ((BytesRow (.slice ak' K.length ck') K).star ((VaultA v (s'.make n (blobV (chunk V j) c))).star ((Pr.pts w2.heap.size (.cells #[.int .i64 (s.floor + s.acts.length)] 3)).star ((Pr.own hp).star F))))))) _ := s8.setCell (i := 0) (.int .i64 0)
   have S9 := Lib.hid s9
   have HNL := Lib.hid (And.intro hn hle)
   have HST5 := Lib.hid ((hst.drew.trans hst3).setCell ⟨w.heap.size + 1, 2, none⟩ (.int .i64 n) |>.setCell ⟨w.heap.size + 1 + 1, 0, none⟩ (.int .i64 0))
   clear h6 h7 s8 s9 hst3 hn hle HC HC2
   go_wp2
   refine onN_mk ?_
   iterate 4 (refine wpQ_step rfl rfl (fun K hK => ?_); go_simp; refine hK _ ?_; clear hK K)
   refine wpQ_nil ⟨?_, ?_⟩
   · refine chk_cons ?_ (chk_cons ?_ (chk_cons ?_ (chk_cons ?_ (chk_cons ?_ (chk_cons ?_ chk_nil))))) <;> (refine yieldF_of rfl rfl rfl rfl ?_; go_simp; try omega)
   refine wpRest_act rfl ?_
   go_wp2
   refine onN_mk (wpQ_nil ⟨?_, ?_⟩)
   · refine chk_cons ?_ chk_nil <;> (refine yieldF_of rfl rfl rfl rfl ?_; go_simp; try omega)
   refine wpRest_act rfl ?_
   go_wp2
   refine onN_mk (wpQ_nil ⟨chk_nil, wpRest_nil ?_⟩)
   go_wp2
   go_roundw
   case rel =>
    have hth := there_of_state (by have := HNL.out.1; omega : s'.pool.state n ≠ 0)
    have hb : 1 ≤ n ∧ n ≤ 65536 := ⟨hth.1, by have := hth.2; have := HOK.out.n2; omega⟩
    have hch2 := chain_make HOK.out HCH.out HT.out.cnt HNL.out.1 hb
    rw [show chunks V - (j + 1) + 1 = chunks V - j by omega] at hch2
    refine ⟨j, n, s'.make n (blobV (chunk V j) c), n :: ns, by omega, ?_, HST5.out, HT.out.step HOK.out HNL.out.1 HNL.out.2 _, hch2, S9.out.perm (by ac_rfl)⟩
    have := HB.out
    congr 1
    omega
   case measure => simp [intOf]; omega
end Go.Proofs.YtbobcmimkonnoaaGreat.blob1
namespace Go.Proofs.YtbobcmimkonnoaaGreat.blob2
open ChangeShapes WideShapes ChangeAt RowKit Sl Cop pool1 pool2 pool5 pool9 clone page vault1 vault2 vault3 vault4 vault5 vault6 blob1
theorem row_room {F : Pr} {w : World} (T : Nat) (z : Value) (n : Nat) (hn : n ≤ maxLen) (h : Sat F w) :
 Sat ((Row T 1 (.slice (some ⟨w.heap.size, 0, none⟩) 0 n) 0 []).star F) (w.alloc (.cells (madeCells #[z] n) T)) := by
 have h1 := h.alloc (.cells (madeCells #[z] n) T)
 refine Row.mk' (xs := []) (sp := List.replicate n z) (by simp) (by simp) (Nat.zero_le _) hn ?_
 rw [List.nil_append, ← made_rep]
 exact h1
set_option maxRecDepth 100000 in
set_option maxHeartbeats 4000000 in
theorem load_long (v : Nat) (s : VaultS) (ak : Option Addr) (mk ck : Nat) (c : Int) (V : List Int) (ns : List Int) (hch : ChainAt s V (chunks V) 0 c ns) (hv : 32 < V.length ∧ V.length ≤ 3840) (F : Pr) (w : World) (hF : Sat ((VaultA v s).star F) w) :
 Calls Tryz.prog 71 #[.pointer (some ⟨v, 0, none⟩), .agg #[.slice ak mk ck, .slice none 0 0, .int .i64 c, .int .i64 V.length]] w fun e w' =>
  Stays w w' ∧ ∃ o, e = .returned (.tuple #[o, .int .i64 0]) ∧ Sat ((BytesRow o V).star ((VaultA v s).star F)) w' := by
 have h1 := hF.alloc (.cells #[.slice ak mk ck, .slice none 0 0, .int .i64 c, .int .i64 V.length] 58)
 have es : (w.alloc (.cells #[.slice ak mk ck, .slice none 0 0, .int .i64 c, .int .i64 V.length] 58)).heap.size = w.heap.size + 1 := by simp
 have h2 := row_room 5 (.int .u8 0) V.length (by simp only [maxLen]; omega) h1
 rw [es] at h2
 obtain ⟨i0, hi, hz0, hz1, hz2⟩ := info_parts infoByte
 have hmk : ∀ wx : World, (Instr.makeSlice 29 (.int .i64 0) (.int .i64 (V.length : Int))).run Tryz.prog wx = .ok (.slice (some ⟨wx.heap.size, 0, none⟩) 0 V.length) (wx.alloc (.cells (madeCells #[.int .u8 0] V.length) 5)) := by
  intro wx
  have := run_makeSlice (P := Tryz.prog) wx 29 5 i0 (.int .u8 0) Tryz.underlying29 hi hz0 .i64 .i64 0 V.length (by omega) (by omega) (by rw [hz1]; omega) (by rw [hz2]; omega) (by omega)
  rw [hz1, Int.toNat_natCast, Nat.mul_one] at this
  exact this
 have hN : V.length ≤ 480 * chunks V ∧ 480 * chunks V < V.length + 480 := by unfold chunks; omega
 have H2 := Lib.hid h2
 have HCH := Lib.hid hch
 clear h1 h2 hF es hch
 go_enter Tryz.func71, Tryz.ntmps71
 go_wp2
 go_loopw [6, 7] (fun o n wr => ∃ (j : Nat) (c' : Int) (ns' : List Int), j ≤ chunks V ∧ n = .int .i64 c' ∧ Stays w wr ∧ ChainAt s V (chunks V - j) j c' ns' ∧ Sat ((BytesRow o (V.take (480 * j))).star ((Pr.pts w.heap.size (.cells #[.slice ak mk ck, .slice none 0 0, .int .i64 c, .int .i64 V.length] 58)).star ((VaultA v s).star F))) wr) (fun o _ _ => match o with | .slice _ n _ => V.length - n | _ => 0)
 case atStart =>
  exact ⟨0, c, ns, Nat.zero_le _, rfl, ((Stays.refl w).alloc _).alloc _, HCH.out, H2.out⟩
 case round =>
  obtain ⟨j, c', ns', hj, rfl, hst, hch2, hinv⟩ := hrel
  have f3 : wr.cell? ⟨w.heap.size, 3, none⟩ = some (.int .i64 V.length) := by rw [cell_of_heap hinv.right.pts_heap]; rfl
  have hA : (V.take (480 * j)).length = min (480 * j) V.length := List.length_take
  obtain ⟨ao, co, eo, _, _⟩ := Row.read hinv
  subst eo
  rcases Nat.lt_or_ge j (chunks V) with hlt | hge
  · obtain ⟨k, hk⟩ : ∃ k, chunks V - j = k + 1 := ⟨chunks V - j - 1, by omega⟩
    rw [hk] at hch2
    obtain ⟨c2, ns2, rfl, hb, hc1, hon, hch3⟩ := hch2
    have hA2 : (V.take (480 * j)).length = 480 * j := by omega
    have hD := chunk_len V j
    have hlast : (k = 0 ∧ c2 = 0 ∧ V.length - 480 * j ≤ 480) ∨ (1 ≤ c2 ∧ ¬ V.length - 480 * j ≤ 480) := by
     cases k with
     | zero => exact .inl ⟨rfl, hch3.1, by omega⟩
     | succ k =>
      obtain ⟨_, _, _, h3, _⟩ := hch3
      exact .inr ⟨h3.1, by omega⟩
    have h4 := hinv.perm (B := (VaultA v s).star ((BytesRow (.slice ao (V.take (480 * j)).length co) (V.take (480 * j))).star ((Pr.pts w.heap.size (.cells #[.slice ak mk ck, .slice none 0 0, .int .i64 c, .int .i64 V.length] 58)).star F))) (by ac_rfl)
    have C := Lib.hid (read_blob v s c' hb (chunk V j) c2 (by omega) _ _ h4 (by omega) hon)
    have HCH3 := Lib.hid hch3
    have hAL : 480 * j < V.length := by omega
    have HT := Lib.hid (show V.take (480 * (j + 1)) = V.take (480 * j) ++ chunk V j by unfold chunk; rw [show 480 * (j + 1) = 480 * j + 480 by omega, List.take_add])
    have HK := Lib.hid hk
    clear hinv h4 hch3 hon hA hk
    go_wp2_with fail
    refine C.out.mono ?_
    rintro e w3 ⟨hst3, pv, rfl, h', hpv, h5⟩
    obtain ⟨vi, vd, rfl, hi0, hb0⟩ := hpv
    obtain ⟨ai, ci, rfl, _⟩ := items_none hi0
    obtain ⟨_, ad, cd, hvd, _, _, _⟩ := id hb0
    subst hvd
    have h6 : Sat ((BytesRow (.slice ao (V.take (480 * j)).length co) (V.take (480 * j))).star ((Pr.pts w.heap.size (.cells #[.slice ak mk ck, .slice none 0 0, .int .i64 c, .int .i64 V.length] 58)).star ((Pr.own h').star ((VaultA v s).star F)))) w3 := h5.perm (by ac_rfl)
    have h7 := h6.alloc (.cells #[.int .i64 3, .int .i64 0, .slice ai 0 ci, .slice ad (chunk V j).length cd, .int .i64 c2] 31)
    have h8b : Sat ((BytesRow (.slice ao (V.take (480 * j)).length co) (V.take (480 * j))).star ((Pr.pts w.heap.size (.cells #[.slice ak mk ck, .slice none 0 0, .int .i64 c, .int .i64 V.length] 58)).star ((Pr.own h').star ((Pr.pts w3.heap.size (.cells #[.int .i64 3, .int .i64 0, .slice ai 0 ci, .slice ad (chunk V j).length cd, .int .i64 c2] 31)).star ((VaultA v s).star F))))) _ := h7.perm (by ac_rfl)
    have h8 : Sat ((Row 5 1 (.slice ao (V.take (480 * j)).length co) (V.take (480 * j)).length ((V.take (480 * j)).map (Value.int .u8))).star ((Pr.pts w.heap.size (.cells #[.slice ak mk ck, .slice none 0 0, .int .i64 c, .int .i64 V.length] 58)).star ((Pr.own h').star ((Pr.pts w3.heap.size (.cells #[.int .i64 3, .int .i64 0, .slice ai 0 ci, .slice ad (chunk V j).length cd, .int .i64 c2] 31)).star ((VaultA v s).star F))))) _ := h8b
    have g3 : w3.cell? ⟨w.heap.size, 3, none⟩ = some (.int .i64 V.length) := by rw [cell_of_heap h6.right.pts_heap]; rfl
    have zI := h6.right.lt
    have hle' := h8.right.right.own
    have H8 := Lib.hid h8
    have HLE := Lib.hid hle'
    have HB0 := Lib.hid (show RowIn h' 1 (.slice ad (chunk V j).length cd) (chunk V j).length ((chunk V j).map (Value.int .u8)) from hb0)
    have HST := Lib.hid ((hst.trans hst3).alloc (.cells #[.int .i64 3, .int .i64 0, .slice ai 0 ci, .slice ad (chunk V j).length cd, .int .i64 c2] 31))
    clear h5 h6 h7 h8 hle' hb0 hi0 C hst hst3 f3
    have hnews : ∀ u ∈ (chunk V j).map (Value.int .u8), u.oneCell' = true := by simp [Value.oneCell']
    have HN := Lib.hid hnews
    have HLEN := Lib.hid (show (V.take (480 * (j + 1))).length = (V.take (480 * j)).length + (chunk V j).length by rw [HT.out, List.length_append])
    clear hnews
    generalize (V.take (480 * j)).length = A at *
    generalize (chunk V j).length = D at *
    rcases hlast with ⟨hk0, rfl, hla⟩ | ⟨hc2, hla⟩
    · have hs : (V.length : Int) - (A : Int) = (D : Int) := by omega
      have hd1 : 1 ≤ D ∧ D ≤ 480 := by omega
      have hAb : A ≤ 3840 := by omega
      have hAl : A < V.length := by omega
      have HF := Lib.hid (And.intro hA2 hD)
      clear hA2 hD hla hAL hN
      have hm : min (D : Int) 480 = D := by omega
      have hd2 : (D : Int) ≤ 480 := by omega
      have hd3 : decide ((D : Int) ≤ 480) = true := by simpa using hd2
      go_wp2_with (at_builtin; refine wpList_append_row rfl _ _ _ rfl 5 i0 (.int .u8 0) 1 1 Tryz.underlying29 hi hz0 hz1 hz2 rfl _ _ _ rfl H8.out h' HLE.out _ _ _ rfl HB0.out HN.out (by simp only [maxLen]; omega) (by omega) ?_; intro v' w1 hsat hgr _; have g4 : w1.cell? ⟨w3.heap.size, 4, none⟩ = some (.int .i64 0) := (by rw [cell_of_heap hsat.right.right.right.pts_heap]; rfl); have HSAT := Lib.hid hsat; clear hsat)
      go_roundw
      case rel =>
       have hk1 := HK.out
       refine ⟨j + 1, 0, ns2, by omega, rfl, HST.out.of_grown hgr, ?_, ?_⟩
       · rw [show chunks V - (j + 1) = k by omega]; exact HCH3.out
       · have h9 := HSAT.out
         rw [← List.map_append, ← HT.out, ← HLEN.out] at h9
         change Sat ((BytesRow v' (V.take (480 * (j + 1)))).star _) _ at h9
         have h10 : Sat ((Pr.pts w3.heap.size (.cells #[.int .i64 3, .int .i64 0, .slice ai 0 ci, .slice ad D cd, .int .i64 0] 31)).star ((Pr.own h').star ((BytesRow v' (V.take (480 * (j + 1)))).star ((Pr.pts w.heap.size (.cells #[.slice ak mk ck, .slice none 0 0, .int .i64 c, .int .i64 V.length] 58)).star ((VaultA v s).star F))))) _ := h9.perm (by ac_rfl)
         exact h10.right.right
      case measure =>
       obtain ⟨a3, c3, e3, _, _⟩ := Row.read HSAT.out
       subst e3
       have hf := HF.out
       dsimp only
       rw [List.length_take]
       omega
    · have hd1 : D = 480 := by omega
      have hs : ¬ (V.length : Int) - (A : Int) ≤ 480 := by omega
      have hAb : A ≤ 3840 := by omega
      have hAl : A < V.length := by omega
      have HF := Lib.hid (And.intro hA2 hD)
      clear hA2 hD hla hAL hN
      subst hd1
      have hm : min ((V.length : Int) - (A : Int)) 480 = 480 := by omega
      have hd3 : decide ((V.length : Int) - (A : Int) ≤ 480) = false := by simpa using hs
      have hne : (c2 == 0) = false := by rw [beq_eq_false_iff_ne]; omega
      go_wp2_with (at_builtin; refine wpList_append_row rfl _ _ _ rfl 5 i0 (.int .u8 0) 1 1 Tryz.underlying29 hi hz0 hz1 hz2 rfl _ _ _ rfl H8.out h' HLE.out _ _ _ rfl HB0.out HN.out (by simp only [maxLen]; omega) (by omega) ?_; intro v' w1 hsat hgr _; have g4 : w1.cell? ⟨w3.heap.size, 4, none⟩ = some (.int .i64 c2) := (by rw [cell_of_heap hsat.right.right.right.pts_heap]; rfl); have HSAT := Lib.hid hsat; clear hsat)
      go_roundw
      case rel =>
       have hk1 := HK.out
       refine ⟨j + 1, c2, ns2, by omega, rfl, HST.out.of_grown hgr, ?_, ?_⟩
       · rw [show chunks V - (j + 1) = k by omega]; exact HCH3.out
       · have h9 := HSAT.out
         rw [← List.map_append, ← HT.out, ← HLEN.out] at h9
         change Sat ((BytesRow v' (V.take (480 * (j + 1)))).star _) _ at h9
         have h10 : Sat ((Pr.pts w3.heap.size (.cells #[.int .i64 3, .int .i64 0, .slice ai 0 ci, .slice ad 480 cd, .int .i64 c2] 31)).star ((Pr.own h').star ((BytesRow v' (V.take (480 * (j + 1)))).star ((Pr.pts w.heap.size (.cells #[.slice ak mk ck, .slice none 0 0, .int .i64 c, .int .i64 V.length] 58)).star ((VaultA v s).star F))))) _ := h9.perm (by ac_rfl)
         exact h10.right.right
      case measure =>
       obtain ⟨a3, c3, e3, _, _⟩ := Row.read HSAT.out
       subst e3
       have hf := HF.out
       dsimp only
       rw [List.length_take]
       omega
  · have hjN : j = chunks V := by omega
    subst hjN
    have ht : V.take (480 * chunks V) = V := List.take_of_length_le hN.1
    rw [ht] at hinv
    have HINV := Lib.hid hinv
    have HL := Lib.hid (show (V.take (480 * chunks V)).length = V.length by rw [ht])
    clear hinv hA ht
    generalize (V.take (480 * chunks V)).length = A at *
    have hAV := HL.out
    subst hAV
    go_wp2
    go_ret2
    have h9 : Sat ((Pr.pts w.heap.size (.cells #[.slice ak mk ck, .slice none 0 0, .int .i64 c, .int .i64 V.length] 58)).star ((BytesRow (.slice ao V.length co) V).star ((VaultA v s).star F))) wr := HINV.out.perm (Pr.left_comm _ _ _)
    exact ⟨hst, _, rfl, h9.right⟩
end Go.Proofs.YtbobcmimkonnoaaGreat.blob2
