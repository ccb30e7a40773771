/- The vault: Make where a page is free, Read, New; the conditions stand as hypotheses. -/
import Derived.Test.YtbobcmimkonnoaaVault5
namespace Go.Proofs.Ytbobcmimkonnoaa.vault6
open Go.ChangeShapes Go.WideShapes Go.ChangeAt Go.RowKit Go.Sl Go.Cop Go.Proofs.Ytbobcmimkonnoaa.pool1 Go.Proofs.Ytbobcmimkonnoaa.pool2 Go.Proofs.Ytbobcmimkonnoaa.pool5 Go.Proofs.Ytbobcmimkonnoaa.pool9 Go.Proofs.Ytbobcmimkonnoaa.clone Go.Proofs.Ytbobcmimkonnoaa.page Go.Proofs.Ytbobcmimkonnoaa.vault1 Go.Proofs.Ytbobcmimkonnoaa.vault2 Go.Proofs.Ytbobcmimkonnoaa.vault3 Go.Proofs.Ytbobcmimkonnoaa.vault4 Go.Proofs.Ytbobcmimkonnoaa.vault5

set_option maxRecDepth 100000 in
set_option maxHeartbeats 4000000 in
theorem make_ok (v : Nat) (s : VaultS) (hp : Hp) (vi vd : Value) (d : List Int) (next : Int) (hd : 1 ≤ d.length ∧ d.length ≤ 480) (hx : next = 0 ∨ 1 ≤ next ∧ next ≤ 65536) (hg : PageIn hp (.agg (blobCells vi vd next)) (blobV d next)) (F : Pr) (w : World)
    (hF : Sat ((VaultA v s).star ((Pr.own hp).star F)) w) (hfree : ∃ m, s.pool.state m = 1) (hm : s.pool.floor + s.pool.acts.length < 1099511627776) (hm2 : s.floor + s.acts.length < 1099511627776) :
    Calls Try.prog 26 #[.pointer (some ⟨v, 0, none⟩), .agg (blobCells vi vd next)] w fun e w' =>
      Stays w w' ∧ ∃ n, e = .returned (.tuple #[.int .i64 n, .int .i64 0]) ∧ (s.pool.state n = 1 ∧ ∀ m, s.pool.state m = 1 → n ≤ m) ∧
        Sat ((VaultA v ((s.made n (blobV d next)).acted ⟨s.pool.mark, [(n, s.on n)]⟩)).star ((Pr.own hp).star F)) w' := by
  obtain ⟨vi0, vd0, ee, hi0, hb0⟩ := id hg
  simp only [blobCells, pageV, Value.agg.injEq, Array.mk.injEq, List.cons.injEq, and_true, true_and] at ee
  obtain ⟨rfl, rfl⟩ := ee
  obtain ⟨ai, ci, rfl, _⟩ := items_none hi0
  obtain ⟨_, ad, cd, rfl, _⟩ := id hb0
  clear hi0 hb0
  have es : (w.alloc (.cells #[.pointer (some ⟨v, 0, none⟩)] 26)).heap.size = w.heap.size + 1 := by simp
  have h1 := (hF.alloc (.cells #[.pointer (some ⟨v, 0, none⟩)] 26)).alloc (.cells (blobCells (.slice ai 0 ci) (.slice ad d.length cd) next) 65)
  rw [es] at h1
  have HC := fun wx => Lib.hid (check_blob ai ad ci d.length cd next hd hx wx)
  have H1 := Lib.hid h1
  clear h1 hF es
  go_enter Try.func26, Try.ntmps26
  go_wp2_with fail
  refine (HC _).out.mono ?_
  rintro e w1 ⟨rfl, ho⟩
  have h2 := H1.out.only ho
  have h3 := h2.alloc (.cells #[.int .i64 0] 3)
  have h4 := h3.perm (B := (VaultA v s).star ((Pr.pts w.heap.size (.cells #[.pointer (some ⟨v, 0, none⟩)] 26)).star ((Pr.pts w1.heap.size (.cells #[.int .i64 0] 3)).star ((Pr.pts (w.heap.size + 1) (.cells (blobCells (.slice ai 0 ci) (.slice ad d.length cd) next) 65)).star ((Pr.own hp).star F))))) (by ac_rfl)
  have q0 : (w1.alloc (.cells #[.int .i64 0] 3)).cell? ⟨w.heap.size, 0, none⟩ = some (.pointer (some ⟨v, 0, none⟩)) := by rw [cell_of_heap h4.right.pts_heap]; rfl
  have D := do_ok v s 51 #[.pointer (some ⟨w.heap.size, 0, none⟩), .pointer (some ⟨w1.heap.size, 0, none⟩), .pointer (some ⟨w.heap.size + 1, 0, none⟩)] (fun n : Int => s.pool.state n = 1 ∧ ∀ m, s.pool.state m = 1 → n ≤ m)
    (fun n => s.made n (blobV d next)) (fun n => [(n, s.on n)]) (fun n => (Pr.pts w1.heap.size (.cells #[.int .i64 n] 3)).star ((Pr.own hp).star F)) _ _ h4 hm2 (fun _ _ => rfl) (fun z _ => ⟨rfl, rfl⟩) (fun ab wx hwx =>
      (make1_A v s ab s.pool.mark w.heap.size w1.heap.size (w.heap.size + 1) 0 hp (.slice ai 0 ci) (.slice ad d.length cd) d next (by omega) hg F wx hwx hm).mono (by
        rintro e w' ⟨hst, (⟨_, hno, _⟩ | ⟨n, e1, e2, e3, e4⟩)⟩
        · obtain ⟨m, hm⟩ := hfree
          exact absurd hm (hno m)
        · exact ⟨hst, e1, n, ⟨e2, e3⟩, e4⟩))
  have HD := Lib.hid D
  have HST := Lib.hid (((((Stays.refl w).alloc (.cells #[.pointer (some ⟨v, 0, none⟩)] 26)).alloc (.cells (blobCells (.slice ai 0 ci) (.slice ad d.length cd) next) 65)).trans ho.st).alloc (.cells #[.int .i64 0] 3))
  clear D h4 h3 h2 ho H1 HC
  go_wp2_with fail
  refine HD.out.mono ?_
  rintro e w2 ⟨hst2, rfl, n, hR, h5⟩
  have h6 := h5.perm (Pr.left_comm _ _ _)
  have q1 : w2.cell? ⟨w1.heap.size, 0, none⟩ = some (.int .i64 n) := by rw [cell_of_heap h6.pts_heap]; rfl
  have H6 := Lib.hid h6.right
  clear h5 h6
  go_wp2
  go_ret2
  exact ⟨HST.out.trans hst2, n, rfl, hR, H6.out⟩

theorem results_cell_row_tmp {fn : Func} {p u : Tmp} {ty : TypeId} (h : fn.results = #[.cell p ty, .tmp u]) (tmps : Array Value) (w : World) (g : Nat) (cs : Array Value)
    (hp : tmps.getD p undef = .pointer (some ⟨g, 0, none⟩)) (hr : (loadVar ty ⟨g, 0, none⟩).run Try.prog w = .ok (.agg cs) w) :
    (results fn tmps).run Try.prog w = .ok (.tuple #[.agg cs, tmps.getD u undef]) w := by
  rw [results_cell_tmp h, hp]
  simp [asAddr, Result.andThen, hr]

set_option maxRecDepth 100000 in
set_option maxHeartbeats 4000000 in
theorem read_none (v : Nat) (s : VaultS) (n : Int) (F : Pr) (w : World) (hF : Sat ((VaultA v s).star F) w) (h0 : s.pool.count n = 0) :
    Calls Try.prog 27 #[.pointer (some ⟨v, 0, none⟩), .int .i64 n] w fun e w' => e = .returned (.tuple #[zeroPage, .int .i64 15]) ∧ Only w w' := by
  obtain ⟨x, ok, hF⟩ := vaultA_iff.1 hF
  have ho : Only w (w.alloc (.cells #[.int .i64 0, .int .i64 0, .slice none 0 0, .slice none 0 0, .int .i64 0] 65)) := (Only.refl w).alloc _
  have h1 : Sat ((PoolA x.p s.pool).star ((Pr.pts v (.cells #[.pointer (some ⟨x.p, 0, none⟩), .map (some x.mb), x.av, .int .i64 s.floor] 43)).star
    ((((MapA Try.prog 3 x.mb x.f).star ((Row 94 2 x.av s.acts.length (actCells x.axs)).star (Pr.own x.h)))).star F))) w := hF.perm (by unfold VaultAt; ac_rfl)
  have qv : w.cell? ⟨v, 0, none⟩ = some (.pointer (some ⟨x.p, 0, none⟩)) := by rw [cell_of_heap h1.right.pts_heap]; rfl
  have zv := h1.right.lt
  have hh := heap_new w (.cells #[.int .i64 0, .int .i64 0, .slice none 0 0, .slice none 0 0, .int .i64 0] 65)
  have C := Lib.hid (count_A x.p s.pool n _ _ (h1.only ho))
  rw [h0] at C
  have HH := Lib.hid hh
  have HO := Lib.hid ho
  clear h1 hF ok hh ho
  go_enter Try.func27, Try.ntmps27
  go_wp2_with fail
  refine C.out.mono ?_
  rintro e w1 ⟨rfl, rfl⟩
  go_wp2
  refine bodyPost_ret (results_cell_row_tmp rfl _ _ w.heap.size _ rfl (run_loadVar_row _ w.heap.size _ _ _ _ _ HH.out Try.underlying65 rfl infoPage)) rfl ?_
  exact ⟨rfl, HO.out⟩

set_option maxRecDepth 100000 in
set_option maxHeartbeats 4000000 in
theorem read_blob (v : Nat) (s : VaultS) (n : Int) (hn : 1 ≤ n ∧ n ≤ 65536) (d : List Int) (next : Int) (hd : d.length ≤ 65536) (F : Pr) (w : World) (hF : Sat ((VaultA v s).star F) w) (h0 : s.pool.count n ≠ 0) (hon : s.on n = some (blobV d next)) :
    Calls Try.prog 27 #[.pointer (some ⟨v, 0, none⟩), .int .i64 n] w fun e w' =>
      Stays w w' ∧ ∃ pv, e = .returned (.tuple #[pv, .int .i64 0]) ∧ ∃ h', PageIn h' pv (blobV d next) ∧ Sat ((Pr.own h').star ((VaultA v s).star F)) w' := by
  obtain ⟨x, ok, hF⟩ := vaultA_iff.1 hF
  have ho : Only w (w.alloc (.cells #[.int .i64 0, .int .i64 0, .slice none 0 0, .slice none 0 0, .int .i64 0] 65)) := (Only.refl w).alloc _
  have h1 : Sat ((PoolA x.p s.pool).star ((Pr.pts v (.cells #[.pointer (some ⟨x.p, 0, none⟩), .map (some x.mb), x.av, .int .i64 s.floor] 43)).star
    ((((MapA Try.prog 3 x.mb x.f).star ((Row 94 2 x.av s.acts.length (actCells x.axs)).star (Pr.own x.h)))).star F))) w := hF.perm (by unfold VaultAt; ac_rfl)
  have qv : w.cell? ⟨v, 0, none⟩ = some (.pointer (some ⟨x.p, 0, none⟩)) := by rw [cell_of_heap h1.right.pts_heap]; rfl
  have qm : w.cell? ⟨v, 1, none⟩ = some (.map (some x.mb)) := by rw [cell_of_heap h1.right.pts_heap]; rfl
  have zv := h1.right.lt
  have C := Lib.hid (count_A x.p s.pool n _ _ (h1.only ho))
  have hm := (h1.only ho).perm (B := (MapA Try.prog 3 x.mb x.f).star ((PoolA x.p s.pool).star ((Pr.pts v (.cells #[.pointer (some ⟨x.p, 0, none⟩), .map (some x.mb), x.av, .int .i64 s.floor] 43)).star ((Row 94 2 x.av s.acts.length (actCells x.axs)).star ((Pr.own x.h).star F))))) (by ac_rfl)
  have hO := ok.on n
  rw [hon] at hO
  obtain ⟨pv, hf, hpv⟩ := hO
  have hne : (s.pool.count n == 0) = false := by rw [beq_eq_false_iff_ne]; exact h0
  have h2 := hF.alloc (.cells #[.int .i64 0, .int .i64 0, .slice none 0 0, .slice none 0 0, .int .i64 0] 65)
  have D := Lib.hid (copied_blob x.h pv d next hd hpv _ _ h2 (hm.perm (B := (Pr.own x.h).star ((MapA Try.prog 3 x.mb x.f).star ((PoolA x.p s.pool).star ((Pr.pts v (.cells #[.pointer (some ⟨x.p, 0, none⟩), .map (some x.mb), x.av, .int .i64 s.floor] 43)).star ((Row 94 2 x.av s.acts.length (actCells x.axs)).star F))))) (by ac_rfl)).own)
  have HM := Lib.hid hm
  have HO := Lib.hid ho
  have OK := Lib.hid ok
  have HFN := Lib.hid hf
  clear h1 hF ok ho hm hf hpv h2
  go_enter Try.func27, Try.ntmps27
  go_wp2_with fail
  refine C.out.mono ?_
  rintro e w1 ⟨rfl, rfl⟩
  generalize s.pool.count n = k at *
  go_wp2_with (at_lookup; refine wpList_look rfl _ _ _ false rfl Try.underlying3 Try.underlying40 zeroPage (zero_page _) n hn rfl rfl HM.out ?_; rw [HFN.out])
  refine D.out.mono ?_
  rintro e w1 ⟨pv2, rfl, ⟨h', hp', h3⟩, hst⟩
  obtain ⟨pk, pl, ai, mi, ci, ad, md, cd, nx, rfl⟩ := page_shape hp'
  have h4 := h3.perm (B := (Pr.pts w.heap.size (.cells #[.int .i64 0, .int .i64 0, .slice none 0 0, .slice none 0 0, .int .i64 0] 65)).star ((Pr.own h').star ((VaultAt v s x).star F))) (by ac_rfl)
  have f0 : w1.cell? ⟨w.heap.size, 0, none⟩ = some (.int .i64 0) := by rw [cell_of_heap h4.pts_heap]; rfl
  have f1 : w1.cell? ⟨w.heap.size, 1, none⟩ = some (.int .i64 0) := by rw [cell_of_heap h4.pts_heap]; rfl
  have f2 : w1.cell? ⟨w.heap.size, 2, none⟩ = some (.slice none 0 0) := by rw [cell_of_heap h4.pts_heap]; rfl
  have f3 : w1.cell? ⟨w.heap.size, 3, none⟩ = some (.slice none 0 0) := by rw [cell_of_heap h4.pts_heap]; rfl
  have f4 : w1.cell? ⟨w.heap.size, 4, none⟩ = some (.int .i64 0) := by rw [cell_of_heap h4.pts_heap]; rfl
  have z0 := frozen_of_heap h4.pts_heap 0
  have z1 := frozen_of_heap h4.pts_heap 1
  have z2 := frozen_of_heap h4.pts_heap 2
  have z3 := frozen_of_heap h4.pts_heap 3
  have z4 := frozen_of_heap h4.pts_heap 4
  have s6 := ((((h4.setCell (i := 0) (.int .i64 pk)).setCell (i := 1) (.int .i64 pl)).setCell (i := 2) (.slice ai mi ci)).setCell (i := 3) (.slice ad md cd)).setCell (i := 4) (.int .i64 nx)
  have s7 : Sat ((Pr.pts w.heap.size (.cells #[.int .i64 pk, .int .i64 pl, .slice ai mi ci, .slice ad md cd, .int .i64 nx] 65)).star ((Pr.own h').star ((VaultAt v s x).star F))) _ := s6
  have S7 := Lib.hid s7
  have HST := Lib.hid (HO.out.st.trans hst)
  have HP := Lib.hid hp'
  clear h3 h4 s6 s7 hst hp' C D HM HFN
  go_wp2
  refine bodyPost_ret (results_cell_row_tmp rfl _ _ w.heap.size _ rfl (run_loadVar_row _ w.heap.size _ _ _ _ _ S7.out.pts_heap Try.underlying65 rfl infoPage)) rfl ?_
  exact ⟨((((HST.out.setCell _ _).setCell _ _).setCell _ _).setCell _ _).setCell _ _, _, rfl, h', HP.out, (vaultA_iff.2 ⟨x, OK.out, S7.out.right.perm (Pr.left_comm _ _ _)⟩).perm (Pr.left_comm _ _ _)⟩

abbrev newV (refs : Int) (pages : Nat) : VaultS := ⟨poolOf refs (List.replicate pages 0) 0, fun _ => none, [], 0⟩

set_option maxRecDepth 100000 in
set_option maxHeartbeats 4000000 in
theorem vnew_any (pages : Nat) (refs : Int) (h : 1 ≤ pages ∧ pages ≤ 65536 ∧ 2 ≤ refs ∧ refs < 65536) (F : Pr) (w : World) (hF : Sat F w) :
    Calls Try.prog 10 #[.int .i64 pages, .int .i64 refs] w fun e w' =>
      Stays w w' ∧ ∃ v, e = .returned (.tuple #[.pointer (some ⟨v, 0, none⟩), .int .i64 0]) ∧ Sat ((VaultA v (newV refs pages)).star F) w' := by
  have C := Lib.hid (pool9.new_any pages refs (by omega) F w hF)
  rw [Int.toNat_natCast] at C
  clear hF
  go_enter Try.func10, Try.ntmps10
  go_wp2_with fail
  refine C.out.mono ?_
  rintro e w1 ⟨p, rfl, h1, hst⟩
  have h2 := map_made (P := Try.prog) (k := 3) h1
  have es : (w1.alloc (.map #[] 0)).heap.size = w1.heap.size + 1 := by simp
  have h3 := h2.alloc (.cells #[.pointer (some ⟨p, 0, none⟩), .map (some w1.heap.size), .slice none 0 0, .int .i64 0] 43)
  rw [es] at h3
  have H3 := Lib.hid h3
  have HST := Lib.hid ((hst.alloc (.map #[] 0)).alloc (.cells #[.pointer (some ⟨p, 0, none⟩), .map (some w1.heap.size), .slice none 0 0, .int .i64 0] 43))
  clear h1 h2 h3 hst C es
  have hmk : ∀ wx : World, (Instr.makeMap 40 none).run Try.prog wx = .ok (.map (some wx.heap.size)) (wx.alloc (.map #[] 0)) := fun wx => run_makeMap _ wx
  go_wp2
  go_ret2
  refine ⟨HST.out, w1.heap.size + 1, rfl, vaultA_iff.2 ⟨⟨p, w1.heap.size, .slice none 0 0, fun _ => none, [], Hp.nil⟩, ⟨fun n => rfl, ⟨rfl, fun i h => absurd h (by simp)⟩, Int.le_refl _, by simp⟩, H3.out.perm ?_⟩⟩
  unfold VaultAt
  rw [own_nil, show (Row 94 2 (.slice none 0 0) (newV refs pages).acts.length (actCells [])) = Pr.emp from Row.nil _ _, Pr.emp_star, Pr.star_emp]
  ac_rfl
end Go.Proofs.Ytbobcmimkonnoaa.vault6
