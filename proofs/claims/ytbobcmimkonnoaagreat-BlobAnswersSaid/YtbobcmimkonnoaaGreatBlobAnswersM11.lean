/- The vault: Make where a page is free, Read, New; the conditions stand as hypotheses. -/
import Derived.Test.YtbobcmimkonnoaaGreatBlobAnswersM10
import Derived.Test.YtbobcmimkonnoaaGreatBlobAnswersM09
namespace Go.Proofs.YtbobcmimkonnoaaGreat.vault6
open ChangeShapes WideShapes ChangeAt RowKit Sl Cop pool1 pool2 pool5 pool9 clone page vault1 vault2 vault3 vault4 vault5
set_option maxRecDepth 100000 in
set_option maxHeartbeats 4000000 in
theorem make_ok (v : Nat) (s : VaultS) (hp : Hp) (vi vd : Value) (d : List Int) (next : Int) (hd : 1 ≤ d.length ∧ d.length ≤ 480) (hx : next = 0 ∨ 1 ≤ next ∧ next ≤ 65536) (hg : PageIn hp (.agg (blobCells vi vd next)) (blobV d next)) (F : Pr) (w : World)
 (hF : Sat ((VaultA v s).star ((Pr.own hp).star F)) w) (hfree : ∃ m, s.pool.state m = 1) (hm : s.pool.floor + s.pool.acts.length < 1099511627776) (hm2 : s.floor + s.acts.length < 1099511627776) :
 Calls Tryz.prog 64 #[.pointer (some ⟨v, 0, none⟩), .agg (blobCells vi vd next)] w fun e w' =>
  Stays w w' ∧ ∃ n, e = .returned (.tuple #[.int .i64 n, .int .i64 0]) ∧ (s.pool.state n = 1 ∧ ∀ m, s.pool.state m = 1 → n ≤ m) ∧
   Sat ((VaultA v ((s.made n (blobV d next)).acted ⟨s.pool.mark, [(n, s.on n)]⟩)).star ((Pr.own hp).star F)) w' := by
 obtain ⟨vi0, vd0, ee, hi0, hb0⟩ := id hg
 simp only [blobCells, pageV, Value.agg.injEq, Array.mk.injEq, List.cons.injEq, and_true, true_and] at ee
 obtain ⟨rfl, rfl⟩ := ee
 obtain ⟨ai, ci, rfl, _⟩ := items_none hi0
 obtain ⟨_, ad, cd, rfl, _⟩ := id hb0
 clear hi0 hb0
 have es : (w.alloc (.cells #[.pointer (some ⟨v, 0, none⟩)] 35)).heap.size = w.heap.size + 1 := by simp
 have h1 := (hF.alloc (.cells #[.pointer (some ⟨v, 0, none⟩)] 35)).alloc (.cells (blobCells (.slice ai 0 ci) (.slice ad d.length cd) next) 31)
 rw [es] at h1
 have HC := fun wx => Lib.hid (check_blob ai ad ci d.length cd next hd hx wx)
 have H1 := Lib.hid h1
 clear h1 hF es
 go_enter Tryz.func64, Tryz.ntmps64
 go_wp2_with fail
 refine (HC _).out.mono ?_
 rintro e w1 ⟨rfl, ho⟩
 have h2 := H1.out.only ho
 have h3 := h2.alloc (.cells #[.int .i64 0] 3)
 have h4 := h3.perm (B := (VaultA v s).star ((Pr.pts w.heap.size (.cells #[.pointer (some ⟨v, 0, none⟩)] 35)).star ((Pr.pts w1.heap.size (.cells #[.int .i64 0] 3)).star ((Pr.pts (w.heap.size + 1) (.cells (blobCells (.slice ai 0 ci) (.slice ad d.length cd) next) 31)).star ((Pr.own hp).star F))))) (by ac_rfl)
 have q0 : (w1.alloc (.cells #[.int .i64 0] 3)).cell? ⟨w.heap.size, 0, none⟩ = some (.pointer (some ⟨v, 0, none⟩)) := by rw [cell_of_heap h4.right.pts_heap]; rfl
 have D := do_ok v s 124 #[.pointer (some ⟨w.heap.size, 0, none⟩), .pointer (some ⟨w1.heap.size, 0, none⟩), .pointer (some ⟨w.heap.size + 1, 0, none⟩)] (fun n : Int => s.pool.state n = 1 ∧ ∀ m, s.pool.state m = 1 → n ≤ m)
  (fun n => s.made n (blobV d next)) (fun n => [(n, s.on n)]) (fun n => (Pr.pts w1.heap.size (.cells #[.int .i64 n] 3)).star ((Pr.own hp).star F)) _ _ h4 hm2 (fun _ _ => rfl) (fun z _ => ⟨rfl, rfl⟩) (fun ab wx hwx =>
   (make1_A v s ab s.pool.mark w.heap.size w1.heap.size (w.heap.size + 1) 0 hp (.slice ai 0 ci) (.slice ad d.length cd) d next (by omega) hg F wx hwx hm).mono (by
    rintro e w' ⟨hst, (⟨_, hno, _⟩ | ⟨n, e1, e2, e3, e4⟩)⟩
    · obtain ⟨m, hm⟩ := hfree
      exact absurd hm (hno m)
    · exact ⟨hst, e1, n, ⟨e2, e3⟩, e4⟩))
 have HD := Lib.hid D
 have HST := Lib.hid (((((Stays.refl w).alloc (.cells #[.pointer (some ⟨v, 0, none⟩)] 35)).alloc (.cells (blobCells (.slice ai 0 ci) (.slice ad d.length cd) next) 31)).trans ho.st).alloc (.cells #[.int .i64 0] 3))
 clear D h4 h3 h2 ho H1 HC
 go_wp2_with fail
 refine HD.out.mono ?_
 rintro e w2 ⟨hst2, rfl, n, hR, h5⟩
 have h6 := h5.perm (Pr.left_comm _ _ _)
 have q1 : w2.cell? ⟨w1.heap.size, 0, none⟩ = some (.int .i64 n) := by rw [cell_of_heap h6.pts_heap]; rfl
 have H6 := Lib.hid h6.right
 clear h5 h6
 go_wp2
 go_ret2
 exact ⟨HST.out.trans hst2, n, rfl, hR, H6.out⟩
theorem results_cell_row_tmp {fn : Func} {p u : Tmp} {ty : TypeId} (h : fn.results = #[.cell p ty, .tmp u]) (tmps : Array Value) (w : World) (g : Nat) (cs : Array Value)
 (hp : tmps.getD p undef = .pointer (some ⟨g, 0, none⟩)) (hr : (loadVar ty ⟨g, 0, none⟩).run Tryz.prog w = .ok (.agg cs) w) :
 (results fn tmps).run Tryz.prog w = .ok (.tuple #[.agg cs, tmps.getD u undef]) w := by
 rw [results_cell_tmp h, hp]
 simp [asAddr, Result.andThen, hr]
set_option maxRecDepth 100000 in
set_option maxHeartbeats 4000000 in
theorem read_none (v : Nat) (s : VaultS) (n : Int) (F : Pr) (w : World) (hF : Sat ((VaultA v s).star F) w) (h0 : s.pool.count n = 0) :
 Calls Tryz.prog 44 #[.pointer (some ⟨v, 0, none⟩), .int .i64 n] w fun e w' => e = .returned (.tuple #[zeroPage, .int .i64 15]) ∧ Only w w' := by
 obtain ⟨x, ok, hF⟩ := vaultA_iff.1 hF
 have ho : Only w (w.alloc (.cells #[.int .i64 0, .int .i64 0, .slice none 0 0, .slice none 0 0, .int .i64 0] 31)) := (Only.refl w).alloc _
 have h1 : Sat ((PoolA x.p s.pool).star ((Pr.pts v (.cells #[.pointer (some ⟨x.p, 0, none⟩), .map (some x.mb), x.av, .int .i64 s.floor] 71)).star
  ((((MapA Tryz.prog 3 x.mb x.f).star ((Row 158 2 x.av s.acts.length (actCells x.axs)).star (Pr.own x.h)))).star F))) w := hF.perm (by unfold VaultAt; ac_rfl)
 have qv : w.cell? ⟨v, 0, none⟩ = some (.pointer (some ⟨x.p, 0, none⟩)) := by rw [cell_of_heap h1.right.pts_heap]; rfl
 have zv := h1.right.lt
 have hh := heap_new w (.cells #[.int .i64 0, .int .i64 0, .slice none 0 0, .slice none 0 0, .int .i64 0] 31)
 have C := Lib.hid (count_A x.p s.pool n _ _ (h1.only ho))
 rw [h0] at C
 have HH := Lib.hid hh
 have HO := Lib.hid ho
 clear h1 hF ok hh ho
 go_enter Tryz.func44, Tryz.ntmps44
 go_wp2_with fail
 refine C.out.mono ?_
 rintro e w1 ⟨rfl, rfl⟩
 go_wp2
 refine bodyPost_ret (results_cell_row_tmp rfl _ _ w.heap.size _ rfl (run_loadVar_row _ w.heap.size _ _ _ _ _ HH.out Tryz.underlying31 rfl infoPage)) rfl ?_
 exact ⟨rfl, HO.out⟩
set_option maxRecDepth 100000 in
set_option maxHeartbeats 4000000 in
theorem read_blob (v : Nat) (s : VaultS) (n : Int) (hn : 1 ≤ n ∧ n ≤ 65536) (d : List Int) (next : Int) (hd : d.length ≤ 65536) (F : Pr) (w : World) (hF : Sat ((VaultA v s).star F) w) (h0 : s.pool.count n ≠ 0) (hon : s.on n = some (blobV d next)) :
 Calls Tryz.prog 44 #[.pointer (some ⟨v, 0, none⟩), .int .i64 n] w fun e w' =>
  Stays w w' ∧ ∃ pv, e = .returned (.tuple #[pv, .int .i64 0]) ∧ ∃ h', PageIn h' pv (blobV d next) ∧ Sat ((Pr.own h').star ((VaultA v s).star F)) w' := by
 obtain ⟨x, ok, hF⟩ := vaultA_iff.1 hF
 have ho : Only w (w.alloc (.cells #[.int .i64 0, .int .i64 0, .slice none 0 0, .slice none 0 0, .int .i64 0] 31)) := (Only.refl w).alloc _
 have h1 : Sat ((PoolA x.p s.pool).star ((Pr.pts v (.cells #[.pointer (some ⟨x.p, 0, none⟩), .map (some x.mb), x.av, .int .i64 s.floor] 71)).star
  ((((MapA Tryz.prog 3 x.mb x.f).star ((Row 158 2 x.av s.acts.length (actCells x.axs)).star (Pr.own x.h)))).star F))) w := hF.perm (by unfold VaultAt; ac_rfl)
 have qv : w.cell? ⟨v, 0, none⟩ = some (.pointer (some ⟨x.p, 0, none⟩)) := by rw [cell_of_heap h1.right.pts_heap]; rfl
 have qm : w.cell? ⟨v, 1, none⟩ = some (.map (some x.mb)) := by rw [cell_of_heap h1.right.pts_heap]; rfl
 have zv := h1.right.lt
 have C := Lib.hid (count_A x.p s.pool n _ _ (h1.only ho))
 have hm := (h1.only ho).perm (B := (MapA Tryz.prog 3 x.mb x.f).star ((PoolA x.p s.pool).star ((Pr.pts v (.cells #[.pointer (some ⟨x.p, 0, none⟩), .map (some x.mb), x.av, .int .i64 s.floor] 71)).star ((Row 158 2 x.av s.acts.length (actCells x.axs)).star ((Pr.own x.h).star F))))) (by ac_rfl)
 have hO := ok.on n
 rw [hon] at hO
 obtain ⟨pv, hf, hpv⟩ := hO
 have hne : (s.pool.count n == 0) = false := by rw [beq_eq_false_iff_ne]; exact h0
 have h2 := hF.alloc (.cells #[.int .i64 0, .int .i64 0, .slice none 0 0, .slice none 0 0, .int .i64 0] 31)
 have D := Lib.hid (copied_blob x.h pv d next hd hpv _ _ h2 (hm.perm (B := (Pr.own x.h).star ((MapA Tryz.prog 3 x.mb x.f).star ((PoolA x.p s.pool).star ((Pr.pts v (.cells #[.pointer (some ⟨x.p, 0, none⟩), .map (some x.mb), x.av, .int .i64 s.floor] 71)).star ((Row 158 2 x.av s.acts.length (actCells x.axs)).star F))))) (by ac_rfl)).own)
 have HM := Lib.hid hm
 have HO := Lib.hid ho
 have OK := Lib.hid ok
 have HFN := Lib.hid hf
 clear h1 hF ok ho hm hf hpv h2
 go_enter Tryz.func44, Tryz.ntmps44
 go_wp2_with fail
 refine C.out.mono ?_
 rintro e w1 ⟨rfl, rfl⟩
 generalize s.pool.count n = k at *
 go_wp2_with (at_lookup; refine wpList_look rfl _ _ _ false rfl Tryz.underlying3 Tryz.underlying68 zeroPage (zero_page _) n hn rfl rfl HM.out ?_; rw [HFN.out])
 refine D.out.mono ?_
 rintro e w1 ⟨pv2, rfl, ⟨h', hp', h3⟩, hst⟩
 obtain ⟨pk, pl, ai, mi, ci, ad, md, cd, nx, rfl⟩ := page_shape hp'
 have h4 := h3.perm (B := (Pr.pts w.heap.size (.cells #[.int .i64 0, .int .i64 0, .slice none 0 0, .slice none 0 0, .int .i64 0] 31)).star ((Pr.own h').star ((VaultAt v s x).star F))) (by ac_rfl)
 have f0 : w1.cell? ⟨w.heap.size, 0, none⟩ = some (.int .i64 0) := by rw [cell_of_heap h4.pts_heap]; rfl
 have f1 : w1.cell? ⟨w.heap.size, 1, none⟩ = some (.int .i64 0) := by rw [cell_of_heap h4.pts_heap]; rfl
 have f2 : w1.cell? ⟨w.heap.size, 2, none⟩ = some (.slice none 0 0) := by rw [cell_of_heap h4.pts_heap]; rfl
 have f3 : w1.cell? ⟨w.heap.size, 3, none⟩ = some (.slice none 0 0) := by rw [cell_of_heap h4.pts_heap]; rfl
 have f4 : w1.cell? ⟨w.heap.size, 4, none⟩ = some (.int .i64 0) := by rw [cell_of_heap h4.pts_heap]; rfl
 have z0 := frozen_of_heap h4.pts_heap 0
 have z1 := frozen_of_heap h4.pts_heap 1
 have z2 := frozen_of_heap h4.pts_heap 2
 have z3 := frozen_of_heap h4.pts_heap 3
 have z4 := frozen_of_heap h4.pts_heap 4
 have s6 := ((((h4.setCell (i := 0) (.int .i64 pk)).setCell (i := 1) (.int .i64 pl)).setCell (i := 2) (.slice ai mi ci)).setCell (i := 3) (.slice ad md cd)).setCell (i := 4) (.int .i64 nx)
 have s7 : Sat ((Pr.pts w.heap.size (.cells #[.int .i64 pk, .int .i64 pl, .slice ai mi ci, .slice ad md cd, .int .i64 nx] 31)).star ((Pr.own h').star ((VaultAt v s x).star F))) _ := s6
 have S7 := Lib.hid s7
 have HST := Lib.hid (HO.out.st.trans hst)
 have HP := Lib.hid hp'
 clear h3 h4 s6 s7 hst hp' C D HM HFN
 go_wp2
 refine bodyPost_ret (results_cell_row_tmp rfl _ _ w.heap.size _ rfl (run_loadVar_row _ w.heap.size _ _ _ _ _ S7.out.pts_heap Tryz.underlying31 rfl infoPage)) rfl ?_
 exact ⟨((((HST.out.setCell _ _).setCell _ _).setCell _ _).setCell _ _).setCell _ _, _, rfl, h', HP.out, (vaultA_iff.2 ⟨x, OK.out, S7.out.right.perm (Pr.left_comm _ _ _)⟩).perm (Pr.left_comm _ _ _)⟩
abbrev newV (refs : Int) (pages : Nat) : VaultS := ⟨poolOf refs (List.replicate pages 0) 0, fun _ => none, [], 0⟩
set_option maxRecDepth 100000 in
set_option maxHeartbeats 4000000 in
theorem vnew_any (pages : Nat) (refs : Int) (h : 1 ≤ pages ∧ pages ≤ 65536 ∧ 2 ≤ refs ∧ refs < 65536) (F : Pr) (w : World) (hF : Sat F w) :
 Calls Tryz.prog 12 #[.int .i64 pages, .int .i64 refs] w fun e w' =>
  Stays w w' ∧ ∃ v, e = .returned (.tuple #[.pointer (some ⟨v, 0, none⟩), .int .i64 0]) ∧ Sat ((VaultA v (newV refs pages)).star F) w' := by
 have C := Lib.hid (pool9.new_any pages refs (by omega) F w hF)
 rw [Int.toNat_natCast] at C
 clear hF
 go_enter Tryz.func12, Tryz.ntmps12
 go_wp2_with fail
 refine C.out.mono ?_
 rintro e w1 ⟨p, rfl, h1, hst⟩
 have h2 := map_made (P := Tryz.prog) (k := 3) h1
 have es : (w1.alloc (.map #[] 0)).heap.size = w1.heap.size + 1 := by simp
 have h3 := h2.alloc (.cells #[.pointer (some ⟨p, 0, none⟩), .map (some w1.heap.size), .slice none 0 0, .int .i64 0] 71)
 rw [es] at h3
 have H3 := Lib.hid h3
 have HST := Lib.hid ((hst.alloc (.map #[] 0)).alloc (.cells #[.pointer (some ⟨p, 0, none⟩), .map (some w1.heap.size), .slice none 0 0, .int .i64 0] 71))
 clear h1 h2 h3 hst C es
 have hmk : ∀ wx : World, (Instr.makeMap 68 none).run Tryz.prog wx = .ok (.map (some wx.heap.size)) (wx.alloc (.map #[] 0)) := fun wx => run_makeMap _ wx
 go_wp2
 go_ret2
 refine ⟨HST.out, w1.heap.size + 1, rfl, vaultA_iff.2 ⟨⟨p, w1.heap.size, .slice none 0 0, fun _ => none, [], Hp.nil⟩, ⟨fun n => rfl, ⟨rfl, fun i h => absurd h (by simp)⟩, Int.le_refl _, by simp⟩, H3.out.perm ?_⟩⟩
 unfold VaultAt
 rw [own_nil, show (Row 158 2 (.slice none 0 0) (newV refs pages).acts.length (actCells [])) = Pr.emp from Row.nil _ _, Pr.emp_star, Pr.star_emp]
 ac_rfl
end Go.Proofs.YtbobcmimkonnoaaGreat.vault6
namespace Go.Cop
def heldL (cs : List Int) : List Int := ((List.range cs.length).filter fun i => decide (cs.getD i 0 ≠ 0)).map fun i : Nat => (i : Int) + 1
theorem held_nodup (cs : List Int) : (heldL cs).Nodup := by
 unfold heldL
 rw [List.nodup_iff_pairwise_ne, List.pairwise_map]
 refine (List.Pairwise.filter _ List.nodup_range).imp fun {a b} h e => h (by omega)
theorem held_mem {cs : List Int} {n : Int} : n ∈ heldL cs ↔ cntL cs n ≠ 0 := by
 unfold heldL cntL
 rw [List.mem_map]
 constructor
 · rintro ⟨i, hi, rfl⟩
   rw [List.mem_filter, List.mem_range] at hi
   rw [if_pos (by omega), show ((i : Int) + 1).toNat - 1 = i by omega]
   simpa using hi.2
 · intro h
   split at h
   · rename_i hb
     refine ⟨n.toNat - 1, ?_, by omega⟩
     rw [List.mem_filter, List.mem_range]
     exact ⟨by omega, by simpa using h⟩
   · exact absurd rfl h
theorem list_range (cs : List Int) : (List.range cs.length).map (fun i => cs.getD i 0) = cs := by
 refine List.ext_getElem (by simp) fun i h1 h2 => ?_
 simp [List.getD_eq_getElem?_getD, h2]
theorem held_len {cs : List Int} (h0 : ∀ c ∈ cs, 0 ≤ c) : (heldL cs).length = (cs.filter fun c => stateOf c (decide (0 < c)) == 4).length := by
 have e : (cs.filter fun c => stateOf c (decide (0 < c)) == 4) = cs.filter fun c => decide (c ≠ 0) := by
  refine List.filter_congr fun c hc => ?_
  have := h0 c hc
  unfold stateOf
  by_cases hp : 0 < c
  · rw [decide_eq_true hp]; simp [hp]; omega
  · have : c = 0 := by omega
    subst this; rfl
 rw [e]
 conv => rhs; rw [← list_range cs, List.filter_map]
 unfold heldL
 rw [List.length_map, List.length_map]
 rfl
theorem lacks_iff {cs : List Int} {on : Int → Option PageV} : lacks cs on = true ↔ ∃ x ∈ heldL cs, on x = none := by
 unfold lacks
 rw [List.any_eq_true]
 constructor
 · rintro ⟨i, hi, h⟩
   simp only [Bool.and_eq_true, decide_eq_true_eq] at h
   rw [List.mem_range] at hi
   refine ⟨(i : Int) + 1, held_mem.2 ?_, by simpa using h.2⟩
   unfold cntL
   rw [if_pos (by omega), show ((i : Int) + 1).toNat - 1 = i by omega]
   exact h.1
 · rintro ⟨x, hx, hn⟩
   have hc := held_mem.1 hx
   obtain ⟨b1, b2⟩ := cntL_bd hc
   refine ⟨x.toNat - 1, List.mem_range.2 (by omega), ?_⟩
   unfold cntL at hc
   rw [if_pos ⟨b1, b2⟩] at hc
   have e : (((x.toNat - 1 : Nat) : Int)) + 1 = x := by omega
   simp only [Bool.and_eq_true, decide_eq_true_eq, e, hn]
   exact ⟨hc, rfl⟩
theorem count_poolOf (refs : Int) (cs : List Int) (n : Int) : ({ refs := refs, counts := cs, last := lastsOf cs, acts := [], floor := 0 } : PoolS).count n = cntL cs n := by
 unfold PoolS.count cntL PoolS.there
 rfl
end Go.Cop
namespace Go.Proofs.YtbobcmimkonnoaaGreat.vloadLaw
open ChangeShapes WideShapes ChangeAt RowKit Sl Cop clone page vault1 pool8 pool9 items vault2
def numCells (x : (Value × Value) × NumV) : List Value := [.int .i64 x.2.no, .int .i64 x.2.page.kind, .int .i64 x.2.page.level, x.1.1, x.1.2, .int .i64 x.2.page.next]
def NumsIn (h : Hp) (v : Value) (l : List NumV) : Prop :=
 ∃ xs : List (Value × Value), xs.length = l.length ∧ RowIn h 6 v l.length ((xs.zip l).flatMap numCells) ∧
  ∀ i (hx : i < xs.length) (hl : i < l.length), ItemsIn h xs[i].1 l[i].page.items ∧ Bytes h xs[i].2 l[i].page.data
theorem nums_rd {h : Hp} {v : Value} {l : List NumV} (hi : NumsIn h v l) : ∃ a c, v = .slice a l.length c ∧ ∀ i (hl : i < l.length), ∃ b off ai ci ad cd, a = some ⟨b, off, none⟩ ∧
 PageIn h (pageV l[i].page.kind l[i].page.level (.slice ai l[i].page.items.length ci) (.slice ad l[i].page.data.length cd) l[i].page.next) l[i].page ∧
 ∀ w, h.le w → w.cell? ⟨b, off + i * 6, none⟩ = some (.int .i64 l[i].no) ∧ w.cell? ⟨b, off + i * 6 + 1, none⟩ = some (.int .i64 l[i].page.kind) ∧ w.cell? ⟨b, off + i * 6 + 2, none⟩ = some (.int .i64 l[i].page.level) ∧
  w.cell? ⟨b, off + i * 6 + 3, none⟩ = some (.slice ai l[i].page.items.length ci) ∧ w.cell? ⟨b, off + i * 6 + 4, none⟩ = some (.slice ad l[i].page.data.length cd) ∧ w.cell? ⟨b, off + i * 6 + 5, none⟩ = some (.int .i64 l[i].page.next) := by
 obtain ⟨xs, hxl, ⟨hlen, a, c, e, _, hcm, hc⟩, hb⟩ := hi
 refine ⟨a, c, e, fun i hl => ?_⟩
 obtain ⟨b, off, ea, hcell⟩ := hc (by omega)
 have hxi : i < xs.length := by omega
 obtain ⟨h1, h2⟩ := hb i hxi hl
 obtain ⟨ai, ci, e1, _, _⟩ := items_rd h1
 obtain ⟨ad, cd, e2⟩ := bytes_shape h2
 have hz : i < (xs.zip l).length := by simp; omega
 have ez : (xs.zip l)[i] = (xs[i], l[i]) := by simp
 refine ⟨b, off, ai, ci, ad, cd, ea, ⟨_, _, rfl, e1 ▸ h1, e2 ▸ h2⟩, fun w hw => ?_⟩
 have at' : ∀ j, j < 6 → ∀ v, (numCells (xs[i], l[i]))[j]? = some v → w.cell? ⟨b, off + i * 6 + j, none⟩ = some v := by
  intro j hj v hv
  have h3 := hcell (i * 6 + j) (by omega)
  have h4 := flat_at numCells 6 (fun _ => rfl) (xs.zip l) i j hz hj
  rw [ez, hv] at h4
  rw [Nat.add_assoc]
  exact Hp.cell_le hw (h3.trans h4)
 have k0 := at' 0 (by omega) _ rfl
 have k1 := at' 1 (by omega) _ rfl
 have k2 := at' 2 (by omega) _ rfl
 have k3 := at' 3 (by omega) _ rfl
 have k4 := at' 4 (by omega) _ rfl
 have k5 := at' 5 (by omega) _ rfl
 dsimp only at k0 k1 k2 k3 k4 k5
 rw [e1] at k3
 rw [e2] at k4
 exact ⟨k0, k1, k2, k3, k4, k5⟩
theorem tally_held {refs : Int} {cs : List Int} (ok : PoolOk (poolOf refs cs 0)) : (poolOf refs cs 0).tally 4 = ((heldL cs).length : Int) := by
 unfold PoolS.tally
 rw [if_neg (by omega), many_settled cs 4 _ rfl rfl]
 unfold inState
 rw [held_len fun c hc => (ok.cs c hc).1]
end Go.Proofs.YtbobcmimkonnoaaGreat.vloadLaw
namespace Go.Cop
theorem zip_at {s : PoolS} (ok : PoolOk s) {i : Nat} (hi : i < s.counts.length) : s.there (i + 1) ∧ s.state (i + 1) = stateOf s.counts[i] (s.last[i]'(by rw [ok.len]; exact hi)) := by
 have ht : s.there ((i : Int) + 1) := ⟨by omega, by omega⟩
 refine ⟨ht, ?_⟩
 have hl : i < s.last.length := by rw [ok.len]; exact hi
 rw [state_there ht]
 unfold PoolS.count PoolS.lasts
 rw [if_pos ht, show ((i : Int) + 1).toNat - 1 = i by omega, List.getD_eq_getElem?_getD, List.getD_eq_getElem?_getD, List.getElem?_eq_getElem hi, List.getElem?_eq_getElem hl]
 rfl
theorem free_of_many {s : PoolS} (ok : PoolOk s) {k : Int} (h : s.many k ≠ 0) : ∃ n, s.state n = k := by
 unfold PoolS.many at h
 cases hl : (s.counts.zip s.last).filter fun x => stateOf x.1 x.2 == k with
 | nil => rw [hl] at h; simp at h
 | cons x l =>
  have hx : x ∈ (s.counts.zip s.last).filter fun x => stateOf x.1 x.2 == k := by rw [hl]; simp
  obtain ⟨h1, h2⟩ := List.mem_filter.1 hx
  obtain ⟨i, hi, e⟩ := List.getElem_of_mem h1
  have hc : i < s.counts.length := by simp at hi; omega
  refine ⟨(i : Int) + 1, ?_⟩
  rw [(zip_at ok hc).2]
  rw [List.getElem_zip] at e
  subst e
  simpa using h2
theorem many_of_none {s : PoolS} (ok : PoolOk s) {k : Int} (h : ∀ n, s.state n ≠ k) : s.many k = 0 := by
 unfold PoolS.many
 rw [List.length_eq_zero_iff, List.filter_eq_nil_iff]
 intro x hx
 obtain ⟨i, hi, e⟩ := List.getElem_of_mem hx
 have hc : i < s.counts.length := by simp at hi; omega
 have := h ((i : Int) + 1)
 rw [(zip_at ok hc).2] at this
 rw [List.getElem_zip] at e
 subst e
 simpa using this
theorem lasts_of_free {s : PoolS} (ok : PoolOk s) {n : Int} (h : s.state n = 1) : s.lasts n = false := by
 have h0 := count_of_free ok h
 rw [state_there (there_of_state (by omega)), h0] at h
 cases hl : s.lasts n with
 | false => rfl
 | true => rw [hl] at h; simp [stateOf] at h
theorem did_many {s : PoolS} (ok : PoolOk s) {n : Int} (h : s.state n = 1) : (s.did n 1).many 1 + 1 = s.many 1 := by
 have h0 := count_of_free ok h
 have h1 := lasts_of_free ok h
 have ht := there_of_state (by omega : s.state n ≠ 0)
 have := turn_many ok (b := 1) ht 1
 rw [h, h0, h1] at this
 show (s.turn n 1).many 1 + 1 = _
 simpa [stateOf] using this
def VaultS.make (s : VaultS) (n : Int) (g : PageV) : VaultS := (s.made n g).acted ⟨s.pool.mark, [(n, s.on n)]⟩
/-- Pages made, one behind the other. -/
inductive Steps : VaultS → VaultS → Prop where
  | refl (s : VaultS) : Steps s s
  | step {s t : VaultS} (n : Int) (g : PageV) : Steps s t → t.pool.state n = 1 → t.pool.count n = 0 → Steps s (t.make n g)
/-- The pages ns have been taken, the lowest ones first. -/
structure Taken (s s' : VaultS) (ns : List Int) : Prop where
 desc : ns.Pairwise (fun a b => b < a)
 free : ∀ n ∈ ns, s.pool.state n = 1
 cnt : ∀ n ∈ ns, s'.pool.count n = 1
 same : ∀ n, n ∉ ns → s'.pool.count n = s.pool.count n ∧ s'.on n = s.on n
 low : ∀ m, s'.pool.state m = 1 → ∀ n ∈ ns, n < m
 last : s'.pool.last = s.pool.last
 refs : s'.pool.refs = s.pool.refs
 len : s'.pool.counts.length = s.pool.counts.length
 many : s'.pool.many 1 + ns.length = s.pool.many 1
 pf : s'.pool.floor = s.pool.floor
 pa : s'.pool.acts.length = s.pool.acts.length + ns.length
 vf : s'.floor = s.floor
 va : s'.acts.length = s.acts.length + ns.length
 steps : Steps s s'
theorem Taken.refl (s : VaultS) : Taken s s [] :=
 ⟨List.Pairwise.nil, by simp, by simp, fun _ _ => ⟨rfl, rfl⟩, by simp, rfl, rfl, rfl, rfl, rfl, rfl, rfl, rfl, .refl s⟩
theorem Taken.step {s t : VaultS} {ns : List Int} (h : Taken s t ns) (ok : PoolOk t.pool) {n : Int} (hn : t.pool.state n = 1) (hle : ∀ m, t.pool.state m = 1 → n ≤ m) (g : PageV) : Taken s (t.make n g) (n :: ns) := by
 have ht := there_of_state (by omega : t.pool.state n ≠ 0)
 have h0 := count_of_free ok hn
 have hni : n ∉ ns := fun hm => by have := h.cnt n hm; omega
 have hcnt : ∀ m, (t.make n g).pool.count m = if m = n then 1 else t.pool.count m := fun m => by
  have := did_count (s := t.pool) (b := 1) (m := m) ht
  rw [h0] at this
  exact this
 refine ⟨List.pairwise_cons.2 ⟨fun m hm => h.low n hn m hm, h.desc⟩, ?_, ?_, ?_, ?_, h.last, h.refs, ?_, ?_, h.pf, ?_, h.vf, ?_, .step n g h.steps hn h0⟩
 · intro m hm
   rcases List.mem_cons.1 hm with rfl | hm
   · have hs := (h.same m hni).1
     have hts : s.pool.there m := ⟨ht.1, by have := ht.2; have := h.len; omega⟩
     have e1 : s.pool.lasts m = t.pool.lasts m := by unfold PoolS.lasts; rw [h.last]
     rw [state_there hts, e1, ← hs, ← state_there ht]
     exact hn
   · exact h.free m hm
 · intro m hm
   rw [hcnt]
   rcases List.mem_cons.1 hm with rfl | hm
   · rw [if_pos rfl]
   · split
     · rfl
     · exact h.cnt m hm
 · intro m hm
   have hm1 : m ≠ n := fun e => hm (by rw [e]; simp)
   have hm2 : m ∉ ns := fun e => hm (by simp [e])
   rw [hcnt, if_neg hm1]
   refine ⟨(h.same m hm2).1, ?_⟩
   show (if m = n then some g else t.on m) = _
   rw [if_neg hm1]
   exact (h.same m hm2).2
 · intro m hm k hk
   have hs := did_state (s := t.pool) (b := 1) (m := m) ht
   have hm' : (t.pool.did n 1).state m = 1 := hm
   rw [hm'] at hs
   by_cases hmn : m = n
   · rw [if_pos hmn, h0] at hs
     unfold stateOf at hs
     simp at hs
     split at hs <;> omega
   · rw [if_neg hmn] at hs
     rcases List.mem_cons.1 hk with rfl | hk
     · have := hle m hs.symm; omega
     · exact h.low m hs.symm k hk
 · show (t.pool.counts.set _ _).length = _
   rw [List.length_set]; exact h.len
 · have h1 := did_many ok hn
   have h2 := h.many
   show (t.pool.did n 1).many 1 + (ns.length + 1) = _
   omega
 · show (t.pool.acts ++ [_]).length = _
   rw [List.length_append, h.pa]
   simp only [List.length_cons, List.length_nil]; omega
 · show (t.acts ++ [_]).length = _
   rw [List.length_append, h.va]
   simp only [List.length_cons, List.length_nil]; omega
/-- A part of a value. -/
def chunk (V : List Int) (j : Nat) : List Int := (V.drop (480 * j)).take 480
/-- How many parts it has. -/
def chunks (V : List Int) : Nat := (V.length + 479) / 480
theorem chunk_len (V : List Int) (j : Nat) : (chunk V j).length = min 480 (V.length - 480 * j) := by simp [chunk]
/-- k pages from the one c on bear a value's parts from j on. -/
def ChainAt (s : VaultS) (V : List Int) : Nat → Nat → Int → List Int → Prop
 | 0, _, c, ns => c = 0 ∧ ns = []
 | k + 1, j, c, ns => ∃ c' ns', ns = c :: ns' ∧ (1 ≤ c ∧ c ≤ 65536) ∧ s.pool.count c = 1 ∧ s.on c = some (blobV (chunk V j) c') ∧ ChainAt s V k (j + 1) c' ns'
theorem chain_len {s : VaultS} {V : List Int} : ∀ {k j : Nat} {c : Int} {ns : List Int}, ChainAt s V k j c ns → ns.length = k := by
 intro k
 induction k with
 | zero => intro j c ns h; rw [h.2]; rfl
 | succ k ih =>
  intro j c ns h
  obtain ⟨c', ns', rfl, _, _, _, h5⟩ := h
  simp [ih h5]
theorem chain_keep {s s' : VaultS} {V : List Int} : ∀ {k j : Nat} {c : Int} {ns : List Int}, (∀ n ∈ ns, s'.pool.count n = s.pool.count n ∧ s'.on n = s.on n) → ChainAt s V k j c ns → ChainAt s' V k j c ns := by
 intro k
 induction k with
 | zero => intro j c ns _ h; exact h
 | succ k ih =>
  intro j c ns hk h
  obtain ⟨c', ns', rfl, h2, h3, h4, h5⟩ := h
  have h1 := hk c (by simp)
  exact ⟨c', ns', rfl, h2, h1.1.trans h3, h1.2.trans h4, ih (fun n hn => hk n (by simp [hn])) h5⟩
theorem chain_make {s : VaultS} {V : List Int} (ok : PoolOk s.pool) {k j : Nat} {c : Int} {ns : List Int} (h : ChainAt s V k (j + 1) c ns) (hc : ∀ n ∈ ns, s.pool.count n = 1) {n : Int} (hn : s.pool.state n = 1) (hb : 1 ≤ n ∧ n ≤ 65536) :
 ChainAt (s.make n (blobV (chunk V j) c)) V (k + 1) j n (n :: ns) := by
 have ht := there_of_state (by omega : s.pool.state n ≠ 0)
 have h0 := count_of_free ok hn
 have hcnt : ∀ m, (s.make n (blobV (chunk V j) c)).pool.count m = if m = n then 1 else s.pool.count m := fun m => by
  have := did_count (s := s.pool) (b := 1) (m := m) ht
  rw [h0] at this
  exact this
 refine ⟨c, ns, rfl, hb, by rw [hcnt, if_pos rfl], if_pos rfl, chain_keep (fun m hm => ?_) h⟩
 have : m ≠ n := fun e => by have := hc m hm; rw [e] at this; omega
 refine ⟨by rw [hcnt, if_neg this], ?_⟩
 show (if m = n then _ else s.on m) = _
 rw [if_neg this]
end Go.Cop
