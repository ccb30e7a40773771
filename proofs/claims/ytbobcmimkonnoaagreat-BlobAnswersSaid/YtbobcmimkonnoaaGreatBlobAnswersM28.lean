/- The document's Load; the conditions stand as hypotheses. -/
import Derived.Test.YtbobcmimkonnoaaGreatBlobAnswersM24
import Derived.Test.YtbobcmimkonnoaaGreatBlobAnswersM01
namespace Go.Proofs.YtbobcmimkonnoaaGreat.rload
open ChangeShapes WideShapes ChangeAt RowKit Sl Cop pool1 pool2 pool5 pool8 pool9 clone page vault1 vault2 vault3 vault6 counts copyB items copyP copied load1 vloadLaw vload rchk2 ref1 ref2 ref3 ref4
def pgsOf (n : Nat) (on : Int → Option PageV) : List PageV := (List.range n).map fun i : Nat => (on ((i : Int) + 1)).getD zeroP
def laidOf (n : Nat) (on : Int → Option PageV) : List Bool := (List.range n).map fun i : Nat => (on ((i : Int) + 1)).isSome
theorem pgsOf_put {n : Nat} {on : Int → Option PageV} {j : Nat} (g : PageV) : (pgsOf n on).set j g = pgsOf n fun m => if m = (j : Int) + 1 then some g else on m := by
 unfold pgsOf
 refine List.ext_getElem (by simp) fun i h1 h2 => ?_
 rw [List.getElem_set]
 simp only [List.getElem_map, List.getElem_range]
 by_cases h : j = i
 · subst h; simp
 · rw [if_neg h, if_neg (by omega)]
theorem laidOf_put {n : Nat} {on : Int → Option PageV} {j : Nat} (g : PageV) : (laidOf n on).set j true = laidOf n fun m => if m = (j : Int) + 1 then some g else on m := by
 unfold laidOf
 refine List.ext_getElem (by simp) fun i h1 h2 => ?_
 rw [List.getElem_set]
 simp only [List.getElem_map, List.getElem_range]
 by_cases h : j = i
 · subst h; simp
 · rw [if_neg h, if_neg (by omega)]
theorem laidOf_at {n : Nat} {on : Int → Option PageV} {j : Nat} (hj : j < n) : (laidOf n on).getD j false = (on ((j : Int) + 1)).isSome := by
 unfold laidOf
 simp [List.getD_eq_getElem?_getD, hj]
theorem pgsOf_none (n : Nat) : pgsOf n (fun _ => none) = List.replicate n zeroP := by
 unfold pgsOf
 refine List.ext_getElem (by simp) fun i h1 h2 => ?_
 simp
theorem laidOf_none (n : Nat) : laidOf n (fun _ => none) = List.replicate n false := by
 unfold laidOf
 refine List.ext_getElem (by simp) fun i h1 h2 => ?_
 simp
abbrev LaidRow (v : Value) (l : List Bool) : Pr := Row 4 1 v l.length (l.map Value.bool)
theorem filled {α : Type} {us cs : List α} (hl : us.length = cs.length) (h : ∀ i, i < cs.length → us[i]? = cs[i]?) : us = cs :=
 List.ext_getElem? fun i => by
  rcases Nat.lt_or_ge i cs.length with hi | hi
  · exact h i hi
  · rw [List.getElem?_eq_none (by omega), List.getElem?_eq_none hi]
theorem fill_step {α : Type} {us cs : List α} {k : Nat} (hl : us.length = cs.length) (hk : k < cs.length) (h : ∀ i, i < k → us[i]? = cs[i]?) : ∀ i, i < k + 1 → (us.set k cs[k])[i]? = cs[i]? := by
 intro i hi
 by_cases he : i = k
 · subst he
   rw [List.getElem?_set_self (by omega), List.getElem?_eq_getElem hk]
 · rw [List.getElem?_set_ne (by omega)]
   exact h i (by omega)
abbrev lawS (refs : Int) (us : List Int) (bs : List Bool) : PoolS := { refs := refs, counts := us, last := bs, acts := [], floor := 0 }
theorem ref_put {r : Nat} {s : PoolS} {gs : List PageV} {hush : RTail} {x : RX} {F : Pr} {w : World} {h' : Hp} {vi vd : Value} {g : PageV} {j : Nat} (ok : ROk s gs x) (hg : PageIn h' (pageV g.kind g.level vi vd g.next) g) (hf : Fit g)
 (h : Sat ((RefAt r s (gs.set j g) hush { x with xs := x.xs.set j (vi, vd) }).star ((Pr.own h').star F)) w) : Sat ((RefA r s (gs.set j g) hush).star F) w := by
 have h1 : Sat ((Pr.own x.h).star ((Pr.own h').star ((Pr.pts r (refC s.refs x.cv x.lv x.pv hush)).star ((IntsRow x.cv s.counts).star ((BoolsRow x.lv s.last).star ((PgRow x.pv (x.xs.set j (vi, vd)) (gs.set j g)).star F)))))) w := h.perm (by unfold RefAt; dsimp only; ac_rfl)
 obtain ⟨hd, h2⟩ := h1.own_join
 obtain ⟨_, _, e, y1, y2⟩ := hg
 simp only [pageV, Value.agg.injEq, Array.mk.injEq, List.cons.injEq, and_true, true_and] at e
 obtain ⟨rfl, rfl⟩ := e
 refine refA_iff.2 ⟨{ x with xs := x.xs.set j (vi, vd), h := x.h.un h' }, ⟨⟨?_, fun i hx hl => ?_⟩, ok.ll, ?_, ok.n2, ok.c0, fun g2 hg2 => ?_⟩, h2.perm (by unfold RefAt; dsimp only; ac_rfl)⟩
 · simp only [List.length_set]; exact ok.pgs.len
 · dsimp only
   simp only [List.length_set] at hx hl
   by_cases he : j = i
   · subst he
     simp only [List.getElem_set_self]
     exact ⟨y1.sub (Hp.sub_un_right hd), y2.sub (Hp.sub_un_right hd)⟩
   · simp only [List.getElem_set_ne he]
     obtain ⟨p1, p2⟩ := ok.pgs.at' i hx hl
     exact ⟨p1.sub (Hp.sub_un_left _ _), p2.sub (Hp.sub_un_left _ _)⟩
 · rw [List.length_set]; exact ok.gl
 · rcases List.mem_or_eq_of_mem_set hg2 with h3 | h3
   · exact ok.fit g2 h3
   · rw [h3]; exact hf
set_option maxRecDepth 100000 in
set_option maxHeartbeats 4000000 in
theorem rload_any (refs : Int) (h : Hp) (vc vl : Value) (cs : List Int) (l : List NumV) (hx : Ints h vc cs) (hl : NumsIn h vl l) (hn : l.length ≤ 65536) (F : Pr) (w : World) (hF : Sat ((Pr.own h).star F) w) :
    Calls Tryz.prog 29 #[.int .i64 refs, vc, vl] w fun e w' => Stays w w' ∧
      (((loadE refs cs l).1 ≠ 0 ∧ e = .returned (.tuple #[.pointer none, .int .i64 (loadE refs cs l).1]) ∧ Sat ((Pr.own h).star F) w') ∨
       ((loadE refs cs l).1 = 0 ∧ ∃ r, e = .returned (.tuple #[.pointer (some ⟨r, 0, none⟩), .int .i64 0]) ∧ Sat ((RefA r (poolOf refs cs 0) (pgsOf cs.length (loadE refs cs l).2) (quietT false)).star ((Pr.own h).star F)) w')) := by
  obtain ⟨al, cl, rfl, rd⟩ := nums_rd hl
  obtain ⟨ac, cc, rfl, rc⟩ := ints_rd hx
  have RD := Lib.hid rd
  have RC := Lib.hid rc
  have hn0 : (l.length : Int) ≤ 65536 := by omega
  clear rd rc hl hx
  cases hr : rangeOk cs.length refs with
  | false =>
    have NB := fun wx => Lib.hid (rnew_bad cs.length refs hr wx)
    have HR := Lib.hid hr
    clear hr
    go_enter Tryz.func29, Tryz.ntmps29
    go_wp2_with fail
    refine (NB _).out.mono ?_
    rintro e w1 ⟨rfl, rfl⟩
    go_wp2
    go_ret2
    refine ⟨Stays.refl _, .inl ?_⟩
    rw [loadE_range HR.out]
    exact ⟨by decide, rfl, hF⟩
  | true =>
    have hnc : cs.length ≤ 65536 := by have := rangeOk_iff.1 hr; omega
    have hnc0 : (cs.length : Int) ≤ 65536 := by omega
    have NW := Lib.hid (rnew_any cs.length refs hr _ w hF)
    have HR := Lib.hid hr
    clear hr hF
    go_enter Tryz.func29, Tryz.ntmps29
    go_wp2_with fail
    refine NW.out.mono ?_
    rintro e w1 ⟨hst1, r, rfl, hs1⟩
    obtain ⟨x, ok, hs2⟩ := refA_iff.1 hs1
    have OK := Lib.hid ok
    have HS2 := Lib.hid hs2
    have HST1 := Lib.hid hst1
    clear hs1 hs2 ok hst1 NW
    go_wp2_with fail
    go_loopw [10, 11] (fun lw i wr => ∃ (k : Nat) (us : List Int) (bs : List Bool), k ≤ cs.length ∧ i = .int .i64 k ∧ Stays w wr ∧ us.length = cs.length ∧ bs.length = cs.length ∧ Hid (∀ i, i < k → us[i]? = cs[i]?) ∧ Hid (∀ i, i < k → bs[i]? = (lastsOf cs)[i]?) ∧ Hid (∀ i, i < k → 0 ≤ cs.getD i 0 ∧ cs.getD i 0 ≤ refs) ∧
      Sat ((RefAt r (lawS refs us bs) (List.replicate cs.length zeroP) (quietT false) x).star ((Row 4 1 lw k (List.replicate k (.bool false))).star ((Pr.own h).star F))) wr) (fun _ i _ => cs.length - (intOf i).toNat)
    case atStart =>
      refine ⟨0, List.replicate cs.length 0, List.replicate cs.length false, Nat.zero_le _, rfl, HST1.out, by simp, by simp, Lib.hid (fun i hi => absurd hi (by omega)), Lib.hid (fun i hi => absurd hi (by omega)), Lib.hid (fun i hi => absurd hi (by omega)), ?_⟩
      show Sat ((RefAt r _ _ (quietT false) x).star ((Row 4 1 (.slice none 0 0) 0 []).star ((Pr.own h).star F))) _
      rw [Row.nil, Pr.emp_star]
      exact HS2.out
    case round =>
      obtain ⟨k, us, bs, hkl, rfl, hst, hul, hbl, hus, hbs, hck, hs⟩ := hrel
      obtain ⟨aw, dw, rfl, _, _⟩ := Row.read hs.right
      rcases Nat.lt_or_ge k cs.length with hlt | hge
      · obtain ⟨b, off, rfl, c1⟩ := RC.out k hlt
        have q0 := c1 wr hs.right.right.own
        have hcm : cs.getD k 0 ∈ cs := by simp [hlt]
        have hcg : cs.getD k 0 = cs[k] := by simp [hlt]
        have HCM := Lib.hid hcm
        have HCG := Lib.hid hcg
        have HC1 := Lib.hid c1
        have HUL := Lib.hid hul
        have HBL := Lib.hid hbl
        clear c1 hcm hcg hul hbl
        generalize cs.getD k 0 = c at *
        by_cases hc0 : c < 0
        · have HC0 := Lib.hid hc0
          have HS := Lib.hid hs
          clear hs
          go_wp2
          go_ret2
          refine ⟨hst, .inl ?_⟩
          rw [loadE_bad HR.out (badC_min ⟨c, HCM.out, HC0.out⟩)]
          exact ⟨(show (13 : Int) ≠ 0 by decide), rfl, HS.out.right.right⟩
        by_cases hc1 : refs < c
        · have HC0 := Lib.hid hc1
          have HS := Lib.hid hs
          clear hs
          go_wp2
          go_ret2
          refine ⟨hst, .inl ?_⟩
          rw [loadE_bad HR.out (badC_max ⟨c, HCM.out, HC0.out⟩)]
          exact ⟨(show (13 : Int) ≠ 0 by decide), rfl, HS.out.right.right⟩
        have HC0 := Lib.hid (show 0 ≤ c ∧ c ≤ refs by omega)
        have hsd := hs
        have hk1 : k < (lawS refs us bs).counts.length := by show k < us.length; rw [HUL.out]; exact hlt
        obtain ⟨b1, d1, ecv, k0, kf, wr1⟩ := ref_wr_count hsd hk1
        have hp7 := pts7 (hs.perm (B := (Pr.pts r (refC refs x.cv x.lv x.pv (quietT false))).star ((IntsRow x.cv us).star ((BoolsRow x.lv bs).star ((PgRow x.pv x.xs (List.replicate cs.length zeroP)).star ((Pr.own x.h).star ((Row 4 1 (.slice aw k dw) k (List.replicate k (.bool false))).star ((Pr.own h).star F))))))) (by unfold RefAt; ac_rfl))
        obtain ⟨q1, q2, q3, _, z, _⟩ := hp7
        rw [ecv] at q1
        have eul : (lawS refs us bs).counts.length = cs.length := HUL.out
        rw [eul] at q1 ecv
        have W1 := (wr1 c).drew
        have HECV := Lib.hid ecv
        have HST := Lib.hid hst
        clear hs hsd wr1 hst hk1 eul ecv
        go_wp2_with fail
        refine wp_region_staged (sz := 134) (by kernel_rfl) [0, 1, 2, 3, 4, 5, 6, 7, 8, 9] [(10, [], [])] rfl (by kernel_rfl) (by kernel_rfl) (by kernel_rfl) ?_
        refine wpQ_all _ rfl rfl ?_
        simp only [pick, pkA, pkB, pkC, pkD, pkE, pkF]
        iterate 10 (go_big_quiet_step (fail))
        refine wpQuiet_nil ?_
        refine wpRest_act rfl ?_
        go_wp2
        refine onN_mk (wpQ_nil ⟨chk_nil, wpRest_nil ?_⟩)
        have hst2 := (HST.out.setCell ⟨b1, k, none⟩ (.int .i64 c)).drew
        generalize (wr.setCell ⟨b1, k, none⟩ (.int .i64 c)).drew = w5 at *
        have q05 := HC1.out w5 W1.right.right.own
        have hk2 : k < (lawS refs (us.set k c) bs).last.length := by show k < bs.length; rw [HBL.out]; exact hlt
        obtain ⟨b2, d2, elv, m0, mf, wr2⟩ := ref_wr_last (s := lawS refs (us.set k c) bs) W1 hk2
        have hp7 := pts7 (W1.perm (B := (Pr.pts r (refC refs x.cv x.lv x.pv (quietT false))).star ((IntsRow x.cv (us.set k c)).star ((BoolsRow x.lv bs).star ((PgRow x.pv x.xs (List.replicate cs.length zeroP)).star ((Pr.own x.h).star ((Row 4 1 (.slice aw k dw) k (List.replicate k (.bool false))).star ((Pr.own h).star F))))))) (by unfold RefAt; ac_rfl))
        clear q1 q2 q3 z
        obtain ⟨q1, q2, q3, _, z, _⟩ := hp7
        rw [elv] at q2
        have ebl : (lawS refs (us.set k c) bs).last.length = cs.length := HBL.out
        rw [ebl] at q2 elv
        have W2 := (wr2 (decide (0 < c))).drew
        have HST2 := Lib.hid hst2
        clear W1 wr2 hst2 hk2 ebl elv q0 k0 kf
        go_wp2_with fail
        refine wp_region_staged (sz := 134) (by kernel_rfl) [0, 1, 2, 3, 4, 5, 6, 7, 8, 9, 10] [(11, [], [])] rfl (by kernel_rfl) (by kernel_rfl) (by kernel_rfl) ?_
        refine wpQ_all _ rfl rfl ?_
        simp only [pick, pkA, pkB, pkC, pkD, pkE, pkF]
        iterate 11 (go_big_quiet_step (fail))
        refine wpQuiet_nil ?_
        refine wpRest_act rfl ?_
        go_wp2
        refine onN_mk (wpQ_nil ⟨chk_nil, wpRest_nil ?_⟩)
        have hst3 := (HST2.out.setCell ⟨b2, k, none⟩ (.bool (decide (0 < c)))).drew
        generalize (w5.setCell ⟨b2, k, none⟩ (.bool (decide (0 < c)))).drew = w6 at *
        obtain ⟨j0, hj, hy0, hy1, hy2⟩ := info_parts infoBool
        have A2 := Lib.hid ((W2.perm (Pr.left_comm _ _ _)).alloc (.cells #[.bool false] 4)).right
        have hnew2 := Lib.hid (new_cells w6 [.bool false] 4 w6.heap.size rfl)
        have HST3 := Lib.hid hst3
        clear W2 hst3 q05 q1 q2 q3 z m0 mf
        go_wp2_with (
          at_builtin
          refine wpList_append_sl rfl _ _ _ rfl 4 j0 (.bool false) 1 1 Tryz.underlying47 hj hy0 hy1 hy2 rfl _ _ _ rfl A2.out ⟨w6.heap.size, 0, none⟩ 1 1 [.bool false] rfl rfl hnew2.out (by simp [Value.oneCell']) (by simp only [maxLen]; omega) (by omega) ?_
          intro v7 w7 hs7 hg7 _
          obtain ⟨a7', c7', e7', _, _⟩ := Row.read hs7
          subst e7'
          have HS7 := Lib.hid hs7
          have HG7 := Lib.hid hg7
          clear hs7 hg7)
        refine ⟨⟨k + 1, us.set k c, bs.set k (decide (0 < c)), by omega, congrArg (Value.int .i64) (by omega), (HST3.out.alloc _).of_grown HG7.out, by rw [List.length_set]; exact HUL.out, by rw [List.length_set]; exact HBL.out, Lib.hid ?_, Lib.hid ?_, Lib.hid ?_, ?_⟩, by simp [intOf]; omega⟩
        · rw [HCG.out]; exact fill_step HUL.out hlt hus.out
        · have hl2 : k < (lastsOf cs).length := by simpa [lastsOf] using hlt
          have e2 : decide (0 < c) = (lastsOf cs)[k] := by rw [HCG.out]; simp [lastsOf]
          rw [e2]
          exact fill_step (by rw [HBL.out]; simp [lastsOf]) hl2 hbs.out
        · intro i hi
          by_cases he : i = k
          · subst he
            have : cs.getD i 0 = c := by rw [HCG.out]; simp [hlt]
            rw [this]; exact HC0.out
          · exact hck.out i (by omega)
        · rw [← rep_snoc]
          exact HS7.out.perm (Pr.left_comm _ _ _)
      · have hkn2 : k = cs.length := by omega
        subst hkn2
        have e1 : us = cs := filled hul hus.out
        have e2 : bs = lastsOf cs := filled (by rw [hbl]; simp [lastsOf]) (by intro i hi; exact hbs.out i (by simpa [lastsOf] using hi))
        subst e1 e2
        have hbad : badC refs us = false := by
          refine List.any_eq_false.2 fun c hc => ?_
          obtain ⟨i, hi, rfl⟩ := List.getElem_of_mem hc
          have := hck.out i hi
          simp only [List.getD_eq_getElem?_getD, List.getElem?_eq_getElem hi, Option.getD_some] at this
          simp only [decide_eq_true_eq]
          omega
        have HLE := Lib.hid (loadE_lay (l := l) HR.out hbad)
        have hpos : ∀ c ∈ us, 0 ≤ c := fun c hc => (badC_false hbad c hc).1
        have hra : Sat ((RefA r (poolOf refs us 0) (pgsOf us.length fun _ => none) (quietT false)).star ((LaidRow (.slice aw us.length dw) (laidOf us.length fun _ => none)).star ((Pr.own h).star F))) wr := by
          rw [pgsOf_none, laidOf_none]
          refine refA_iff.2 ⟨x, ⟨OK.out.pgs, by simp [lastsOf], by simp, hnc, hpos, OK.out.fit⟩, ?_⟩
          unfold LaidRow
          rw [List.length_replicate, List.map_replicate]
          exact hs
        have HRA := Lib.hid hra
        have HST := Lib.hid hst
        have HPOS := Lib.hid hpos
        clear hs hra hst hpos hbad hus hbs hck hul hbl HS2 OK HST1
        go_wp2_with fail
        go_loopw [12] (fun i wr => ∃ (k : Nat) (on : Int → Option PageV), k ≤ l.length ∧ i = .int .i64 k ∧ Stays w wr ∧ Hid (lay us (l.drop k) on = lay us l fun _ => none) ∧ Hid (OnOk us on) ∧
          Sat ((RefA r (poolOf refs us 0) (pgsOf us.length on) (quietT false)).star ((LaidRow (.slice aw us.length dw) (laidOf us.length on)).star ((Pr.own h).star F))) wr) (fun i _ => l.length - (intOf i).toNat)
        case atStart => exact ⟨0, fun _ => none, Nat.zero_le _, rfl, HST.out, Lib.hid rfl, Lib.hid (OnOk.none us), HRA.out⟩
        case round =>
          obtain ⟨k, on, hkl, rfl, hst, hlay, hon, hs⟩ := hrel
          rcases Nat.lt_or_ge k l.length with hlt | hge
          · obtain ⟨b, off, ai, ci, ad, cd, rfl, hpg, hcell⟩ := RD.out k hlt
            obtain ⟨c0, _⟩ := hcell wr hs.right.right.own
            have hlay1 := hlay.out
            rw [List.drop_eq_getElem_cons hlt] at hlay1
            have HLAY := Lib.hid hlay1
            have HCELL := Lib.hid hcell
            clear hlay hlay1 hcell
            generalize l[k] = x at *
            have RT := Lib.hid (rthere_any r (poolOf refs us 0) _ (quietT false) x.no _ wr hs)
            rw [show (poolOf refs us 0).count x.no = cntL us x.no from count_poolOf refs us x.no] at RT
            by_cases hc0 : cntL us x.no = 0
            · rw [hc0] at RT
              have HC0 := Lib.hid hc0
              have HS := Lib.hid hs
              clear hs
              go_wp2_with fail
              refine RT.out.mono ?_
              rintro e w4 ⟨rfl, rfl⟩
              go_wp2
              go_ret2
              refine ⟨hst, .inl ?_⟩
              have e : lay us l (fun _ => none) = (15, on) := by rw [← HLAY.out]; unfold lay; rw [if_pos HC0.out]
              rw [HLE.out, e, if_pos (show (15 : Int) ≠ 0 by decide)]
              exact ⟨(show (15 : Int) ≠ 0 by decide), rfl, HS.out.right.right⟩
            obtain ⟨hb1, hb2⟩ := cntL_bd hc0
            obtain ⟨j, hno, hj⟩ : ∃ j : Nat, x.no = (j : Int) + 1 ∧ j < us.length := ⟨x.no.toNat - 1, by omega, by omega⟩
            have hcp : 0 < cntL us x.no := by
              have hm : us.getD j 0 ∈ us := by simp [hj]
              have h1 : cntL us x.no = us.getD j 0 := by unfold cntL; rw [if_pos ⟨hb1, hb2⟩, show x.no.toNat - 1 = j by omega]
              have := HPOS.out _ hm
              omega
            rw [decide_eq_true hcp, hno] at RT
            rw [hno] at c0
            have HC0 := Lib.hid hc0
            have HNO := Lib.hid hno
            have HJ := Lib.hid hj
            have hjl : j < (laidOf us.length on).length := by unfold laidOf; simpa using hj
            obtain ⟨al2, cl2, el2, _, hrl⟩ := Row.read hs.right
            obtain ⟨bw, ebw, hrl2⟩ := hrl (by omega)
            rw [show (laidOf us.length on).length = us.length by simp [laidOf]] at el2
            cases el2
            subst ebw
            have hlc : wr.cell? ⟨bw, j, none⟩ = some (.bool (on ((j : Int) + 1)).isSome) := by
              rw [(hrl2 j (by omega)).1]
              have := laidOf_at (on := on) hj
              rw [List.getD_eq_getElem?_getD, List.getElem?_eq_getElem hjl] at this
              rw [List.getElem?_map, List.getElem?_eq_getElem hjl]
              simpa using this
            have hlf := (hrl2 j (by omega)).2
            clear hrl hrl2 hcp hc0 hb1 hb2 hno
            cases hox : on ((j : Int) + 1) with
            | some g =>
              rw [hox] at hlc
              have HS := Lib.hid hs
              clear hs
              go_wp2_with fail
              refine RT.out.mono ?_
              rintro e w4 ⟨rfl, rfl⟩
              go_wp2
              go_ret2
              refine ⟨hst, .inl ?_⟩
              have e : lay us l (fun _ => none) = (10, on) := by rw [← HLAY.out]; unfold lay; rw [if_neg HC0.out, if_pos (by rw [HNO.out, hox]; rfl)]
              rw [HLE.out, e, if_pos (show (10 : Int) ≠ 0 by decide)]
              exact ⟨(show (10 : Int) ≠ 0 by decide), rfl, HS.out.right.right⟩
            | none =>
            rw [hox] at hlc
            obtain ⟨_, c1, c2, c3, c4, c5⟩ := HCELL.out wr hs.right.right.own
            have RK := fun wx hx => Lib.hid (rcheck_any x.page h _ hpg wx hx)
            have HS := Lib.hid hs
            have HST2 := Lib.hid hst
            clear hs hst
            go_wp2_with fail
            refine RT.out.mono ?_
            rintro e w4 ⟨rfl, rfl⟩
            go_wp2_with fail
            refine (RK _ HS.out.right.right.own).out.mono ?_
            rintro e w5 ⟨rfl, ho5⟩
            have hs5 := HS.out.only ho5
            have hst5 := HST2.out.trans ho5.st
            clear c0 c1 c2 c3 c4 c5 hlc hlf HS HST2 RK ho5
            by_cases hcp : checkP x.page = 0
            · have hcn : (checkP x.page != 0) = false := by rw [bne_eq_false_iff_eq]; exact hcp
              have HCP := Lib.hid hcp
              have hfit := fit_of_check hcp
              have HFIT := Lib.hid hfit
              obtain ⟨al2, cl2, el2, _, hrl⟩ := Row.read hs5.right
              obtain ⟨bw2, ebw, hrl2⟩ := hrl (by omega)
              rw [show (laidOf us.length on).length = us.length by simp [laidOf]] at el2
              cases el2
              cases ebw
              have hlc : ∃ u, w5.cell? ⟨bw, j, none⟩ = some u := ⟨_, (hrl2 j (by omega)).1.trans (by rw [List.getElem?_map, List.getElem?_eq_getElem hjl]; rfl)⟩
              obtain ⟨u0, hlc⟩ := hlc
              have hlf := (hrl2 j (by omega)).2
              have hL := hs5.perm (Pr.left_comm _ _ _)
              have hL2 : Sat ((Row 4 1 (.slice (some ⟨bw, 0, none⟩) us.length dw) us.length ((laidOf us.length on).map Value.bool)).star ((RefA r (poolOf refs us 0) (pgsOf us.length on) (quietT false)).star ((Pr.own h).star F))) w5 := by
                have e := show (laidOf us.length on).length = us.length by simp [laidOf]
                unfold LaidRow at hL
                rw [e] at hL
                exact hL
              have hL3 := Row.set hL2 j (by simpa [laidOf] using hj) (.bool true)
              have hz5 : bw < w5.heap.size := World.block_lt_of_cell? _ _ hlc
              have hst6 := hst5.setCell ⟨bw, j, none⟩ (.bool true)
              have HL3 := Lib.hid hL3
              have HST6 := Lib.hid hst6
              clear hrl hrl2 hL hL2 hL3 hs5 hst5 hst6 hcp hfit
              go_wp2_with fail
              generalize w5.setCell ⟨bw, j, none⟩ (.bool true) = w6 at *
              clear hlc hlf hz5
              obtain ⟨x2, ok2, hsR⟩ := refA_iff.1 (HL3.out.perm (Pr.left_comm _ _ _))
              have hjg : j < (pgsOf us.length on).length := by simpa [pgsOf] using hj
              obtain ⟨b8, d8, epv, _, _⟩ := ref_wr_page ok2.pgs.len hsR hjg
              obtain ⟨_, _, q3, _, z, _⟩ := pts7 (hsR.perm (B := (Pr.pts r (refC refs x2.cv x2.lv x2.pv (quietT false))).star ((IntsRow x2.cv us).star ((BoolsRow x2.lv (lastsOf us)).star ((PgRow x2.pv x2.xs (pgsOf us.length on)).star ((Pr.own x2.h).star ((Row 4 1 (.slice (some ⟨bw, 0, none⟩) us.length dw) us.length (((laidOf us.length on).map Value.bool).set j (.bool true))).star ((Pr.own h).star F))))))) (by unfold RefAt; ac_rfl))
              rw [epv, show (pgsOf us.length on).length = us.length by simp [pgsOf]] at q3
              have EPV := Lib.hid epv
              obtain ⟨_, c1, c2, c3, c4, c5⟩ := HCELL.out w6 hsR.right.right.own
              have CP := Lib.hid (copypage_any h _ x.page hpg (by have := HFIT.out.n; omega) (fun y hy => by have := fit_keys HFIT.out y hy; omega) (by have := HFIT.out.d; omega) _ w6.drew ((hsR.drew).perm (B := (Pr.own h).star ((RefAt r (poolOf refs us 0) (pgsOf us.length on) (quietT false) x2).star ((Row 4 1 (.slice (some ⟨bw, 0, none⟩) us.length dw) us.length (((laidOf us.length on).map Value.bool).set j (.bool true))).star F))) (by ac_rfl)))
              have OK2 := Lib.hid ok2
              clear hsR ok2 HL3 epv
              go_wp2_with fail
              refine wp_region_staged (sz := 134) (by kernel_rfl) [0, 1, 2, 3, 4, 5, 6, 7, 8, 9, 10] [(11, [12], [0, 1, 2, 3, 4, 5, 6, 7, 8, 9]), (13, [], [])] rfl (by kernel_rfl) (by kernel_rfl) (by kernel_rfl) ?_
              refine wpQ_all _ rfl rfl ?_
              simp only [pick, pkA, pkB, pkC, pkD, pkE, pkF]
              iterate 11 (go_big_quiet_step (fail))
              refine wpQuiet_nil ?_
              refine wpRest_act rfl ?_
              go_wp2_with fail
              refine CP.out.mono ?_
              rintro e w7 ⟨pv, h', rfl, hpv, hs7, st7⟩
              obtain ⟨vi, vd, rfl, hit, hby⟩ := id hpv
              obtain ⟨a8, c8, rfl, _, _⟩ := items_rd hit
              obtain ⟨a9, c9, rfl⟩ := bytes_shape hby
              have H7 : Sat ((RefAt r (poolOf refs us 0) (pgsOf us.length on) (quietT false) x2).star ((Pr.own h').star ((Row 4 1 (.slice (some ⟨bw, 0, none⟩) us.length dw) us.length (((laidOf us.length on).map Value.bool).set j (.bool true))).star ((Pr.own h).star F)))) w7 := hs7.perm (by ac_rfl)
              obtain ⟨b9, d9, epv, hcl, wr8⟩ := ref_wr_page OK2.out.pgs.len H7 hjg
              rw [EPV.out] at epv
              cases epv
              obtain ⟨g0, u0, k0⟩ := hcl 0 (by omega)
              obtain ⟨g1, u1, k1⟩ := hcl 1 (by omega)
              obtain ⟨g2, u2, k2⟩ := hcl 2 (by omega)
              obtain ⟨g3, u3, k3⟩ := hcl 3 (by omega)
              obtain ⟨g4, u4, k4⟩ := hcl 4 (by omega)
              rw [Nat.add_zero] at g0 k0
              have W8 := Lib.hid (wr8 x.page (.slice a8 x.page.items.length c8) (.slice a9 x.page.data.length c9))
              have HST7 := Lib.hid (HST6.out.drew.trans st7)
              have q37 : w7.cell? ⟨r, 3, none⟩ = some (.slice (some ⟨b8, 0, none⟩) us.length d8) := by
                have := (pts7 (H7.perm (B := (Pr.pts r (refC refs x2.cv x2.lv x2.pv (quietT false))).star ((IntsRow x2.cv us).star ((BoolsRow x2.lv (lastsOf us)).star ((PgRow x2.pv x2.xs (pgsOf us.length on)).star ((Pr.own x2.h).star ((Pr.own h').star ((Row 4 1 (.slice (some ⟨bw, 0, none⟩) us.length dw) us.length (((laidOf us.length on).map Value.bool).set j (.bool true))).star ((Pr.own h).star F)))))))) (by unfold RefAt; ac_rfl))).2.2.1
                rw [EPV.out, show (pgsOf us.length on).length = us.length by simp [pgsOf]] at this
                exact this
              have zk := World.block_lt_of_cell? _ _ k0
              have zr := World.block_lt_of_cell? _ _ q37
              clear q3 z c1 c2 c3 c4 c5
              obtain ⟨_, c1, c2, c3, c4, c5⟩ := HCELL.out w7 H7.right.right.right.own
              have HPV := Lib.hid hpv
              clear hs7 st7 H7 hcl wr8 hit hby CP hpv
              go_wp2
              refine onN_mk ?_
              refine wpQ_all _ rfl rfl ?_
              simp only [pick, pkA, pkB, pkC, pkD, pkE, pkF]
              iterate 1 (go_big_quiet_step (fail))
              refine wpQuiet_nil ⟨?_, ?_⟩
              · refine chk_all _ rfl rfl ?_
                simp only [pick, Same, pkA, pkB, pkC, pkD, pkE, pkF, and_true]
                repeat' (first | apply And.intro | (go_big_quiet_step (fail); exact wpQuiet_nil rfl))
              refine wpRest_act rfl ?_
              go_wp2
              refine onN_mk (wpQ_nil ⟨chk_nil, wpRest_nil ?_⟩)
              have W9 := W8.out
              have T9 := ((((HST7.out.setCell ⟨b8, j * 5, none⟩ (.int .i64 x.page.kind)).setCell ⟨b8, j * 5 + 1, none⟩ (.int .i64 x.page.level)).setCell ⟨b8, j * 5 + 2, none⟩ (.slice a8 x.page.items.length c8)).setCell ⟨b8, j * 5 + 3, none⟩ (.slice a9 x.page.data.length c9)).setCell ⟨b8, j * 5 + 4, none⟩ (.int .i64 x.page.next)
              generalize (((((w7.setCell ⟨b8, j * 5, none⟩ (.int .i64 x.page.kind)).setCell ⟨b8, j * 5 + 1, none⟩ (.int .i64 x.page.level)).setCell ⟨b8, j * 5 + 2, none⟩ (.slice a8 x.page.items.length c8)).setCell ⟨b8, j * 5 + 3, none⟩ (.slice a9 x.page.data.length c9)).setCell ⟨b8, j * 5 + 4, none⟩ (.int .i64 x.page.next)) = w8 at *
              clear g0 g1 g2 g3 g4 k0 k1 k2 k3 k4 c1 c2 c3 c4 c5 q37 zk zr W8
              go_wp2
              go_roundw
              case rel =>
                have h10 := ref_put OK2.out HPV.out HFIT.out W9
                rw [pgsOf_put] at h10
                refine ⟨k + 1, fun m => if m = (j : Int) + 1 then some x.page else on m, by omega, congrArg (Value.int .i64) (by omega), T9, Lib.hid ?_, Lib.hid ?_, ?_⟩
                · rw [← HLAY.out]
                  conv => rhs; unfold lay
                  rw [if_neg HC0.out, if_neg (by rw [HNO.out, hox]; decide), if_neg (by rw [HCP.out]; decide), HNO.out]
                · have := hon.out.put HC0.out HCP.out
                  rw [HNO.out] at this
                  exact this
                · have e7 := laidOf_put (n := us.length) (on := on) (j := j) x.page
                  unfold LaidRow
                  rw [← e7, List.length_set, show (laidOf us.length on).length = us.length by simp [laidOf], List.map_set]
                  exact h10
              case measure => simp [intOf]; omega
            · have hcn : (checkP x.page != 0) = true := by rw [bne_iff_ne]; exact hcp
              have HCP := Lib.hid hcp
              have HS := Lib.hid hs5
              clear hs5 hcp
              go_wp2
              go_ret2
              refine ⟨hst5, .inl ?_⟩
              have e : lay us l (fun _ => none) = (checkP x.page, on) := by rw [← HLAY.out]; unfold lay; rw [if_neg HC0.out, if_neg (by rw [HNO.out, hox]; decide), if_pos HCP.out]
              rw [HLE.out, e, if_pos HCP.out]
              exact ⟨HCP.out, rfl, HS.out.right.right⟩
          · have hkl2 : k = l.length := by omega
            subst hkl2
            have hlay1 := hlay.out
            rw [List.drop_length] at hlay1
            have HLAY := Lib.hid (show lay us l (fun _ => none) = (0, on) from hlay1.symm)
            have HS := Lib.hid hs
            have HST2 := Lib.hid hst
            have hll : (laidOf us.length on).length = us.length := by simp [laidOf]
            have HLL := Lib.hid hll
            clear hlay hlay1 hs hst hll
            go_wp2_with fail
            go_loopw [15] (fun i wz => ∃ k : Nat, k ≤ us.length ∧ i = .int .i64 k ∧ wz = wr ∧ Hid (∀ i, i < k → us.getD i 0 ≠ 0 → on ((i : Int) + 1) ≠ none)) (fun i _ => us.length - (intOf i).toNat)
            case atStart => exact ⟨0, Nat.zero_le _, rfl, rfl, Lib.hid (fun i hi => absurd hi (by omega))⟩
            case round =>
              obtain ⟨k, hk3, rfl, rfl, hall⟩ := hrel
              rcases Nat.lt_or_ge k us.length with hlt | hge
              · obtain ⟨b, off, rfl, c1⟩ := RC.out k hlt
                have q0 := c1 wr HS.out.right.right.own
                have hm : us.getD k 0 ∈ us := by simp [hlt]
                have hc0 := HPOS.out _ hm
                obtain ⟨al2, cl2, el2, _, hrl⟩ := Row.read HS.out.right
                obtain ⟨bw, ebw, hrl2⟩ := hrl (by rw [HLL.out]; omega)
                rw [HLL.out] at el2
                cases el2
                subst ebw
                have hlc : wr.cell? ⟨bw, k, none⟩ = some (.bool (on ((k : Int) + 1)).isSome) := by
                  rw [(hrl2 k (by rw [HLL.out]; omega)).1]
                  have := laidOf_at (on := on) hlt
                  have hjl : k < (laidOf us.length on).length := by rw [HLL.out]; exact hlt
                  rw [List.getD_eq_getElem?_getD, List.getElem?_eq_getElem hjl] at this
                  rw [List.getElem?_map, List.getElem?_eq_getElem hjl]
                  simpa using this
                have HD := Lib.hid (show us.getD k 0 = us.getD k 0 from rfl)
                obtain ⟨c, hc⟩ : ∃ c, c = us.getD k 0 := ⟨_, rfl⟩
                rw [← hc] at q0 hc0
                have HC := Lib.hid hc
                clear c1 hm hrl hrl2 HD hc
                by_cases hz : c = 0
                · subst hz
                  go_wp2
                  go_roundw
                  case rel =>
                    refine ⟨k + 1, by omega, congrArg (Value.int .i64) (by omega), trivial, Lib.hid fun i hi hne => ?_⟩
                    by_cases he : i = k
                    · subst he; exact absurd HC.out.symm hne
                    · exact hall.out i (by omega) hne
                  case measure => simp [intOf]; omega
                · have hp : 0 < c := by omega
                  cases hox : on ((k : Int) + 1) with
                  | none =>
                    rw [hox] at hlc
                    go_wp2
                    go_ret2
                    refine ⟨HST2.out, .inl ?_⟩
                    have hlk : lacks us on = true := lacks_iff.2 ⟨(k : Int) + 1, held_mem.2 (by
                      unfold cntL
                      rw [if_pos (by omega), show ((k : Int) + 1).toNat - 1 = k by omega, ← HC.out]
                      exact hz), hox⟩
                    rw [HLE.out, HLAY.out, if_neg (show ¬ (0 : Int) ≠ 0 by decide), if_pos hlk]
                    exact ⟨(show (9 : Int) ≠ 0 by decide), rfl, HS.out.right.right⟩
                  | some g =>
                    rw [hox] at hlc
                    go_wp2
                    go_roundw
                    case rel =>
                      refine ⟨k + 1, by omega, congrArg (Value.int .i64) (by omega), trivial, Lib.hid fun i hi hne => ?_⟩
                      by_cases he : i = k
                      · subst he; rw [hox]; exact fun h => by cases h
                      · exact hall.out i (by omega) hne
                    case measure => simp [intOf]; omega
              · have hkn3 : k = us.length := by omega
                subst hkn3
                have HALL := Lib.hid hall.out
                clear hall
                go_wp2
                go_ret2
                refine ⟨HST2.out, .inr ?_⟩
                have hlk : lacks us on = false := by
                  cases hq : lacks us on with
                  | false => rfl
                  | true =>
                    obtain ⟨y, hy, hn9⟩ := lacks_iff.1 hq
                    have hcy := held_mem.1 hy
                    obtain ⟨y1, y2⟩ := cntL_bd hcy
                    unfold cntL at hcy
                    rw [if_pos ⟨y1, y2⟩] at hcy
                    have := HALL.out (y.toNat - 1) (by omega) hcy
                    rw [show (((y.toNat - 1 : Nat) : Int)) + 1 = y by omega] at this
                    exact absurd hn9 this
                rw [HLE.out, HLAY.out, if_neg (show ¬ (0 : Int) ≠ 0 by decide), if_neg (by rw [hlk]; decide)]
                exact ⟨rfl, r, rfl, (HS.out.perm (Pr.left_comm _ _ _)).right⟩
end Go.Proofs.YtbobcmimkonnoaaGreat.rload
