/- The document's copy of a vault, whole; the conditions stand as hypotheses. -/
import Derived.Test.YtbobcmimkonnoaaGreatBlobAnswersM24
import Derived.Test.YtbobcmimkonnoaaGreatBlobAnswersM01
namespace Go.Proofs.YtbobcmimkonnoaaGreat.rcopy2
open ChangeShapes WideShapes ChangeAt RowKit Sl Cop pool1 pool2 pool5 pool9 clone page vault1 vault2 vault6 counts items copyP copied vload ref1 ref2 ref3 ref4 rcopy
theorem wpList_append_slK {P : Program} {F : Pr} {w : World} {ops : Array Oper} {rest : List Oper} {o : Oper} {a : Act} {Q : Exit → Act → World → Prop} (hgd : o.guard = none) (s x : Operand) (t : TypeId)
 (ho : o.op = .call { callee := .builtin .append, args := #[s, x], argTypes := #[t, t] })
 (e : TypeId) (i : TypeInfo) (z : Value) (size bytes : Nat) (ht : P.underlying t = some (.slice e)) (hi : P.info? e = some i) (hz : i.zero = some z)
 (hsize : i.size = size) (hby : i.bytes = bytes) (hzs : z.cells.size = size)
 (v : Value) (n : Nat) (xs : List Value) (hs : a.eval s = v) (hown : Sat ((Row e size v n xs).star F) w)
 (ad : Addr) (m c : Nat) (news : List Value) (hx : a.eval x = .slice (some ad) m c) (hl : news.length = m * size) (hnews : ∀ j u, news[j]? = some u → w.cell? (ad.add j) = some u) (h1 : ∀ u ∈ news, u.oneCell' = true)
 (h63 : n + m ≤ maxLen) (hbytes : (n + m) * bytes ≤ 140737488355328)
 (h : ∀ v' w', Sat ((Row e size v' (n + m) (xs ++ news)).star F) w' → w.grownBy w' v.ownBlock → ∀ K : Act → Prop, (∀ a', wpList P ops Q rest a' w' → K a') → K (a.put o.dst v')) : wpList P ops Q (o :: rest) a w :=
 wpList_append_sl hgd s x t ho e i z size bytes ht hi hz hsize hby hzs v n xs hs hown ad m c news hx hl hnews h1 h63 hbytes fun v' w' h2 h3 _ => h v' w' h2 h3 _ fun _ h => h
set_option maxRecDepth 100000 in
set_option maxHeartbeats 4000000 in
theorem rcopy_any (r : Nat) (s : PoolS) (gs : List PageV) (hush : RTail) (F : Pr) (w : World) (hF : Sat ((RefA r s gs hush).star F) w) :
 Calls Tryz.prog 73 #[.pointer (some ⟨r, 0, none⟩)] w fun e w' => ∃ r', e = .returned (.pointer (some ⟨r', 0, none⟩)) ∧ Sat ((RefA r' s gs (quietT true)).star F) w' ∧ Stays w w' := by
 obtain ⟨⟨cv, lv, pv, xs, hh⟩, ok, h0⟩ := refA_iff.1 hF
 have h1 : Sat ((IntsRow cv s.counts).star ((Pr.pts r (refC s.refs cv lv pv hush)).star ((BoolsRow lv s.last).star ((PgRow pv xs gs).star ((Pr.own hh).star F))))) w := h0.perm (by unfold RefAt; ac_rfl)
 obtain ⟨a0, c0, ecv, _, _⟩ := Row.read h1
 obtain ⟨al, cl, elv, _, _⟩ := Row.read h1.right.right
 obtain ⟨ap, cp, epv, _, _⟩ := Row.read h1.right.right.right
 rw [ok.ll] at elv
 rw [ok.gl] at epv
 subst ecv elv epv
 obtain ⟨a, ha, h2⟩ := h1.toOwn
 obtain ⟨q1, q2, q3, _, z, q0⟩ := pts7 h2.right
 have CI := Lib.hid (copyints_any a _ s.counts _ w.drew h2.drew (Row.rowIn ha) ok.n2)
 have HA := Lib.hid ha
 have OK := Lib.hid ok
 have hnn : (s.counts.length : Int) ≤ 65536 := by have := ok.n2; omega
 clear hF h0 h1 h2 ha ok
 go_enter Tryz.func73, Tryz.ntmps73
 go_wp2_with fail
 refine wp_region_staged (sz := 50) (by kernel_rfl) [0, 1, 2, 3, 4, 5, 6, 7] [(8, [9], [0, 1, 2, 3, 4, 5, 6]), (10, [11], [0, 1, 2, 3, 4, 5, 6])] rfl (by kernel_rfl) (by kernel_rfl) (by kernel_rfl) ?_
 refine wpQ_all _ rfl rfl ?_
 simp only [pick, pkA, pkB, pkC, pkD, pkE, pkF]
 iterate 8 (go_big_quiet_step (fail))
 refine wpQuiet_nil ?_
 refine wpRest_act rfl ?_
 go_wp2_with fail
 refine CI.out.mono ?_
 rintro e w1 ⟨v1, rfl, hs1, st1⟩
 obtain ⟨ac, cc, rfl, _, _⟩ := Row.read hs1
 have hs2 := (hs1.perm (Pr.left_comm _ _ _)).ofOwn HA.out
 have hs3 : Sat ((Pr.pts r (refC s.refs (.slice a0 s.counts.length c0) (.slice al s.counts.length cl) (.slice ap s.counts.length cp) hush)).star ((IntsRow (.slice a0 s.counts.length c0) s.counts).star ((IntsRow (.slice ac s.counts.length cc) s.counts).star ((BoolsRow (.slice al s.counts.length cl) s.last).star ((PgRow (.slice ap s.counts.length cp) xs gs).star ((Pr.own hh).star F)))))) w1 := hs2.perm (by ac_rfl)
 clear q0 q1 q2 q3 z
 obtain ⟨q1, q2, q3, _, z, q0⟩ := pts7 hs3
 have HST1 := Lib.hid (((Stays.refl w).drew.trans st1).alloc (refC s.refs (.slice ac s.counts.length cc) (.slice none 0 0) (.slice none 0 0) (quietT true)))
 have HS4 := Lib.hid (hs3.alloc (refC s.refs (.slice ac s.counts.length cc) (.slice none 0 0) (.slice none 0 0) (quietT true)))
 clear hs1 hs2 hs3 st1 CI
 go_wp2
 refine onN_mk ?_
 refine wpQ_all _ rfl rfl ?_
 simp only [pick, pkA, pkB, pkC, pkD, pkE, pkF]
 iterate 1 (go_big_quiet_step (fail))
 refine wpQuiet_nil ⟨?_, ?_⟩
 · refine chk_all _ rfl rfl ?_
   simp only [pick, Same, pkA, pkB, pkC, pkD, pkE, pkF, and_true]
   repeat' (first | apply And.intro | (go_big_quiet_step (fail); exact wpQuiet_nil rfl))
 refine wpRest_act rfl ?_
 go_wp2
 refine onN_mk ?_
 refine wpQ_all _ rfl rfl ?_
 simp only [pick, pkA, pkB, pkC, pkD, pkE, pkF]
 iterate 1 (go_big_quiet_step (fail))
 refine wpQuiet_nil ⟨?_, ?_⟩
 · refine chk_all _ rfl rfl ?_
   simp only [pick, Same, pkA, pkB, pkC, pkD, pkE, pkF, and_true]
   repeat' (first | apply And.intro | (go_big_quiet_step (fail); exact wpQuiet_nil rfl))
 refine wpRest_nil ?_
 have T2 := HS4.out
 have U2 := HST1.out
 have zr : r < w1.heap.size := z
 generalize hw2 : w1.alloc (refC s.refs (.slice ac s.counts.length cc) (.slice none 0 0) (.slice none 0 0) (quietT true)) = w2 at *
 generalize hrb : w1.heap.size = rb at *
 have HS5 := Lib.hid T2
 have HST5 := Lib.hid U2
 obtain ⟨j0, hj, hy0, hy1, hy2⟩ := info_parts infoBool
 have hln : s.last.length = s.counts.length := OK.out.ll
 have HLN := Lib.hid hln
 clear q0 q1 q2 q3 z zr HS4 HST1 T2 U2 hw2 hrb hln
 go_wp2_with fail
 go_loopw [4] (fun i wr => ∃ (k : Nat) (lw : Value), k ≤ s.counts.length ∧ i = .int .i64 k ∧ Stays w wr ∧ Sat ((Pr.pts rb (refC s.refs (.slice ac s.counts.length cc) lw (.slice none 0 0) (quietT true))).star ((Row 4 1 lw k ((s.last.map Value.bool).take k)).star ((Pr.pts r (refC s.refs (.slice a0 s.counts.length c0) (.slice al s.counts.length cl) (.slice ap s.counts.length cp) hush)).star ((IntsRow (.slice a0 s.counts.length c0) s.counts).star ((IntsRow (.slice ac s.counts.length cc) s.counts).star ((BoolsRow (.slice al s.counts.length cl) s.last).star ((PgRow (.slice ap s.counts.length cp) xs gs).star ((Pr.own hh).star F)))))))) wr) (fun i _ => s.counts.length - (intOf i).toNat)
 case atStart =>
  refine ⟨0, .slice none 0 0, Nat.zero_le _, rfl, HST5.out, ?_⟩
  rw [show (Row 4 1 (.slice none 0 0) 0 ((s.last.map Value.bool).take 0)) = Pr.emp from Row.nil _ _, Pr.emp_star]
  exact HS5.out
 case round =>
  obtain ⟨k, lw, hk, rfl, hst, hs⟩ := hrel
  obtain ⟨aw, dw, rfl, _, _⟩ := Row.read hs.right
  obtain ⟨n1, n2, n3, ⟨g1, g2, g3⟩, zn, _⟩ := pts7 hs
  obtain ⟨q1, q2, q3, _, z, _⟩ := pts7 hs.right.right
  rcases Nat.lt_or_ge k s.counts.length with hlt | hge
  · have hkl : k < s.last.length := by rw [HLN.out]; exact hlt
    obtain ⟨al2, cl2, el2, _, hrl⟩ := Row.read (hs.right.right.perm (B := ((BoolsRow (.slice al s.counts.length cl) s.last).star ((Pr.pts r (refC s.refs (.slice a0 s.counts.length c0) (.slice al s.counts.length cl) (.slice ap s.counts.length cp) hush)).star ((IntsRow (.slice a0 s.counts.length c0) s.counts).star ((IntsRow (.slice ac s.counts.length cc) s.counts).star ((PgRow (.slice ap s.counts.length cp) xs gs).star ((Pr.own hh).star F))))))) (by ac_rfl))
    rw [HLN.out] at el2
    cases el2
    obtain ⟨bl, ebl, hrl2⟩ := hrl (by omega)
    subst ebl
    have y0 : wr.cell? ⟨bl, k, none⟩ = some (.bool s.last[k]) := by
     rw [(hrl2 k (by omega)).1]
     simp [hkl]
    have HT := Lib.hid (show (s.last.map Value.bool).take (k + 1) = (s.last.map Value.bool).take k ++ [.bool s.last[k]] by
     rw [List.take_succ_eq_append_getElem (by simpa using hkl)]
     simp)
    clear hrl hrl2
    generalize s.last[k] = vb at *
    have zc := World.block_lt_of_cell? _ _ y0
    have A1 := Lib.hid (((hs.perm (Pr.left_comm _ _ _)).alloc (.cells #[.bool vb] 4)).right.drew)
    have hnew := Lib.hid (show ∀ j u, [Value.bool vb][j]? = some u → (wr.alloc (.cells #[.bool vb] 4)).drew.cell? ((⟨wr.heap.size, 0, none⟩ : Addr).add j) = some u from new_cells wr [.bool vb] 4 wr.heap.size rfl)
    have HST6 := Lib.hid ((hst.alloc (.cells #[.bool vb] 4)).drew)
    clear hs hst
    go_wp2_with fail
    refine wp_region_staged (sz := 50) (by kernel_rfl) [0, 1, 2, 3, 4, 5, 6, 7, 8, 9, 10, 11] [(12, [], [0, 1, 2, 3, 4, 5, 6, 7, 8, 9, 10]), (13, [14, 15], [0, 1, 2, 3, 5, 6, 7, 8, 9, 10]), (16, [], [14])] rfl (by kernel_rfl) (by kernel_rfl) (by kernel_rfl) ?_
    refine wpQ_all _ rfl rfl ?_
    simp only [pick, pkA, pkB, pkC, pkD, pkE, pkF]
    iterate 12 (go_big_quiet_step (fail))
    refine wpQuiet_nil ?_
    refine wpRest_act rfl ?_
    go_wp2
    refine onN_mk ?_
    refine wpQ_nil ⟨?_, ?_⟩
    · refine chk_all _ rfl rfl ?_
      simp only [pick, Same, pkA, pkB, pkC, pkD, pkE, pkF, and_true]
      repeat' (first | apply And.intro | (go_big_quiet_step (fail); exact wpQuiet_nil rfl))
    refine wpRest_act rfl ?_
    refine wpList_append_slK rfl _ _ _ rfl 4 j0 (.bool false) 1 1 Tryz.underlying47 hj hy0 hy1 hy2 rfl _ _ _ rfl A1.out ⟨wr.heap.size, 0, none⟩ 1 1 [.bool vb] rfl rfl hnew.out (by simp [Value.oneCell']) (by simp only [maxLen]; omega) (by omega) (fun v7 w7 hs7 hg7 K hK => ?_)
    obtain ⟨a7', c7', e7', _, _⟩ := Row.read hs7
    subst e7'
    go_simp
    refine hK _ ?_
    clear hK K
    have HS7 := Lib.hid hs7
    have HST7 := Lib.hid (HST6.out.of_grown hg7)
    clear hs7 hg7 A1 n1 n2 n3 g1 g2 g3 zn q1 q2 q3 z y0 zc
    refine wpList_nil ?_
    obtain ⟨n1, n2, n3, ⟨g1, g2, g3⟩, zn, _⟩ := pts7 HS7.out.right
    obtain ⟨q1, q2, q3, _, z, _⟩ := pts7 HS7.out.right.right
    have hbl7 := HS7.out.right.right.perm (B := ((BoolsRow (.slice (some ⟨bl, 0, none⟩) s.counts.length cl) s.last).star ((Pr.pts r (refC s.refs (.slice a0 s.counts.length c0) (.slice (some ⟨bl, 0, none⟩) s.counts.length cl) (.slice ap s.counts.length cp) hush)).star ((IntsRow (.slice a0 s.counts.length c0) s.counts).star ((IntsRow (.slice ac s.counts.length cc) s.counts).star ((PgRow (.slice ap s.counts.length cp) xs gs).star ((Pr.own hh).star F))))))) (by ac_rfl)
    obtain ⟨al2, cl2, el2, _, hrl⟩ := Row.read hbl7
    rw [HLN.out] at el2
    cases el2
    obtain ⟨bl2, ebl, hrl2⟩ := hrl (by omega)
    cases ebl
    have k0 : w7.cell? ⟨bl, k, none⟩ = some (.bool vb) := by
     rw [(hrl2 k (by omega)).1]
     have := congrArg (fun l => l[k]?) HT.out
     have hkm : k < (s.last.map Value.bool).length := by simpa using hkl
     simp only [List.getElem?_take, List.getElem?_append, List.length_take] at this
     simpa [hkl, Nat.min_eq_left (Nat.le_of_lt hkl)] using this
    have zc := World.block_lt_of_cell? _ _ k0
    clear hrl hrl2 hbl7
    refine onN_mk ?_
    refine wpQ_all _ rfl rfl ?_
    simp only [pick, pkA, pkB, pkC, pkD, pkE, pkF]
    iterate 2 (go_big_quiet_step (fail))
    refine wpQuiet_nil ⟨?_, ?_⟩
    · refine chk_all _ rfl rfl ?_
      simp only [pick, Same, pkA, pkB, pkC, pkD, pkE, pkF, and_true]
      repeat' (first | apply And.intro | (go_big_quiet_step (fail); exact wpQuiet_nil rfl))
    refine wpRest_act rfl ?_
    go_wp2
    have s8 := (HS7.out.perm (Pr.left_comm _ _ _)).setCell (i := 2) (.slice a7' (k + 1) c7')
    have S8 := Lib.hid (show Sat ((Pr.pts rb (refC s.refs (.slice ac s.counts.length cc) (.slice a7' (k + 1) c7') (.slice none 0 0) (quietT true))).star ((Row 4 1 (.slice a7' (k + 1) c7') (k + 1) ((s.last.map Value.bool).take k ++ [.bool vb])).star ((Pr.pts r (refC s.refs (.slice a0 s.counts.length c0) (.slice (some ⟨bl, 0, none⟩) s.counts.length cl) (.slice ap s.counts.length cp) hush)).star ((IntsRow (.slice a0 s.counts.length c0) s.counts).star ((IntsRow (.slice ac s.counts.length cc) s.counts).star ((BoolsRow (.slice (some ⟨bl, 0, none⟩) s.counts.length cl) s.last).star ((PgRow (.slice ap s.counts.length cp) xs gs).star ((Pr.own hh).star F)))))))) _ from s8)
    have HST8 := Lib.hid (HST7.out.setCell ⟨rb, 2, none⟩ (.slice a7' (k + 1) c7'))
    clear s8
    refine onN_mk ?_
    refine wpQ_nil ⟨?_, ?_⟩
    · refine chk_all _ rfl rfl ?_
      simp only [pick, Same, pkA, pkB, pkC, pkD, pkE, pkF, and_true]
      repeat' (first | apply And.intro | (go_big_quiet_step (fail); exact wpQuiet_nil rfl))
    refine wpRest_nil ?_
    go_wp2
    go_roundw
    case rel =>
     refine ⟨k + 1, .slice a7' (k + 1) c7', by omega, congrArg (Value.int .i64) (by omega), HST8.out, ?_⟩
     rw [HT.out]
     exact S8.out
    case measure => simp [intOf]; omega
  · have hkl2 : k = s.counts.length := by omega
    subst hkl2
    have hp := hs.perm (B := ((PgRow (.slice ap s.counts.length cp) xs gs).star ((Pr.pts rb (refC s.refs (.slice ac s.counts.length cc) (.slice aw s.counts.length dw) (.slice none 0 0) (quietT true))).star ((Row 4 1 (.slice aw s.counts.length dw) s.counts.length ((s.last.map Value.bool).take s.counts.length)).star ((Pr.pts r (refC s.refs (.slice a0 s.counts.length c0) (.slice al s.counts.length cl) (.slice ap s.counts.length cp) hush)).star ((IntsRow (.slice a0 s.counts.length c0) s.counts).star ((IntsRow (.slice ac s.counts.length cc) s.counts).star ((BoolsRow (.slice al s.counts.length cl) s.last).star ((Pr.own hh).star F))))))))) (by ac_rfl)
    obtain ⟨a, ha, h2⟩ := hp.toOwn
    have CP := Lib.hid (copypages_any a _ hh xs gs OK.out.pgs (Row.rowIn ha) (by have := OK.out.n2; have := OK.out.gl; omega) _ _ h2)
    have HA := Lib.hid ha
    have HSTR := Lib.hid hst
    clear hs hp h2 ha hst
    go_wp2_with fail
    refine CP.out.mono ?_
    rintro e w7 ⟨v7, rfl, hs7, st7⟩
    obtain ⟨a7, c7, rfl, _, _⟩ := Row.read hs7
    have hs8 := (hs7.perm (Pr.left_comm _ _ _)).ofOwn HA.out
    have hs9 : Sat ((Pr.pts rb (refC s.refs (.slice ac s.counts.length cc) (.slice aw s.counts.length dw) (.slice none 0 0) (quietT true))).star ((Row 4 1 (.slice aw s.counts.length dw) s.counts.length ((s.last.map Value.bool).take s.counts.length)).star ((Pr.pts r (refC s.refs (.slice a0 s.counts.length c0) (.slice al s.counts.length cl) (.slice ap s.counts.length cp) hush)).star ((IntsRow (.slice a0 s.counts.length c0) s.counts).star ((IntsRow (.slice ac s.counts.length cc) s.counts).star ((BoolsRow (.slice al s.counts.length cl) s.last).star ((PgRow (.slice ap s.counts.length cp) xs gs).star ((PgRow (.slice a7 gs.length c7) xs gs).star ((Pr.own hh).star F))))))))) w7 := hs8.perm (by ac_rfl)
    clear n1 n2 n3 g1 g2 g3 zn q1 q2 q3 z
    obtain ⟨n1, n2, n3, ⟨g1, g2, g3⟩, zn, _⟩ := pts7 hs9
    have H9 := Lib.hid hs9
    have HST9 := Lib.hid (HSTR.out.trans st7)
    clear hs7 hs8 hs9 st7 CP
    go_wp2
    go_ret
    have s10 := H9.out.setCell (i := 3) (.slice a7 gs.length c7)
    refine ⟨rb, rfl, ?_, HST9.out.setCell _ _⟩
    have s11 : Sat ((Pr.pts rb (refC s.refs (.slice ac s.counts.length cc) (.slice aw s.counts.length dw) (.slice a7 gs.length c7) (quietT true))).star ((Row 4 1 (.slice aw s.counts.length dw) s.counts.length ((s.last.map Value.bool).take s.counts.length)).star ((Pr.pts r (refC s.refs (.slice a0 s.counts.length c0) (.slice al s.counts.length cl) (.slice ap s.counts.length cp) hush)).star ((IntsRow (.slice a0 s.counts.length c0) s.counts).star ((IntsRow (.slice ac s.counts.length cc) s.counts).star ((BoolsRow (.slice al s.counts.length cl) s.last).star ((PgRow (.slice ap s.counts.length cp) xs gs).star ((PgRow (.slice a7 gs.length c7) xs gs).star ((Pr.own hh).star F))))))))) _ := s10
    refine refA_iff.2 ⟨⟨.slice ac s.counts.length cc, .slice aw s.counts.length dw, .slice a7 gs.length c7, xs, hh⟩, ⟨OK.out.pgs, OK.out.ll, OK.out.gl, OK.out.n2, OK.out.c0, OK.out.fit⟩, ?_⟩
    have s12 := s11.perm (B := ((Pr.pts r (refC s.refs (.slice a0 s.counts.length c0) (.slice al s.counts.length cl) (.slice ap s.counts.length cp) hush)).star ((IntsRow (.slice a0 s.counts.length c0) s.counts).star ((BoolsRow (.slice al s.counts.length cl) s.last).star ((PgRow (.slice ap s.counts.length cp) xs gs).star ((Pr.pts rb (refC s.refs (.slice ac s.counts.length cc) (.slice aw s.counts.length dw) (.slice a7 gs.length c7) (quietT true))).star ((IntsRow (.slice ac s.counts.length cc) s.counts).star ((Row 4 1 (.slice aw s.counts.length dw) s.counts.length ((s.last.map Value.bool).take s.counts.length)).star ((PgRow (.slice a7 gs.length c7) xs gs).star ((Pr.own hh).star F)))))))))) (by ac_rfl)
    have e1 : (Row 4 1 (.slice aw s.counts.length dw) s.counts.length ((s.last.map Value.bool).take s.counts.length)) = BoolsRow (.slice aw s.counts.length dw) s.last := by
     unfold BoolsRow
     rw [HLN.out, List.take_of_length_le (by rw [List.length_map, HLN.out]; exact Nat.le_refl _)]
    rw [e1] at s12
    exact s12.right.right.right.right.perm (by unfold RefAt; ac_rfl)
end Go.Proofs.YtbobcmimkonnoaaGreat.rcopy2
namespace Go.Proofs.YtbobcmimkonnoaaGreat.rkids
open ChangeShapes WideShapes ChangeAt RowKit Sl Cop pool2 pool9 clone page vault1 vault2 items copyP kidsG
set_option maxRecDepth 100000 in
set_option maxHeartbeats 4000000 in
theorem rkids_any (h : Hp) (v : Value) (g : PageV) (hv : PageIn h v g) (hn : g.items.length ≤ 65536) (F : Pr) (w : World) (hF : Sat ((Pr.own h).star F) w) :
 Calls Tryz.prog 68 #[v] w fun e w' => ∃ v', e = .returned v' ∧ Sat ((IntsRow v' (kidsOf g)).star ((Pr.own h).star F)) w' ∧ Stays w w' := by
 obtain ⟨vi, vd, rfl, hi, hd⟩ := hv
 obtain ⟨ai, ci, rfl, _, rd⟩ := items_rd hi
 obtain ⟨ad, cd, rfl⟩ := bytes_shape hd
 have h1 := hF.alloc (pageC g.kind g.level (.slice ai g.items.length ci) (.slice ad g.data.length cd) g.next)
 have h2 := h1.alloc (.cells #[] 3)
 rw [show (w.alloc (pageC g.kind g.level (.slice ai g.items.length ci) (.slice ad g.data.length cd) g.next)).heap.size = w.heap.size + 1 by simp] at h2
 have h3 : Sat ((IntsRow (.slice (some ⟨w.heap.size + 1, 0, none⟩) 0 0) []).star ((Pr.pts w.heap.size (pageC g.kind g.level (.slice ai g.items.length ci) (.slice ad g.data.length cd) g.next)).star ((Pr.own h).star F))) _ :=
  Row.mk' (T := 3) (k := 1) (n := 0) (cap := 0) (xs := []) (sp := []) (by simp) (by simp) (Nat.le_refl _) (by simp) (by simpa using h2)
 have H1 := Lib.hid h3
 have RD := Lib.hid rd
 have HST := Lib.hid (((Stays.refl w).alloc (pageC g.kind g.level (.slice ai g.items.length ci) (.slice ad g.data.length cd) g.next)).alloc (.cells #[] 3))
 have hl0 : (g.items.length : Int) ≤ 65536 := by omega
 obtain ⟨i0, hi0, hz0, hz1, hz2⟩ := info_parts infoInt
 clear hF h1 h2 h3 hi hd rd
 go_enter Tryz.func68, Tryz.ntmps68
 go_wp2
 go_loopw [3, 4] (fun l i wr => ∃ k : Nat, k ≤ g.items.length ∧ i = .int .i64 k ∧ Stays w wr ∧ Sat ((IntsRow l (kidsK g k)).star ((Pr.pts w.heap.size (pageC g.kind g.level (.slice ai g.items.length ci) (.slice ad g.data.length cd) g.next)).star ((Pr.own h).star F))) wr) (fun _ i _ => g.items.length - (intOf i).toNat)
 case atStart => exact ⟨0, Nat.zero_le _, rfl, HST.out, H1.out⟩
 case round =>
  obtain ⟨k, hk, rfl, hst, hs⟩ := hrel
  clear H1 HST
  obtain ⟨al, cl, rfl, _, _⟩ := Row.read hs
  obtain ⟨p0, p1, p2, p3, p4, _, pz⟩ := pts5 hs.right
  have hkl := kidsK_len g k
  rcases Nat.lt_or_ge k g.items.length with hlt | hge
  · obtain ⟨b, off, ak, ck, av, cv, rfl, hbk, hbv, hc⟩ := RD.out k hlt
    obtain ⟨c0, c1, c2, c3⟩ := hc wr hs.right.right.own
    have z0 := World.block_lt_of_cell? _ _ c0
    have HYES := Lib.hid (fun h => kidsK_yes (g := g) hlt h)
    have HNO := Lib.hid (fun h => kidsK_no (g := g) hlt h)
    have hkd : kidItem g g.items[k] = ((g.kind == 2) || ((g.kind == 1) && (g.items[k].child != 0))) := rfl
    have HSTK := Lib.hid hst
    have HSK := Lib.hid hs
    rw [hkd] at HYES HNO
    clear hs hst hc hkd hbk hbv
    generalize g.items[k] = y at *
    have A1 := Lib.hid (show Sat ((Row 3 1 (.slice al (kidsK g k).length cl) (kidsK g k).length ((kidsK g k).map (Value.int .i64))).star ((Pr.pts w.heap.size (pageC g.kind g.level (.slice (some ⟨b, off, none⟩) g.items.length ci) (.slice ad g.data.length cd) g.next)).star ((Pr.own h).star F))) (wr.alloc (.cells [.int .i64 y.child].toArray 3)) from (HSK.out.alloc _).right)
    have hnew := Lib.hid (new_cells wr [.int .i64 y.child] 3 _ rfl)
    by_cases hk2 : g.kind = 2
    · have hb2 : (g.kind == 2) = true := beq_iff_eq.2 hk2
      rw [hb2] at HYES HNO
      clear HNO hk2
      go_wp2_with (at_builtin; refine wpList_append_sl rfl _ _ _ rfl 3 i0 (.int .i64 0) 1 8 Tryz.underlying40 hi0 hz0 hz1 hz2 rfl _ _ _ rfl A1.out ⟨wr.heap.size, 0, none⟩ 1 1 [.int .i64 y.child] rfl rfl hnew.out (by simp [Value.oneCell']) (by simp only [maxLen]; omega) (by omega) ?_; intro v7 w4 hs4 hg4 _; obtain ⟨a7', c7', e7', _, _⟩ := Row.read hs4; subst e7'; have HS4 := Lib.hid hs4; have HG4 := Lib.hid ((HSTK.out.alloc _).of_grown hg4); clear hs4 hg4)
      go_roundw
      case rel => exact ⟨k + 1, by omega, congrArg (Value.int .i64) (by omega), HG4.out, by rw [HYES.out rfl]; exact ints_snoc HS4.out⟩
      case measure => simp [intOf]; omega
    · have hb2 : (g.kind == 2) = false := beq_eq_false_iff_ne.2 hk2
      rw [hb2] at HYES HNO
      clear hk2
      by_cases hk1 : g.kind = 1
      · have hb1 : (g.kind == 1) = true := beq_iff_eq.2 hk1
        rw [hb1] at HYES HNO
        clear hk1
        by_cases hch : y.child = 0
        · have hb3 : (y.child != 0) = false := by rw [bne_eq_false_iff_eq]; exact hch
          rw [hb3] at HNO
          clear HYES hch A1
          go_wp2
          go_roundw
          case rel => exact ⟨k + 1, by omega, congrArg (Value.int .i64) (by omega), HSTK.out, by rw [HNO.out rfl]; exact HSK.out⟩
          case measure => simp [intOf]; omega
        · have hb3 : (y.child != 0) = true := by rw [bne_iff_ne]; exact hch
          rw [hb3] at HYES
          clear HNO hch
          go_wp2_with (at_builtin; refine wpList_append_sl rfl _ _ _ rfl 3 i0 (.int .i64 0) 1 8 Tryz.underlying40 hi0 hz0 hz1 hz2 rfl _ _ _ rfl A1.out ⟨wr.heap.size, 0, none⟩ 1 1 [.int .i64 y.child] rfl rfl hnew.out (by simp [Value.oneCell']) (by simp only [maxLen]; omega) (by omega) ?_; intro v7 w4 hs4 hg4 _; obtain ⟨a7', c7', e7', _, _⟩ := Row.read hs4; subst e7'; have HS4 := Lib.hid hs4; have HG4 := Lib.hid ((HSTK.out.alloc _).of_grown hg4); clear hs4 hg4)
          go_roundw
          case rel => exact ⟨k + 1, by omega, congrArg (Value.int .i64) (by omega), HG4.out, by rw [HYES.out rfl]; exact ints_snoc HS4.out⟩
          case measure => simp [intOf]; omega
      · have hb1 : (g.kind == 1) = false := beq_eq_false_iff_ne.2 hk1
        rw [hb1] at HYES HNO
        clear hk1 HYES A1
        go_wp2
        go_roundw
        case rel => exact ⟨k + 1, by omega, congrArg (Value.int .i64) (by omega), HSTK.out, by rw [HNO.out rfl]; exact HSK.out⟩
        case measure => simp [intOf]; omega
  · have hkl2 : k = g.items.length := by omega
    subst hkl2
    have hko : kidsOf g = kidsK g g.items.length ++ (if (g.kind == 3) && (g.next != 0) then [g.next] else []) := rfl
    have HS := Lib.hid hs
    have HKO := Lib.hid hko
    clear hs hko
    by_cases hk3 : g.kind = 3
    · have hb3 : (g.kind == 3) = true := beq_iff_eq.2 hk3
      rw [hb3] at HKO
      by_cases hnx : g.next = 0
      · have hb4 : (g.next != 0) = false := by rw [bne_eq_false_iff_eq]; exact hnx
        rw [hb4] at HKO
        clear hnx hk3
        go_wp2
        go_ret
        refine ⟨_, rfl, ?_, hst⟩
        rw [HKO.out, if_neg (by decide), List.append_nil]
        exact (HS.out.perm (Pr.left_comm _ _ _)).right
      · have hb4 : (g.next != 0) = true := by rw [bne_iff_ne]; exact hnx
        rw [hb4] at HKO
        have A1 := Lib.hid (show Sat ((Row 3 1 (.slice al (kidsK g g.items.length).length cl) (kidsK g g.items.length).length ((kidsK g g.items.length).map (Value.int .i64))).star ((Pr.pts w.heap.size (pageC g.kind g.level (.slice ai g.items.length ci) (.slice ad g.data.length cd) g.next)).star ((Pr.own h).star F))) (wr.alloc (.cells [.int .i64 g.next].toArray 3)) from (HS.out.alloc _).right)
        have hnew := Lib.hid (new_cells wr [.int .i64 g.next] 3 _ rfl)
        clear hnx hk3
        go_wp2_with (at_builtin; refine wpList_append_sl rfl _ _ _ rfl 3 i0 (.int .i64 0) 1 8 Tryz.underlying40 hi0 hz0 hz1 hz2 rfl _ _ _ rfl A1.out ⟨wr.heap.size, 0, none⟩ 1 1 [.int .i64 g.next] rfl rfl hnew.out (by simp [Value.oneCell']) (by simp only [maxLen]; omega) (by omega) ?_; intro v7 w4 hs4 hg4 _; obtain ⟨a7', c7', e7', _, _⟩ := Row.read hs4; subst e7'; have HS4 := Lib.hid hs4; have HG4 := Lib.hid ((hst.alloc (.cells [.int .i64 g.next].toArray 3)).of_grown hg4); clear hs4 hg4)
        go_ret
        refine ⟨_, rfl, ?_, HG4.out⟩
        rw [HKO.out, if_pos (by decide)]
        exact ((ints_snoc HS4.out).perm (Pr.left_comm _ _ _)).right
    · have hb3 : (g.kind == 3) = false := beq_eq_false_iff_ne.2 hk3
      rw [hb3] at HKO
      clear hk3
      go_wp2
      go_ret
      refine ⟨_, rfl, ?_, hst⟩
      rw [HKO.out, if_neg (by simp), List.append_nil]
      exact (HS.out.perm (Pr.left_comm _ _ _)).right
end Go.Proofs.YtbobcmimkonnoaaGreat.rkids
namespace Go.Proofs.YtbobcmimkonnoaaGreat.racts
open ChangeShapes WideShapes ChangeAt RowKit Sl Cop pool1 pool2 pool5 pool9 clone page vault1 vault2 counts items copyP ref1 ref2 ref3 ref4 rcopy rinc rkids
set_option maxRecDepth 100000 in
set_option maxHeartbeats 1000000 in
theorem rdid_hush (r : Nat) (s : PoolS) (gs : List PageV) (hush : RTail) (hq : hush.q = true) (c p : Value) (F : Pr) (w : World) (hF : Sat ((RefA r s gs hush).star F) w) :
 Calls Tryz.prog 108 #[.pointer (some ⟨r, 0, none⟩), c, p] w fun e w' => e = .returned (.tuple #[]) ∧ w = w' := by
 obtain ⟨x, ok, h⟩ := refA_iff.1 hF
 have h1 : Sat ((Pr.pts r (refC s.refs x.cv x.lv x.pv hush)).star ((IntsRow x.cv s.counts).star ((BoolsRow x.lv s.last).star ((PgRow x.pv x.xs gs).star ((Pr.own x.h).star F))))) w := h.perm (by unfold RefAt; ac_rfl)
 have q6 : w.cell? ⟨r, 6, none⟩ = some (.bool true) := by rw [cell_of_heap h1.pts_heap, ← hq]; rfl
 clear hF h h1 ok
 go_enter Tryz.func108, Tryz.ntmps108
 go_wp2
 first | refine bodyPost_ret (results_none rfl _ _ _) rfl ?_ | go_end0
 exact ⟨rfl, rfl⟩
set_option maxRecDepth 100000 in
set_option maxHeartbeats 4000000 in
theorem rkeep_any (r : Nat) (s : PoolS) (gs : List PageV) (hush : RTail) (hq : hush.q = true) (n : Int) (hr : s.counts.all fun c => decide (c ≤ 65536)) (F : Pr) (w : World) (hF : Sat ((RefA r s gs hush).star F) w) :
 Calls Tryz.prog 41 #[.pointer (some ⟨r, 0, none⟩), .int .i64 n] w fun e w' => e = .returned (.int .i64 (incL s.refs s.counts n)) ∧ Stays w w' ∧
  Sat ((RefA r (if incL s.refs s.counts n = 0 then { s with counts := addC s.counts n 1 } else s) gs hush).star F) w' := by
 obtain ⟨T, hT⟩ : ∃ T, (if incL s.refs s.counts n = 0 then { s with counts := addC s.counts n 1 } else s) = T := ⟨_, rfl⟩
 have RI := fun F w hF => rinc_any r s gs hush n hr F w hF
 rw [hT] at RI
 rw [hT]
 obtain ⟨er, her⟩ : ∃ er, incL s.refs s.counts n = er := ⟨_, rfl⟩
 rw [her] at RI
 rw [her]
 have HRI := Lib.hid RI
 clear RI hT her
 obtain ⟨⟨cv, lv, pv, xs, hh⟩, ok, h0⟩ := refA_iff.1 hF
 have h1 : Sat ((IntsRow cv s.counts).star ((Pr.pts r (refC s.refs cv lv pv hush)).star ((BoolsRow lv s.last).star ((PgRow pv xs gs).star ((Pr.own hh).star F))))) w := h0.perm (by unfold RefAt; ac_rfl)
 obtain ⟨a0, c0, ecv, _, _⟩ := Row.read h1
 obtain ⟨al, cl, elv, _, _⟩ := Row.read h1.right.right
 obtain ⟨ap, cp, epv, _, _⟩ := Row.read h1.right.right.right
 rw [ok.ll] at elv
 subst ecv elv epv
 obtain ⟨a, ha, h2⟩ := h1.toOwn
 obtain ⟨q1, q2, q3, _, z, q0⟩ := pts7 h2.right
 have CI := Lib.hid (copyints_any a _ s.counts _ w.drew h2.drew (Row.rowIn ha) ok.n2)
 have HA := Lib.hid ha
 have OK := Lib.hid ok
 have hnn : (s.counts.length : Int) ≤ 65536 := by have := ok.n2; omega
 clear hF h0 h1 h2 ha ok
 go_enter Tryz.func41, Tryz.ntmps41
 go_wp2_with fail
 refine wp_region_staged (sz := 28) (by kernel_rfl) [0, 1, 2, 3, 5, 6, 7, 8] [(4, [], [0, 1, 2, 5, 6, 7, 8]), (9, [10, 11], [0, 1, 2, 5, 6, 7])] rfl (by kernel_rfl) (by kernel_rfl) (by kernel_rfl) ?_
 refine wpQ_all _ rfl rfl ?_
 simp only [pick, pkA, pkB, pkC, pkD, pkE, pkF]
 iterate 8 (go_big_quiet_step (fail))
 refine wpQuiet_nil ?_
 refine wpRest_act rfl ?_
 go_wp2_with fail
 refine CI.out.mono ?_
 rintro e w1 ⟨v1, rfl, hs1, st1⟩
 obtain ⟨ac, cc, rfl, _, _⟩ := Row.read hs1
 have hs2 := (hs1.perm (Pr.left_comm _ _ _)).ofOwn HA.out
 have hs3 : Sat ((PgRow (.slice ap gs.length cp) xs gs).star ((Pr.pts r (refC s.refs (.slice a0 s.counts.length c0) (.slice al s.counts.length cl) (.slice ap gs.length cp) hush)).star ((IntsRow (.slice a0 s.counts.length c0) s.counts).star ((IntsRow (.slice ac s.counts.length cc) s.counts).star ((BoolsRow (.slice al s.counts.length cl) s.last).star ((Pr.own hh).star F)))))) w1 := hs2.perm (by ac_rfl)
 clear q0 q1 q2 q3 z
 obtain ⟨a2, ha2, hs4⟩ := hs3.toOwn
 obtain ⟨q1, q2, q3, _, z, q0⟩ := pts7 hs4.right
 have CP := Lib.hid (copypages_any a2 _ hh xs gs OK.out.pgs (Row.rowIn ha2) (by have := OK.out.n2; have := OK.out.gl; omega) _ _ hs4)
 have HA2 := Lib.hid ha2
 have HST1 := Lib.hid ((Stays.refl w).drew.trans st1)
 clear hs1 hs2 hs3 hs4 st1 CI HA ha2
 go_wp2
 refine onN_mk ?_
 refine wpQ_nil ⟨?_, ?_⟩
 · refine chk_all _ rfl rfl ?_
   simp only [pick, Same, pkA, pkB, pkC, pkD, pkE, pkF, and_true]
   repeat' (first | apply And.intro | (go_big_quiet_step (fail); exact wpQuiet_nil rfl))
 refine wpRest_act rfl ?_
 go_wp2_with fail
 refine CP.out.mono ?_
 rintro e w2 ⟨v2, rfl, hs5, st5⟩
 obtain ⟨aq, cq, rfl, _, _⟩ := Row.read hs5
 have hs6 := (hs5.perm (Pr.left_comm _ _ _)).ofOwn HA2.out
 have hs7 : Sat ((RefAt r s gs hush ⟨.slice a0 s.counts.length c0, .slice al s.counts.length cl, .slice ap gs.length cp, xs, hh⟩).star ((IntsRow (.slice ac s.counts.length cc) s.counts).star ((PgRow (.slice aq gs.length cq) xs gs).star F))) w2 := hs6.perm (by unfold RefAt; ac_rfl)
 have hs8 : Sat ((RefA r s gs hush).star ((IntsRow (.slice ac s.counts.length cc) s.counts).star ((PgRow (.slice aq gs.length cq) xs gs).star F))) w2 := refA_iff.2 ⟨_, OK.out, hs7⟩
 have hs9 : Sat ((Pr.pts r (refC s.refs (.slice a0 s.counts.length c0) (.slice al s.counts.length cl) (.slice ap gs.length cp) hush)).star ((IntsRow (.slice a0 s.counts.length c0) s.counts).star ((BoolsRow (.slice al s.counts.length cl) s.last).star ((PgRow (.slice ap gs.length cp) xs gs).star ((Pr.own hh).star ((IntsRow (.slice ac s.counts.length cc) s.counts).star ((PgRow (.slice aq gs.length cq) xs gs).star F))))))) w2 := hs7.perm (by unfold RefAt; ac_rfl)
 clear q0 q1 q2 q3 z
 obtain ⟨q1, q2, q3, _, z, q0⟩ := pts7 hs9
 have RI := Lib.hid (HRI.out _ _ hs8)
 have HST2 := Lib.hid (HST1.out.trans st5)
 clear hs5 hs6 hs7 hs8 hs9 st5 CP HA2 HST1 HRI
 go_wp2
 refine onN_mk ?_
 refine wpQ_all _ rfl rfl ?_
 simp only [pick, pkA, pkB, pkC, pkD, pkE, pkF]
 iterate 2 (go_big_quiet_step (fail))
 refine wpQuiet_nil ⟨?_, ?_⟩
 · refine chk_all _ rfl rfl ?_
   simp only [pick, Same, pkA, pkB, pkC, pkD, pkE, pkF, and_true]
   repeat' (first | apply And.intro | (go_big_quiet_step (fail); exact wpQuiet_nil rfl))
 refine wpRest_nil ?_
 go_wp2_with fail
 refine RI.out.mono ?_
 rintro e w3 ⟨rfl, st3, hs10⟩
 have HS10 := Lib.hid hs10
 have HST3 := Lib.hid (HST2.out.trans st3)
 have DD := Lib.hid (rdid_hush r T gs hush hq (.slice ac s.counts.length cc) (.slice aq gs.length cq) _ _ hs10)
 clear hs10 st3 RI HST2 q1 q2 q3 z q0
 by_cases he : er = 0
 · have hb : (er == 0) = true := beq_iff_eq.2 he
   clear he
   go_wp2_with fail
   refine DD.out.mono ?_
   rintro e w4 ⟨rfl, rfl⟩
   go_wp2
   go_ret
   exact ⟨rfl, HST3.out, (HS10.out.perm (B := ((IntsRow (.slice ac s.counts.length cc) s.counts).star ((PgRow (.slice aq gs.length cq) xs gs).star ((RefA r T gs hush).star F)))) (by ac_rfl)).right.right⟩
 · have hb : (er == 0) = false := beq_eq_false_iff_ne.2 he
   clear he
   go_wp2
   go_ret
   exact ⟨rfl, HST3.out, (HS10.out.perm (B := ((IntsRow (.slice ac s.counts.length cc) s.counts).star ((PgRow (.slice aq gs.length cq) xs gs).star ((RefA r T gs hush).star F)))) (by ac_rfl)).right.right⟩
end Go.Proofs.YtbobcmimkonnoaaGreat.racts
