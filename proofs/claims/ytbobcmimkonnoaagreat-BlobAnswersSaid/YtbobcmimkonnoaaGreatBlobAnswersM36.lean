/- The law's comparison of both vaults, where they are alike; the conditions stand as hypotheses. -/
import Derived.Test.YtbobcmimkonnoaaGreatBlobAnswersM35
import Derived.Test.YtbobcmimkonnoaaGreatBlobAnswersM16
import Derived.Test.YtbobcmimkonnoaaGreatBlobAnswersM29
import Derived.Test.YtbobcmimkonnoaaGreatBlobAnswersM32
import Derived.Test.YtbobcmimkonnoaaGreatBlobAnswersM33
import Derived.Test.YtbobcmimkonnoaaGreatBlobAnswersM01
namespace Go.Proofs.YtbobcmimkonnoaaGreat.alike
open ChangeShapes WideShapes ChangeAt RowKit Sl Cop pool1 pool2 pool5 pool9 clone page eqb vault1 vault2 vault6 counts items copyP ref1 ref2 eqp bload rbload law1
theorem fit_zero : Fit zeroP := ⟨by simp, by simp, fun x hx => by cases hx⟩
theorem zero_in : PageIn Hp.nil zeroPage zeroP := ⟨_, _, rfl, items_mk (Nat.zero_le _), RowIn.nil _ _⟩
/-- Read of any page. -/
theorem vread_any (v : Nat) (s : VaultS) (look : Int → Option PageV) (hl : Looks s look) (n : Int) (F : Pr) (w : World) (hF : Sat ((VaultA v s).star F) w) :
 Calls Tryz.prog 44 #[.pointer (some ⟨v, 0, none⟩), .int .i64 n] w fun e w' =>
  Stays w w' ∧ ∃ pv, e = .returned (.tuple #[pv, .int .i64 (if look n = none then 15 else 0)]) ∧ ∃ h', PageIn h' pv ((look n).getD zeroP) ∧ Sat ((Pr.own h').star ((VaultA v s).star F)) w' := by
 cases hn : look n with
 | none =>
  refine (read_none v s n F w hF (hl.none n hn)).mono ?_
  rintro e w' ⟨rfl, ho⟩
  exact ⟨ho.st, zeroPage, by simp, Hp.nil, zero_in, by rw [own_nil, Pr.emp_star]; exact hF.only ho⟩
 | some g =>
  obtain ⟨h1, h2, h3, h4⟩ := hl.some n g hn
  refine (read_some v s n h1 g h4 F w hF h2 h3).mono ?_
  rintro e w' ⟨hst, pv, rfl, h', hp, hs⟩
  exact ⟨hst, pv, by simp, h', hp, hs⟩
theorem rread_any (r : Nat) (s : PoolS) (gs : List PageV) (hush : RTail) (look : Int → Option PageV) (hl : RLooks s gs look) (n : Int) (F : Pr) (w : World) (hF : Sat ((RefA r s gs hush).star F) w) :
 Calls Tryz.prog 45 #[.pointer (some ⟨r, 0, none⟩), .int .i64 n] w fun e w' =>
  Stays w w' ∧ ∃ pv, e = .returned (.tuple #[pv, .int .i64 (if look n = none then 15 else 0)]) ∧ ∃ h', PageIn h' pv ((look n).getD zeroP) ∧ Sat ((Pr.own h').star ((RefA r s gs hush).star F)) w' := by
 cases hn : look n with
 | none =>
  refine (rread_none r s gs hush n F w hF (hl.none n hn)).mono ?_
  rintro e w' ⟨rfl, ho⟩
  exact ⟨ho.st, zeroPage, by simp, Hp.nil, zero_in, by rw [own_nil, Pr.emp_star]; exact hF.only ho⟩
 | some g =>
  obtain ⟨h2, h3, h4⟩ := hl.some n g hn
  refine (rread_some r s gs hush n F w hF h2).mono ?_
  rintro e w' ⟨hst, pv, rfl, h', hp, hs⟩
  exact ⟨hst, pv, by simp, h', by rw [h3] at hp; exact hp, hs⟩
/-- A vault's pool, by itself. -/
theorem vault_at_pool {v : Nat} {s : VaultS} {x : VX} {F : Pr} {w : World} (h : Sat ((VaultAt v s x).star F) w) :
 w.cell? ⟨v, 0, none⟩ = some (.pointer (some ⟨x.p, 0, none⟩)) ∧ v < w.heap.size ∧ Sat ((PoolA x.p s.pool).star ((Pr.pts v (.cells #[.pointer (some ⟨x.p, 0, none⟩), .map (some x.mb), x.av, .int .i64 s.floor] 71)).star
  ((((MapA Tryz.prog 3 x.mb x.f).star ((Row 158 2 x.av s.acts.length (actCells x.axs)).star (Pr.own x.h)))).star F))) w := by
 have h2 : Sat ((PoolA x.p s.pool).star ((Pr.pts v (.cells #[.pointer (some ⟨x.p, 0, none⟩), .map (some x.mb), x.av, .int .i64 s.floor] 71)).star
  ((((MapA Tryz.prog 3 x.mb x.f).star ((Row 158 2 x.av s.acts.length (actCells x.axs)).star (Pr.own x.h)))).star F))) w := h.perm (by unfold VaultAt; ac_rfl)
 exact ⟨by rw [cell_of_heap h2.right.pts_heap]; rfl, h2.right.lt, h2⟩
theorem state_eq {s t : PoolS} (hc : s.counts = t.counts) (hl : s.last = t.last) (n : Int) : s.state n = t.state n := by
 obtain ⟨r1, c1, l1, a1, f1⟩ := s
 obtain ⟨r2, c2, l2, a2, f2⟩ := t
 dsimp only at hc hl
 subst hc hl
 rfl
theorem ints_le {v : Value} {V : List Int} {F : Pr} {w : World} (h : Sat ((IntsRow v V).star F) w) : ∃ a, Ints a v V ∧ a.le w := by
 obtain ⟨a, ha, h2⟩ := h.toOwn
 exact ⟨a, Row.rowIn ha, h2.own⟩
set_option maxRecDepth 100000 in
set_option maxHeartbeats 8000000 in
theorem alike_any (wb v r : Nat) (bv wv tv xv : Value) (s : VaultS) (rs : PoolS) (gs : List PageV) (hush : RTail) (look : Int → Option PageV) (hl : Looks s look) (hrl : RLooks rs gs look) (hc : s.pool.counts = rs.counts) (hla : s.pool.last = rs.last) (F : Pr) (w : World)
 (hF : Sat ((Pr.pts wb (workC v r bv wv tv xv)).star ((VaultA v s).star ((RefA r rs gs hush).star F))) w) :
 Calls Tryz.prog 24 #[.pointer (some ⟨wb, 0, none⟩)] w fun e w' => e = .returned (.bool true) ∧ Stays w w' ∧ Sat ((Pr.pts wb (workC v r bv wv tv xv)).star ((VaultA v s).star ((RefA r rs gs hush).star F))) w' := by
 have hF1 := hF.perm (B := (VaultA v s).star ((Pr.pts wb (workC v r bv wv tv xv)).star ((RefA r rs gs hush).star F))) (by ac_rfl)
 obtain ⟨x, ok, hF2⟩ := vaultA_iff.1 hF1
 obtain ⟨v0, vz, h1⟩ := vault_at_pool hF2
 have h2 := h1.perm (B := (Pr.pts wb (workC v r bv wv tv xv)).star ((RefA r rs gs hush).star ((PoolA x.p s.pool).star ((Pr.pts v (.cells #[.pointer (some ⟨x.p, 0, none⟩), .map (some x.mb), x.av, .int .i64 s.floor] 71)).star
  ((((MapA Tryz.prog 3 x.mb x.f).star ((Row 158 2 x.av s.acts.length (actCells x.axs)).star (Pr.own x.h)))).star F))))) (by ac_rfl)
 obtain ⟨p0, p1, _, _, _, pz⟩ := pts6w h2
 have hn2 : rs.counts.length ≤ 65536 := by
  obtain ⟨y, oky, _⟩ := refA_iff.1 h2.right
  exact oky.n2
 have LA := Lib.hid (len_A x.p s.pool _ _ h1.drew)
 have RL := Lib.hid (rlen_any r rs gs hush _ _ h2.right.drew)
 have CA := Lib.hid (counts_A x.p s.pool _ _ h1.drew)
 rw [hc] at LA CA
 have H1 := Lib.hid h1
 have HC := Lib.hid hc
 have HLA := Lib.hid hla
 have OK := Lib.hid ok
 have hn3 : (rs.counts.length : Int) ≤ 65536 := by omega
 have HN2 := Lib.hid hn2
 clear hF hF1 hF2 h1 h2 hc hla ok hn2
 go_enter Tryz.func24, Tryz.ntmps24
 go_wp2_with fail
 refine wp_region_staged (sz := 93) (by kernel_rfl) [0, 1, 2, 3, 4, 5, 6, 8, 9, 10, 11] [(7, [], [0, 1, 2, 3, 4, 5, 8, 9, 10, 11]), (12, [13, 14, 15, 16, 17, 18, 19, 20, 21, 23, 24, 25, 26], [0, 1, 2, 3, 4, 5, 8, 9, 10]), (22, [], [0, 1, 2, 3, 4, 5, 8, 9, 10, 13, 15, 16, 17, 18, 19, 20, 23, 24, 25, 26]), (27, [], [0, 1, 2, 3, 4, 5, 8, 9, 10, 13, 15, 16, 17, 18, 19, 20, 23, 24, 25]), (28, [29, 30], [0, 1, 2, 3, 4, 5, 8, 9, 10, 13, 15, 16, 17, 18, 19, 20, 23, 24, 25])] rfl (by kernel_rfl) (by kernel_rfl) (by kernel_rfl) ?_
 refine wpQ_all _ rfl rfl ?_
 simp only [pick, pkA, pkB, pkC, pkD, pkE, pkF]
 iterate 11 (go_big_quiet_step (fail))
 refine wpQuiet_nil ?_
 refine wpRest_act rfl ?_
 go_wp2_with fail
 refine LA.out.mono ?_
 rintro e w1 ⟨rfl, rfl⟩
 go_wp2
 refine onN_mk ?_
 refine wpQ_nil ⟨?_, ?_⟩
 · refine chk_all _ rfl rfl ?_
   simp only [pick, Same, pkA, pkB, pkC, pkD, pkE, pkF, and_true]
   repeat' (first | apply And.intro | (go_big_quiet_step (fail); exact wpQuiet_nil rfl))
 refine wpRest_act rfl ?_
 go_wp2_with fail
 refine RL.out.mono ?_
 rintro e w1 ⟨rfl, rfl⟩
 go_wp2
 refine onN_mk ?_
 refine wpQ_all _ rfl rfl ?_
 simp only [pick, pkA, pkB, pkC, pkD, pkE, pkF]
 iterate 13 (go_big_quiet_step (fail))
 refine wpQuiet_nil ⟨?_, ?_⟩
 · refine chk_all _ rfl rfl ?_
   simp only [pick, Same, pkA, pkB, pkC, pkD, pkE, pkF, and_true]
   repeat' (first | apply And.intro | (go_big_quiet_step (fail); exact wpQuiet_nil rfl))
 refine wpRest_act rfl ?_
 go_wp2_with fail
 refine CA.out.mono ?_
 rintro e w2 ⟨cv1, rfl, hs2, st2⟩
 obtain ⟨ac1, cc1, e1, _, _⟩ := Row.read hs2
 subst e1
 have hs3 := hs2.perm (B := (RefA r rs gs hush).star ((Pr.pts wb (workC v r bv wv tv xv)).star ((IntsRow (.slice ac1 rs.counts.length cc1) rs.counts).star ((Pr.pts v (.cells #[.pointer (some ⟨x.p, 0, none⟩), .map (some x.mb), x.av, .int .i64 s.floor] 71)).star ((PoolA x.p s.pool).star ((((MapA Tryz.prog 3 x.mb x.f).star ((Row 158 2 x.av s.acts.length (actCells x.axs)).star (Pr.own x.h)))).star F)))))) (by ac_rfl)
 clear p0 p1 pz v0 vz
 obtain ⟨p0, p1, _, _, _, pz⟩ := pts6w hs3.right
 have v0 : w2.cell? ⟨v, 0, none⟩ = some (.pointer (some ⟨x.p, 0, none⟩)) := by rw [cell_of_heap hs3.right.right.right.pts_heap]; rfl
 have vz := hs3.right.right.right.lt
 have RC := Lib.hid (rcounts_any r rs gs hush _ _ hs3)
 have HST2 := Lib.hid ((Stays.refl w).drew.trans st2)
 clear hs2 hs3 st2 CA LA H1
 go_wp2
 refine onN_mk ?_
 refine wpQ_nil ⟨?_, ?_⟩
 · refine chk_all _ rfl rfl ?_
   simp only [pick, Same, pkA, pkB, pkC, pkD, pkE, pkF, and_true]
   repeat' (first | apply And.intro | (go_big_quiet_step (fail); exact wpQuiet_nil rfl))
 refine wpRest_act rfl ?_
 go_wp2_with fail
 refine RC.out.mono ?_
 rintro e w3 ⟨cv2, rfl, hs4, st4⟩
 obtain ⟨ac2, cc2, e2, _, _⟩ := Row.read hs4
 subst e2
 have hs5 := hs4.perm (B := (IntsRow (.slice ac1 rs.counts.length cc1) rs.counts).star ((IntsRow (.slice ac2 rs.counts.length cc2) rs.counts).star ((Pr.pts wb (workC v r bv wv tv xv)).star ((RefA r rs gs hush).star ((Pr.pts v (.cells #[.pointer (some ⟨x.p, 0, none⟩), .map (some x.mb), x.av, .int .i64 s.floor] 71)).star ((PoolA x.p s.pool).star ((((MapA Tryz.prog 3 x.mb x.f).star ((Row 158 2 x.av s.acts.length (actCells x.axs)).star (Pr.own x.h)))).star F))))))) (by ac_rfl)
 clear p0 p1 pz v0 vz
 obtain ⟨p0, p1, _, _, _, pz⟩ := pts6w hs5.right.right
 have v0 : w3.cell? ⟨v, 0, none⟩ = some (.pointer (some ⟨x.p, 0, none⟩)) := by rw [cell_of_heap hs5.right.right.right.right.pts_heap]; rfl
 have vz := hs5.right.right.right.right.lt
 obtain ⟨a1, i1, l1⟩ := ints_le hs5
 obtain ⟨a2, i2, l2⟩ := ints_le hs5.right
 have EI := Lib.hid (eqints_same a1 a2 _ _ rs.counts i1 i2 HN2.out w3 l1 l2)
 have HS5 := Lib.hid hs5.right.right
 have HST4 := Lib.hid (HST2.out.trans st4)
 clear hs4 hs5 st4 i1 i2 l1 l2 RC HST2
 go_wp2
 refine onN_mk ?_
 refine wpQ_nil ⟨?_, ?_⟩
 · refine chk_all _ rfl rfl ?_
   simp only [pick, Same, pkA, pkB, pkC, pkD, pkE, pkF, and_true]
   repeat' (first | apply And.intro | (go_big_quiet_step (fail); exact wpQuiet_nil rfl))
 refine wpRest_act rfl ?_
 go_wp2_with fail
 refine EI.out.mono ?_
 rintro e w4 ⟨rfl, oe⟩
 have hs6 := HS5.out.only oe
 clear p0 p1 pz v0 vz
 obtain ⟨p0, p1, _, _, _, pz⟩ := pts6w hs6
 have v0 : w4.cell? ⟨v, 0, none⟩ = some (.pointer (some ⟨x.p, 0, none⟩)) := by rw [cell_of_heap hs6.right.right.pts_heap]; rfl
 have vz := hs6.right.right.lt
 have HST5 := Lib.hid (HST4.out.trans oe.st)
 have H6 := Lib.hid (show Sat ((Pr.pts wb (workC v r bv wv tv xv)).star ((VaultA v s).star ((RefA r rs gs hush).star F))) w4 from (vaultA_iff.2 ⟨x, OK.out, hs6.perm (B := (VaultAt v s x).star ((Pr.pts wb (workC v r bv wv tv xv)).star ((RefA r rs gs hush).star F))) (by unfold VaultAt; ac_rfl)⟩).perm (by ac_rfl))
 clear hs6 EI HS5 HST4 oe
 go_wp2
 refine onN_mk ?_
 refine wpQ_all _ rfl rfl ?_
 simp only [pick, pkA, pkB, pkC, pkD, pkE, pkF]
 iterate 2 (go_big_quiet_step (fail))
 refine wpQuiet_nil ⟨?_, ?_⟩
 · refine chk_all _ rfl rfl ?_
   simp only [pick, Same, pkA, pkB, pkC, pkD, pkE, pkF, and_true]
   repeat' (first | apply And.intro | (go_big_quiet_step (fail); exact wpQuiet_nil rfl))
 refine wpRest_nil ?_
 clear p0 p1 pz v0 vz OK
 go_wp2_with fail
 go_loopw [3] (fun i wr => ∃ k : Nat, 1 ≤ k ∧ k ≤ rs.counts.length + 1 ∧ i = .int .i64 k ∧ Stays w wr ∧ Sat ((Pr.pts wb (workC v r bv wv tv xv)).star ((VaultA v s).star ((RefA r rs gs hush).star F))) wr) (fun i _ => rs.counts.length + 1 - (intOf i).toNat)
 case atStart => exact ⟨1, Nat.le_refl _, by omega, rfl, HST5.out, H6.out⟩
 case round =>
  obtain ⟨k, hk1, hk2, rfl, hst, hs⟩ := hrel
  clear H6 HST5
  obtain ⟨p0, p1, _, _, _, pz⟩ := pts6w hs
  have RL := Lib.hid (rlen_any r rs gs hush _ _ (hs.right.perm (B := (RefA r rs gs hush).star ((VaultA v s).star F)) (by ac_rfl)))
  rcases Nat.lt_or_ge rs.counts.length k with hgt | hle
  · have HS := Lib.hid hs
    clear hs
    go_wp2_with fail
    refine RL.out.mono ?_
    rintro e w1 ⟨rfl, rfl⟩
    go_wp2
    go_ret
    exact ⟨rfl, hst, HS.out⟩
  · obtain ⟨g, hg⟩ : ∃ g, (look (k : Int)).getD zeroP = g := ⟨_, rfl⟩
    obtain ⟨er, her⟩ : ∃ er : Int, (if look (k : Int) = none then (15 : Int) else 0) = er := ⟨_, rfl⟩
    have hfit : Fit g := by
     rw [← hg]
     cases hk : look (k : Int) with
     | none => exact fit_zero
     | some g2 => exact (hl.some _ g2 hk).2.2.2
    have RRD := fun F w hF => rread_any r rs gs hush look hrl k F w hF
    have VRD := vread_any v s look hl k _ _ (hs.perm (B := (VaultA v s).star ((Pr.pts wb (workC v r bv wv tv xv)).star ((RefA r rs gs hush).star F))) (by ac_rfl))
    rw [hg, her] at VRD
    rw [hg, her] at RRD
    have HRRD := Lib.hid RRD
    have HVRD := Lib.hid VRD
    have HSTK := Lib.hid hst
    have HFIT := Lib.hid hfit
    clear hs hst hg her VRD RRD hfit
    go_wp2_with fail
    refine RL.out.mono ?_
    rintro e w1 ⟨rfl, rfl⟩
    go_wp2_with fail
    refine HVRD.out.mono ?_
    rintro e w1 ⟨st1, pv, rfl, h1, hp1, hs1⟩
    obtain ⟨vi, vd, rfl, hi1, hd1⟩ := id hp1
    obtain ⟨ai, ci, rfl, _, _⟩ := items_rd hi1
    obtain ⟨ad, cd, rfl⟩ := bytes_shape hd1
    clear p0 p1 pz hi1 hd1 HVRD RL
    have hs2 := hs1.perm (B := (Pr.pts wb (workC v r bv wv tv xv)).star ((RefA r rs gs hush).star ((Pr.own h1).star ((VaultA v s).star F)))) (by ac_rfl)
    obtain ⟨p0, p1, _, _, _, pz⟩ := pts6w hs2
    have hs3 := hs2.alloc (pageC g.kind g.level (.slice ai g.items.length ci) (.slice ad g.data.length cd) g.next)
    have RR := Lib.hid (HRRD.out _ _ (hs3.perm (B := (RefA r rs gs hush).star ((Pr.pts w1.heap.size (pageC g.kind g.level (.slice ai g.items.length ci) (.slice ad g.data.length cd) g.next)).star ((Pr.pts wb (workC v r bv wv tv xv)).star ((Pr.own h1).star ((VaultA v s).star F))))) (by ac_rfl)))
    have HST1 := Lib.hid ((HSTK.out.trans st1).alloc (pageC g.kind g.level (.slice ai g.items.length ci) (.slice ad g.data.length cd) g.next))
    have HP1 := Lib.hid hp1
    clear hs1 hs2 hs3 st1 HSTK hp1 HRRD
    go_wp2_with fail
    refine RR.out.mono ?_
    rintro e w2 ⟨st2, pv2, rfl, h2, hp2, hs4⟩
    obtain ⟨wi, wd, rfl, hi2, hd2⟩ := id hp2
    obtain ⟨bi, di, rfl, _, _⟩ := items_rd hi2
    obtain ⟨bd, dd, rfl⟩ := bytes_shape hd2
    clear p0 p1 pz hi2 hd2 RR
    have hs5 := (hs4.alloc (pageC g.kind g.level (.slice bi g.items.length di) (.slice bd g.data.length dd) g.next)).perm (B := (VaultA v s).star ((Pr.pts w2.heap.size (pageC g.kind g.level (.slice bi g.items.length di) (.slice bd g.data.length dd) g.next)).star ((Pr.pts w1.heap.size (pageC g.kind g.level (.slice ai g.items.length ci) (.slice ad g.data.length cd) g.next)).star ((Pr.own h2).star ((Pr.own h1).star ((Pr.pts wb (workC v r bv wv tv xv)).star ((RefA r rs gs hush).star F))))))) (by ac_rfl)
    obtain ⟨y, oky, hs6⟩ := vaultA_iff.1 hs5
    have hs7 := hs6.perm (B := (Pr.pts w1.heap.size (pageC g.kind g.level (.slice ai g.items.length ci) (.slice ad g.data.length cd) g.next)).star ((Pr.pts w2.heap.size (pageC g.kind g.level (.slice bi g.items.length di) (.slice bd g.data.length dd) g.next)).star ((Pr.pts wb (workC v r bv wv tv xv)).star ((Pr.pts v (.cells #[.pointer (some ⟨y.p, 0, none⟩), .map (some y.mb), y.av, .int .i64 s.floor] 71)).star ((PoolA y.p s.pool).star ((RefA r rs gs hush).star ((Pr.own h1).star ((Pr.own h2).star
     ((((MapA Tryz.prog 3 y.mb y.f).star ((Row 158 2 y.av s.acts.length (actCells y.axs)).star (Pr.own y.h)))).star F))))))))) (by unfold VaultAt; ac_rfl)
    have HST2 := Lib.hid ((HST1.out.trans st2).alloc (pageC g.kind g.level (.slice bi g.items.length di) (.slice bd g.data.length dd) g.next))
    have HS7 := Lib.hid hs7
    have HP2 := Lib.hid hp2
    have HOK := Lib.hid oky
    clear hs4 hs5 hs6 hs7 st2 HST1 hp2 oky
    have T1 := HST2.out
    have T2 := HS7.out
    clear HST2 HS7
    go_wp2_with fail
    generalize hw3 : w2.alloc (pageC g.kind g.level (.slice bi g.items.length di) (.slice bd g.data.length dd) g.next) = w3 at *
    generalize w1.heap.size = P1 at *
    generalize w2.heap.size = P2 at *
    have HST2 := Lib.hid T1
    have HS7 := Lib.hid T2
    clear T1 hw3
    obtain ⟨q0, q1, q2, q3, q4, _, qz⟩ := pts5 T2
    obtain ⟨r0, r1, r2, r3, r4, _, rz⟩ := pts5 T2.right
    obtain ⟨p0, p1, _, _, _, pz⟩ := pts6w T2.right.right
    have v0 : w3.cell? ⟨v, 0, none⟩ = some (.pointer (some ⟨y.p, 0, none⟩)) := by rw [cell_of_heap T2.right.right.right.pts_heap]; rfl
    have vz := T2.right.right.right.lt
    have SA := Lib.hid (state_any y.p k w3.drew s.pool (poolA_rd T2.right.right.right.right.drew).2.1)
    have SB := Lib.hid (rstate_any r rs gs hush k _ _ T2.right.right.right.right.right.drew)
    rw [state_eq HC.out HLA.out] at SA
    have EP := Lib.hid (eqpage_same h1 h2 _ _ g HP1.out HP2.out HFIT.out w3.drew T2.right.right.right.right.right.right.drew.own T2.right.right.right.right.right.right.right.drew.own)
    clear T2
    refine wp_region_staged (sz := 93) (by kernel_rfl) [0, 1, 2, 3, 4, 5, 6, 7, 9, 10, 11, 12, 13] [(8, [], [0, 1, 2, 3, 4, 5, 9, 10, 11, 12, 13]), (14, [15, 16, 17, 18, 19, 20, 21, 22, 23], [0, 1, 2, 3, 4, 5, 9, 10, 11]), (24, [25, 26], [0, 1, 2, 3, 4, 5, 9, 10, 11, 15, 16, 17, 18, 19, 20])] rfl (by kernel_rfl) (by kernel_rfl) (by kernel_rfl) ?_
    refine wpQ_all _ rfl rfl ?_
    simp only [pick, pkA, pkB, pkC, pkD, pkE, pkF]
    iterate 13 (go_big_quiet_step (fail))
    refine wpQuiet_nil ?_
    refine wpRest_act rfl ?_
    go_wp2_with fail
    refine SA.out.mono ?_
    rintro e w4 ⟨rfl, rfl⟩
    go_wp2
    refine onN_mk ?_
    refine wpQ_nil ⟨?_, ?_⟩
    · refine chk_all _ rfl rfl ?_
      simp only [pick, Same, pkA, pkB, pkC, pkD, pkE, pkF, and_true]
      repeat' (first | apply And.intro | (go_big_quiet_step (fail); exact wpQuiet_nil rfl))
    refine wpRest_act rfl ?_
    go_wp2_with fail
    refine SB.out.mono ?_
    rintro e w4 ⟨rfl, rfl⟩
    go_wp2
    refine onN_mk ?_
    refine wpQ_all _ rfl rfl ?_
    simp only [pick, pkA, pkB, pkC, pkD, pkE, pkF]
    iterate 9 (go_big_quiet_step (fail))
    refine wpQuiet_nil ⟨?_, ?_⟩
    · refine chk_all _ rfl rfl ?_
      simp only [pick, Same, pkA, pkB, pkC, pkD, pkE, pkF, and_true]
      repeat' (first | apply And.intro | (go_big_quiet_step (fail); exact wpQuiet_nil rfl))
    refine wpRest_act rfl ?_
    go_wp2_with fail
    refine EP.out.mono ?_
    rintro e w4 ⟨rfl, oe⟩
    have hs8 := HS7.out.drew.only oe
    clear q0 q1 q2 q3 q4 qz r0 r1 r2 r3 r4 rz p0 p1 pz v0 vz SA SB EP
    obtain ⟨q0, q1, q2, q3, q4, _, qz⟩ := pts5 hs8
    obtain ⟨r0, r1, r2, r3, r4, _, rz⟩ := pts5 hs8.right
    obtain ⟨p0, p1, _, _, _, pz⟩ := pts6w hs8.right.right
    have v0 : w4.cell? ⟨v, 0, none⟩ = some (.pointer (some ⟨y.p, 0, none⟩)) := by rw [cell_of_heap hs8.right.right.right.pts_heap]; rfl
    have vz := hs8.right.right.right.lt
    have HST5 := Lib.hid (HST2.out.drew.trans oe.st)
    have hs9 := hs8.right.right.perm (B := (Pr.own h1).star ((Pr.own h2).star ((VaultAt v s y).star ((Pr.pts wb (workC v r bv wv tv xv)).star ((RefA r rs gs hush).star F))))) (by unfold VaultAt; ac_rfl)
    have H10 := Lib.hid (show Sat ((Pr.pts wb (workC v r bv wv tv xv)).star ((VaultA v s).star ((RefA r rs gs hush).star F))) w4 from (vaultA_iff.2 ⟨y, HOK.out, hs9.right.right⟩).perm (by ac_rfl))
    clear hs8 hs9 HS7 HST2 oe
    go_wp2
    refine onN_mk ?_
    refine wpQ_all _ rfl rfl ?_
    simp only [pick, pkA, pkB, pkC, pkD, pkE, pkF]
    iterate 2 (go_big_quiet_step (fail))
    refine wpQuiet_nil ⟨?_, ?_⟩
    · refine chk_all _ rfl rfl ?_
      simp only [pick, Same, pkA, pkB, pkC, pkD, pkE, pkF, and_true]
      repeat' (first | apply And.intro | (go_big_quiet_step (fail); exact wpQuiet_nil rfl))
    refine wpRest_nil ?_
    go_wp2
    go_roundw
    case rel => exact ⟨k + 1, by omega, by omega, congrArg (Value.int .i64) (by omega), HST5.out, H10.out⟩
    case measure => simp [intOf]; omega
end Go.Proofs.YtbobcmimkonnoaaGreat.alike
namespace Go.Cop
open Go.Proofs.YtbobcmimkonnoaaGreat.pool8 Go.Proofs.YtbobcmimkonnoaaGreat.pool9 Go.Proofs.YtbobcmimkonnoaaGreat.ref2 Go.Proofs.YtbobcmimkonnoaaGreat.rsettle Go.Proofs.YtbobcmimkonnoaaGreat.rinc Go.Proofs.YtbobcmimkonnoaaGreat.bload Go.Proofs.YtbobcmimkonnoaaGreat.rbload Go.Proofs.YtbobcmimkonnoaaGreat.alike Go.Proofs.YtbobcmimkonnoaaGreat.vloadLaw Go.Proofs.YtbobcmimkonnoaaGreat.vload Go.Proofs.YtbobcmimkonnoaaGreat.rload Go.Proofs.YtbobcmimkonnoaaGreat.looks Go.Proofs.YtbobcmimkonnoaaGreat.incG
/-- The program's vault and the document's. -/
structure Twin (s : VaultS) (rs : PoolS) (gs : List PageV) : Prop where
 cs : rs.counts = s.pool.counts
 ls : rs.last = s.pool.last
 rf : rs.refs = s.pool.refs
 gl : gs.length = s.pool.counts.length
 bare : Bare s
 pg : ∀ n, s.pool.state n ≠ 1 → s.pool.there n → s.on n = some (pgAt gs n)
 fit : ∀ n g, s.on n = some g → Fit g
 cr : ∀ c ∈ s.pool.counts, 0 ≤ c ∧ c ≤ s.pool.refs
def lookT (s : VaultS) (n : Int) : Option PageV := if s.pool.count n = 0 then none else s.on n
theorem Twin.state {s : VaultS} {rs : PoolS} {gs : List PageV} (h : Twin s rs gs) (n : Int) : rs.state n = s.pool.state n := state_eq h.cs h.ls n
theorem count_eq {s t : PoolS} (hc : s.counts = t.counts) (n : Int) : s.count n = t.count n := by
 rw [count_cnt, count_cnt, hc]
theorem Twin.count {s : VaultS} {rs : PoolS} {gs : List PageV} (h : Twin s rs gs) (n : Int) : rs.count n = s.pool.count n := count_eq h.cs n
theorem state_of_count {s : PoolS} (ok : PoolOk s) {n : Int} (h : s.count n ≠ 0) : s.state n ≠ 1 := fun e => h (count_of_free ok e)
theorem Twin.at' {s : VaultS} {rs : PoolS} {gs : List PageV} (h : Twin s rs gs) (ok : PoolOk s.pool) {n : Int} (hn : s.pool.count n ≠ 0) : s.on n = some (pgAt gs n) := h.pg n (state_of_count ok hn) (there_of_count hn)
theorem Twin.looks {s : VaultS} {rs : PoolS} {gs : List PageV} (h : Twin s rs gs) (ok : PoolOk s.pool) : Looks s (lookT s) := by
 constructor
 · intro n hn
   unfold lookT at hn
   by_cases hc : s.pool.count n = 0
   · exact hc
   · rw [if_neg hc, h.at' ok hc] at hn
     cases hn
 · intro n g hn
   unfold lookT at hn
   by_cases hc : s.pool.count n = 0
   · rw [if_pos hc] at hn; cases hn
   · rw [if_neg hc] at hn
     have ht := there_of_count hc
     have := ok.n2
     exact ⟨⟨ht.1, by have := ht.2; omega⟩, hc, hn, h.fit n g hn⟩
theorem Twin.rlooks {s : VaultS} {rs : PoolS} {gs : List PageV} (h : Twin s rs gs) (ok : PoolOk s.pool) : RLooks rs gs (lookT s) := by
 constructor
 · intro n hn
   rw [h.count]
   exact (h.looks ok).none n hn
 · intro n g hn
   obtain ⟨_, h2, h3, h4⟩ := (h.looks ok).some n g hn
   rw [h.at' ok h2] at h3
   rw [h.count]
   exact ⟨h2, Option.some.inj h3, h4⟩
theorem pgAt_set {gs : List PageV} {n m : Int} (hn : 1 ≤ n ∧ n ≤ gs.length) (hm : 1 ≤ m ∧ m ≤ gs.length) (g : PageV) : pgAt (gs.set (n.toNat - 1) g) m = if m = n then g else pgAt gs m := by
 unfold pgAt
 rw [List.getD_eq_getElem?_getD]
 by_cases h : m = n
 · subst h
   rw [List.getElem?_set_self (by omega), if_pos rfl]; rfl
 · rw [List.getElem?_set_ne (by omega), if_neg h, ← List.getD_eq_getElem?_getD]
theorem Twin.make {t : VaultS} {rs : PoolS} {gs : List PageV} (h : Twin t rs gs) (ok : PoolOk t.pool) {n : Int} (hn : t.pool.state n = 1) {g : PageV} (hg : Fit g) :
 Twin (t.make n g) { rs with counts := rs.counts.set (n.toNat - 1) 1 } (gs.set (n.toNat - 1) g) := by
 have h0 := count_of_free ok hn
 have ht := there_of_state (by omega : t.pool.state n ≠ 0)
 have ec : (t.make n g).pool.counts = t.pool.counts.set (n.toNat - 1) 1 := by
  show t.pool.counts.set (n.toNat - 1) (t.pool.count n + 1) = _
  rw [h0]; rfl
 have hon : ∀ m, (t.make n g).on m = if m = n then some g else t.on m := fun m => rfl
 refine ⟨by rw [ec, ← h.cs], h.ls, h.rf, ?_, h.bare.make hn h0 g, ?_, ?_, ?_⟩
 · rw [ec, List.length_set, List.length_set]; exact h.gl
 · intro m hm hth
   have hth2 : t.pool.there m := did_there.1 hth
   have hs : (t.make n g).pool.state m = if m = n then stateOf (t.pool.count n + 1) (t.pool.lasts n) else t.pool.state m := did_state ht
   rw [hon, pgAt_set ⟨ht.1, by rw [h.gl]; exact ht.2⟩ ⟨hth2.1, by rw [h.gl]; exact hth2.2⟩]
   by_cases he : m = n
   · rw [if_pos he, if_pos he]
   · rw [if_neg he] at hs
     rw [if_neg he, if_neg he]
     exact h.pg m (hs ▸ hm) hth2
 · intro m g2 hm
   rw [hon] at hm
   by_cases he : m = n
   · rw [if_pos he] at hm; cases hm; exact hg
   · rw [if_neg he] at hm; exact h.fit m g2 hm
 · intro c hc
   rw [ec] at hc
   rcases List.mem_or_eq_of_mem_set hc with hc | rfl
   · exact h.cr c hc
   · have := ok.r1
     exact ⟨by omega, by show (1 : Int) ≤ t.pool.refs; omega⟩
/-- Lists of the lowest ones are one and the same. -/
theorem low_unique {S : Int → Prop} : ∀ (l1 l2 : List Int), l1.length = l2.length → l1.Pairwise (fun a b => a < b) → l2.Pairwise (fun a b => a < b) → (∀ n ∈ l1, S n) → (∀ n ∈ l2, S n) → (∀ m, S m → m ∉ l1 → ∀ n ∈ l1, n < m) → (∀ m, S m → m ∉ l2 → ∀ n ∈ l2, n < m) → l1 = l2
 | [], [], _, _, _, _, _, _, _ => rfl
 | x :: t, y :: u, hl, p1, p2, s1, s2, b1, b2 => by
  obtain ⟨q1, p1'⟩ := List.pairwise_cons.1 p1
  obtain ⟨q2, p2'⟩ := List.pairwise_cons.1 p2
  have hxy : x = y := by
   have e1 : x ≤ y := by
    by_cases hy : y ∈ x :: t
    · rcases List.mem_cons.1 hy with h | h
      · omega
      · have := q1 y h; omega
    · have := b1 y (s2 y (by simp)) hy x (by simp); omega
   have e2 : y ≤ x := by
    by_cases hx : x ∈ y :: u
    · rcases List.mem_cons.1 hx with h | h
      · omega
      · have := q2 x h; omega
    · have := b2 x (s1 x (by simp)) hx y (by simp); omega
   omega
  subst hxy
  have := low_unique (S := fun n => S n ∧ n ≠ x) t u (by simpa using hl) p1' p2'
   (fun n hn => ⟨s1 n (by simp [hn]), fun e => by have := q1 n hn; omega⟩) (fun n hn => ⟨s2 n (by simp [hn]), fun e => by have := q2 n hn; omega⟩)
   (fun m hm hnot n hn => b1 m hm.1 (fun hc => (List.mem_cons.1 hc).elim hm.2 hnot) n (by simp [hn]))
   (fun m hm hnot n hn => b2 m hm.1 (fun hc => (List.mem_cons.1 hc).elim hm.2 hnot) n (by simp [hn]))
  rw [this]
theorem taken_there {s s' : VaultS} {ns : List Int} (h : Taken s s' ns) {m : Int} (hm : s.pool.there m) : s'.pool.there m := ⟨hm.1, by have := hm.2; have := h.len; omega⟩
theorem taken_out {s s' : VaultS} {ns : List Int} (h : Taken s s' ns) {m : Int} (hm : s.pool.state m = 1) (hn : m ∉ ns) : ∀ n ∈ ns, n < m := by
 refine h.low m ?_
 have ht := there_of_state (by omega : s.pool.state m ≠ 0)
 rw [state_there (taken_there h ht), (h.same m hn).1]
 have e : s'.pool.lasts m = s.pool.lasts m := by unfold PoolS.lasts; rw [h.last]
 rw [e, ← state_there ht]
 exact hm
/-- Whoever takes so many pages takes the same ones. -/
theorem taken_unique {s a b : VaultS} {ns ms : List Int} (h : Taken s a ns) (k : Taken s b ms) (hl : ns.length = ms.length) : ns = ms := by
 have := low_unique (S := fun n => s.pool.state n = 1) ns.reverse ms.reverse (by simpa using hl) (List.pairwise_reverse.2 h.desc) (List.pairwise_reverse.2 k.desc)
  (fun n hn => h.free n (by simpa using hn)) (fun n hn => k.free n (by simpa using hn))
  (fun m hm hn n hn2 => taken_out h hm (by simpa using hn) n (by simpa using hn2)) (fun m hm hn n hn2 => taken_out k hm (by simpa using hn) n (by simpa using hn2))
 have h2 := congrArg List.reverse this
 simpa using h2
theorem chain_on {s t : VaultS} {V : List Int} : ∀ {k j : Nat} {c d : Int} {ns : List Int}, ChainAt s V k j c ns → ChainAt t V k j d ns → c = d ∧ ∀ n ∈ ns, s.on n = t.on n
 | 0, _, _, _, _, h, g => ⟨by rw [h.1, g.1], by rw [h.2]; simp⟩
 | k + 1, j, c, d, ns, h, g => by
  obtain ⟨c', ns', rfl, _, _, h4, h5⟩ := h
  obtain ⟨d', ms', e, _, _, g4, g5⟩ := g
  obtain ⟨e1, e2⟩ := List.cons.inj e
  subst e1 e2
  obtain ⟨e3, h6⟩ := chain_on h5 g5
  subst e3
  refine ⟨rfl, fun n hn => ?_⟩
  rcases List.mem_cons.1 hn with rfl | hn
  · rw [h4, g4]
  · exact h6 n hn
theorem counts_ext {s t : PoolS} (hl : s.counts.length = t.counts.length) (h : ∀ n, s.count n = t.count n) : s.counts = t.counts := by
 apply List.ext_getElem hl
 intro i h1 h2
 have := h ((i : Int) + 1)
 rw [count_cnt, count_cnt, cnt_idx h1, cnt_idx h2, List.getD_eq_getElem?_getD, List.getD_eq_getElem?_getD, List.getElem?_eq_getElem h1, List.getElem?_eq_getElem h2] at this
 exact this
theorem Twin.move {a b : VaultS} {rs : PoolS} {gs : List PageV} (h : Twin a rs gs) (hc : a.pool.counts = b.pool.counts) (hl : a.pool.last = b.pool.last) (hr : a.pool.refs = b.pool.refs) (ho : a.on = b.on) : Twin b rs gs := by
 have hs : ∀ n, b.pool.state n = a.pool.state n := fun n => (state_eq hc hl n).symm
 have ht : ∀ n, b.pool.there n ↔ a.pool.there n := fun n => by unfold PoolS.there; rw [hc]
 exact ⟨by rw [h.cs, hc], by rw [h.ls, hl], by rw [h.rf, hr], by rw [h.gl, hc], fun n hn => by rw [← ho]; exact h.bare n (by rw [← hs]; exact hn), fun n h1 h2 => by rw [← ho]; exact h.pg n (by rw [← hs]; exact h1) ((ht n).1 h2), fun n g hg => h.fit n g (by rw [ho]; exact hg), by rw [← hc, ← hr]; exact h.cr⟩
/-- A value stored on both sides: the item leads to the same page, and both are alike. -/
theorem twin_taken {s a b : VaultS} {ns ms : List Int} {V : List Int} {c d : Int} {rs : PoolS} {gs : List PageV} (h : Taken s a ns) (k : Taken s b ms) (ch : ChainAt a V (chunks V) 0 c ns) (kh : ChainAt b V (chunks V) 0 d ms) (ht : Twin b rs gs) : c = d ∧ Twin a rs gs := by
 have e : ns = ms := taken_unique h k (by rw [chain_len ch, chain_len kh])
 subst e
 obtain ⟨e1, h1⟩ := chain_on ch kh
 refine ⟨e1, ht.move (counts_ext (by rw [k.len, h.len]) fun n => ?_) (by rw [k.last, h.last]) (by rw [k.refs, h.refs]) (funext fun n => ?_)⟩
 · by_cases hn : n ∈ ns
   · rw [h.cnt n hn, k.cnt n hn]
   · rw [(h.same n hn).1, (k.same n hn).1]
 · by_cases hn : n ∈ ns
   · exact (h1 n hn).symm
   · rw [(h.same n hn).2, (k.same n hn).2]
theorem incE_incL {s : VaultS} {rs : PoolS} {gs : List PageV} (h : Twin s rs gs) (n : Int) : incE s.pool n = incL rs.refs rs.counts n := by
 have h1 : cntL rs.counts n = s.pool.count n := by rw [h.cs, ← count_cnt]
 unfold incE incL
 rw [h1, h.rf]
 by_cases h0 : s.pool.count n = 0
 · rw [if_pos h0, if_pos h0]
 · rw [if_neg h0, if_neg h0]
   have hc := h.cr _ (by
    have ht := there_of_count h0
    show s.pool.count n ∈ s.pool.counts
    unfold PoolS.count
    rw [if_pos ht, List.getD_eq_getElem?_getD, List.getElem?_eq_getElem (by have := ht.1; have := ht.2; omega)]
    exact List.getElem_mem _)
   by_cases h2 : s.pool.count n = s.pool.refs
   · rw [if_pos h2, if_pos (by omega)]
   · rw [if_neg h2, if_neg (by omega)]
theorem Twin.crn {s : VaultS} {rs : PoolS} {gs : List PageV} (h : Twin s rs gs) (ok : PoolOk s.pool) (n : Int) : s.pool.count n ≤ s.pool.refs := by
 unfold PoolS.count
 split
 · rename_i ht
   rw [List.getD_eq_getElem?_getD, List.getElem?_eq_getElem (by have := ht.1; have := ht.2; omega)]
   exact (h.cr _ (List.getElem_mem _)).2
 · have := ok.r1; omega
theorem Twin.keep {s : VaultS} {rs : PoolS} {gs : List PageV} (h : Twin s rs gs) (ok : PoolOk s.pool) {n : Int} (he : incE s.pool n = 0) (a : ActV) : Twin ({ s with pool := s.pool.did n 1 }.acted a) { rs with counts := addC rs.counts n 1 } gs := by
 have h0 : s.pool.count n ≠ 0 := fun e => by unfold incE at he; rw [if_pos e] at he; cases he
 have h1 : s.pool.count n ≠ s.pool.refs := fun e => by unfold incE at he; rw [if_neg h0, if_pos e] at he; cases he
 have h2 := h.crn ok n
 have ht := there_of_count h0
 have h3 := (count_bd ok n).1
 have hst : ∀ m, (s.pool.did n 1).state m = 1 ↔ s.pool.state m = 1 := fun m => by
  rw [did_state ht]
  by_cases hm : m = n
  · subst hm
    rw [if_pos rfl]
    have e1 := state_of_count ok h0
    constructor
    · intro e
      exfalso
      unfold stateOf at e
      rw [if_pos (by omega)] at e
      split at e <;> omega
    · intro e; exact absurd e e1
  · rw [if_neg hm]
 refine ⟨?_, h.ls, h.rf, ?_, fun m hm => h.bare m ((hst m).1 hm), fun m hm hth => h.pg m (fun e => hm ((hst m).2 e)) (did_there.1 hth), h.fit, ?_⟩
 · show _ = (s.pool.did n 1).counts
   rw [did_counts, h.cs]
 · show _ = (s.pool.did n 1).counts.length
   rw [did_counts, addC_len]; exact h.gl
 · intro c hc
   have hc2 : c ∈ s.pool.counts.set (n.toNat - 1) (s.pool.count n + 1) := hc
   rcases List.mem_or_eq_of_mem_set hc2 with hc | rfl
   · exact h.cr c hc
   · exact ⟨by omega, by show _ ≤ s.pool.refs; omega⟩
theorem addC_ne {cs : List Int} {n m : Int} {b : Int} (h : cntL cs n ≠ 0) (hm : cntL (addC cs n b) m ≠ 0) : cntL cs m ≠ 0 := by
 have hn : 1 ≤ n ∧ n ≤ cs.length := by
  by_cases hn : 1 ≤ n ∧ n ≤ cs.length
  · exact hn
  · exact absurd (by unfold cntL; exact if_neg hn) h
 rw [addC_cnt hn] at hm
 by_cases e : m = n
 · rw [e]; exact h
 · rw [if_neg e] at hm; exact hm
theorem DropR.congr {get get' : Int → PageV} {l cs : List Int} {e : Int} {c : List Int} (h : DropR get l cs e c) : (∀ n, cntL cs n ≠ 0 → get n = get' n) → DropR get' l cs e c := by
 induction h with
 | nil cs => intro _; exact .nil cs
 | none n t cs h0 => intro _; exact .none n t cs h0
 | more n t cs e c h1 h2 h3 ih => intro hg; exact .more n t cs e c h1 h2 (ih fun m hm => hg m (addC_ne h1 hm))
 | last n t cs e c h1 h2 h3 ih => intro hg; exact .last n t cs e c h1 h2 (by rw [← hg n h1]; exact ih fun m hm => hg m (addC_ne h1 hm))
/-- What has been dropped: fewer lead to each, and no more. -/
theorem DropR.le {get : Int → PageV} {l cs : List Int} {e : Int} {c : List Int} (h : DropR get l cs e c) : (∀ x ∈ cs, 0 ≤ x) → c.length = cs.length ∧ ∀ n, 0 ≤ cntL c n ∧ cntL c n ≤ cntL cs n := by
 have nn : ∀ {cs : List Int}, (∀ x ∈ cs, 0 ≤ x) → ∀ n, 0 ≤ cntL cs n := fun {cs} h n => by
  unfold cntL
  split
  · rw [List.getD_eq_getElem?_getD, List.getElem?_eq_getElem (by omega)]
    exact h _ (List.getElem_mem _)
  · omega
 have st : ∀ {cs : List Int} {n : Int}, (∀ x ∈ cs, 0 ≤ x) → cntL cs n ≠ 0 → (∀ x ∈ addC cs n (-1), 0 ≤ x) ∧ ∀ m, cntL (addC cs n (-1)) m ≤ cntL cs m := fun {cs n} h h0 => by
  have := nn h n
  refine ⟨addC_nn h (by omega), fun m => ?_⟩
  have hn : 1 ≤ n ∧ n ≤ cs.length := by
   by_cases hn : 1 ≤ n ∧ n ≤ cs.length
   · exact hn
   · exact absurd (by unfold cntL; exact if_neg hn) h0
  rw [addC_cnt hn]
  split
  · rename_i e; rw [e]; omega
  · exact Int.le_refl _
 induction h with
 | nil cs => intro h; exact ⟨rfl, fun n => ⟨nn h n, Int.le_refl _⟩⟩
 | none n t cs h0 => intro h; exact ⟨rfl, fun n => ⟨nn h n, Int.le_refl _⟩⟩
 | more n t cs e c h1 h2 h3 ih =>
  intro h
  obtain ⟨a, b⟩ := st h h1
  obtain ⟨i1, i2⟩ := ih a
  exact ⟨by rw [i1, addC_len], fun m => ⟨(i2 m).1, Int.le_trans (i2 m).2 (b m)⟩⟩
 | last n t cs e c h1 h2 h3 ih =>
  intro h
  obtain ⟨a, b⟩ := st h h1
  obtain ⟨i1, i2⟩ := ih a
  exact ⟨by rw [i1, addC_len], fun m => ⟨(i2 m).1, Int.le_trans (i2 m).2 (b m)⟩⟩
theorem Twin.drop_det {s : VaultS} {rs : PoolS} {gs : List PageV} (h : Twin s rs gs) (ok : PoolOk s.pool) {l : List Int} {e e2 : Int} {c c2 : List Int} (h1 : DropR s.get l s.pool.counts e c) (h2 : DropR (pgAt gs) l rs.counts e2 c2) : e = e2 ∧ c = c2 := by
 rw [h.cs] at h2
 refine DropR.det (h1.congr fun n hn => ?_) h2
 unfold VaultS.get
 rw [h.at' ok (by rw [count_cnt]; exact hn)]
 rfl
theorem Twin.drop {s t : VaultS} {rs : PoolS} {gs : List PageV} (h : Twin s rs gs) (ok : PoolOk s.pool) {l : List Int} {e : Int} {W : List (Int × Option PageV)} (hd : DInv s t W) (h1 : DropR s.get l s.pool.counts e t.pool.counts) (a : ActV) : Twin (t.acted a) { rs with counts := t.pool.counts } gs := by
 have hle := (h1.le fun x hx => (h.cr x hx).1).2
 have hth : ∀ m, t.pool.there m ↔ s.pool.there m := fun m => by unfold PoolS.there; rw [hd.len]
 have hla : ∀ m, t.pool.lasts m = s.pool.lasts m := fun m => by unfold PoolS.lasts; rw [hd.mid.last]
 have hfree : ∀ m, t.pool.state m ≠ 1 → t.pool.there m → s.pool.state m ≠ 1 := fun m hm ht e => hm (by
  have h0 := count_of_free ok e
  have h2 := hle m
  rw [← count_cnt, ← count_cnt, h0] at h2
  rw [state_there ht, show t.pool.count m = 0 by omega, hla, ← h0, ← state_there ((hth m).1 ht)]
  exact e)
 have hon : ∀ m, t.on m = if t.pool.state m = 1 then none else s.on m := fun m => by rw [hd.on]
 refine ⟨rfl, ?_, ?_, ?_, fun m hm => ?_, fun m hm ht => ?_, fun m g hg => ?_, fun c hc => ?_⟩
 · show rs.last = t.pool.last; rw [h.ls, hd.mid.last]
 · show rs.refs = t.pool.refs; rw [h.rf, hd.mid.refs]
 · show gs.length = t.pool.counts.length; rw [h.gl, hd.len]
 · have hm2 : t.pool.state m = 1 := hm
   show t.on m = none
   rw [hon, if_pos hm2]
 · have hm2 : t.pool.state m ≠ 1 := hm
   show t.on m = _
   rw [hon, if_neg hm2]
   exact h.pg m (hfree m hm2 ht) ((hth m).1 ht)
 · have hg2 : t.on m = some g := hg
   rw [hon] at hg2
   split at hg2
   · cases hg2
   · exact h.fit m g hg2
 · have hc2 : c ∈ t.pool.counts := hc
   obtain ⟨i, hi, rfl⟩ := List.getElem_of_mem hc2
   have h3 := hle ((i : Int) + 1)
   rw [cnt_idx hi, cnt_idx (by rw [← hd.len]; exact hi), List.getD_eq_getElem?_getD, List.getD_eq_getElem?_getD, List.getElem?_eq_getElem hi, List.getElem?_eq_getElem (by rw [← hd.len]; exact hi)] at h3
   have h4 := h.cr (s.pool.counts[i]'(by rw [← hd.len]; exact hi)) (List.getElem_mem _)
   have h5 : t.pool.refs = s.pool.refs := hd.mid.refs
   refine ⟨h3.1, ?_⟩
   show _ ≤ t.pool.refs
   have h6 : t.pool.counts[i] ≤ s.pool.counts[i]'(by rw [← hd.len]; exact hi) := h3.2
   omega
theorem lasts_of_counts (cs : List Int) {n : Int} (h : 1 ≤ n ∧ n ≤ cs.length) : (lastsOf cs).getD (n.toNat - 1) false = decide (0 < cs.getD (n.toNat - 1) 0) := by
 unfold lastsOf
 rw [List.getD_eq_getElem?_getD, List.getElem?_map, List.getD_eq_getElem?_getD, List.getElem?_eq_getElem (by omega)]
 rfl
theorem settled_state {s : PoolS} (ok : PoolOk s) {n : Int} (h : s.there n) : s.settled.state n = if s.count n = 0 then 1 else 4 := by
 have h1 : s.settled.there n := h
 have h2 : s.settled.count n = s.count n := rfl
 have h3 : s.settled.lasts n = decide (0 < s.count n) := by
  show (lastsOf s.counts).getD _ _ = _
  rw [lasts_of_counts s.counts h]
  unfold PoolS.count
  rw [if_pos h]
 rw [state_there h1, h2, h3]
 have := (count_bd ok n).1
 by_cases h0 : s.count n = 0
 · rw [if_pos h0, h0]; rfl
 · rw [if_neg h0]; exact stateOf_pos (by omega)
theorem Twin.settle {s : VaultS} {rs : PoolS} {gs : List PageV} (h : Twin s rs gs) (ok : PoolOk s.pool) : Twin s.settled { rs with last := lastsOf rs.counts } (gsK rs gs rs.counts.length) := by
 have hst : ∀ m, s.pool.there m → s.pool.count m = 0 → s.pool.state m = 1 ∨ s.pool.state m = 2 := fun m ht h0 => by
  rw [state_there ht, h0]
  unfold stateOf
  rw [if_neg (by omega)]
  split <;> simp
 have hon : ∀ m, s.settled.on m = if s.pool.state m = 2 then none else s.on m := fun m => rfl
 refine ⟨h.cs, ?_, h.rf, ?_, fun m hm => ?_, fun m hm ht => ?_, fun m g hg => ?_, h.cr⟩
 · show lastsOf rs.counts = lastsOf s.pool.counts
   rw [h.cs]
 · rw [gsK_len]; exact h.gl
 · have hm2 : s.pool.settled.state m = 1 := hm
   have ht : s.pool.there m := there_of_state (s := s.pool.settled) (by omega)
   rw [settled_state ok ht] at hm2
   have h0 : s.pool.count m = 0 := by
    by_cases h0 : s.pool.count m = 0
    · exact h0
    · rw [if_neg h0] at hm2; cases hm2
   rw [hon]
   rcases hst m ht h0 with e | e
   · rw [if_neg (by omega)]; exact h.bare m e
   · rw [if_pos e]
 · have hm2 : s.pool.settled.state m ≠ 1 := hm
   have ht2 : s.pool.there m := ht
   rw [settled_state ok ht2] at hm2
   have h0 : s.pool.count m ≠ 0 := fun e => hm2 (if_pos e)
   have h1 : s.pool.state m ≠ 2 := fun e => by
    rw [state_there ht2] at e
    unfold stateOf at e
    rw [if_pos (by have := (count_bd ok m).1; omega)] at e
    split at e <;> omega
   rw [hon, if_neg h1, h.at' ok h0]
   congr 1
   unfold pgAt
   have hj : m.toNat - 1 < gs.length := by rw [h.gl]; have := ht2.1; have := ht2.2; omega
   rw [List.getD_eq_getElem?_getD, List.getD_eq_getElem?_getD, gsK_at _ _ _ _ hj, if_neg]
   intro hc
   apply h0
   have := hc.2
   rw [h.cs] at this
   unfold PoolS.count
   rw [if_pos ht2]
   exact this
 · rw [hon] at hg
   split at hg
   · cases hg
   · exact h.fit m g hg
end Go.Cop
