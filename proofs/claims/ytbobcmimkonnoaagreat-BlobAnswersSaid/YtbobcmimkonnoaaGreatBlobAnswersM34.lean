/- The document's EqItem, EqPage at two that are the same; the conditions stand as hypotheses. -/
import Derived.Test.YtbobcmimkonnoaaGreatBlobAnswersM22
import Derived.Test.YtbobcmimkonnoaaGreatBlobAnswersM19
import Derived.Test.YtbobcmimkonnoaaGreatBlobAnswersM01
namespace Go.Proofs.YtbobcmimkonnoaaGreat.eqp
open ChangeShapes WideShapes ChangeAt RowKit Sl Cop clone page eqb vault1 items rchk1 rchk2 copyP
set_option maxRecDepth 100000 in
set_option maxHeartbeats 2000000 in
theorem eqitem_same (ha hb : Hp) (va vb : Value) (x : ItemV) (h1 : ItemIn ha va x) (h2 : ItemIn hb vb x) (hn : x.key.length ≤ 9000000000000000000 ∧ x.value.length ≤ 9000000000000000000) (w : World) (l1 : ha.le w) (l2 : hb.le w) :
 Calls Tryz.prog 21 #[va, vb] w fun e w' => e = .returned (.bool true) ∧ Only w w' := by
 obtain ⟨k1, v1, rfl, hk1, hv1⟩ := h1
 obtain ⟨k2, v2, rfl, hk2, hv2⟩ := h2
 obtain ⟨a1, c1, rfl⟩ := bytes_shape hk1
 obtain ⟨a2, c2, rfl⟩ := bytes_shape hv1
 obtain ⟨a3, c3, rfl⟩ := bytes_shape hk2
 obtain ⟨a4, c4, rfl⟩ := bytes_shape hv2
 obtain ⟨w0, hw0⟩ : ∃ w0, (w.alloc (itemC (.slice a1 x.key.length c1) (.slice a2 x.value.length c2) x.child x.size)).alloc (itemC (.slice a3 x.key.length c3) (.slice a4 x.value.length c4) x.child x.size) = w0 := ⟨_, rfl⟩
 have ho0 : Only w w0 := hw0 ▸ ((Only.refl w).alloc _).alloc _
 have facts : ∀ wr, Only w0 wr → (wr.cell? ⟨w.heap.size, 0, none⟩ = some (.slice a1 x.key.length c1) ∧ wr.cell? ⟨w.heap.size, 1, none⟩ = some (.slice a2 x.value.length c2) ∧ wr.cell? ⟨w.heap.size, 2, none⟩ = some (.int .i64 x.child) ∧ wr.cell? ⟨w.heap.size, 3, none⟩ = some (.int .i64 x.size)) ∧
  (wr.cell? ⟨w.heap.size + 1, 0, none⟩ = some (.slice a3 x.key.length c3) ∧ wr.cell? ⟨w.heap.size + 1, 1, none⟩ = some (.slice a4 x.value.length c4) ∧ wr.cell? ⟨w.heap.size + 1, 2, none⟩ = some (.int .i64 x.child) ∧ wr.cell? ⟨w.heap.size + 1, 3, none⟩ = some (.int .i64 x.size)) ∧ ha.le wr ∧ hb.le wr ∧ w.heap.size + 1 < wr.heap.size := by
  intro wr ho
  subst hw0
  have s1 : Sat ((Pr.pts w.heap.size (itemC (.slice a1 x.key.length c1) (.slice a2 x.value.length c2) x.child x.size)).star Pr.emp) (w.alloc (itemC (.slice a1 x.key.length c1) (.slice a2 x.value.length c2) x.child x.size)) := (sat_emp w).alloc _
  have s2 := s1.alloc (itemC (.slice a3 x.key.length c3) (.slice a4 x.value.length c4) x.child x.size)
  rw [show (w.alloc (itemC (.slice a1 x.key.length c1) (.slice a2 x.value.length c2) x.child x.size)).heap.size = w.heap.size + 1 by simp] at s2
  have s3 := s2.only ho
  obtain ⟨p0, p1, p2, p3, _, _⟩ := pts4 s3.right
  obtain ⟨r0, r1, r2, r3, _, zz⟩ := pts4 s3
  exact ⟨⟨p0, p1, p2, p3⟩, ⟨r0, r1, r2, r3⟩, le_only (le_only l1 ho0) ho, le_only (le_only l2 ho0) ho, zz⟩
 have FA := Lib.hid facts
 have HO0 := Lib.hid ho0
 have H1 := Lib.hid (And.intro hk1 hv1)
 have H2 := Lib.hid (And.intro hk2 hv2)
 clear facts ho0 hk1 hv1 hk2 hv2 l1 l2
 obtain ⟨⟨p0, p1, p2, p3⟩, ⟨r0, r1, r2, r3⟩, e1, e2, z⟩ := FA.out w0 (Only.refl _)
 go_enter Tryz.func21, Tryz.ntmps21
 go_wp2_with fail
 refine (eq_same ha hb _ _ x.key H1.out.1 H2.out.1 hn.1 _ e1 e2).mono ?_
 rintro e w1 ⟨rfl, ho1⟩
 clear p0 p1 p2 p3 r0 r1 r2 r3 e1 e2 z
 obtain ⟨⟨p0, p1, p2, p3⟩, ⟨r0, r1, r2, r3⟩, e1, e2, z⟩ := FA.out w1 ho1
 go_wp2_with fail
 refine (eq_same ha hb _ _ x.value H1.out.2 H2.out.2 hn.2 _ e1 e2).mono ?_
 rintro e w2 ⟨rfl, ho2⟩
 go_wp2
 go_ret
 exact ⟨rfl, HO0.out.trans (ho1.trans ho2)⟩
set_option maxRecDepth 100000 in
set_option maxHeartbeats 4000000 in
theorem eqpage_same (ha hb : Hp) (va vb : Value) (g : PageV) (h1 : PageIn ha va g) (h2 : PageIn hb vb g) (hf : Fit g) (w : World) (l1 : ha.le w) (l2 : hb.le w) :
 Calls Tryz.prog 66 #[va, vb] w fun e w' => e = .returned (.bool true) ∧ Only w w' := by
 obtain ⟨i1, d1, rfl, hi1, hd1⟩ := h1
 obtain ⟨i2, d2, rfl, hi2, hd2⟩ := h2
 obtain ⟨a1, c1, rfl, _, rd1⟩ := items_rd hi1
 obtain ⟨a3, c3, rfl, _, rd2⟩ := items_rd hi2
 obtain ⟨a2, c2, rfl⟩ := bytes_shape hd1
 obtain ⟨a4, c4, rfl⟩ := bytes_shape hd2
 obtain ⟨k, l, its, dat, nx⟩ := g
 dsimp only at *
 have hn1 : (its.length : Int) ≤ 8 := by have := hf.n; dsimp only at this; omega
 have hdl : dat.length ≤ 9000000000000000000 := by have := hf.d; dsimp only at this; omega
 have hkk : ∀ y ∈ its, y.key.length ≤ 9000000000000000000 ∧ y.value.length ≤ 9000000000000000000 := fun y hy => by have := hf.k y hy; omega
 obtain ⟨w0, hw0⟩ : ∃ w0, (w.alloc (pageC k l (.slice a1 its.length c1) (.slice a2 dat.length c2) nx)).alloc (pageC k l (.slice a3 its.length c3) (.slice a4 dat.length c4) nx) = w0 := ⟨_, rfl⟩
 have ho0 : Only w w0 := hw0 ▸ ((Only.refl w).alloc _).alloc _
 have facts : ∀ wr, Only w0 wr → (wr.cell? ⟨w.heap.size, 0, none⟩ = some (.int .i64 k) ∧ wr.cell? ⟨w.heap.size, 1, none⟩ = some (.int .i64 l) ∧ wr.cell? ⟨w.heap.size, 2, none⟩ = some (.slice a1 its.length c1) ∧ wr.cell? ⟨w.heap.size, 3, none⟩ = some (.slice a2 dat.length c2) ∧ wr.cell? ⟨w.heap.size, 4, none⟩ = some (.int .i64 nx)) ∧
  (wr.cell? ⟨w.heap.size + 1, 0, none⟩ = some (.int .i64 k) ∧ wr.cell? ⟨w.heap.size + 1, 1, none⟩ = some (.int .i64 l) ∧ wr.cell? ⟨w.heap.size + 1, 2, none⟩ = some (.slice a3 its.length c3) ∧ wr.cell? ⟨w.heap.size + 1, 3, none⟩ = some (.slice a4 dat.length c4) ∧ wr.cell? ⟨w.heap.size + 1, 4, none⟩ = some (.int .i64 nx)) ∧ ha.le wr ∧ hb.le wr ∧ w.heap.size + 1 < wr.heap.size := by
  intro wr ho
  subst hw0
  have s1 : Sat ((Pr.pts w.heap.size (pageC k l (.slice a1 its.length c1) (.slice a2 dat.length c2) nx)).star Pr.emp) (w.alloc (pageC k l (.slice a1 its.length c1) (.slice a2 dat.length c2) nx)) := (sat_emp w).alloc _
  have s2 := s1.alloc (pageC k l (.slice a3 its.length c3) (.slice a4 dat.length c4) nx)
  rw [show (w.alloc (pageC k l (.slice a1 its.length c1) (.slice a2 dat.length c2) nx)).heap.size = w.heap.size + 1 by simp] at s2
  have s3 := s2.only ho
  obtain ⟨p0, p1, p2, p3, p4, _, _⟩ := pts5 s3.right
  obtain ⟨r0, r1, r2, r3, r4, _, zz⟩ := pts5 s3
  exact ⟨⟨p0, p1, p2, p3, p4⟩, ⟨r0, r1, r2, r3, r4⟩, le_only (le_only l1 ho0) ho, le_only (le_only l2 ho0) ho, zz⟩
 have FA := Lib.hid facts
 have HO0 := Lib.hid ho0
 have RD1 := Lib.hid rd1
 have RD2 := Lib.hid rd2
 have HD1 := Lib.hid hd1
 have HD2 := Lib.hid hd2
 have HK := Lib.hid hkk
 clear facts ho0 rd1 rd2 hd1 hd2 hi1 hi2 l1 l2 hkk hf
 obtain ⟨⟨p0, p1, p2, p3, p4⟩, ⟨r0, r1, r2, r3, r4⟩, e1, e2, z⟩ := FA.out w0 (Only.refl _)
 go_enter Tryz.func66, Tryz.ntmps66
 go_wp2_with fail
 refine (eq_same ha hb _ _ dat HD1.out HD2.out hdl _ e1 e2).mono ?_
 rintro e w1 ⟨rfl, ho1⟩
 clear p0 p1 p2 p3 p4 r0 r1 r2 r3 r4 e1 e2 z
 go_wp2_with fail
 go_loopw [5] (fun i wr => ∃ r : Nat, r ≤ its.length ∧ i = .int .i64 r ∧ Only w0 wr) (fun i _ => its.length - (intOf i).toNat)
 case atStart => exact ⟨0, Nat.zero_le _, rfl, ho1⟩
 case round =>
  obtain ⟨r, hr, rfl, ho⟩ := hrel
  obtain ⟨⟨p0, p1, p2, p3, p4⟩, ⟨r0, r1, r2, r3, r4⟩, e1, e2, z⟩ := FA.out wr ho
  rcases Nat.lt_or_ge r its.length with hlt | hge
  · obtain ⟨b1, o1, ak1, ck1, av1, cv1, rfl, hbk1, hbv1, hc1⟩ := RD1.out r hlt
    obtain ⟨b2, o2, ak2, ck2, av2, cv2, rfl, hbk2, hbv2, hc2⟩ := RD2.out r hlt
    obtain ⟨s0, s1, s2, s3⟩ := hc1 wr e1
    obtain ⟨t0, t1, t2, t3⟩ := hc2 wr e2
    have HX := Lib.hid (HK.out its[r] (List.getElem_mem hlt))
    have HC1 := Lib.hid hc1
    have HC2 := Lib.hid hc2
    have HO := Lib.hid ho
    clear hc1 hc2 ho
    generalize its[r] = x at *
    go_wp2_with fail
    refine wp_region_staged (sz := 61) (by kernel_rfl) [0, 1, 2, 3, 4, 5, 6, 7, 8, 9] [(10, [11], [0, 1, 2, 3, 5, 6, 7, 8])] rfl (by kernel_rfl) (by kernel_rfl) (by kernel_rfl) ?_
    refine wpQ_all _ rfl rfl ?_
    simp only [pick, pkA, pkB, pkC, pkD, pkE, pkF]
    iterate 10 (go_big_quiet_step (fail))
    refine wpQuiet_nil ?_
    refine wpRest_act rfl ?_
    go_wp2_with fail
    refine (eqitem_same ha hb _ _ x ⟨_, _, rfl, hbk1, hbv1⟩ ⟨_, _, rfl, hbk2, hbv2⟩ HX.out _ (le_only e1 ((Only.refl _).drew)) (le_only e2 ((Only.refl _).drew))).mono ?_
    rintro e w2 ⟨rfl, ho2⟩
    have HO2 := Lib.hid (HO.out.drew.trans ho2)
    clear p0 p1 p2 p3 p4 r0 r1 r2 r3 r4 e1 e2 z s0 s1 s2 s3 t0 t1 t2 t3
    obtain ⟨⟨p0, p1, p2, p3, p4⟩, ⟨r0, r1, r2, r3, r4⟩, e1, e2, z⟩ := FA.out w2 HO2.out
    obtain ⟨s0, s1, s2, s3⟩ := HC1.out w2 e1
    obtain ⟨t0, t1, t2, t3⟩ := HC2.out w2 e2
    go_wp2
    refine onN_mk ?_
    refine wpQ_all _ rfl rfl ?_
    simp only [pick, pkA, pkB, pkC, pkD, pkE, pkF]
    iterate 1 (go_big_quiet_step (fail))
    refine wpQuiet_nil ⟨?_, ?_⟩
    · refine chk_all _ rfl rfl ?_
      simp only [pick, Same, pkA, pkB, pkC, pkD, pkE, pkF, and_true]
      repeat' (first | apply And.intro | (go_big_quiet_step (fail); exact wpQuiet_nil rfl))
    refine wpRest_nil ?_
    go_wp2
    go_roundw
    case rel => exact ⟨r + 1, by omega, congrArg (Value.int .i64) (by omega), HO2.out⟩
    case measure => simp [intOf]; omega
  · have hrl : r = its.length := by omega
    subst hrl
    have HO := Lib.hid ho
    clear ho
    go_wp2
    go_ret
    exact ⟨rfl, HO0.out.trans HO.out⟩
end Go.Proofs.YtbobcmimkonnoaaGreat.eqp
