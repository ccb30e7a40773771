/- The law's store, over both vaults; the conditions stand as hypotheses. -/
import Derived.Test.YtbobcmimkonnoaaGreatBlobAnswersM38
import Derived.Test.YtbobcmimkonnoaaGreatBlobAnswersM39
import Derived.Deep.CutRange
import Derived.Test.YtbobcmimkonnoaaGreatBlobAnswersM01
namespace Go.Proofs.YtbobcmimkonnoaaGreat.lawSto2
open ChangeShapes WideShapes ChangeAt RowKit Sl Cop pool2 pool9 clone page eqb vault1 vault2 items copyP ref1 ref2 rcopy2 eqp spare kept spared law1 blob1 blob4 release storeLaw lawItem lawSto1
abbrev opC (kind n : Int) (kv vv ik iv : Value) (ic is : Int) : Obj := .cells #[.int .i64 kind, .int .i64 n, kv, vv, ik, iv, .int .i64 ic, .int .i64 is] 60
theorem pts8 {b T : Nat} {v0 v1 v2 v3 v4 v5 v6 v7 : Value} {F : Pr} {w : World} (h : Sat ((Pr.pts b (.cells #[v0, v1, v2, v3, v4, v5, v6, v7] T)).star F) w) :
 w.cell? ⟨b, 0, none⟩ = some v0 ∧ w.cell? ⟨b, 1, none⟩ = some v1 ∧ w.cell? ⟨b, 2, none⟩ = some v2 ∧ w.cell? ⟨b, 3, none⟩ = some v3 ∧ w.cell? ⟨b, 4, none⟩ = some v4 ∧ w.cell? ⟨b, 5, none⟩ = some v5 ∧ w.cell? ⟨b, 6, none⟩ = some v6 ∧ w.cell? ⟨b, 7, none⟩ = some v7 ∧ b < w.heap.size := by
 have h1 := h.pts_heap
 exact ⟨by rw [cell_of_heap h1]; rfl, by rw [cell_of_heap h1]; rfl, by rw [cell_of_heap h1]; rfl, by rw [cell_of_heap h1]; rfl, by rw [cell_of_heap h1]; rfl, by rw [cell_of_heap h1]; rfl, by rw [cell_of_heap h1]; rfl, by rw [cell_of_heap h1]; rfl, h.lt⟩
set_option maxRecDepth 100000 in
set_option maxHeartbeats 8000000 in
theorem lstore_any (wb v r : Nat) (bv wv tv xv : Value) (s : VaultS) (rs : PoolS) (gs : List PageV) (k : Nat) (hb : Both s rs gs (k + 1)) (kind nn : Int) (kv vv : Value) (hp : Hp) (K V : List Int) (hK : Bytes hp kv K) (hV : Bytes hp vv V)
    (hn : K.length ≤ 140737488351232 ∧ V.length ≤ 140737488351232) (ik iv : Value) (ic is : Int) (n : Nat) (bs ws : List Value) (hbn : n ≤ 65536) (F : Pr) (w : World)
    (hF : Sat ((Pr.pts wb (workC v r bv wv tv xv)).star ((Row 58 4 bv n bs).star ((Row 58 4 wv n ws).star ((VaultA v s).star ((RefA r rs gs (quietT true)).star ((Pr.own hp).star F)))))) w) :
    Calls Tryz.prog 74 #[.pointer (some ⟨wb, 0, none⟩), .agg #[.int .i64 kind, .int .i64 nn, kv, vv, ik, iv, .int .i64 ic, .int .i64 is]] w fun e w' => e = .returned (.bool true) ∧ Stays w w' ∧ ∃ s' rs' gs', Both s' rs' gs' k ∧
      (Sat ((Pr.pts wb (workC v r bv wv tv xv)).star ((Row 58 4 bv n bs).star ((Row 58 4 wv n ws).star ((VaultA v s').star ((RefA r rs' gs' (quietT true)).star ((Pr.own hp).star F)))))) w' ∨
       ∃ kv1 vv1 kv2 vv2 c h' bv' wv', ItemIn h' (itemV kv2 vv2 c V.length) (storedI K V c) ∧ K.length ≤ 24 ∧ V.length ≤ 3840 ∧
        Sat ((Pr.pts wb (workC v r bv' wv' tv xv)).star ((Row 58 4 bv' (n + 1) (bs ++ [kv1, vv1, .int .i64 c, .int .i64 V.length])).star ((Row 58 4 wv' (n + 1) (ws ++ [kv2, vv2, .int .i64 c, .int .i64 V.length])).star
          ((BytesRow kv1 K).star ((BytesRow vv1 (shortV V)).star ((Pr.own h').star ((VaultA v s').star ((RefA r rs' gs' (quietT true)).star ((Pr.own hp).star F))))))))) w') := by
  have okp := (vault_ok (hF.perm (B := (VaultA v s).star ((Pr.pts wb (workC v r bv wv tv xv)).star ((Row 58 4 bv n bs).star ((Row 58 4 wv n ws).star ((RefA r rs gs (quietT true)).star ((Pr.own hp).star F)))))) (by ac_rfl))).1
  obtain ⟨ab, cb, ebv, _, _⟩ := Row.read hF.right
  obtain ⟨aw, cw, ewv, _, _⟩ := Row.read hF.right.right
  subst ebv ewv
  obtain ⟨ak, ck, rfl⟩ := bytes_shape hK
  obtain ⟨av, cv, rfl⟩ := bytes_shape hV
  obtain ⟨G, hG⟩ : ∃ G, G = (Row 58 4 (.slice ab n cb) n bs).star ((Row 58 4 (.slice aw n cw) n ws).star F) := ⟨_, rfl⟩
  have hF0 := hF.perm (B := (Pr.pts wb (workC v r (.slice ab n cb) (.slice aw n cw) tv xv)).star ((VaultA v s).star ((RefA r rs gs (quietT true)).star ((Pr.own hp).star ((Row 58 4 (.slice ab n cb) n bs).star ((Row 58 4 (.slice aw n cw) n ws).star F)))))) (by ac_rfl)
  rw [← hG] at hF0
  have h1 := hF0.alloc (opC kind nn (.slice ak K.length ck) (.slice av V.length cv) ik iv ic is)
  have h2 := h1.perm (B := (Pr.own hp).star ((Pr.pts w.heap.size (opC kind nn (.slice ak K.length ck) (.slice av V.length cv) ik iv ic is)).star ((Pr.pts wb (workC v r (.slice ab n cb) (.slice aw n cw) tv xv)).star ((VaultA v s).star ((RefA r rs gs (quietT true)).star G))))) (by ac_rfl)
  have SP := Lib.hid (spare_any hp _ K _ _ h2.drew hK hn.1)
  have HK := Lib.hid hK
  have HV := Lib.hid hV
  have HN := Lib.hid hn
  have HG := Lib.hid hG
  have HB := Lib.hid hb
  have OK := Lib.hid okp
  have HST := Lib.hid ((Stays.refl w).alloc (opC kind nn (.slice ak K.length ck) (.slice av V.length cv) ik iv ic is)).drew
  clear hF hF0 h1 h2 hK hV hn hG hb okp
  go_enter Tryz.func74, Tryz.ntmps74
  go_wp2_with fail
  refine wp_region_staged (sz := 114) (by kernel_rfl) [0, 1, 3, 4] [(2, [], [0, 3, 4]), (5, [6, 7], [0, 3])] rfl (by kernel_rfl) (by kernel_rfl) (by kernel_rfl) ?_
  refine wpQ_all _ rfl rfl ?_
  simp only [pick, pkA, pkB, pkC, pkD, pkE, pkF]
  iterate 4 (go_big_quiet_step (fail))
  refine wpQuiet_nil ?_
  refine wpRest_act rfl ?_
  go_wp2_with fail
  refine SP.out.mono ?_
  rintro e w1 ⟨b1, rfl, hs1, st1⟩
  have hs2 := hs1.perm (B := (Pr.own hp).star ((Pr.pts w.heap.size (opC kind nn (.slice ak K.length ck) (.slice av V.length cv) ik iv ic is)).star ((WholeRow b1 K).star ((Pr.pts wb (workC v r (.slice ab n cb) (.slice aw n cw) tv xv)).star ((VaultA v s).star ((RefA r rs gs (quietT true)).star G)))))) (by ac_rfl)
  obtain ⟨q0, q1, q2, q3, q4, q5, q6, q7, qz⟩ := pts8 hs2.right
  have SP2 := Lib.hid (spare_any hp _ V _ _ hs2 HV.out HN.out.2)
  have HST1 := Lib.hid (HST.out.trans st1)
  clear hs1 hs2 st1 HST SP
  go_wp2
  refine onN_mk ?_
  refine wpQ_nil ⟨?_, ?_⟩
  · refine chk_all _ rfl rfl ?_
    simp only [pick, Same, pkA, pkB, pkC, pkD, pkE, pkF, and_true]
    repeat' (first | apply And.intro | (go_big_quiet_step (fail); exact wpQuiet_nil rfl))
  refine wpRest_act rfl ?_
  go_wp2_with fail
  refine SP2.out.mono ?_
  rintro e w2 ⟨b2, rfl, hs3, st2⟩
  have hs3' := hs3.perm (B := (WholeRow b1 K).star ((WholeRow b2 V).star ((Pr.own hp).star ((Pr.pts w.heap.size (opC kind nn (.slice ak K.length ck) (.slice av V.length cv) ik iv ic is)).star ((Pr.pts wb (workC v r (.slice ab n cb) (.slice aw n cw) tv xv)).star ((VaultA v s).star ((RefA r rs gs (quietT true)).star G))))))) (by ac_rfl)
  obtain ⟨hx, hxq, hxi, hs4⟩ := two_whole (x := ⟨K, V, 0, 0⟩) hs3'
  obtain ⟨_, _, hxe, hxk, hxv⟩ := hxi
  cases hxe
  dsimp only at hxk hxv
  have hs5 := hs4.perm (B := (Pr.pts wb (workC v r (.slice ab n cb) (.slice aw n cw) tv xv)).star ((Pr.pts w.heap.size (opC kind nn (.slice ak K.length ck) (.slice av V.length cv) ik iv ic is)).star ((VaultA v s).star ((Pr.own hx).star ((Pr.own hp).star ((RefA r rs gs (quietT true)).star G)))))) (by ac_rfl)
  have HXQ := Lib.hid hxq
  have HXK := Lib.hid hxk
  have HXV := Lib.hid hxv
  have HS5 := Lib.hid hs5
  have HST2 := Lib.hid (HST1.out.trans st2)
  clear hs3 hs3' hs4 hs5 st2 SP2 HST1 hxq hxk hxv q0 q1 q2 q3 q4 q5 q6 q7 qz
  go_wp2
  refine onN_mk ?_
  refine wpQ_all _ rfl rfl ?_
  simp only [pick, pkA, pkB, pkC, pkD, pkE, pkF]
  iterate 2 (go_big_quiet_step (fail))
  refine wpQuiet_nil ⟨?_, ?_⟩
  · refine chk_all _ rfl rfl ?_
    simp only [pick, Same, pkA, pkB, pkC, pkD, pkE, pkF, and_true]
    repeat' (first | apply And.intro | (go_big_quiet_step (fail); exact wpQuiet_nil rfl))
  refine wpRest_nil ?_
  have hs5 := HS5.out
  obtain ⟨p0, _, _, _, _, pz⟩ := pts6w hs5
  have SL := Lib.hid (store_law v s _ _ hx K V HXK.out HXV.out _ _ (hs5.perm (B := (VaultA v s).star ((Pr.own hx).star ((Pr.pts wb (workC v r (.slice ab n cb) (.slice aw n cw) tv xv)).star ((Pr.pts w.heap.size (opC kind nn (.slice ak K.length ck) (.slice av V.length cv) ik iv ic is)).star ((Pr.own hp).star ((RefA r rs gs (quietT true)).star G)))))) (by ac_rfl)) HB.out.tw.bare (by have := HB.out.pb; omega) (by have := HB.out.vb; omega))
  clear hs5 HS5
  go_wp2_with fail
  refine SL.out.mono ?_
  rintro e w3 ⟨st3, hrel⟩
  have hone : ∃ (kv1 vv1 : Value) (c1 N1 : Int) (X : Pr), e = .returned (.tuple #[itemV kv1 vv1 c1 N1, .int .i64 (storeE s.pool K V)]) ∧ Sto1 v s K V kv1 vv1 c1 N1 X ∧
      Sat (X.star ((Pr.own hx).star ((Pr.pts wb (workC v r (.slice ab n cb) (.slice aw n cw) tv xv)).star ((Pr.pts w.heap.size (opC kind nn (.slice ak K.length ck) (.slice av V.length cv) ik iv ic is)).star ((Pr.own hp).star ((RefA r rs gs (quietT true)).star G)))))) w3 := by
    rcases hrel with ⟨he, rfl, h5⟩ | ⟨he, kv1, vv1, c, s1, ns, rfl, t1, a1, h5⟩
    · exact ⟨_, _, _, _, _, rfl, .inl ⟨he, rfl, rfl, rfl, rfl, rfl⟩, h5⟩
    · obtain ⟨a1', c1', ek, _, _⟩ := Row.read h5
      obtain ⟨a2', c2', ev, _, _⟩ := Row.read h5.right
      exact ⟨kv1, vv1, c, V.length, _, by rw [he], .inr ⟨he, rfl, ⟨_, _, _, ek⟩, ⟨_, _, _, ev⟩, s1, ns, t1, a1, rfl⟩, h5.perm (by ac_rfl)⟩
  obtain ⟨kv1, vv1, c1, N1, X, rfl, hx1, hs6⟩ := hone
  clear hrel SL p0 pz
  obtain ⟨⟨ak1, mk1, ck1, ek1⟩, ⟨av1, mv1, cv1, ev1⟩⟩ := hx1.sl
  subst ek1 ev1
  have HX1 := Lib.hid hx1
  have hs7 := (hs6.alloc (itemC (.slice ak1 mk1 ck1) (.slice av1 mv1 cv1) c1 N1)).perm (B := (Pr.pts wb (workC v r (.slice ab n cb) (.slice aw n cw) tv xv)).star ((Pr.pts w.heap.size (opC kind nn (.slice ak K.length ck) (.slice av V.length cv) ik iv ic is)).star ((Pr.pts w3.heap.size (itemC (.slice ak1 mk1 ck1) (.slice av1 mv1 cv1) c1 N1)).star (X.star ((Pr.own hx).star ((RefA r rs gs (quietT true)).star ((Pr.own hp).star G))))))) (by ac_rfl)
  have HS7 := Lib.hid hs7
  have HST3 := Lib.hid ((HST2.out.trans st3).alloc (itemC (.slice ak1 mk1 ck1) (.slice av1 mv1 cv1) c1 N1))
  clear hs6 hs7 hx1 st3 HST2
  generalize hE : storeE s.pool K V = E at *
  have HE := Lib.hid hE
  clear hE
  go_wp2_with fail
  have T1 := HST3.out
  have T2 := HS7.out
  clear HST3 HS7
  generalize hw4 : w3.alloc (itemC (.slice ak1 mk1 ck1) (.slice av1 mv1 cv1) c1 N1) = w4 at *
  generalize w3.heap.size = I1 at *
  generalize w.heap.size = I0 at *
  have HST4 := Lib.hid T1
  obtain ⟨_, p1, _, _, _, pz⟩ := pts6w T2
  obtain ⟨q0, q1, q2, q3, q4, q5, q6, q7, qz⟩ := pts8 T2.right
  have RB0 := fun (F' : Pr) (w' : World) (hF' : Sat ((RefA r rs gs (quietT true)).star ((Pr.own hp).star F')) w') => rstore_sto r rs gs s HB.out.tw OK.out (by have := HB.out.pb; omega) _ _ hp K V HK.out HV.out F' w' hF'
  rw [HE.out] at RB0
  have RB := Lib.hid RB0
  have HT2 := Lib.hid T2
  clear T1 T2 hw4 RB0
  go_cut [9, 10] from 29 to 40 (fun t9 t10 wx => ∃ (J : Nat) (kv2 vv2 : Value) (c2 N2 : Int) (Y : Pr), t9 = .pointer (some ⟨J, 0, none⟩) ∧ t10 = .int .i64 E ∧ Sto2 r s rs gs K V kv2 vv2 c2 N2 Y ∧ Stays w wx ∧
    Sat ((Pr.pts wb (workC v r (.slice ab n cb) (.slice aw n cw) tv xv)).star ((Pr.pts I0 (opC kind nn (.slice ak K.length ck) (.slice av V.length cv) ik iv ic is)).star ((Pr.pts I1 (itemC (.slice ak1 mk1 ck1) (.slice av1 mv1 cv1) c1 N1)).star ((Pr.pts J (itemC kv2 vv2 c2 N2)).star (X.star (Y.star ((Pr.own hx).star ((Pr.own hp).star G)))))))) wx)
  case first =>
    refine wp_region_forked (sz := 114) (by kernel_rfl) [0, 1, 2, 3, 4, 5, 6, 7] [(12, [], [0, 1, 2, 3, 4, 5, 6, 7], [(8, [9, 10, 11], [0, 1, 2, 4, 6]), (13, [14], [11])]), (8, [9, 10, 11], [0, 1, 2, 4, 6], [(12, [], [0, 1, 2, 4, 6, 9, 10, 11]), (13, [14], [11])])] rfl (by kernel_rfl) (by kernel_rfl) (by kernel_rfl) ?_
    refine wpQ_all _ rfl rfl ?_
    simp only [pick, pkA, pkB, pkC, pkD, pkE, pkF]
    iterate 8 (go_big_quiet_step (fail))
    refine wpQuiet_nil ?_
    intro sx hsx
    rcases List.mem_cons.1 hsx with rfl | hsx
    · have hs8 := HT2.out.drew.alloc (itemC (.slice none 0 0) (.slice none 0 0) 0 0)
      have HS8 := Lib.hid hs8
      have RB1 := Lib.hid (RB.out _ _ (hs8.perm (B := (RefA r rs gs (quietT true)).star ((Pr.own hp).star ((Pr.pts w4.drew.heap.size (itemC (.slice none 0 0) (.slice none 0 0) 0 0)).star ((Pr.pts wb (workC v r (.slice ab n cb) (.slice aw n cw) tv xv)).star ((Pr.pts I0 (opC kind nn (.slice ak K.length ck) (.slice av V.length cv) ik iv ic is)).star ((Pr.pts I1 (itemC (.slice ak1 mk1 ck1) (.slice av1 mv1 cv1) c1 N1)).star (X.star ((Pr.own hx).star G)))))))) (by ac_rfl)))
      clear hs8
      refine wpRest_act rfl ?_
      go_wp2
      refine onN_mk ?_
      refine wpQ_nil ⟨?_, ?_⟩
      · refine chk_all _ rfl rfl ?_
        simp only [pick, Same, pkA, pkB, pkC, pkD, pkE, pkF, and_true]
        repeat' (first | apply And.intro | (go_big_quiet_step (fail); exact wpQuiet_nil rfl))
      refine wpRest_act rfl ?_
      go_wp2_with fail
      refine RB1.out.mono ?_
      rintro e w5 ⟨st5, kv2, vv2, c2, N2, Y, rfl, hs2, hs9⟩
      obtain ⟨⟨ak2, mk2, ck2, ek2⟩, ⟨av2, mv2, cv2, ev2⟩⟩ := hs2.sl
      subst ek2 ev2
      rw [show w4.drew.heap.size = w4.heap.size by simp] at hs9
      have hs10 := hs9.perm (B := (Pr.pts w4.heap.size (itemC (.slice none 0 0) (.slice none 0 0) 0 0)).star ((Pr.pts wb (workC v r (.slice ab n cb) (.slice aw n cw) tv xv)).star ((Pr.pts I0 (opC kind nn (.slice ak K.length ck) (.slice av V.length cv) ik iv ic is)).star ((Pr.pts I1 (itemC (.slice ak1 mk1 ck1) (.slice av1 mv1 cv1) c1 N1)).star (X.star (Y.star ((Pr.own hx).star ((Pr.own hp).star G)))))))) (by ac_rfl)
      obtain ⟨m0, m1, m2, m3, ⟨n0, n1, n2, n3⟩, mz⟩ := pts4 hs10
      have hs11 : Sat ((Pr.pts w4.heap.size (itemC (.slice ak2 mk2 ck2) (.slice av2 mv2 cv2) c2 N2)).star ((Pr.pts wb (workC v r (.slice ab n cb) (.slice aw n cw) tv xv)).star ((Pr.pts I0 (opC kind nn (.slice ak K.length ck) (.slice av V.length cv) ik iv ic is)).star ((Pr.pts I1 (itemC (.slice ak1 mk1 ck1) (.slice av1 mv1 cv1) c1 N1)).star (X.star (Y.star ((Pr.own hx).star ((Pr.own hp).star G)))))))) _ := (((hs10.setCell (i := 0) (.slice ak2 mk2 ck2)).setCell (i := 1) (.slice av2 mv2 cv2)).setCell (i := 2) (.int .i64 c2)).setCell (i := 3) (.int .i64 N2)
      have HEND := Lib.hid (And.intro hs2 (And.intro (((((HST4.out.drew.alloc (itemC (.slice none 0 0) (.slice none 0 0) 0 0)).trans st5).setCell ⟨w4.heap.size, 0, none⟩ (.slice ak2 mk2 ck2)).setCell ⟨w4.heap.size, 1, none⟩ (.slice av2 mv2 cv2)).setCell ⟨w4.heap.size, 2, none⟩ (.int .i64 c2) |>.setCell ⟨w4.heap.size, 3, none⟩ (.int .i64 N2)) hs11))
      clear hs2 hs9 hs10 hs11 st5 RB1 HS8
      go_wp2
      refine onN_mk ?_
      refine wpQ_all _ rfl rfl ?_
      simp only [pick, pkA, pkB, pkC, pkD, pkE, pkF]
      iterate 3 (go_big_quiet_step (fail))
      refine wpQuiet_nil ⟨?_, ?_⟩
      · refine chk_all _ rfl rfl ?_
        simp only [pick, Same, pkA, pkB, pkC, pkD, pkE, pkF, and_true]
        repeat' (first | apply And.intro | (go_big_quiet_step (fail); exact wpQuiet_nil rfl))
      refine wpRest_act rfl ?_
      go_wp2
      refine onN_mk ?_
      refine wpQ_all _ rfl rfl ?_
      simp only [pick, pkA, pkB, pkC, pkD, pkE, pkF]
      iterate 1 (go_big_quiet_step (fail))
      refine wpQuiet_nil ⟨?_, ?_⟩
      · refine chk_all _ rfl rfl ?_
        simp only [pick, Same, pkA, pkB, pkC, pkD, pkE, pkF, and_true]
        repeat' (first | apply And.intro | (go_big_quiet_step (fail); exact wpQuiet_nil rfl))
      refine wpRest_nil ?_
      go_wp2
      go_meet
      exact ⟨_, _, _, _, _, _, rfl, rfl, HEND.out.1, HEND.out.2.1, HEND.out.2.2.perm (by ac_rfl)⟩
    · cases List.mem_singleton.1 hsx
      have RB1 := Lib.hid (RB.out _ _ (HT2.out.drew.perm (B := (RefA r rs gs (quietT true)).star ((Pr.own hp).star ((Pr.pts wb (workC v r (.slice ab n cb) (.slice aw n cw) tv xv)).star ((Pr.pts I0 (opC kind nn (.slice ak K.length ck) (.slice av V.length cv) ik iv ic is)).star ((Pr.pts I1 (itemC (.slice ak1 mk1 ck1) (.slice av1 mv1 cv1) c1 N1)).star (X.star ((Pr.own hx).star G))))))) (by ac_rfl)))
      refine wpRest_act rfl ?_
      go_wp2_with fail
      refine RB1.out.mono ?_
      rintro e w5 ⟨st5, kv2, vv2, c2, N2, Y, rfl, hs2, hs9⟩
      obtain ⟨⟨ak2, mk2, ck2, ek2⟩, ⟨av2, mv2, cv2, ev2⟩⟩ := hs2.sl
      subst ek2 ev2
      have hs10 := (hs9.alloc (itemC (.slice ak2 mk2 ck2) (.slice av2 mv2 cv2) c2 N2)).perm (B := (Pr.pts wb (workC v r (.slice ab n cb) (.slice aw n cw) tv xv)).star ((Pr.pts I0 (opC kind nn (.slice ak K.length ck) (.slice av V.length cv) ik iv ic is)).star ((Pr.pts I1 (itemC (.slice ak1 mk1 ck1) (.slice av1 mv1 cv1) c1 N1)).star ((Pr.pts w5.heap.size (itemC (.slice ak2 mk2 ck2) (.slice av2 mv2 cv2) c2 N2)).star (X.star (Y.star ((Pr.own hx).star ((Pr.own hp).star G)))))))) (by ac_rfl)
      have HEND := Lib.hid (And.intro hs2 (And.intro ((HST4.out.drew.trans st5).alloc (itemC (.slice ak2 mk2 ck2) (.slice av2 mv2 cv2) c2 N2)) hs10))
      clear hs2 hs9 hs10 st5 RB1
      go_wp2
      refine onN_mk ?_
      refine wpQ_all _ rfl rfl ?_
      simp only [pick, pkA, pkB, pkC, pkD, pkE, pkF]
      iterate 3 (go_big_quiet_step (fail))
      refine wpQuiet_nil ⟨?_, ?_⟩
      · refine chk_all _ rfl rfl ?_
        simp only [pick, Same, pkA, pkB, pkC, pkD, pkE, pkF, and_true]
        repeat' (first | apply And.intro | (go_big_quiet_step (fail); exact wpQuiet_nil rfl))
      refine wpRest_act rfl ?_
      go_wp2
      refine onN_mk ?_
      refine wpQ_nil ⟨?_, ?_⟩
      · refine chk_all _ rfl rfl ?_
        simp only [pick, Same, pkA, pkB, pkC, pkD, pkE, pkF, and_true]
        repeat' (first | apply And.intro | (go_big_quiet_step (fail); exact wpQuiet_nil rfl))
      refine wpRest_act rfl ?_
      go_wp2
      refine onN_mk ?_
      refine wpQ_all _ rfl rfl ?_
      simp only [pick, pkA, pkB, pkC, pkD, pkE, pkF]
      iterate 1 (go_big_quiet_step (fail))
      refine wpQuiet_nil ⟨?_, ?_⟩
      · refine chk_all _ rfl rfl ?_
        simp only [pick, Same, pkA, pkB, pkC, pkD, pkE, pkF, and_true]
        repeat' (first | apply And.intro | (go_big_quiet_step (fail); exact wpQuiet_nil rfl))
      refine wpRest_nil ?_
      go_wp2
      go_meet
      exact ⟨_, _, _, _, _, _, rfl, rfl, HEND.out.1, HEND.out.2.1, HEND.out.2.2⟩
  case rest =>
    obtain ⟨J, kv2, vv2, c2, N2, Y, rfl, rfl, hs2, st5, hs8⟩ := hcut
    obtain ⟨⟨ak2, mk2, ck2, ek2⟩, ⟨av2, mv2, cv2, ev2⟩⟩ := hs2.sl
    subst ek2 ev2
    obtain ⟨ec, eN, xc, xs, jr, jfin⟩ := sto_join HB.out OK.out HX1.out hs2
    subst ec eN
    obtain ⟨ha, hb2, i1, i2, l1, l2⟩ := jr ((Pr.pts wb (workC v r (.slice ab n cb) (.slice aw n cw) tv xv)).star ((Pr.pts I0 (opC kind nn (.slice ak K.length ck) (.slice av V.length cv) ik iv ic is)).star ((Pr.pts I1 (itemC (.slice ak1 mk1 ck1) (.slice av1 mv1 cv1) c2 N2)).star ((Pr.pts J (itemC (.slice ak2 mk2 ck2) (.slice av2 mv2 cv2) c2 N2)).star ((Pr.own hx).star ((Pr.own hp).star G)))))) _ (hs8.perm (by ac_rfl))
    have EQ := Lib.hid (eqitem_same ha hb2 _ _ _ i1 i2 (by
      have := HN.out
      unfold stoI
      split
      · dsimp only
        refine ⟨by omega, ?_⟩
        split
        · omega
        · exact Nat.zero_le _
      · exact ⟨Nat.zero_le _, Nat.zero_le _⟩) wc l1 l2)
    have hs9 := hs8.perm (B := (Pr.own hx).star ((Pr.own hp).star ((Pr.pts I0 (opC kind nn (.slice ak K.length ck) (.slice av V.length cv) ik iv ic is)).star ((Pr.pts I1 (itemC (.slice ak1 mk1 ck1) (.slice av1 mv1 cv1) c2 N2)).star ((Pr.pts J (itemC (.slice ak2 mk2 ck2) (.slice av2 mv2 cv2) c2 N2)).star ((Pr.pts wb (workC v r (.slice ab n cb) (.slice aw n cw) tv xv)).star (X.star (Y.star G)))))))) (by ac_rfl)
    obtain ⟨q0, q1, q2, q3, q4, q5, q6, q7, qz⟩ := pts8 hs9.right.right
    obtain ⟨r0, r1, r2, r3, _, rz⟩ := pts4 hs9.right.right.right
    obtain ⟨t0, t1, t2, t3, _, tz⟩ := pts4 hs9.right.right.right.right
    have hs10 := hs9.ofOwn HXQ.out
    rw [Pr.star_assoc] at hs10
    have HS10 := Lib.hid hs10
    have HJF := Lib.hid jfin
    have HST5 := Lib.hid st5
    clear hs2 hs8 hs9 hs10 xc xs jr jfin i1 i2 l1 l2 st5 RB HT2 HST4
    go_wp2_with fail
    refine EQ.out.mono ?_
    rintro e w7 ⟨rfl, o7⟩
    have hs11 := (HS10.out.only o7).perm (B := (WholeRow b1 K).star ((Pr.own hp).star ((WholeRow b2 V).star ((Pr.pts I0 (opC kind nn (.slice ak K.length ck) (.slice av V.length cv) ik iv ic is)).star ((Pr.pts I1 (itemC (.slice ak1 mk1 ck1) (.slice av1 mv1 cv1) c2 N2)).star ((Pr.pts J (itemC (.slice ak2 mk2 ck2) (.slice av2 mv2 cv2) c2 N2)).star ((Pr.pts wb (workC v r (.slice ab n cb) (.slice aw n cw) tv xv)).star (X.star (Y.star G))))))))) (by ac_rfl)
    clear q0 q1 q2 q3 q4 q5 q6 q7 qz r0 r1 r2 r3 rz t0 t1 t2 t3 tz
    obtain ⟨q0, q1, q2, q3, q4, q5, q6, q7, qz⟩ := pts8 hs11.right.right.right
    have KP1 := Lib.hid (kept_any b1 K hp _ HK.out HN.out.1 _ _ hs11)
    have HS11 := Lib.hid hs11
    have HST7 := Lib.hid (HST5.out.trans o7.st)
    clear hs11 o7 HS10 EQ HST5
    go_wp2_with fail
    refine KP1.out.mono ?_
    rintro e w8 ⟨rfl, o8⟩
    have hs12 := (HS11.out.only o8).perm (B := (WholeRow b2 V).star ((Pr.own hp).star ((WholeRow b1 K).star ((Pr.pts I0 (opC kind nn (.slice ak K.length ck) (.slice av V.length cv) ik iv ic is)).star ((Pr.pts I1 (itemC (.slice ak1 mk1 ck1) (.slice av1 mv1 cv1) c2 N2)).star ((Pr.pts J (itemC (.slice ak2 mk2 ck2) (.slice av2 mv2 cv2) c2 N2)).star ((Pr.pts wb (workC v r (.slice ab n cb) (.slice aw n cw) tv xv)).star (X.star (Y.star G))))))))) (by ac_rfl)
    clear q0 q1 q2 q3 q4 q5 q6 q7 qz
    obtain ⟨q0, q1, q2, q3, q4, q5, q6, q7, qz⟩ := pts8 hs12.right.right.right
    have KP2 := Lib.hid (kept_any b2 V hp _ HV.out HN.out.2 _ _ hs12)
    have HS12 := Lib.hid hs12
    have HST8 := Lib.hid (HST7.out.trans o8.st)
    clear hs12 o8 HS11 KP1 HST7
    go_wp2_with fail
    refine KP2.out.mono ?_
    rintro e w9 ⟨rfl, o9⟩
    have hs13 := (HS12.out.only o9)
    have HST9 := Lib.hid (HST8.out.trans o9.st)
    have HS13 := Lib.hid hs13
    clear hs13 o9 HS12 KP2 HST8 q0 q1 q2 q3 q4 q5 q6 q7 qz
    have hs13 := HS13.out
    rw [HG.out, show WholeRow b2 V = XRow b2 0 V from rfl, show WholeRow b1 K = XRow b1 0 K from rfl] at hs13
    have hs14 : OwnL [XRow b2 0 V, XRow b1 0 K, Pr.own hp, Pr.pts I0 (opC kind nn (.slice ak K.length ck) (.slice av V.length cv) ik iv ic is), Pr.pts I1 (itemC (.slice ak1 mk1 ck1) (.slice av1 mv1 cv1) c2 N2), Pr.pts J (itemC (.slice ak2 mk2 ck2) (.slice av2 mv2 cv2) c2 N2), Pr.pts wb (workC v r (.slice ab n cb) (.slice aw n cw) tv xv), X, Y, Row 58 4 (.slice ab n cb) n bs, Row 58 4 (.slice aw n cw) n ws, F] w9 := ⟨hs13.perm (by simp only [starL, Pr.star_emp]; ac_rfl)⟩
    obtain ⟨R2, hR2⟩ : ∃ R2 : List Pr, R2 = [Pr.own hp, Pr.pts I0 (opC kind nn (.slice ak K.length ck) (.slice av V.length cv) ik iv ic is), Pr.pts I1 (itemC (.slice ak1 mk1 ck1) (.slice av1 mv1 cv1) c2 N2), Pr.pts J (itemC (.slice ak2 mk2 ck2) (.slice av2 mv2 cv2) c2 N2), Pr.pts wb (workC v r (.slice ab n cb) (.slice aw n cw) tv xv), X, Y, Row 58 4 (.slice ab n cb) n bs, Row 58 4 (.slice aw n cw) n ws, F] := ⟨_, rfl⟩
    have hs15 : OwnL (XRow b2 0 V :: XRow b1 0 K :: R2) w9 := by rw [hR2]; exact hs14
    have HS15 := Lib.hid hs15
    have HR2 := Lib.hid hR2
    have hVl : V.length ≤ 140737488351232 := HN.out.2
    have hKl : K.length ≤ 140737488351232 := HN.out.1
    clear hs13 hs14 hs15 hR2 HS13
    go_wp2_with fail
    go_loopw [11] (fun i wr => ∃ k : Nat, k ≤ V.length ∧ i = .int .i64 k ∧ Stays w wr ∧ OwnL (XRow b2 k V :: XRow b1 0 K :: R2) wr) (fun i _ => V.length - (intOf i).toNat)
    case atStart => exact ⟨0, Nat.zero_le _, rfl, HST9.out, HS15.out⟩
    case round =>
      obtain ⟨k, hk, rfl, hst, hs⟩ := hrel
      clear HS15 HST9
      rcases Nat.lt_or_ge k V.length with hlt | hge
      · obtain ⟨c0, f0, n0⟩ := xrow_cell hs.sat hlt
        have z0 := World.block_lt_of_cell? _ _ c0
        have N0 := Lib.hid n0
        have HSTK := Lib.hid hst
        clear hs n0 hst
        have hx : x17 (V.getD k 0) = bits .xor .u8 (V.getD k 0) 17 := rfl
        have HX := Lib.hid hx
        clear hx
        generalize V.getD k 0 = zz at *
        go_wp2
        exact ⟨⟨k + 1, by omega, congrArg (Value.int .i64) (by omega), HSTK.out.setCell _ _, ⟨N0.out⟩⟩, by simp [intOf]; omega⟩
      · have HS16 := Lib.hid hs.drop
        have HST10 := Lib.hid hst
        clear hs hst
        go_wp2
        go_loopw [12] (fun i wr => ∃ k : Nat, k ≤ K.length ∧ i = .int .i64 k ∧ Stays w wr ∧ OwnL (XRow b1 k K :: R2) wr) (fun i _ => K.length - (intOf i).toNat)
        case atStart => exact ⟨0, Nat.zero_le _, rfl, HST10.out, HS16.out⟩
        case round =>
          obtain ⟨k, hk, rfl, hst, hs⟩ := hrel
          clear HS16 HST10
          rcases Nat.lt_or_ge k K.length with hlt | hge
          · obtain ⟨c0, f0, n0⟩ := xrow_cell hs.sat hlt
            have z0 := World.block_lt_of_cell? _ _ c0
            have N0 := Lib.hid n0
            have HSTK := Lib.hid hst
            clear hs n0 hst
            generalize K.getD k 0 = zz at *
            go_wp2
            exact ⟨⟨k + 1, by omega, congrArg (Value.int .i64) (by omega), HSTK.out.setCell _ _, ⟨N0.out⟩⟩, by simp [intOf]; omega⟩
          · have HS16 := Lib.hid hs.drop
            have HST10 := Lib.hid hst
            clear hs hst
            obtain ⟨s', rs', gs', hb', hcase⟩ := HJF.out
            have HB' := Lib.hid hb'
            clear hb' HJF
            rcases hcase with ⟨hne, eX, eY⟩ | ⟨he0, h', hi', eX, eY⟩
            · rw [HE.out] at hne
              have hs17 := HS16.out
              rw [HR2.out, eX, eY] at hs17
              have HS17 := Lib.hid hs17
              clear hs17 HS16 HR2 eX eY
              go_wp2
              go_ret
              exact ⟨rfl, HST10.out, s', rs', gs', HB'.out, .inl HS17.out.end7⟩
            · have he1 := he0
              rw [HE.out] at he1
              subst he1
              have hs17 := HS16.out
              rw [HR2.out, eX, eY] at hs17
              have hs18 := hs17.norm
              have c17 := hs18.facts
              simp only [CellsAt, Nat.reduceAdd, and_true] at c17
              obtain ⟨j0, hj, hy0, hy1, hy2⟩ := info_parts infoItem
              have A1 := Lib.hid ((hs18.alloc (.cells #[.slice ak1 mk1 ck1, .slice av1 mv1 cv1, .int .i64 c2, .int .i64 N2] 58)).drop.drew.pull1 (A1 := Row 58 4 (.slice ab n cb) n bs))
              have hnew := Lib.hid (show ∀ j u, [Value.slice ak1 mk1 ck1, .slice av1 mv1 cv1, .int .i64 c2, .int .i64 N2][j]? = some u → (wr.alloc (.cells #[.slice ak1 mk1 ck1, .slice av1 mv1 cv1, .int .i64 c2, .int .i64 N2] 58)).drew.cell? ((⟨wr.heap.size, 0, none⟩ : Addr).add j) = some u from fresh_cells wr [.slice ak1 mk1 ck1, .slice av1 mv1 cv1, .int .i64 c2, .int .i64 N2] 58)
              have HSTA := Lib.hid (HST10.out.alloc (.cells #[.slice ak1 mk1 ck1, .slice av1 mv1 cv1, .int .i64 c2, .int .i64 N2] 58)).drew
              clear hs17 hs18 HS16 HST10 eX eY HR2
              go_wp2_with fail
              refine wp_region_staged (sz := 114) (by kernel_rfl) [0, 1, 2, 3, 4, 5] [(6, [], [0, 1, 2, 3, 4]), (7, [8, 9], [0, 1, 2, 3]), (10, [], [8])] rfl (by kernel_rfl) (by kernel_rfl) (by kernel_rfl) ?_
              refine wpQ_all _ rfl rfl ?_
              simp only [pick, pkA, pkB, pkC, pkD, pkE, pkF]
              iterate 6 (go_big_quiet_step (fail))
              refine wpQuiet_nil ?_
              refine wpRest_act rfl ?_
              go_wp2
              refine onN_mk ?_
              refine wpQ_nil ⟨?_, ?_⟩
              · refine chk_all _ rfl rfl ?_
                simp only [pick, Same, pkA, pkB, pkC, pkD, pkE, pkF, and_true]
                repeat' (first | apply And.intro | (go_big_quiet_step (fail); exact wpQuiet_nil rfl))
              refine wpRest_act rfl ?_
              refine wpList_append_slK rfl _ _ _ rfl 58 j0 (.agg #[.slice none 0 0, .slice none 0 0, .int .i64 0, .int .i64 0]) 4 64 Tryz.underlying28 hj hy0 hy1 hy2 rfl _ _ _ rfl A1.out ⟨wr.heap.size, 0, none⟩ 1 1 [.slice ak1 mk1 ck1, .slice av1 mv1 cv1, .int .i64 c2, .int .i64 N2] rfl rfl hnew.out (by simp [Value.oneCell']) (by simp only [maxLen]; omega) (by omega) (fun v7 w7 hs7 hg7 K0 hK0 => ?_)
              obtain ⟨a7, c7, e7, _, _⟩ := Row.read hs7
              subst e7
              go_simp
              refine hK0 _ ?_
              clear hK0 K0
              have HS7 := Lib.hid (OwnL.of1 hs7)
              have HST7 := Lib.hid (HSTA.out.of_grown hg7)
              clear hs7 hg7 A1 hnew HSTA c17
              have c18 := HS7.out.facts
              simp only [CellsAt, Nat.reduceAdd, and_true] at c18
              refine wpList_nil ?_
              refine onN_mk ?_
              refine wpQ_all _ rfl rfl ?_
              simp only [pick, pkA, pkB, pkC, pkD, pkE, pkF]
              iterate 2 (go_big_quiet_step (fail))
              refine wpQuiet_nil ⟨?_, ?_⟩
              · refine chk_all _ rfl rfl ?_
                simp only [pick, Same, pkA, pkB, pkC, pkD, pkE, pkF, and_true]
                repeat' (first | apply And.intro | (go_big_quiet_step (fail); exact wpQuiet_nil rfl))
              refine wpRest_act rfl ?_
              go_wp2
              refine onN_mk ?_
              refine wpQ_nil ⟨?_, ?_⟩
              · refine chk_all _ rfl rfl ?_
                simp only [pick, Same, pkA, pkB, pkC, pkD, pkE, pkF, and_true]
                repeat' (first | apply And.intro | (go_big_quiet_step (fail); exact wpQuiet_nil rfl))
              refine wpRest_nil ?_
              have hs19 := (HS7.out.set wb 2 (.slice a7 (n + 1) c7))
              have HST8 := Lib.hid (HST7.out.setCell ⟨wb, 2, none⟩ (.slice a7 (n + 1) c7))
              clear c18 HS7 HST7
              generalize hw8 : w7.setCell ⟨wb, 2, none⟩ (.slice a7 (n + 1) c7) = w8 at *
              have c19 := hs19.facts
              simp only [CellsAt, Nat.reduceAdd, and_true] at c19
              have A1 := Lib.hid ((hs19.alloc (.cells #[.slice ak2 mk2 ck2, .slice av2 mv2 cv2, .int .i64 c2, .int .i64 N2] 58)).drop.drew.pull1 (A1 := Row 58 4 (.slice aw n cw) n ws))
              have hnew := Lib.hid (show ∀ j u, [Value.slice ak2 mk2 ck2, .slice av2 mv2 cv2, .int .i64 c2, .int .i64 N2][j]? = some u → (w8.alloc (.cells #[.slice ak2 mk2 ck2, .slice av2 mv2 cv2, .int .i64 c2, .int .i64 N2] 58)).drew.cell? ((⟨w8.heap.size, 0, none⟩ : Addr).add j) = some u from fresh_cells w8 [.slice ak2 mk2 ck2, .slice av2 mv2 cv2, .int .i64 c2, .int .i64 N2] 58)
              have HSTA := Lib.hid (HST8.out.alloc (.cells #[.slice ak2 mk2 ck2, .slice av2 mv2 cv2, .int .i64 c2, .int .i64 N2] 58)).drew
              clear hs19 HST8 hw8
              go_wp2_with fail
              refine wp_region_staged (sz := 114) (by kernel_rfl) [0, 1, 2, 3, 4, 5] [(6, [], [0, 1, 2, 3, 4]), (7, [8, 9], [0, 1, 2, 3]), (10, [], [8])] rfl (by kernel_rfl) (by kernel_rfl) (by kernel_rfl) ?_
              refine wpQ_all _ rfl rfl ?_
              simp only [pick, pkA, pkB, pkC, pkD, pkE, pkF]
              iterate 6 (go_big_quiet_step (fail))
              refine wpQuiet_nil ?_
              refine wpRest_act rfl ?_
              go_wp2
              refine onN_mk ?_
              refine wpQ_nil ⟨?_, ?_⟩
              · refine chk_all _ rfl rfl ?_
                simp only [pick, Same, pkA, pkB, pkC, pkD, pkE, pkF, and_true]
                repeat' (first | apply And.intro | (go_big_quiet_step (fail); exact wpQuiet_nil rfl))
              refine wpRest_act rfl ?_
              refine wpList_append_slK rfl _ _ _ rfl 58 j0 (.agg #[.slice none 0 0, .slice none 0 0, .int .i64 0, .int .i64 0]) 4 64 Tryz.underlying28 hj hy0 hy1 hy2 rfl _ _ _ rfl A1.out ⟨w8.heap.size, 0, none⟩ 1 1 [.slice ak2 mk2 ck2, .slice av2 mv2 cv2, .int .i64 c2, .int .i64 N2] rfl rfl hnew.out (by simp [Value.oneCell']) (by simp only [maxLen]; omega) (by omega) (fun v9 w9 hs9 hg9 K0 hK0 => ?_)
              obtain ⟨a9, c9, e9, _, _⟩ := Row.read hs9
              subst e9
              go_simp
              refine hK0 _ ?_
              clear hK0 K0
              have HS9 := Lib.hid (OwnL.of1 hs9)
              have HST9 := Lib.hid (HSTA.out.of_grown hg9)
              clear hs9 hg9 A1 hnew HSTA c19
              have c20 := HS9.out.facts
              simp only [CellsAt, Nat.reduceAdd, and_true] at c20
              refine wpList_nil ?_
              refine onN_mk ?_
              refine wpQ_all _ rfl rfl ?_
              simp only [pick, pkA, pkB, pkC, pkD, pkE, pkF]
              iterate 2 (go_big_quiet_step (fail))
              refine wpQuiet_nil ⟨?_, ?_⟩
              · refine chk_all _ rfl rfl ?_
                simp only [pick, Same, pkA, pkB, pkC, pkD, pkE, pkF, and_true]
                repeat' (first | apply And.intro | (go_big_quiet_step (fail); exact wpQuiet_nil rfl))
              refine wpRest_act rfl ?_
              go_wp2
              refine onN_mk ?_
              refine wpQ_nil ⟨?_, ?_⟩
              · refine chk_all _ rfl rfl ?_
                simp only [pick, Same, pkA, pkB, pkC, pkD, pkE, pkF, and_true]
                repeat' (first | apply And.intro | (go_big_quiet_step (fail); exact wpQuiet_nil rfl))
              refine wpRest_nil ?_
              go_wp2
              go_ret
              have h20 := HS9.out.set wb 3 (.slice a9 (n + 1) c9)
              have hne : storeE s.pool K V = 0 := HE.out
              have hkl : K.length ≤ 24 ∧ V.length ≤ 3840 := by
                unfold storeE at hne
                split at hne
                · cases hne
                · split at hne
                  · cases hne
                  · omega
              have e2 : N2 = V.length := by
                rcases HX1.out with ⟨h0, _⟩ | ⟨_, h0, _⟩
                · exact absurd hne h0
                · exact h0
              subst e2
              refine ⟨rfl, HST9.out.setCell _ _, s', rs', gs', HB'.out, .inr ⟨.slice ak1 mk1 ck1, .slice av1 mv1 cv1, .slice ak2 mk2 ck2, .slice av2 mv2 cv2, c2, h', .slice a7 (n + 1) c7, .slice a9 (n + 1) c9, hi', hkl.1, hkl.2, ?_⟩⟩
              exact h20.end10
end Go.Proofs.YtbobcmimkonnoaaGreat.lawSto2
namespace Go.Cop
open Go.Sl
/-- An item of both books. -/
structure BE where
 K : List Int
 V : List Int
 c : Int
 kv1 : Value
 vv1 : Value
 kv2 : Value
 vv2 : Value
 h : Hp
/-- What was told by both. -/
structure TE where
 o : Value
 c : Value
 V : List Int
end Go.Cop
namespace Go.Proofs.YtbobcmimkonnoaaGreat.work
open ChangeShapes WideShapes ChangeAt RowKit Sl Cop pool2 pool9 clone page vault1 vault2 items copyP ref1 ref2 law1 blob1 blob4 lawItem lawSto1
abbrev cells1 (e : BE) : List Value := [e.kv1, e.vv1, .int .i64 e.c, .int .i64 e.V.length]
abbrev cells2 (e : BE) : List Value := [e.kv2, e.vv2, .int .i64 e.c, .int .i64 e.V.length]
def beOf (e : BE) : Pr := (BytesRow e.kv1 e.K).star ((BytesRow e.vv1 (shortV e.V)).star (Pr.own e.h))
def teOf (e : TE) : Pr := (BytesRow e.o e.V).star (BytesRow e.c e.V)
def BookOk (bs : List BE) : Prop := ∀ e ∈ bs, ItemIn e.h (itemV e.kv2 e.vv2 e.c e.V.length) (storedI e.K e.V e.c) ∧ e.K.length ≤ 24 ∧ e.V.length ≤ 3840
def TextOk (ts : List TE) : Prop := ts.length ≤ 30 ∧ ∀ e ∈ ts, e.V.length ≤ 3840
abbrev booked (bs : List BE) : List ItemV := bs.map fun e => storedI e.K e.V e.c
/-- All that the work holds. -/
abbrev workL (wb v r : Nat) (bv wv tv xv : Value) (bs : List BE) (ts : List TE) (s : VaultS) (rs : PoolS) (gs : List PageV) (R : List Pr) : List Pr :=
 Pr.pts wb (workC v r bv wv tv xv) :: Row 58 4 bv bs.length (bs.flatMap cells1) :: Row 58 4 wv bs.length (bs.flatMap cells2) :: Row 29 1 tv ts.length (ts.map (·.o)) :: Row 29 1 xv ts.length (ts.map (·.c)) ::
  big beOf bs :: big teOf ts :: VaultA v s :: RefA r rs gs (quietT true) :: R
theorem big_in {α : Type} {f : α → Pr} : ∀ {l : List α} {h : Hp}, big f l h → ∀ x ∈ l, ∃ a, f x a ∧ a.sub h
 | [], _, _, _, hx => by cases hx
 | y :: l, h, hb, x, hx => by
  obtain ⟨a, b, ha, hb', s1, s2⟩ := star_sub (show ((f y).star (big f l)) h from hb)
  rcases List.mem_cons.1 hx with rfl | hx
  · exact ⟨a, ha, s1⟩
  · obtain ⟨c, hc, s3⟩ := big_in hb' x hx
    exact ⟨c, hc, s3.trans s2⟩
theorem zip_cells : ∀ (bs : List BE), (((bs.map fun e => (e.kv2, e.vv2)).zip (booked bs)).flatMap fun x => [x.1.1, x.1.2, Value.int .i64 x.2.child, .int .i64 x.2.size]) = bs.flatMap cells2
 | [] => rfl
 | e :: bs => by
  have := zip_cells bs
  simp only [booked] at this
  simp only [booked, List.map_cons, List.zip_cons_cons, List.flatMap_cons, this]
/-- The document's book reads as the items. -/
theorem want_in {T : Nat} {wv : Value} {bs : List BE} {h : Hp} (hb : ((Row T 4 wv bs.length (bs.flatMap cells2)).star (big beOf bs)) h) (ok : BookOk bs) : ItemsIn h wv (booked bs) := by
 obtain ⟨a, b, ha, hb', s1, s2⟩ := star_sub hb
 refine ⟨bs.map fun e => (e.kv2, e.vv2), by simp, ?_, fun i hx hl => ?_⟩
 · rw [zip_cells, List.length_map]
   exact (Row.rowIn ha).sub s1
 · have hi : i < bs.length := by simpa using hl
   obtain ⟨c, hc, s3⟩ := big_in hb' bs[i] (List.getElem_mem hi)
   obtain ⟨_, y, _, hy, _, s4⟩ := star_sub (show ((BytesRow bs[i].kv1 bs[i].K).star ((BytesRow bs[i].vv1 (shortV bs[i].V)).star (Pr.own bs[i].h))) c from hc)
   obtain ⟨_, z, _, hz, _, s5⟩ := star_sub hy
   cases hz
   obtain ⟨_, _, e1, h1, h2⟩ := (ok bs[i] (List.getElem_mem hi)).1
   cases e1
   simp only [List.getElem_map]
   exact ⟨h1.sub ((s5.trans s4).trans (s3.trans s2)), h2.sub ((s5.trans s4).trans (s3.trans s2))⟩
theorem booked_len {bs : List BE} (ok : BookOk bs) (n : Int) : (bookAt (booked bs) n).key.length ≤ 24 ∧ (bookAt (booked bs) n).value.length ≤ 3840 := by
 unfold bookAt
 split
 · rw [List.getD_eq_getElem?_getD]
   cases h : (booked bs)[n.toNat]? with
   | none => exact ⟨by simp, by simp⟩
   | some x =>
    simp only [Option.getD_some]
    obtain ⟨e, he, rfl⟩ := List.mem_map.1 (List.mem_of_getElem? h)
    obtain ⟨_, h1, h2⟩ := ok e he
    refine ⟨h1, ?_⟩
    dsimp only
    split
    · exact h2
    · simp
 · exact ⟨by simp, by simp⟩
end Go.Proofs.YtbobcmimkonnoaaGreat.work
