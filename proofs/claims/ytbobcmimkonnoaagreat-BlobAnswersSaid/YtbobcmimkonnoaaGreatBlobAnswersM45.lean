import Derived.Test.YtbobcmimkonnoaaGreatBlobAnswersM44
import Derived.Test.YtbobcmimkonnoaaGreatBlobAnswersM13
import Derived.Test.YtbobcmimkonnoaaGreatBlobAnswersM01
namespace Go.Proofs.YtbobcmimkonnoaaGreat.ans2
open ChangeShapes WideShapes ChangeAt RowKit Sl Cop pool2 pool5 pool9 clone page eqb vault1 vault2 counts items copyP vload vloadLaw ref1 ref2 rcopy2 rload eqp looks law1 Go.Proofs.YtbobcmimkonnoaaGreat.begun alike close blob1 blob3 lawSto1 work doL apartL ops ans1 minSl
def Held (wb v r : Nat) (h : Hp) (F : Pr) (i : Nat) (w : World) : Prop :=
 ∃ bv wv tv xv bs ts s rs gs, Both s rs gs (60 - i) ∧ BookOk bs ∧ TextOk ts ∧ bs.length ≤ i ∧ OwnL (workL wb v r bv wv tv xv bs ts s rs gs [Pr.own h, F]) w
def OpFits (o : OpV) : Prop := (-9223372036854775808 ≤ o.n ∧ o.n ≤ 9223372036854775807) ∧ (o.K.length ≤ 140737488351232 ∧ o.V.length ≤ 140737488351232) ∧ (o.x.key.length ≤ 140737488351232 ∧ o.x.value.length ≤ 140737488351232)
set_option maxRecDepth 100000 in
set_option maxHeartbeats 16000000 in
theorem answers_walk (pages refs : Int) (vc vl vo : Value) (cs : List Int) (l : List NumV) (ops : List OpV) (w : World) (hx : Ints (heapOf w) vc cs) (hl : NumsIn (heapOf w) vl l) (hu : ∀ x ∈ l, ∀ y ∈ x.page.items, U8 y.key) (ho : OpsIn (heapOf w) vo ops) (hof : ∀ o ∈ ops, OpFits o) :
 Calls Tryz.prog 6 #[.agg #[.int .i64 pages, .int .i64 refs, vc, vl], vo] w fun e w' => e = .returned (.bool true) ∧ Sat (Pr.own (heapOf w)) w' ∧ Stays w w' := by
 obtain ⟨ac, cc, rfl, _⟩ := ints_rd hx
 obtain ⟨al, cl, rfl, _⟩ := nums_rd hl
 obtain ⟨ao, co, rfl, hoc, hom, rd⟩ := ops_rd ho
 obtain ⟨n, hn⟩ : ∃ n : Nat, n = min ops.length 60 := ⟨_, rfl⟩
 have hmin : min (ops.length : Int) 60 = (n : Int) := by omega
 have hnc : n ≤ co := by omega
 have hn2 : n ≤ 60 := by omega
 have hn3 : n ≤ ops.length := by omega
 have hs0 : OwnL [Pr.pts w.heap.size (beginC pages refs (.slice ac cs.length cc) (.slice al l.length cl)), Pr.own (heapOf w)] (w.alloc (beginC pages refs (.slice ac cs.length cc) (.slice al l.length cl))) := (OwnL.in0 (sat_heap w)).alloc _
 have X := Lib.hid (fixed_yes _ _ hs0.sat)
 have HST := Lib.hid ((Stays.refl w).alloc (beginC pages refs (.slice ac cs.length cc) (.slice al l.length cl)))
 have BG := Lib.hid (fun F w' hF => begun_any pages refs (heapOf w) _ _ cs l hx hl hu F w' hF)
 have RD := Lib.hid rd
 have HOF := Lib.hid hof
 clear hx hl hu hs0 ho hoc hom hn rd hof
 go_enter Tryz.func6, Tryz.ntmps6
 go_wp2_with (first | refine wpList_min rfl _ _ rfl rfl (ops.length : Int) 60 (n : Int) hmin.symm rfl rfl ?_ | refine wpList_slice_to rfl _ _ rfl ao ops.length co n hnc rfl rfl ?_)
 refine X.out.mono ?_
 rintro e w1 ⟨rfl, hs1, st1⟩
 have hs2 : OwnL [Pr.pts w.heap.size (beginC pages refs (.slice ac cs.length cc) (.slice al l.length cl)), Pr.own (heapOf w)] w1 := ⟨hs1⟩
 have c1 := hs2.facts
 simp only [CellsAt, Nat.reduceAdd, and_true] at c1
 have B1 := Lib.hid (BG.out _ _ (hs2.pull1 (A1 := Pr.own (heapOf w))))
 have HST1 := Lib.hid (HST.out.trans st1)
 clear hs1 hs2 st1 BG X
 go_wp2_with fail
 refine B1.out.mono ?_
 rintro e w2 ⟨st2, p, rfl, (⟨rfl, hs2⟩ | ⟨wb, v, r, refs', cs', on, rfl, ⟨hr, hcr⟩, hs2⟩)⟩
 · have HS2 := Lib.hid hs2.left
   clear hs2
   go_wp2
   go_ret
   exact ⟨rfl, HS2.out, HST1.out.trans st2⟩
 · have hs3 := OwnL.of4 hs2
   have okp := (vault_ok (hs3.pull1 (A1 := VaultA v (loadV refs' cs' on)))).1
   have hb0 := both_load hr hcr okp
   obtain ⟨F, hF⟩ : ∃ F, F = Pr.pts w.heap.size (beginC pages refs (.slice ac cs.length cc) (.slice al l.length cl)) := ⟨_, rfl⟩
   rw [← hF] at hs3
   have hs4 : OwnL (workL wb v r nilS nilS nilS nilS [] [] (loadV refs' cs' on) (poolOf refs' cs' 0) (pgsOf cs'.length on) [Pr.own (heapOf w), F]) w2 := by
    have e1 : ∀ T k : Nat, Row T k nilS 0 [] = Pr.emp := fun T k => Row.nil T k
    refine ⟨?_⟩
    show Sat ((Pr.pts wb (workC v r nilS nilS nilS nilS)).star ((Row _ 4 nilS 0 []).star ((Row _ 4 nilS 0 []).star ((Row _ 1 nilS 0 []).star ((Row _ 1 nilS 0 []).star (Pr.emp.star (Pr.emp.star (starL [VaultA v (loadV refs' cs' on), RefA r (poolOf refs' cs' 0) (pgsOf cs'.length on) (quietT true), Pr.own (heapOf w), F]))))))))  w2
    rw [e1, e1, Pr.emp_star, Pr.emp_star, Pr.emp_star, Pr.emp_star, Pr.emp_star, Pr.emp_star]
    exact hs3.sat
   have HELD := Lib.hid (show Held wb v r (heapOf w) F 0 w2 from ⟨_, _, _, _, [], [], _, _, _, hb0, fun e he => (by cases he), ⟨by simp, fun e he => (by cases he)⟩, by simp, hs4⟩)
   have HST2 := Lib.hid (HST1.out.trans st2)
   clear hs2 hs3 hs4 hb0 okp hr hcr hF c1 B1 HST1 st2
   go_wp2
   go_loopw [7] (fun i wr => ∃ k : Nat, k ≤ n ∧ i = .int .i64 k ∧ Stays w wr ∧ Held wb v r (heapOf w) F k wr) (fun i _ => n - (intOf i).toNat)
   case atStart => exact ⟨0, Nat.zero_le _, rfl, HST2.out, HELD.out⟩
   case round =>
    obtain ⟨i, hi, rfl, hst, ⟨bv, wv, tv, xv, bs, ts, s, rs, gs, hb, hbk, htx, hbl, hs⟩⟩ := hrel
    clear HELD HST2
    rcases Nat.lt_or_ge i n with hlt | hge
    · have hio : i < ops.length := by omega
      obtain ⟨b, off, ak, av, ik, iw, ck, cv, cik, ciw, rfl, ⟨ob1, ob2, ob3, ob4⟩, cells⟩ := RD.out i hio
      obtain ⟨of1, of2, of3⟩ := HOF.out ops[i] (List.getElem_mem hio)
      have k8 := cells wr (hs.le (a := heapOf w))
      have z0 := World.block_lt_of_cell? _ _ k8.1
      have D := Lib.hid (do_any wb v r bv wv tv xv bs ts s rs gs (60 - i - 1) (by rw [show 60 - i - 1 + 1 = 60 - i by omega]; exact hb) hbk htx (by omega) ops[i].kind ops[i].n of1 ak av ik iw _ _ _ _ ck cv cik ciw (heapOf w) ops[i].K ops[i].V ops[i].x ob1 ob2 of2 ⟨_, _, rfl, ob3, ob4⟩ of3 F wr.drew hs.drew)
      have HST3 := Lib.hid hst
      clear cells ob1 ob2 ob3 ob4 of1 of2 of3 hs hb hbk htx hst
      generalize ops[i] = O at *
      go_wp2_with fail
      refine wp_region_staged (sz := 149) (by kernel_rfl) [0, 1, 2, 3, 4] [(5, [6, 7, 8, 9, 10, 11, 12, 13, 14, 16, 17, 18, 19], [1, 2, 3]), (15, [], [1, 2, 3, 6, 8, 9, 10, 11, 12, 13, 16, 17, 18, 19]), (20, [], [1, 2, 3, 6, 8, 9, 10, 11, 12, 13, 16, 17, 18]), (21, [22, 23], [1, 2, 3, 6, 8, 9, 10, 11, 12, 13, 16, 17, 18])] rfl (by kernel_rfl) (by kernel_rfl) (by kernel_rfl) ?_
      refine wpQ_all _ rfl rfl ?_
      simp only [pick, pkA, pkB, pkC, pkD, pkE, pkF]
      iterate 5 (go_big_quiet_step (fail))
      refine wpQuiet_nil ?_
      refine wpRest_act rfl ?_
      go_wp2_with fail
      refine D.out.mono ?_
      rintro e w3 ⟨rfl, st3, bv', wv', tv', xv', bs', ts', s', rs', gs', hb', hbk', htx', hbl', hs5⟩
      obtain ⟨x, ok, hs6⟩ := vault_open (v := v) (s := s') hs5
      have c6 := hs6.facts
      simp only [CellsAt, Nat.reduceAdd, and_true] at c6
      have okp := (vault_ok (hs5.pull1 (A1 := VaultA v s'))).1
      have CA := counts_A x.p s'.pool _ _ hs6.pull1
      rw [← hb'.tw.cs] at CA
      have HCA := Lib.hid CA
      have hn5 : rs'.counts.length ≤ 65536 := by rw [hb'.tw.cs]; exact okp.n2
      have HB' := Lib.hid hb'
      have HBK' := Lib.hid hbk'
      have HTX' := Lib.hid htx'
      have OK := Lib.hid ok
      have HST4 := Lib.hid (HST3.out.drew.trans st3)
      clear k8 z0 D HST3 hs5 hs6 hb' hbk' htx' ok okp CA st3
      go_wp2
      refine onN_mk ?_
      refine wpQ_all _ rfl rfl ?_
      simp only [pick, pkA, pkB, pkC, pkD, pkE, pkF]
      iterate 13 (go_big_quiet_step (fail))
      refine wpQuiet_nil ⟨?_, ?_⟩
      · refine chk_all _ rfl rfl ?_
        simp only [pick, Same, pkA, pkB, pkC, pkD, pkE, pkF, and_true]
        repeat' (first | apply And.intro | (go_big_quiet_step (fail); exact wpQuiet_nil rfl))
      refine wpRest_act rfl ?_
      go_wp2_with fail
      refine HCA.out.mono ?_
      rintro e w4 ⟨cv1, rfl, hs7, st4⟩
      obtain ⟨ac1, cc1, rfl⟩ := Row.shape hs7
      have hs8 := OwnL.of2 hs7
      have RC := Lib.hid (rcounts_any r rs' gs' (quietT true) _ _ hs8.pull1)
      have HST5 := Lib.hid (HST4.out.trans st4)
      clear c6
      have c6 := hs8.facts
      simp only [CellsAt, Nat.reduceAdd, and_true] at c6
      clear hs7 hs8 HCA HST4 st4
      go_wp2
      refine onN_mk ?_
      refine wpQ_nil ⟨?_, ?_⟩
      · refine chk_all _ rfl rfl ?_
        simp only [pick, Same, pkA, pkB, pkC, pkD, pkE, pkF, and_true]
        repeat' (first | apply And.intro | (go_big_quiet_step (fail); exact wpQuiet_nil rfl))
      refine wpRest_act rfl ?_
      go_wp2_with fail
      refine RC.out.mono ?_
      rintro e w5 ⟨cv2, rfl, hs9, st5⟩
      obtain ⟨ac2, cc2, rfl⟩ := Row.shape hs9
      have hs10 := OwnL.of2 hs9
      obtain ⟨a1, i1, l1⟩ := ints_le (hs10.pull1 (A1 := IntsRow (.slice ac1 rs'.counts.length cc1) rs'.counts))
      obtain ⟨a2, i2, l2⟩ := ints_le (hs10.pull1 (A1 := IntsRow (.slice ac2 rs'.counts.length cc2) rs'.counts))
      have EI := Lib.hid (eqints_same a1 a2 _ _ rs'.counts i1 i2 hn5 w5 l1 l2)
      have HS10 := Lib.hid hs10
      have HST6 := Lib.hid (HST5.out.trans st5)
      clear c6
      have c6 := hs10.facts
      simp only [CellsAt, Nat.reduceAdd, and_true] at c6
      clear hs9 hs10 i1 i2 l1 l2 RC HST5 st5
      go_wp2
      refine onN_mk ?_
      refine wpQ_nil ⟨?_, ?_⟩
      · refine chk_all _ rfl rfl ?_
        simp only [pick, Same, pkA, pkB, pkC, pkD, pkE, pkF, and_true]
        repeat' (first | apply And.intro | (go_big_quiet_step (fail); exact wpQuiet_nil rfl))
      refine wpRest_act rfl ?_
      go_wp2_with fail
      refine EI.out.mono ?_
      rintro e w6 ⟨rfl, oe⟩
      have hs11 := vault_close (v := v) (s := s') (x := x) OK.out (HS10.out.ext oe.heap)
      have HS11 := Lib.hid hs11
      have HST7 := Lib.hid (HST6.out.trans oe.st)
      clear c6
      have c6 := (HS10.out.ext oe.heap).facts
      simp only [CellsAt, Nat.reduceAdd, and_true] at c6
      clear hs11 oe HS10 HST6 EI OK
      go_wp2
      refine onN_mk ?_
      refine wpQ_all _ rfl rfl ?_
      simp only [pick, pkA, pkB, pkC, pkD, pkE, pkF]
      iterate 2 (go_big_quiet_step (fail))
      refine wpQuiet_nil ⟨?_, ?_⟩
      · refine chk_all _ rfl rfl ?_
        simp only [pick, Same, pkA, pkB, pkC, pkD, pkE, pkF, and_true]
        repeat' (first | apply And.intro | (go_big_quiet_step (fail); exact wpQuiet_nil rfl))
      refine wpRest_nil ?_
      clear c6
      go_wp2
      go_roundw
      case rel => exact ⟨i + 1, by omega, congrArg (Value.int .i64) (by omega), HST7.out, bv', wv', tv', xv', bs', ts', s', rs', gs', by rw [show 60 - (i + 1) = 60 - i - 1 by omega]; exact HB'.out, HBK'.out, HTX'.out, by omega, HS11.out.to⟩
      case measure => simp [intOf]; omega
    · have hin : i = n := by omega
      subst hin
      obtain ⟨ab, cb, rfl⟩ := Row.shape hs.drop.sat
      obtain ⟨aw, cw, rfl⟩ := Row.shape hs.drop.drop.sat
      obtain ⟨at', ct, rfl⟩ := Row.shape hs.drop.drop.drop.sat
      obtain ⟨ax, cx, rfl⟩ := Row.shape hs.drop.drop.drop.drop.sat
      have hbl3 : (bs.length : Int) ≤ 60 := by omega
      have htl3 : (ts.length : Int) ≤ 30 := by have := htx.1; omega
      have HB := Lib.hid hb
      have HBK := Lib.hid hbk
      have HTX := Lib.hid htx
      have HS := Lib.hid hs
      clear hb hbk htx hs
      go_wp2
      go_loopw [8] (fun i wx => ∃ k : Nat, k ≤ bs.length ∧ i = .int .i64 k ∧ Stays w wx ∧ OwnL (workL wb v r (.slice ab bs.length cb) (.slice aw bs.length cw) (.slice at' ts.length ct) (.slice ax ts.length cx) bs ts s rs gs [Pr.own (heapOf w), F]) wx) (fun i _ => bs.length - (intOf i).toNat)
      case atStart => exact ⟨0, Nat.zero_le _, rfl, hst, HS.out⟩
      case round =>
       clear hst HS
       obtain ⟨k, hk, rfl, hst, hs⟩ := hrel
       rcases Nat.lt_or_ge k bs.length with hlt | hge
       · obtain ⟨bb, rfl, bc⟩ := row_flat4 cells1 (fun _ => rfl) (hs.pull1 (A1 := Row 58 4 (.slice ab bs.length cb) bs.length (bs.flatMap cells1))) k hlt
         obtain ⟨bw, rfl, bd⟩ := row_flat4 cells2 (fun _ => rfl) (hs.pull1 (A1 := Row 58 4 (.slice aw bs.length cw) bs.length (bs.flatMap cells2))) k hlt
         have hs2 := hs.take beOf bs k hlt
         obtain ⟨hok, hkl, hvl⟩ := HBK.out bs[k] (List.getElem_mem hlt)
         obtain ⟨ha, hha, hs3⟩ := hs2.arena (beOf bs[k])
         obtain ⟨j1, j2⟩ := be_read hha hok
         have b0 := bc 0 (by omega)
         have b1 := bc 1 (by omega)
         have b2 := bc 2 (by omega)
         have b3 := bc 3 (by omega)
         have d0 := bd 0 (by omega)
         have d1 := bd 1 (by omega)
         have d2 := bd 2 (by omega)
         have d3 := bd 3 (by omega)
         simp only [cells1, cells2, List.getElem?_cons_zero, List.getElem?_cons_succ, Nat.add_zero] at b0 b1 b2 b3 d0 d1 d2 d3
         have zb := World.block_lt_of_cell? _ _ b0
         have zd := World.block_lt_of_cell? _ _ d0
         have c6 := hs3.facts
         simp only [CellsAt, Nat.reduceAdd, and_true] at c6
         have EQ := Lib.hid (eqitem_same ha ha _ _ _ j1 j2 ⟨by show (bs[k].K).length ≤ _; omega, by
          show (if (bs[k].V).length ≤ 32 then bs[k].V else []).length ≤ _
          split
          · omega
          · exact Nat.zero_le _⟩ wr.drew hs3.drew.le hs3.drew.le)
         have HS3 := Lib.hid hs3
         have HHA := Lib.hid hha
         have HST3 := Lib.hid hst
         clear bc bd hs hs2 hs3 hok hkl hvl hha j1 j2 hst
         generalize hE : bs[k] = E at *
         have HEQ := Lib.hid hE
         clear hE
         go_wp2_with fail
         refine wp_region_staged (sz := 149) (by kernel_rfl) [0, 1, 2, 3, 4, 5, 6, 7, 8, 9, 10, 11, 12, 13] [(14, [15], [0, 1, 2, 3, 4, 5, 7, 8, 9, 10, 11, 12])] rfl (by kernel_rfl) (by kernel_rfl) (by kernel_rfl) ?_
         refine wpQ_all _ rfl rfl ?_
         simp only [pick, pkA, pkB, pkC, pkD, pkE, pkF]
         iterate 14 (go_big_quiet_step (fail))
         refine wpQuiet_nil ?_
         refine wpRest_act rfl ?_
         go_wp2_with fail
         refine EQ.out.mono ?_
         rintro e w3 ⟨rfl, oe⟩
         have HS4 := Lib.hid (HS3.out.drew.ext oe.heap)
         have c7 := HS4.out.facts
         simp only [CellsAt, Nat.reduceAdd, and_true] at c7
         have hha2 := HHA.out
         rw [← HEQ.out] at hha2
         have hs5 := (HS4.out.back (beOf bs[k]) hha2).join2 (beOf bs[k]) (big beOf (bs.eraseIdx k))
         rw [← big_at beOf bs k hlt] at hs5
         have HS5 := Lib.hid hs5
         have HST4 := Lib.hid (HST3.out.drew.trans oe.st)
         have b0' := only_cell oe b0
         have b1' := only_cell oe b1
         have b2' := only_cell oe b2
         have b3' := only_cell oe b3
         have d0' := only_cell oe d0
         have d1' := only_cell oe d1
         have d2' := only_cell oe d2
         have d3' := only_cell oe d3
         have zb' := World.block_lt_of_cell? _ _ b0'
         have zd' := World.block_lt_of_cell? _ _ d0'
         clear c6 b0 b1 b2 b3 d0 d1 d2 d3 zb zd hs5 hha2 oe HS3 HS4 HST3 EQ HHA
         go_wp2
         refine onN_mk ?_
         refine wpQ_all _ rfl rfl ?_
         simp only [pick, pkA, pkB, pkC, pkD, pkE, pkF]
         iterate 1 (go_big_quiet_step (fail))
         refine wpQuiet_nil ⟨?_, ?_⟩
         · refine chk_all _ rfl rfl ?_
           simp only [pick, Same, pkA, pkB, pkC, pkD, pkE, pkF, and_true]
           repeat' (first | apply And.intro | (go_big_quiet_step (fail); exact wpQuiet_nil rfl))
         refine wpRest_nil ?_
         clear c7 b0' b1' b2' b3' d0' d1' d2' d3' zb' zd'
         go_wp2
         go_roundw
         case rel => exact ⟨k + 1, by omega, congrArg (Value.int .i64) (by omega), HST4.out, HS5.out.to⟩
         case measure => simp [intOf]; omega
       · have hkk : k = bs.length := by omega
         subst hkk
         have HS := Lib.hid hs
         have c6 := hs.facts
         simp only [CellsAt, Nat.reduceAdd, and_true] at c6
         clear hs
         go_wp2
         clear c6
         go_loopw [9] (fun i wx => ∃ k : Nat, k ≤ ts.length ∧ i = .int .i64 k ∧ Stays w wx ∧ OwnL (workL wb v r (.slice ab bs.length cb) (.slice aw bs.length cw) (.slice at' ts.length ct) (.slice ax ts.length cx) bs ts s rs gs [Pr.own (heapOf w), F]) wx) (fun i _ => ts.length - (intOf i).toNat)
         case atStart => exact ⟨0, Nat.zero_le _, rfl, hst, HS.out⟩
         case round =>
          clear hst HS
          obtain ⟨k, hk, rfl, hst, hs⟩ := hrel
          have c6 := hs.facts
          simp only [CellsAt, Nat.reduceAdd, and_true] at c6
          rcases Nat.lt_or_ge k ts.length with hlt | hge
          · obtain ⟨bt, u1, rfl, hu1, t1, _, z1⟩ := Row.at1 (hs.row (.slice at' ts.length ct)) k hlt
            obtain ⟨bx, u2, rfl, hu2, t2, _, z2⟩ := Row.at1 (hs.row (.slice ax ts.length cx)) k hlt
            rw [List.getElem?_map, List.getElem?_eq_getElem hlt] at hu1 hu2
            simp only [Option.map_some, Option.some.injEq] at hu1 hu2
            have hs2 := hs.take teOf ts k hlt
            have hvl := HTX.out.2 ts[k] (List.getElem_mem hlt)
            obtain ⟨ha, hha, hs3⟩ := hs2.arena (teOf ts[k])
            obtain ⟨y1, y2, hy1, hy2, s1, s2⟩ := star_sub (show ((BytesRow ts[k].o ts[k].V).star (BytesRow ts[k].c ts[k].V)) ha from hha)
            have EQ := Lib.hid (eq_same ha ha u1 u2 ts[k].V (by rw [← hu1]; exact (Row.rowIn hy1).sub s1) (by rw [← hu2]; exact (Row.rowIn hy2).sub s2) (by omega) wr.drew hs3.drew.le hs3.drew.le)
            have HS3 := Lib.hid hs3
            have HHA := Lib.hid hha
            have HST3 := Lib.hid hst
            clear hs hs2 hs3 hvl hha hy1 hy2 s1 s2 hu1 hu2 hst
            go_wp2_with fail
            refine wp_region_staged (sz := 149) (by kernel_rfl) [0, 1, 2, 3, 4, 5, 6, 7, 8, 9, 10, 11, 12, 13] [(14, [15], [0, 1, 2, 3, 4, 5, 7, 8, 9, 10, 11, 12])] rfl (by kernel_rfl) (by kernel_rfl) (by kernel_rfl) ?_
            refine wpQ_all _ rfl rfl ?_
            simp only [pick, pkA, pkB, pkC, pkD, pkE, pkF]
            iterate 14 (go_big_quiet_step (fail))
            refine wpQuiet_nil ?_
            refine wpRest_act rfl ?_
            go_wp2_with fail
            refine EQ.out.mono ?_
            rintro e w3 ⟨rfl, oe⟩
            have HS4 := Lib.hid (HS3.out.drew.ext oe.heap)
            clear c6
            have c7 := HS4.out.facts
            simp only [CellsAt, Nat.reduceAdd, and_true] at c7
            have hs5 := (HS4.out.back (teOf ts[k]) HHA.out).join2 (teOf ts[k]) (big teOf (ts.eraseIdx k))
            rw [← big_at teOf ts k hlt] at hs5
            have HS5 := Lib.hid hs5
            have HST4 := Lib.hid (HST3.out.drew.trans oe.st)
            have t1' := only_cell oe t1
            have t2' := only_cell oe t2
            have z1' := World.block_lt_of_cell? _ _ t1'
            have z2' := World.block_lt_of_cell? _ _ t2'
            clear t1 t2 z1 z2 hs5 oe HS3 HS4 HST3 EQ HHA
            go_wp2
            refine onN_mk ?_
            refine wpQ_all _ rfl rfl ?_
            simp only [pick, pkA, pkB, pkC, pkD, pkE, pkF]
            iterate 1 (go_big_quiet_step (fail))
            refine wpQuiet_nil ⟨?_, ?_⟩
            · refine chk_all _ rfl rfl ?_
              simp only [pick, Same, pkA, pkB, pkC, pkD, pkE, pkF, and_true]
              repeat' (first | apply And.intro | (go_big_quiet_step (fail); exact wpQuiet_nil rfl))
            refine wpRest_nil ?_
            clear c7 t1' t2' z1' z2'
            go_wp2
            go_roundw
            case rel => exact ⟨k + 1, by omega, congrArg (Value.int .i64) (by omega), HST4.out, HS5.out.to⟩
            case measure => simp [intOf]; omega
          · have hkk : k = ts.length := by omega
            subst hkk
            have HS := Lib.hid hs
            clear hs
            go_wp2
            clear c6
            go_loopw [10, 11] (fun lv i wx => ∃ (k m : Nat) (xs : List Value), k ≤ bs.length ∧ i = .int .i64 k ∧ Hid (m = ts.length + 2 * k) ∧ m ≤ 150 ∧ Stays w wx ∧ Hid (xs = (lists ts (bs.take k)).map (·.1)) ∧
             OwnL [Row 29 1 lv m xs, Pr.pts wb (workC v r (.slice ab bs.length cb) (.slice aw bs.length cw) (.slice at' ts.length ct) (.slice ax ts.length cx)), Row 58 4 (.slice ab bs.length cb) bs.length (bs.flatMap cells1), big beOf bs, big teOf ts, VaultA v s, RefA r rs gs (quietT true), Pr.own (heapOf w)] wx) (fun _ i _ => bs.length - (intOf i).toNat)
            case atStart => exact ⟨0, ts.length, ts.map (·.o), Nat.zero_le _, rfl, Lib.hid rfl, by omega, hst, Lib.hid (by simp [lists]), HS.out.to⟩
            case round =>
             clear hst HS
             obtain ⟨k, m, xs, hk, rfl, hm, hm2, hst, hxs, hs⟩ := hrel
             obtain ⟨al2, cl2, rfl⟩ := Row.shape hs.sat
             rcases Nat.lt_or_ge k bs.length with hlt | hge
             · obtain ⟨bb, rfl, bc⟩ := row_flat4 cells1 (fun _ => rfl) (hs.pull1 (A1 := Row 58 4 (.slice ab bs.length cb) bs.length (bs.flatMap cells1))) k hlt
               have hs2 : OwnL ((BytesRow bs[k].kv1 bs[k].K).star ((BytesRow bs[k].vv1 (shortV bs[k].V)).star (Pr.own bs[k].h)) :: _) wr := hs.take beOf bs k hlt
               obtain ⟨q1, q2, e1⟩ := Row.shape hs2.norm.sat
               obtain ⟨q3, q4, e2⟩ := Row.shape hs2.norm.drop.sat
               have b0 := bc 0 (by omega)
               have b1 := bc 1 (by omega)
               simp only [cells1, List.getElem?_cons_zero, List.getElem?_cons_succ, Nat.add_zero] at b0 b1
               rw [e1] at b0
               rw [e2] at b1
               have zb := World.block_lt_of_cell? _ _ b0
               have HTK := Lib.hid (show (lists ts (bs.take (k + 1))).map (·.1) = (lists ts (bs.take k)).map (·.1) ++ [.slice q1 bs[k].K.length q2, .slice q3 (shortV bs[k].V).length q4] by
                rw [List.take_succ_eq_append_getElem hlt]
                simp only [lists, List.flatMap_append, List.map_append, List.flatMap_cons, List.flatMap_nil, List.map_cons, List.map_nil, List.append_assoc, e1, e2]
                rfl)
               generalize bs[k].K.length = qa at *
               generalize (shortV bs[k].V).length = qb at *
               have c6 := hs.facts
               simp only [CellsAt, Nat.reduceAdd, and_true] at c6
               obtain ⟨j0, hj, hy0, hy1, hy2⟩ := info_parts infoRows
               have A1 := Lib.hid ((hs.alloc (.cells #[.slice q1 qa q2, .slice q3 qb q4] 29)).drop.drew.pull1 (A1 := Row 29 1 (.slice al2 m cl2) m xs))
               have hnew := Lib.hid (show ∀ j u, [Value.slice q1 qa q2, .slice q3 qb q4][j]? = some u → (wr.alloc (.cells #[.slice q1 qa q2, .slice q3 qb q4] 29)).drew.cell? ((⟨wr.heap.size, 0, none⟩ : Addr).add j) = some u from fresh_cells wr [.slice q1 qa q2, .slice q3 qb q4] 29)
               have HSTA := Lib.hid (hst.alloc (.cells #[.slice q1 qa q2, .slice q3 qb q4] 29)).drew
               have HBC := Lib.hid bc
               clear hs hs2 bc hst e1 e2
               go_wp2_with fail
               refine wp_region_staged_last (sz := 149) (by kernel_rfl) [0, 1, 2, 3, 4, 5, 6, 7, 8, 9, 10, 11, 12, 13, 14, 15, 16] [(17, [], [0, 1, 2, 3, 4, 5, 6, 7, 9, 10, 11, 12, 13, 14, 15]), (18, [], [1, 2, 3, 4, 5, 6, 7, 9, 10, 11, 12, 13, 14, 15])] rfl rfl rfl (by kernel_rfl) (by kernel_rfl) (by kernel_rfl) (by kernel_rfl) ?_
               simp only [List.dropLast]
               refine wpQ_all _ rfl rfl ?_
               simp only [pick, pkA, pkB, pkC, pkD, pkE, pkF]
               iterate 17 (go_big_quiet_step (fail))
               refine wpQuiet_nil ?_
               refine wpRest_act rfl ?_
               go_wp2
               refine onN_mk ?_
               refine wpQ_nil ⟨?_, ?_⟩
               · refine chk_all _ rfl rfl ?_
                 simp only [pick, Same, pkA, pkB, pkC, pkD, pkE, pkF, and_true]
                 repeat' (first | apply And.intro | (go_big_quiet_step (fail); exact wpQuiet_nil rfl))
               refine wpRest_act rfl ?_
               refine wpList_append_slK rfl _ _ _ rfl 29 j0 (.slice none 0 0) 1 24 Tryz.underlying63 hj hy0 hy1 hy2 rfl _ _ _ rfl A1.out ⟨wr.heap.size, 0, none⟩ 2 2 [.slice q1 qa q2, .slice q3 qb q4] rfl rfl hnew.out (by simp [Value.oneCell']) (by simp only [maxLen]; omega) (by omega) (fun v7 w7 hs7 hg7 K0 hK0 => ?_)
               obtain ⟨a7, c7, rfl⟩ := Row.shape hs7
               go_simp
               refine hK0 _ ?_
               clear hK0 K0
               have hs8 := OwnL.of1 hs7
               have HS8 := Lib.hid hs8
               have HST8 := Lib.hid (HSTA.out.of_grown hg7)
               obtain ⟨_, e3, bc⟩ := row_flat4 cells1 (fun _ => rfl) (hs8.pull1 (A1 := Row 58 4 (.slice (some ⟨bb, 0, none⟩) bs.length cb) bs.length (bs.flatMap cells1))) k hlt
               cases e3
               have hb0 := HBC.out 0 (by omega)
               have hb1 := HBC.out 1 (by omega)
               have f0 := bc 0 (by omega)
               have f1 := bc 1 (by omega)
               rw [← hb0] at f0
               rw [← hb1] at f1
               simp only [Nat.add_zero] at f0
               have g0 := f0.trans b0
               have g1 := f1.trans b1
               have zg := World.block_lt_of_cell? _ _ g0
               clear c6
               have c6 := hs8.facts
               simp only [CellsAt, Nat.reduceAdd, and_true] at c6
               clear hs7 hs8 hg7 A1 hnew HSTA b0 b1 zb f0 f1 hb0 hb1 bc HBC
               refine wpList_nil ?_
               refine onN_mk ?_
               refine wpQ_nil ⟨?_, ?_⟩
               · refine chk_all _ rfl rfl ?_
                 simp only [pick, Same, pkA, pkB, pkC, pkD, pkE, pkF, and_true]
                 repeat' (first | apply And.intro | (go_big_quiet_step (fail); exact wpQuiet_nil rfl))
               refine wpRest_nil ?_
               unfold lastPost
               clear c6 g0 g1 zg
               go_wp2
               go_roundw
               case rel => exact ⟨k + 1, m + 2, _, by omega, congrArg (Value.int .i64) (by omega), Lib.hid (by have := hm.out; omega), by have := hm.out; omega, HST8.out, Lib.hid (by rw [HTK.out, ← hxs.out]), HS8.out.to⟩
               case measure => simp [intOf]; omega
             · have hkk : k = bs.length := by omega
               subst hkk
               have hxs2 := hxs.out
               rw [List.take_length] at hxs2
               have hm3 : m = (lists ts bs).length := by rw [lists_len]; exact hm.out
               subst hxs2 hm3
               have hs2 := lists_of (ts := ts) (bs := bs) hs
               have okp := (vault_ok (hs.pull1 (A1 := VaultA v s))).1
               have AP := Lib.hid (apart_any (.slice al2 (lists ts bs).length cl2) (lists ts bs) (by omega) (fun x hx => by
                rcases List.mem_append.1 hx with hx | hx
                · obtain ⟨e, he, rfl⟩ := List.mem_map.1 hx
                  have := HTX.out.2 e he
                  dsimp only
                  omega
                · obtain ⟨e, he, hx⟩ := List.mem_flatMap.1 hx
                  obtain ⟨_, h1, h2⟩ := HBK.out e he
                  rcases List.mem_cons.1 hx with rfl | hx
                  · dsimp only; omega
                  · cases List.mem_singleton.1 hx
                    show (if e.V.length ≤ 32 then e.V else []).length ≤ _
                    split
                    · omega
                    · exact Nat.zero_le _) _ _ (hs2.pull2 (A1 := Row 29 1 (.slice al2 (lists ts bs).length cl2) (lists ts bs).length ((lists ts bs).map (·.1))) (A2 := big rowOf (lists ts bs))))
               have c6 := hs.facts
               simp only [CellsAt, Nat.reduceAdd, and_true] at c6
               have OKP := Lib.hid okp
               have HST9 := Lib.hid hst
               clear hs hs2 okp hst hm hxs
               generalize (lists ts bs).length = LL at *
               go_wp2_with fail
               refine AP.out.mono ?_
               rintro e w9 ⟨rfl, st9, hs9⟩
               have hs10 : OwnL [Pr.pts wb (workC v r (.slice ab bs.length cb) (.slice aw bs.length cw) (.slice at' ts.length ct) (.slice ax ts.length cx)), Row 58 4 (.slice ab bs.length cb) bs.length (bs.flatMap cells1), VaultA v s, RefA r rs gs (quietT true), Pr.own (heapOf w)] w9 := ⟨hs9⟩
               have AL := Lib.hid (alike_any wb v r _ _ _ _ s rs gs (quietT true) _ (HB.out.tw.looks OKP.out) (HB.out.tw.rlooks OKP.out) HB.out.tw.cs.symm HB.out.tw.ls.symm _ _ (hs10.pull3 (A1 := Pr.pts wb (workC v r (.slice ab bs.length cb) (.slice aw bs.length cw) (.slice at' ts.length ct) (.slice ax ts.length cx))) (A2 := VaultA v s) (A3 := RefA r rs gs (quietT true))))
               have HST10 := Lib.hid (HST9.out.trans st9)
               clear hs9 hs10 st9 HST9 AP c6
               go_wp2_with fail
               refine AL.out.mono ?_
               rintro e w10 ⟨rfl, st10, hs11⟩
               have HS11 := Lib.hid (OwnL.of3 hs11)
               clear hs11 AL
               go_wp2
               go_ret
               exact ⟨rfl, HS11.out.end1 (A1 := Pr.own (heapOf w)), HST10.out.trans st10⟩
end Go.Proofs.YtbobcmimkonnoaaGreat.ans2
