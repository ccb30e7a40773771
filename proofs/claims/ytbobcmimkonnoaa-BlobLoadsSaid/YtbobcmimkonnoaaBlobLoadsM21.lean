/- The law's making of both vaults; the conditions stand as hypotheses. The law's comparison of both vaults, where they are alike; the conditions stand as hypotheses. The law BlobLoads, walked; the conditions stand as hypotheses. -/
import Derived.Test.YtbobcmimkonnoaaBlobLoadsM20
import Derived.Test.YtbobcmimkonnoaaBlobLoadsM12
import Derived.Test.YtbobcmimkonnoaaBlobLoadsM09
namespace Go.Proofs.Ytbobcmimkonnoaa.begun
open Go.ChangeShapes Go.WideShapes Go.ChangeAt Go.RowKit Go.Sl Go.Cop Go.Proofs.Ytbobcmimkonnoaa.pool1 Go.Proofs.Ytbobcmimkonnoaa.pool2 Go.Proofs.Ytbobcmimkonnoaa.pool5 Go.Proofs.Ytbobcmimkonnoaa.pool8 Go.Proofs.Ytbobcmimkonnoaa.pool9 Go.Proofs.Ytbobcmimkonnoaa.clone Go.Proofs.Ytbobcmimkonnoaa.page Go.Proofs.Ytbobcmimkonnoaa.vault1 Go.Proofs.Ytbobcmimkonnoaa.vault2 Go.Proofs.Ytbobcmimkonnoaa.vault6 Go.Proofs.Ytbobcmimkonnoaa.counts Go.Proofs.Ytbobcmimkonnoaa.items Go.Proofs.Ytbobcmimkonnoaa.copyP Go.Proofs.Ytbobcmimkonnoaa.load1 Go.Proofs.Ytbobcmimkonnoaa.vloadLaw Go.Proofs.Ytbobcmimkonnoaa.vload Go.Proofs.Ytbobcmimkonnoaa.ref1 Go.Proofs.Ytbobcmimkonnoaa.ref2 Go.Proofs.Ytbobcmimkonnoaa.ref3 Go.Proofs.Ytbobcmimkonnoaa.rload Go.Proofs.Ytbobcmimkonnoaa.rcopy2 Go.Proofs.Ytbobcmimkonnoaa.looks Go.Proofs.Ytbobcmimkonnoaa.vnew Go.Proofs.Ytbobcmimkonnoaa.law1

abbrev beginC (pages refs : Int) (vc vl : Value) : Obj := .cells #[.int .i64 pages, .int .i64 refs, vc, vl] 52
abbrev workZ : Obj := .cells #[.pointer none, .pointer none, .slice none 0 0, .slice none 0 0, .slice none 0 0, .slice none 0 0] 79
abbrev nilS : Value := .slice none 0 0
abbrev workV (p q : Value) : Obj := .cells #[p, q, .slice none 0 0, .slice none 0 0, .slice none 0 0, .slice none 0 0] 79

theorem lasts_zero (n : Nat) : lastsOf (List.replicate n 0) = List.replicate n false := by
  unfold lastsOf
  simp

/-- Made, both of them. -/
def Made (h : Hp) (F : Pr) (p : Value) (w : World) : Prop :=
  (p = .pointer none ∧ Sat ((Pr.own h).star F) w) ∨ ∃ wb v r refs cs on, p = .pointer (some ⟨wb, 0, none⟩) ∧ Right cs on ∧
    Sat ((Pr.pts wb (workC v r nilS nilS nilS nilS)).star ((VaultA v (loadV refs cs on)).star ((RefA r (poolOf refs cs 0) (pgsOf cs.length on) true).star ((Pr.own h).star F)))) w

set_option maxRecDepth 100000 in
set_option maxHeartbeats 4000000 in
theorem begun_any (pages refs : Int) (h : Hp) (vc vl : Value) (cs : List Int) (l : List NumV) (hx : Ints h vc cs) (hl : NumsIn h vl l) (hu : ∀ x ∈ l, ∀ y ∈ x.page.items, U8 y.key) (F : Pr) (w : World) (hF : Sat ((Pr.own h).star F) w) :
    Calls Try.prog 18 #[.agg #[.int .i64 pages, .int .i64 refs, vc, vl]] w fun e w' => Stays w w' ∧ ∃ p, e = .returned (.tuple #[p, .bool true]) ∧ Made h F p w' := by
  obtain ⟨ac, cc, rfl, _⟩ := ints_rd hx
  obtain ⟨al, cl, rfl, _⟩ := nums_rd hl
  have hb := hF.alloc (beginC pages refs (.slice ac cs.length cc) (.slice al l.length cl))
  by_cases hbig : 300 < (cs.length : Int) ∨ 300 < pages ∨ 400 < (l.length : Int)
  · have HB := Lib.hid hb.right
    have HST := Lib.hid ((Stays.refl w).alloc (beginC pages refs (.slice ac cs.length cc) (.slice al l.length cl)))
    clear hF hb
    by_cases h1 : 300 < (cs.length : Int)
    · clear hbig
      go_enter Try.func18, Try.ntmps18
      go_wp2
      go_ret2
      exact ⟨HST.out, _, rfl, .inl ⟨rfl, HB.out⟩⟩
    · by_cases h2 : 300 < pages
      · clear hbig
        go_enter Try.func18, Try.ntmps18
        go_wp2
        go_ret2
        exact ⟨HST.out, _, rfl, .inl ⟨rfl, HB.out⟩⟩
      · have h3 : 400 < (l.length : Int) := by omega
        clear hbig
        go_enter Try.func18, Try.ntmps18
        go_wp2
        go_ret2
        exact ⟨HST.out, _, rfl, .inl ⟨rfl, HB.out⟩⟩
  · have h1 : (cs.length : Int) ≤ 300 := by omega
    have h2 : pages ≤ 300 := by omega
    have h3 : (l.length : Int) ≤ 400 := by omega
    clear hbig
    have hc := hb.alloc workZ
    rw [show (w.alloc (beginC pages refs (.slice ac cs.length cc) (.slice al l.length cl))).heap.size = w.heap.size + 1 by simp] at hc
    have HST := Lib.hid (((Stays.refl w).alloc (beginC pages refs (.slice ac cs.length cc) (.slice al l.length cl))).alloc workZ)
    by_cases h4 : 0 < (cs.length : Int)
    · have VL := vload_any refs h _ _ cs l hx hl hu (by omega) _ _ (hc.perm (B := (Pr.own h).star ((Pr.pts (w.heap.size + 1) workZ).star ((Pr.pts w.heap.size (beginC pages refs (.slice ac cs.length cc) (.slice al l.length cl))).star F))) (by ac_rfl))
      have RL := Lib.hid (fun F w hF => rload_any refs h _ _ cs l hx hl (by omega) F w hF)
      have RG := Lib.hid (fun (he : (loadE refs cs l).1 = 0) => right_load he)
      obtain ⟨E, hE⟩ : ∃ E, (loadE refs cs l).1 = E := ⟨_, rfl⟩
      obtain ⟨on, hon⟩ : ∃ on, (loadE refs cs l).2 = on := ⟨_, rfl⟩
      rw [hE, hon] at VL RG
      have RL2 := RL.out
      rw [hE, hon] at RL2
      have HVL := Lib.hid VL
      have HRL := Lib.hid RL2
      clear hF hb hc VL RL RL2 hx hl hu hE hon
      go_enter Try.func18, Try.ntmps18
      go_wp2_with fail
      refine HVL.out.mono ?_
      rintro e w1 ⟨st1, (⟨hne, rfl, hs1⟩ | ⟨he, v, rfl, hs1⟩)⟩
      · have hs2 := hs1.perm (B := (Pr.pts (w.heap.size + 1) workZ).star ((Pr.own h).star ((Pr.pts w.heap.size (beginC pages refs (.slice ac cs.length cc) (.slice al l.length cl))).star F))) (by ac_rfl)
        have c0 := (pts6w hs2).1
        have c1 := (pts6w hs2).2.1
        have zW := hs2.lt
        have f0 := frozen_of_heap hs2.pts_heap 0
        obtain ⟨b0, b1, b2, b3, _, zB⟩ := pts4 hs2.right.right
        have hs3 : Sat ((Pr.pts (w.heap.size + 1) workZ).star ((Pr.own h).star ((Pr.pts w.heap.size (beginC pages refs (.slice ac cs.length cc) (.slice al l.length cl))).star F))) (w1.setCell ⟨w.heap.size + 1, 0, none⟩ (.pointer none)) := hs2.setCell (i := 0) (.pointer none)
        have RL3 := Lib.hid (HRL.out _ _ (hs3.perm (B := (Pr.own h).star ((Pr.pts (w.heap.size + 1) workZ).star ((Pr.pts w.heap.size (beginC pages refs (.slice ac cs.length cc) (.slice al l.length cl))).star F))) (by ac_rfl)))
        have HST1 := Lib.hid ((HST.out.trans st1).setCell ⟨w.heap.size + 1, 0, none⟩ (.pointer none))
        clear hs1 hs2 hs3 st1 HVL HRL
        go_wp2_with fail
        refine RL3.out.mono ?_
        rintro e w2 ⟨st2, (⟨_, rfl, hs4⟩ | ⟨he, _⟩)⟩
        · have hs5 := hs4.perm (B := (Pr.pts (w.heap.size + 1) workZ).star ((Pr.own h).star ((Pr.pts w.heap.size (beginC pages refs (.slice ac cs.length cc) (.slice al l.length cl))).star F))) (by ac_rfl)
          clear c0 c1 f0 zW b0 b1 b2 b3 zB RL3
          have c0 := (pts6w hs5).1
          have c1 := (pts6w hs5).2.1
          have zW := hs5.lt
          have f1 := frozen_of_heap hs5.pts_heap 1
          have HS6 := Lib.hid (show Sat ((Pr.pts (w.heap.size + 1) workZ).star ((Pr.own h).star ((Pr.pts w.heap.size (beginC pages refs (.slice ac cs.length cc) (.slice al l.length cl))).star F))) (w2.setCell ⟨w.heap.size + 1, 1, none⟩ (.pointer none)) from hs5.setCell (i := 1) (.pointer none))
          have HST2 := Lib.hid ((HST1.out.trans st2).setCell ⟨w.heap.size + 1, 1, none⟩ (.pointer none))
          clear hs4 hs5 st2 HST1
          go_wp2_with fail
          go_quiet (fail)
          go_wp2
          go_ret2
          exact ⟨HST2.out.drewN _, _, rfl, .inl ⟨rfl, (HS6.out.perm (B := (Pr.pts (w.heap.size + 1) workZ).star ((Pr.pts w.heap.size (beginC pages refs (.slice ac cs.length cc) (.slice al l.length cl))).star ((Pr.own h).star F))) (by ac_rfl)).right.right.drewN _⟩⟩
        · exact absurd he hne
      · subst he
        have hs2 := hs1.perm (B := (Pr.pts (w.heap.size + 1) workZ).star ((Pr.own h).star ((VaultA v (loadV refs cs on)).star ((Pr.pts w.heap.size (beginC pages refs (.slice ac cs.length cc) (.slice al l.length cl))).star F)))) (by ac_rfl)
        have c0 := (pts6w hs2).1
        have c1 := (pts6w hs2).2.1
        have zW := hs2.lt
        have f0 := frozen_of_heap hs2.pts_heap 0
        obtain ⟨b0, b1, b2, b3, _, zB⟩ := pts4 hs2.right.right.right
        have hs3 : Sat ((Pr.pts (w.heap.size + 1) (workV (.pointer (some ⟨v, 0, none⟩)) (.pointer none))).star ((Pr.own h).star ((VaultA v (loadV refs cs on)).star ((Pr.pts w.heap.size (beginC pages refs (.slice ac cs.length cc) (.slice al l.length cl))).star F)))) (w1.setCell ⟨w.heap.size + 1, 0, none⟩ (.pointer (some ⟨v, 0, none⟩))) := hs2.setCell (i := 0) (.pointer (some ⟨v, 0, none⟩))
        have RL3 := Lib.hid (HRL.out _ _ (hs3.perm (B := (Pr.own h).star ((Pr.pts (w.heap.size + 1) (workV (.pointer (some ⟨v, 0, none⟩)) (.pointer none))).star ((VaultA v (loadV refs cs on)).star ((Pr.pts w.heap.size (beginC pages refs (.slice ac cs.length cc) (.slice al l.length cl))).star F)))) (by ac_rfl)))
        have HST1 := Lib.hid ((HST.out.trans st1).setCell ⟨w.heap.size + 1, 0, none⟩ (.pointer (some ⟨v, 0, none⟩)))
        clear hs1 hs2 hs3 st1 HVL HRL
        go_wp2_with fail
        refine RL3.out.mono ?_
        rintro e w2 ⟨st2, (⟨hne, _⟩ | ⟨_, r, rfl, hs4⟩)⟩
        · exact absurd rfl hne
        · have hs5 := hs4.perm (B := (Pr.pts (w.heap.size + 1) (workV (.pointer (some ⟨v, 0, none⟩)) (.pointer none))).star ((RefA r (poolOf refs cs 0) (pgsOf cs.length on) false).star ((Pr.own h).star ((VaultA v (loadV refs cs on)).star ((Pr.pts w.heap.size (beginC pages refs (.slice ac cs.length cc) (.slice al l.length cl))).star F))))) (by ac_rfl)
          clear c0 c1 f0 zW b0 b1 b2 b3 zB RL3
          have c0 := (pts6w hs5).1
          have c1 := (pts6w hs5).2.1
          have zW := hs5.lt
          have f1 := frozen_of_heap hs5.pts_heap 1
          have hs6 : Sat ((Pr.pts (w.heap.size + 1) (workC v r nilS nilS nilS nilS)).star ((RefA r (poolOf refs cs 0) (pgsOf cs.length on) false).star ((Pr.own h).star ((VaultA v (loadV refs cs on)).star ((Pr.pts w.heap.size (beginC pages refs (.slice ac cs.length cc) (.slice al l.length cl))).star F))))) (w2.setCell ⟨w.heap.size + 1, 1, none⟩ (.pointer (some ⟨r, 0, none⟩))) := hs5.setCell (i := 1) (.pointer (some ⟨r, 0, none⟩))
          have CP := Lib.hid (rcopy_any r _ _ false _ _ (hs6.perm (B := (RefA r (poolOf refs cs 0) (pgsOf cs.length on) false).star ((Pr.pts (w.heap.size + 1) (workC v r nilS nilS nilS nilS)).star ((Pr.own h).star ((VaultA v (loadV refs cs on)).star ((Pr.pts w.heap.size (beginC pages refs (.slice ac cs.length cc) (.slice al l.length cl))).star F))))) (by ac_rfl)))
          have HST2 := Lib.hid ((HST1.out.trans st2).setCell ⟨w.heap.size + 1, 1, none⟩ (.pointer (some ⟨r, 0, none⟩)))
          clear hs4 hs5 hs6 st2 HST1
          go_wp2_with fail
          refine CP.out.mono ?_
          rintro e w3 ⟨r2, rfl, hs7, st3⟩
          have hs8 := hs7.perm (B := (Pr.pts (w.heap.size + 1) (workC v r nilS nilS nilS nilS)).star ((Pr.pts w.heap.size (beginC pages refs (.slice ac cs.length cc) (.slice al l.length cl))).star ((VaultA v (loadV refs cs on)).star ((RefA r2 (poolOf refs cs 0) (pgsOf cs.length on) true).star ((Pr.own h).star F))))) (by ac_rfl)
          clear c0 c1 f1 zW CP
          have c0 := (pts6w hs8).1
          have c1 := (pts6w hs8).2.1
          have zW := hs8.lt
          have f1 := frozen_of_heap hs8.pts_heap 1
          have HS9 := Lib.hid (show Sat ((Pr.pts (w.heap.size + 1) (workC v r2 nilS nilS nilS nilS)).star ((Pr.pts w.heap.size (beginC pages refs (.slice ac cs.length cc) (.slice al l.length cl))).star ((VaultA v (loadV refs cs on)).star ((RefA r2 (poolOf refs cs 0) (pgsOf cs.length on) true).star ((Pr.own h).star F))))) (w3.setCell ⟨w.heap.size + 1, 1, none⟩ (.pointer (some ⟨r2, 0, none⟩))) from hs8.setCell (i := 1) (.pointer (some ⟨r2, 0, none⟩)))
          have HST3 := Lib.hid ((HST2.out.trans st3).setCell ⟨w.heap.size + 1, 1, none⟩ (.pointer (some ⟨r2, 0, none⟩)))
          clear hs7 hs8 st3 HST2
          go_wp2
          go_ret2
          refine ⟨HST3.out, _, rfl, .inr ⟨w.heap.size + 1, v, r2, refs, cs, on, rfl, RG.out trivial, ?_⟩⟩
          exact (HS9.out.perm (B := (Pr.pts w.heap.size (beginC pages refs (.slice ac cs.length cc) (.slice al l.length cl))).star ((Pr.pts (w.heap.size + 1) (workC v r2 nilS nilS nilS nilS)).star ((VaultA v (loadV refs cs on)).star ((RefA r2 (poolOf refs cs 0) (pgsOf cs.length on) true).star ((Pr.own h).star F))))) (by ac_rfl)).right
    · have hc0 : cs = [] := List.eq_nil_of_length_eq_zero (by omega)
      subst hc0
      have hc2 := hc.perm (B := (Pr.own h).star ((Pr.pts (w.heap.size + 1) workZ).star ((Pr.pts w.heap.size (beginC pages refs (.slice ac ([] : List Int).length cc) (.slice al l.length cl))).star F))) (by ac_rfl)
      by_cases hr : rangeOk pages refs = true
      · obtain ⟨n, rfl⟩ : ∃ n : Nat, pages = n := ⟨pages.toNat, by have := (rangeOk_iff.1 hr).1; omega⟩
        have hr2 := rangeOk_iff.1 hr
        have VL := vnew_any n refs (by omega) _ _ hc2
        have RL := fun F w hF => rnew_any n refs hr F w hF
        have e1 : poolN refs n = poolOf refs (List.replicate n 0) 0 := by unfold poolN poolOf; rw [lasts_zero]
        have e2 : List.replicate n zeroP = pgsOf (List.replicate n (0 : Int)).length fun _ => none := by rw [List.length_replicate, pgsOf_none]
        rw [e1, e2] at RL
        have HVL := Lib.hid VL
        have HRL := Lib.hid RL
        have hn5 : n ≤ 65536 := by omega
        clear hF hb hc hc2 VL RL hx hl hu e1 e2 hr hr2
        go_enter Try.func18, Try.ntmps18
        go_wp2_with fail
        refine HVL.out.mono ?_
        rintro e w1 ⟨st1, v, rfl, hs1⟩
        have hs2 := hs1.perm (B := (Pr.pts (w.heap.size + 1) workZ).star ((Pr.own h).star ((VaultA v (loadV refs (List.replicate n 0) fun _ => none)).star ((Pr.pts w.heap.size (beginC (n : Int) refs (.slice ac ([] : List Int).length cc) (.slice al l.length cl))).star F)))) (by ac_rfl)
        have c0 := (pts6w hs2).1
        have c1 := (pts6w hs2).2.1
        have zW := hs2.lt
        have f0 := frozen_of_heap hs2.pts_heap 0
        obtain ⟨b0, b1, b2, b3, _, zB⟩ := pts4 hs2.right.right.right
        have hs3 : Sat ((Pr.pts (w.heap.size + 1) (workV (.pointer (some ⟨v, 0, none⟩)) (.pointer none))).star ((Pr.own h).star ((VaultA v (loadV refs (List.replicate n 0) fun _ => none)).star ((Pr.pts w.heap.size (beginC (n : Int) refs (.slice ac ([] : List Int).length cc) (.slice al l.length cl))).star F)))) (w1.setCell ⟨w.heap.size + 1, 0, none⟩ (.pointer (some ⟨v, 0, none⟩))) := hs2.setCell (i := 0) (.pointer (some ⟨v, 0, none⟩))
        have RL3 := Lib.hid (HRL.out _ _ hs3)
        have HST1 := Lib.hid ((HST.out.trans st1).setCell ⟨w.heap.size + 1, 0, none⟩ (.pointer (some ⟨v, 0, none⟩)))
        clear hs1 hs2 hs3 st1 HVL HRL
        go_wp2_with fail
        refine RL3.out.mono ?_
        rintro e w2 ⟨st2, r, rfl, hs4⟩
        · have hs5 := hs4.perm (B := (Pr.pts (w.heap.size + 1) (workV (.pointer (some ⟨v, 0, none⟩)) (.pointer none))).star ((RefA r (poolOf refs (List.replicate n 0) 0) (pgsOf (List.replicate n (0 : Int)).length fun _ => none) false).star ((Pr.own h).star ((VaultA v (loadV refs (List.replicate n 0) fun _ => none)).star ((Pr.pts w.heap.size (beginC (n : Int) refs (.slice ac ([] : List Int).length cc) (.slice al l.length cl))).star F))))) (by ac_rfl)
          clear c0 c1 f0 zW b0 b1 b2 b3 zB RL3
          have c0 := (pts6w hs5).1
          have c1 := (pts6w hs5).2.1
          have zW := hs5.lt
          have f1 := frozen_of_heap hs5.pts_heap 1
          have hs6 : Sat ((Pr.pts (w.heap.size + 1) (workC v r nilS nilS nilS nilS)).star ((RefA r (poolOf refs (List.replicate n 0) 0) (pgsOf (List.replicate n (0 : Int)).length fun _ => none) false).star ((Pr.own h).star ((VaultA v (loadV refs (List.replicate n 0) fun _ => none)).star ((Pr.pts w.heap.size (beginC (n : Int) refs (.slice ac ([] : List Int).length cc) (.slice al l.length cl))).star F))))) (w2.setCell ⟨w.heap.size + 1, 1, none⟩ (.pointer (some ⟨r, 0, none⟩))) := hs5.setCell (i := 1) (.pointer (some ⟨r, 0, none⟩))
          have CP := Lib.hid (rcopy_any r _ _ false _ _ (hs6.perm (B := (RefA r (poolOf refs (List.replicate n 0) 0) (pgsOf (List.replicate n (0 : Int)).length fun _ => none) false).star ((Pr.pts (w.heap.size + 1) (workC v r nilS nilS nilS nilS)).star ((Pr.own h).star ((VaultA v (loadV refs (List.replicate n 0) fun _ => none)).star ((Pr.pts w.heap.size (beginC (n : Int) refs (.slice ac ([] : List Int).length cc) (.slice al l.length cl))).star F))))) (by ac_rfl)))
          have HST2 := Lib.hid ((HST1.out.trans st2).setCell ⟨w.heap.size + 1, 1, none⟩ (.pointer (some ⟨r, 0, none⟩)))
          clear hs4 hs5 hs6 st2 HST1
          go_wp2_with fail
          refine CP.out.mono ?_
          rintro e w3 ⟨r2, rfl, hs7, st3⟩
          have hs8 := hs7.perm (B := (Pr.pts (w.heap.size + 1) (workC v r nilS nilS nilS nilS)).star ((Pr.pts w.heap.size (beginC (n : Int) refs (.slice ac ([] : List Int).length cc) (.slice al l.length cl))).star ((VaultA v (loadV refs (List.replicate n 0) fun _ => none)).star ((RefA r2 (poolOf refs (List.replicate n 0) 0) (pgsOf (List.replicate n (0 : Int)).length fun _ => none) true).star ((Pr.own h).star F))))) (by ac_rfl)
          clear c0 c1 f1 zW CP
          have c0 := (pts6w hs8).1
          have c1 := (pts6w hs8).2.1
          have zW := hs8.lt
          have f1 := frozen_of_heap hs8.pts_heap 1
          have HS9 := Lib.hid (show Sat ((Pr.pts (w.heap.size + 1) (workC v r2 nilS nilS nilS nilS)).star ((Pr.pts w.heap.size (beginC (n : Int) refs (.slice ac ([] : List Int).length cc) (.slice al l.length cl))).star ((VaultA v (loadV refs (List.replicate n 0) fun _ => none)).star ((RefA r2 (poolOf refs (List.replicate n 0) 0) (pgsOf (List.replicate n (0 : Int)).length fun _ => none) true).star ((Pr.own h).star F))))) (w3.setCell ⟨w.heap.size + 1, 1, none⟩ (.pointer (some ⟨r2, 0, none⟩))) from hs8.setCell (i := 1) (.pointer (some ⟨r2, 0, none⟩)))
          have HST3 := Lib.hid ((HST2.out.trans st3).setCell ⟨w.heap.size + 1, 1, none⟩ (.pointer (some ⟨r2, 0, none⟩)))
          clear hs7 hs8 st3 HST2
          go_wp2
          go_ret2
          refine ⟨HST3.out, _, rfl, .inr ⟨w.heap.size + 1, v, r2, refs, List.replicate n 0, fun _ => none, rfl, right_new n (by omega), ?_⟩⟩
          exact (HS9.out.perm (B := (Pr.pts w.heap.size (beginC (n : Int) refs (.slice ac ([] : List Int).length cc) (.slice al l.length cl))).star ((Pr.pts (w.heap.size + 1) (workC v r2 nilS nilS nilS nilS)).star ((VaultA v (loadV refs (List.replicate n 0) fun _ => none)).star ((RefA r2 (poolOf refs (List.replicate n 0) 0) (pgsOf (List.replicate n (0 : Int)).length fun _ => none) true).star ((Pr.own h).star F))))) (by ac_rfl)).right
      · have hr2 : rangeOk pages refs = false := by simpa using hr
        have VB := Lib.hid (fun w => vnew_bad pages refs hr2 w)
        have RB := Lib.hid (fun w => rnew_bad pages refs hr2 w)
        have HC := Lib.hid hc
        clear hF hb hc hc2 hx hl hu hr hr2
        go_enter Try.func18, Try.ntmps18
        go_wp2_with fail
        refine (VB.out _).mono ?_
        rintro e w1 ⟨rfl, rfl⟩
        go_wp2_with fail
        refine (RB.out _).mono ?_
        rintro e w1 ⟨rfl, rfl⟩
        go_wp2_with fail
        go_quiet (fail)
        go_wp2
        go_ret2
        exact ⟨HST.out.drewN _, _, rfl, .inl ⟨rfl, HC.out.right.right.drewN _⟩⟩
end Go.Proofs.Ytbobcmimkonnoaa.begun

namespace Go.Proofs.Ytbobcmimkonnoaa.alike
open Go.ChangeShapes Go.WideShapes Go.ChangeAt Go.RowKit Go.Sl Go.Cop Go.Proofs.Ytbobcmimkonnoaa.pool1 Go.Proofs.Ytbobcmimkonnoaa.pool2 Go.Proofs.Ytbobcmimkonnoaa.pool5 Go.Proofs.Ytbobcmimkonnoaa.pool9 Go.Proofs.Ytbobcmimkonnoaa.clone Go.Proofs.Ytbobcmimkonnoaa.page Go.Proofs.Ytbobcmimkonnoaa.eqb Go.Proofs.Ytbobcmimkonnoaa.vault1 Go.Proofs.Ytbobcmimkonnoaa.vault2 Go.Proofs.Ytbobcmimkonnoaa.vault6 Go.Proofs.Ytbobcmimkonnoaa.counts Go.Proofs.Ytbobcmimkonnoaa.items Go.Proofs.Ytbobcmimkonnoaa.copyP Go.Proofs.Ytbobcmimkonnoaa.ref1 Go.Proofs.Ytbobcmimkonnoaa.ref2 Go.Proofs.Ytbobcmimkonnoaa.eqp Go.Proofs.Ytbobcmimkonnoaa.bload Go.Proofs.Ytbobcmimkonnoaa.rbload Go.Proofs.Ytbobcmimkonnoaa.law1

theorem fit_zero : Fit zeroP := ⟨by simp, by simp, fun x hx => by cases hx⟩
theorem zero_in : PageIn Hp.nil zeroPage zeroP := ⟨_, _, rfl, items_mk (Nat.zero_le _), RowIn.nil _ _⟩

/-- Read of any page. -/
theorem vread_any (v : Nat) (s : VaultS) (look : Int → Option PageV) (hl : Looks s look) (n : Int) (F : Pr) (w : World) (hF : Sat ((VaultA v s).star F) w) :
    Calls Try.prog 27 #[.pointer (some ⟨v, 0, none⟩), .int .i64 n] w fun e w' =>
      Stays w w' ∧ ∃ pv, e = .returned (.tuple #[pv, .int .i64 (if look n = none then 15 else 0)]) ∧ ∃ h', PageIn h' pv ((look n).getD zeroP) ∧ Sat ((Pr.own h').star ((VaultA v s).star F)) w' := by
  cases hn : look n with
  | none =>
    refine (read_none v s n F w hF (hl.none n hn)).mono ?_
    rintro e w' ⟨rfl, ho⟩
    exact ⟨ho.st, zeroPage, by simp, Hp.nil, zero_in, by rw [own_nil, Pr.emp_star]; exact hF.only ho⟩
  | some g =>
    obtain ⟨h1, h2, h3, h4⟩ := hl.some n g hn
    refine (read_some v s n h1 g h4 F w hF h2 h3).mono ?_
    rintro e w' ⟨hst, pv, rfl, h', hp, hs⟩
    exact ⟨hst, pv, by simp, h', hp, hs⟩
theorem rread_any (r : Nat) (s : PoolS) (gs : List PageV) (hush : Bool) (look : Int → Option PageV) (hl : RLooks s gs look) (n : Int) (F : Pr) (w : World) (hF : Sat ((RefA r s gs hush).star F) w) :
    Calls Try.prog 42 #[.pointer (some ⟨r, 0, none⟩), .int .i64 n] w fun e w' =>
      Stays w w' ∧ ∃ pv, e = .returned (.tuple #[pv, .int .i64 (if look n = none then 15 else 0)]) ∧ ∃ h', PageIn h' pv ((look n).getD zeroP) ∧ Sat ((Pr.own h').star ((RefA r s gs hush).star F)) w' := by
  cases hn : look n with
  | none =>
    refine (rread_none r s gs hush n F w hF (hl.none n hn)).mono ?_
    rintro e w' ⟨rfl, ho⟩
    exact ⟨ho.st, zeroPage, by simp, Hp.nil, zero_in, by rw [own_nil, Pr.emp_star]; exact hF.only ho⟩
  | some g =>
    obtain ⟨h2, h3, h4⟩ := hl.some n g hn
    refine (rread_some r s gs hush n F w hF h2).mono ?_
    rintro e w' ⟨hst, pv, rfl, h', hp, hs⟩
    exact ⟨hst, pv, by simp, h', by rw [h3] at hp; exact hp, hs⟩

/-- A vault's pool, by itself. -/
theorem vault_at_pool {v : Nat} {s : VaultS} {x : VX} {F : Pr} {w : World} (h : Sat ((VaultAt v s x).star F) w) :
    w.cell? ⟨v, 0, none⟩ = some (.pointer (some ⟨x.p, 0, none⟩)) ∧ v < w.heap.size ∧ Sat ((PoolA x.p s.pool).star ((Pr.pts v (.cells #[.pointer (some ⟨x.p, 0, none⟩), .map (some x.mb), x.av, .int .i64 s.floor] 43)).star
      ((((MapA Try.prog 3 x.mb x.f).star ((Row 94 2 x.av s.acts.length (actCells x.axs)).star (Pr.own x.h)))).star F))) w := by
  have h2 : Sat ((PoolA x.p s.pool).star ((Pr.pts v (.cells #[.pointer (some ⟨x.p, 0, none⟩), .map (some x.mb), x.av, .int .i64 s.floor] 43)).star
      ((((MapA Try.prog 3 x.mb x.f).star ((Row 94 2 x.av s.acts.length (actCells x.axs)).star (Pr.own x.h)))).star F))) w := h.perm (by unfold VaultAt; ac_rfl)
  exact ⟨by rw [cell_of_heap h2.right.pts_heap]; rfl, h2.right.lt, h2⟩
theorem pool_at_vault {v : Nat} {s : VaultS} {x : VX} {F X : Pr} {w : World} (h : Sat (X.star ((PoolA x.p s.pool).star ((Pr.pts v (.cells #[.pointer (some ⟨x.p, 0, none⟩), .map (some x.mb), x.av, .int .i64 s.floor] 43)).star
      ((((MapA Try.prog 3 x.mb x.f).star ((Row 94 2 x.av s.acts.length (actCells x.axs)).star (Pr.own x.h)))).star F)))) w) : Sat (X.star ((VaultAt v s x).star F)) w := h.perm (by unfold VaultAt; ac_rfl)
theorem state_eq {s t : PoolS} (hc : s.counts = t.counts) (hl : s.last = t.last) (n : Int) : s.state n = t.state n := by
  obtain ⟨r1, c1, l1, a1, f1⟩ := s
  obtain ⟨r2, c2, l2, a2, f2⟩ := t
  dsimp only at hc hl
  subst hc hl
  rfl
theorem ints_le {v : Value} {V : List Int} {F : Pr} {w : World} (h : Sat ((IntsRow v V).star F) w) : ∃ a, Ints a v V ∧ a.le w := by
  obtain ⟨a, ha, h2⟩ := h.toOwn
  exact ⟨a, Row.rowIn ha, h2.own⟩

set_option maxRecDepth 100000 in
set_option maxHeartbeats 8000000 in
theorem alike_any (wb v r : Nat) (bv wv tv xv : Value) (s : VaultS) (rs : PoolS) (gs : List PageV) (hush : Bool) (look : Int → Option PageV) (hl : Looks s look) (hrl : RLooks rs gs look) (hc : s.pool.counts = rs.counts) (hla : s.pool.last = rs.last) (F : Pr) (w : World)
    (hF : Sat ((Pr.pts wb (workC v r bv wv tv xv)).star ((VaultA v s).star ((RefA r rs gs hush).star F))) w) :
    Calls Try.prog 20 #[.pointer (some ⟨wb, 0, none⟩)] w fun e w' => e = .returned (.bool true) ∧ Stays w w' ∧ Sat ((Pr.pts wb (workC v r bv wv tv xv)).star ((VaultA v s).star ((RefA r rs gs hush).star F))) w' := by
  have hF1 := hF.perm (B := (VaultA v s).star ((Pr.pts wb (workC v r bv wv tv xv)).star ((RefA r rs gs hush).star F))) (by ac_rfl)
  obtain ⟨x, ok, hF2⟩ := vaultA_iff.1 hF1
  obtain ⟨v0, vz, h1⟩ := vault_at_pool hF2
  have h2 := h1.perm (B := (Pr.pts wb (workC v r bv wv tv xv)).star ((RefA r rs gs hush).star ((PoolA x.p s.pool).star ((Pr.pts v (.cells #[.pointer (some ⟨x.p, 0, none⟩), .map (some x.mb), x.av, .int .i64 s.floor] 43)).star
      ((((MapA Try.prog 3 x.mb x.f).star ((Row 94 2 x.av s.acts.length (actCells x.axs)).star (Pr.own x.h)))).star F))))) (by ac_rfl)
  obtain ⟨p0, p1, _, _, _, pz⟩ := pts6w h2
  have hn2 : rs.counts.length ≤ 65536 := by
    obtain ⟨y, oky, _⟩ := refA_iff.1 h2.right
    exact oky.n2
  have LA := Lib.hid (len_A x.p s.pool _ _ h1.drew)
  have RL := Lib.hid (rlen_any r rs gs hush _ _ h2.right.drew)
  have CA := Lib.hid (counts_A x.p s.pool _ _ h1.drew)
  rw [hc] at LA CA
  have H1 := Lib.hid h1
  have HC := Lib.hid hc
  have HLA := Lib.hid hla
  have OK := Lib.hid ok
  have hn3 : (rs.counts.length : Int) ≤ 65536 := by omega
  have HN2 := Lib.hid hn2
  clear hF hF1 hF2 h1 h2 hc hla ok hn2
  go_enter Try.func20, Try.ntmps20
  go_wp2_with fail
  refine wp_region_staged (sz := 93) (by kernel_rfl) [0, 1, 2, 3, 4, 5, 6, 8, 9, 10, 11] [(7, [], [0, 1, 2, 3, 4, 5, 8, 9, 10, 11]), (12, [13, 14, 15, 16, 17, 18, 19, 20, 21, 23, 24, 25, 26], [0, 1, 2, 3, 4, 5, 8, 9, 10]), (22, [], [0, 1, 2, 3, 4, 5, 8, 9, 10, 13, 15, 16, 17, 18, 19, 20, 23, 24, 25, 26]), (27, [], [0, 1, 2, 3, 4, 5, 8, 9, 10, 13, 15, 16, 17, 18, 19, 20, 23, 24, 25]), (28, [29, 30], [0, 1, 2, 3, 4, 5, 8, 9, 10, 13, 15, 16, 17, 18, 19, 20, 23, 24, 25])] rfl (by kernel_rfl) (by kernel_rfl) (by kernel_rfl) ?_
  refine wpQ_all _ rfl rfl ?_
  simp only [pick, List.drop_succ_cons, List.drop_zero, List.take_succ_cons, List.take_zero, List.cons_append, List.nil_append]
  iterate 11 (go_big_quiet_step (fail))
  refine wpQuiet_nil ?_
  refine wpRest_act rfl ?_
  go_wp2_with fail
  refine LA.out.mono ?_
  rintro e w1 ⟨rfl, rfl⟩
  go_wp2
  refine onN_mk ?_
  refine wpQ_nil ⟨?_, ?_⟩
  · refine chk_all _ rfl rfl ?_
    simp only [pick, Same, List.drop_succ_cons, List.drop_zero, List.take_succ_cons, List.take_zero, List.cons_append, List.nil_append, and_true]
    repeat' (first | apply And.intro | (go_big_quiet_step (fail); exact wpQuiet_nil rfl))
  refine wpRest_act rfl ?_
  go_wp2_with fail
  refine RL.out.mono ?_
  rintro e w1 ⟨rfl, rfl⟩
  go_wp2
  refine onN_mk ?_
  refine wpQ_all _ rfl rfl ?_
  simp only [pick, List.drop_succ_cons, List.drop_zero, List.take_succ_cons, List.take_zero, List.cons_append, List.nil_append]
  iterate 13 (go_big_quiet_step (fail))
  refine wpQuiet_nil ⟨?_, ?_⟩
  · refine chk_all _ rfl rfl ?_
    simp only [pick, Same, List.drop_succ_cons, List.drop_zero, List.take_succ_cons, List.take_zero, List.cons_append, List.nil_append, and_true]
    repeat' (first | apply And.intro | (go_big_quiet_step (fail); exact wpQuiet_nil rfl))
  refine wpRest_act rfl ?_
  go_wp2_with fail
  refine CA.out.mono ?_
  rintro e w2 ⟨cv1, rfl, hs2, st2⟩
  obtain ⟨ac1, cc1, e1, _, _⟩ := Row.read hs2
  subst e1
  have hs3 := hs2.perm (B := (RefA r rs gs hush).star ((Pr.pts wb (workC v r bv wv tv xv)).star ((IntsRow (.slice ac1 rs.counts.length cc1) rs.counts).star ((Pr.pts v (.cells #[.pointer (some ⟨x.p, 0, none⟩), .map (some x.mb), x.av, .int .i64 s.floor] 43)).star ((PoolA x.p s.pool).star ((((MapA Try.prog 3 x.mb x.f).star ((Row 94 2 x.av s.acts.length (actCells x.axs)).star (Pr.own x.h)))).star F)))))) (by ac_rfl)
  clear p0 p1 pz v0 vz
  obtain ⟨p0, p1, _, _, _, pz⟩ := pts6w hs3.right
  have v0 : w2.cell? ⟨v, 0, none⟩ = some (.pointer (some ⟨x.p, 0, none⟩)) := by rw [cell_of_heap hs3.right.right.right.pts_heap]; rfl
  have vz := hs3.right.right.right.lt
  have RC := Lib.hid (rcounts_any r rs gs hush _ _ hs3)
  have HST2 := Lib.hid ((Stays.refl w).drew.trans st2)
  clear hs2 hs3 st2 CA LA H1
  go_wp2
  refine onN_mk ?_
  refine wpQ_nil ⟨?_, ?_⟩
  · refine chk_all _ rfl rfl ?_
    simp only [pick, Same, List.drop_succ_cons, List.drop_zero, List.take_succ_cons, List.take_zero, List.cons_append, List.nil_append, and_true]
    repeat' (first | apply And.intro | (go_big_quiet_step (fail); exact wpQuiet_nil rfl))
  refine wpRest_act rfl ?_
  go_wp2_with fail
  refine RC.out.mono ?_
  rintro e w3 ⟨cv2, rfl, hs4, st4⟩
  obtain ⟨ac2, cc2, e2, _, _⟩ := Row.read hs4
  subst e2
  have hs5 := hs4.perm (B := (IntsRow (.slice ac1 rs.counts.length cc1) rs.counts).star ((IntsRow (.slice ac2 rs.counts.length cc2) rs.counts).star ((Pr.pts wb (workC v r bv wv tv xv)).star ((RefA r rs gs hush).star ((Pr.pts v (.cells #[.pointer (some ⟨x.p, 0, none⟩), .map (some x.mb), x.av, .int .i64 s.floor] 43)).star ((PoolA x.p s.pool).star ((((MapA Try.prog 3 x.mb x.f).star ((Row 94 2 x.av s.acts.length (actCells x.axs)).star (Pr.own x.h)))).star F))))))) (by ac_rfl)
  clear p0 p1 pz v0 vz
  obtain ⟨p0, p1, _, _, _, pz⟩ := pts6w hs5.right.right
  have v0 : w3.cell? ⟨v, 0, none⟩ = some (.pointer (some ⟨x.p, 0, none⟩)) := by rw [cell_of_heap hs5.right.right.right.right.pts_heap]; rfl
  have vz := hs5.right.right.right.right.lt
  obtain ⟨a1, i1, l1⟩ := ints_le hs5
  obtain ⟨a2, i2, l2⟩ := ints_le hs5.right
  have EI := Lib.hid (eqints_same a1 a2 _ _ rs.counts i1 i2 HN2.out w3 l1 l2)
  have HS5 := Lib.hid hs5.right.right
  have HST4 := Lib.hid (HST2.out.trans st4)
  clear hs4 hs5 st4 i1 i2 l1 l2 RC HST2
  go_wp2
  refine onN_mk ?_
  refine wpQ_nil ⟨?_, ?_⟩
  · refine chk_all _ rfl rfl ?_
    simp only [pick, Same, List.drop_succ_cons, List.drop_zero, List.take_succ_cons, List.take_zero, List.cons_append, List.nil_append, and_true]
    repeat' (first | apply And.intro | (go_big_quiet_step (fail); exact wpQuiet_nil rfl))
  refine wpRest_act rfl ?_
  go_wp2_with fail
  refine EI.out.mono ?_
  rintro e w4 ⟨rfl, oe⟩
  have hs6 := HS5.out.only oe
  clear p0 p1 pz v0 vz
  obtain ⟨p0, p1, _, _, _, pz⟩ := pts6w hs6
  have v0 : w4.cell? ⟨v, 0, none⟩ = some (.pointer (some ⟨x.p, 0, none⟩)) := by rw [cell_of_heap hs6.right.right.pts_heap]; rfl
  have vz := hs6.right.right.lt
  have HST5 := Lib.hid (HST4.out.trans oe.st)
  have H6 := Lib.hid (show Sat ((Pr.pts wb (workC v r bv wv tv xv)).star ((VaultA v s).star ((RefA r rs gs hush).star F))) w4 from (vaultA_iff.2 ⟨x, OK.out, hs6.perm (B := (VaultAt v s x).star ((Pr.pts wb (workC v r bv wv tv xv)).star ((RefA r rs gs hush).star F))) (by unfold VaultAt; ac_rfl)⟩).perm (by ac_rfl))
  clear hs6 EI HS5 HST4 oe
  go_wp2
  refine onN_mk ?_
  refine wpQ_all _ rfl rfl ?_
  simp only [pick, List.drop_succ_cons, List.drop_zero, List.take_succ_cons, List.take_zero, List.cons_append, List.nil_append]
  iterate 2 (go_big_quiet_step (fail))
  refine wpQuiet_nil ⟨?_, ?_⟩
  · refine chk_all _ rfl rfl ?_
    simp only [pick, Same, List.drop_succ_cons, List.drop_zero, List.take_succ_cons, List.take_zero, List.cons_append, List.nil_append, and_true]
    repeat' (first | apply And.intro | (go_big_quiet_step (fail); exact wpQuiet_nil rfl))
  refine wpRest_nil ?_
  clear p0 p1 pz v0 vz OK
  go_wp2_with fail
  go_loopw [3] (fun i wr => ∃ k : Nat, 1 ≤ k ∧ k ≤ rs.counts.length + 1 ∧ i = .int .i64 k ∧ Stays w wr ∧ Sat ((Pr.pts wb (workC v r bv wv tv xv)).star ((VaultA v s).star ((RefA r rs gs hush).star F))) wr) (fun i _ => rs.counts.length + 1 - (intOf i).toNat)
  case atStart => exact ⟨1, Nat.le_refl _, by omega, rfl, HST5.out, H6.out⟩
  case round =>
    obtain ⟨k, hk1, hk2, rfl, hst, hs⟩ := hrel
    clear H6 HST5
    obtain ⟨p0, p1, _, _, _, pz⟩ := pts6w hs
    have RL := Lib.hid (rlen_any r rs gs hush _ _ (hs.right.perm (B := (RefA r rs gs hush).star ((VaultA v s).star F)) (by ac_rfl)))
    rcases Nat.lt_or_ge rs.counts.length k with hgt | hle
    · have HS := Lib.hid hs
      clear hs
      go_wp2_with fail
      refine RL.out.mono ?_
      rintro e w1 ⟨rfl, rfl⟩
      go_wp2
      go_ret
      exact ⟨rfl, hst, HS.out⟩
    · obtain ⟨g, hg⟩ : ∃ g, (look (k : Int)).getD zeroP = g := ⟨_, rfl⟩
      obtain ⟨er, her⟩ : ∃ er : Int, (if look (k : Int) = none then (15 : Int) else 0) = er := ⟨_, rfl⟩
      have hfit : Fit g := by
        rw [← hg]
        cases hk : look (k : Int) with
        | none => exact fit_zero
        | some g2 => exact (hl.some _ g2 hk).2.2.2
      have RRD := fun F w hF => rread_any r rs gs hush look hrl k F w hF
      have VRD := vread_any v s look hl k _ _ (hs.perm (B := (VaultA v s).star ((Pr.pts wb (workC v r bv wv tv xv)).star ((RefA r rs gs hush).star F))) (by ac_rfl))
      rw [hg, her] at VRD
      rw [hg, her] at RRD
      have HRRD := Lib.hid RRD
      have HVRD := Lib.hid VRD
      have HSTK := Lib.hid hst
      have HFIT := Lib.hid hfit
      clear hs hst hg her VRD RRD hfit
      go_wp2_with fail
      refine RL.out.mono ?_
      rintro e w1 ⟨rfl, rfl⟩
      go_wp2_with fail
      refine HVRD.out.mono ?_
      rintro e w1 ⟨st1, pv, rfl, h1, hp1, hs1⟩
      obtain ⟨vi, vd, rfl, hi1, hd1⟩ := id hp1
      obtain ⟨ai, ci, rfl, _, _⟩ := items_rd hi1
      obtain ⟨ad, cd, rfl⟩ := bytes_shape hd1
      clear p0 p1 pz hi1 hd1 HVRD RL
      have hs2 := hs1.perm (B := (Pr.pts wb (workC v r bv wv tv xv)).star ((RefA r rs gs hush).star ((Pr.own h1).star ((VaultA v s).star F)))) (by ac_rfl)
      obtain ⟨p0, p1, _, _, _, pz⟩ := pts6w hs2
      have hs3 := hs2.alloc (pageC g.kind g.level (.slice ai g.items.length ci) (.slice ad g.data.length cd) g.next)
      have RR := Lib.hid (HRRD.out _ _ (hs3.perm (B := (RefA r rs gs hush).star ((Pr.pts w1.heap.size (pageC g.kind g.level (.slice ai g.items.length ci) (.slice ad g.data.length cd) g.next)).star ((Pr.pts wb (workC v r bv wv tv xv)).star ((Pr.own h1).star ((VaultA v s).star F))))) (by ac_rfl)))
      have HST1 := Lib.hid ((HSTK.out.trans st1).alloc (pageC g.kind g.level (.slice ai g.items.length ci) (.slice ad g.data.length cd) g.next))
      have HP1 := Lib.hid hp1
      clear hs1 hs2 hs3 st1 HSTK hp1 HRRD
      go_wp2_with fail
      refine RR.out.mono ?_
      rintro e w2 ⟨st2, pv2, rfl, h2, hp2, hs4⟩
      obtain ⟨wi, wd, rfl, hi2, hd2⟩ := id hp2
      obtain ⟨bi, di, rfl, _, _⟩ := items_rd hi2
      obtain ⟨bd, dd, rfl⟩ := bytes_shape hd2
      clear p0 p1 pz hi2 hd2 RR
      have hs5 := (hs4.alloc (pageC g.kind g.level (.slice bi g.items.length di) (.slice bd g.data.length dd) g.next)).perm (B := (VaultA v s).star ((Pr.pts w2.heap.size (pageC g.kind g.level (.slice bi g.items.length di) (.slice bd g.data.length dd) g.next)).star ((Pr.pts w1.heap.size (pageC g.kind g.level (.slice ai g.items.length ci) (.slice ad g.data.length cd) g.next)).star ((Pr.own h2).star ((Pr.own h1).star ((Pr.pts wb (workC v r bv wv tv xv)).star ((RefA r rs gs hush).star F))))))) (by ac_rfl)
      obtain ⟨y, oky, hs6⟩ := vaultA_iff.1 hs5
      have hs7 := hs6.perm (B := (Pr.pts w1.heap.size (pageC g.kind g.level (.slice ai g.items.length ci) (.slice ad g.data.length cd) g.next)).star ((Pr.pts w2.heap.size (pageC g.kind g.level (.slice bi g.items.length di) (.slice bd g.data.length dd) g.next)).star ((Pr.pts wb (workC v r bv wv tv xv)).star ((Pr.pts v (.cells #[.pointer (some ⟨y.p, 0, none⟩), .map (some y.mb), y.av, .int .i64 s.floor] 43)).star ((PoolA y.p s.pool).star ((RefA r rs gs hush).star ((Pr.own h1).star ((Pr.own h2).star
        ((((MapA Try.prog 3 y.mb y.f).star ((Row 94 2 y.av s.acts.length (actCells y.axs)).star (Pr.own y.h)))).star F))))))))) (by unfold VaultAt; ac_rfl)
      have HST2 := Lib.hid ((HST1.out.trans st2).alloc (pageC g.kind g.level (.slice bi g.items.length di) (.slice bd g.data.length dd) g.next))
      have HS7 := Lib.hid hs7
      have HP2 := Lib.hid hp2
      have HOK := Lib.hid oky
      clear hs4 hs5 hs6 hs7 st2 HST1 hp2 oky
      have T1 := HST2.out
      have T2 := HS7.out
      clear HST2 HS7
      go_wp2_with fail
      generalize hw3 : w2.alloc (pageC g.kind g.level (.slice bi g.items.length di) (.slice bd g.data.length dd) g.next) = w3 at *
      generalize w1.heap.size = P1 at *
      generalize w2.heap.size = P2 at *
      have HST2 := Lib.hid T1
      have HS7 := Lib.hid T2
      clear T1 hw3
      obtain ⟨q0, q1, q2, q3, q4, _, qz⟩ := pts5 T2
      obtain ⟨r0, r1, r2, r3, r4, _, rz⟩ := pts5 T2.right
      obtain ⟨p0, p1, _, _, _, pz⟩ := pts6w T2.right.right
      have v0 : w3.cell? ⟨v, 0, none⟩ = some (.pointer (some ⟨y.p, 0, none⟩)) := by rw [cell_of_heap T2.right.right.right.pts_heap]; rfl
      have vz := T2.right.right.right.lt
      have SA := Lib.hid (state_any y.p k w3.drew s.pool (poolA_rd T2.right.right.right.right.drew).2.1)
      have SB := Lib.hid (rstate_any r rs gs hush k _ _ T2.right.right.right.right.right.drew)
      rw [state_eq HC.out HLA.out] at SA
      have EP := Lib.hid (eqpage_same h1 h2 _ _ g HP1.out HP2.out HFIT.out w3.drew T2.right.right.right.right.right.right.drew.own T2.right.right.right.right.right.right.right.drew.own)
      clear T2
      refine wp_region_staged (sz := 93) (by kernel_rfl) [0, 1, 2, 3, 4, 5, 6, 7, 9, 10, 11, 12, 13] [(8, [], [0, 1, 2, 3, 4, 5, 9, 10, 11, 12, 13]), (14, [15, 16, 17, 18, 19, 20, 21, 22, 23], [0, 1, 2, 3, 4, 5, 9, 10, 11]), (24, [25, 26], [0, 1, 2, 3, 4, 5, 9, 10, 11, 15, 16, 17, 18, 19, 20])] rfl (by kernel_rfl) (by kernel_rfl) (by kernel_rfl) ?_
      refine wpQ_all _ rfl rfl ?_
      simp only [pick, List.drop_succ_cons, List.drop_zero, List.take_succ_cons, List.take_zero, List.cons_append, List.nil_append]
      iterate 13 (go_big_quiet_step (fail))
      refine wpQuiet_nil ?_
      refine wpRest_act rfl ?_
      go_wp2_with fail
      refine SA.out.mono ?_
      rintro e w4 ⟨rfl, rfl⟩
      go_wp2
      refine onN_mk ?_
      refine wpQ_nil ⟨?_, ?_⟩
      · refine chk_all _ rfl rfl ?_
        simp only [pick, Same, List.drop_succ_cons, List.drop_zero, List.take_succ_cons, List.take_zero, List.cons_append, List.nil_append, and_true]
        repeat' (first | apply And.intro | (go_big_quiet_step (fail); exact wpQuiet_nil rfl))
      refine wpRest_act rfl ?_
      go_wp2_with fail
      refine SB.out.mono ?_
      rintro e w4 ⟨rfl, rfl⟩
      go_wp2
      refine onN_mk ?_
      refine wpQ_all _ rfl rfl ?_
      simp only [pick, List.drop_succ_cons, List.drop_zero, List.take_succ_cons, List.take_zero, List.cons_append, List.nil_append]
      iterate 9 (go_big_quiet_step (fail))
      refine wpQuiet_nil ⟨?_, ?_⟩
      · refine chk_all _ rfl rfl ?_
        simp only [pick, Same, List.drop_succ_cons, List.drop_zero, List.take_succ_cons, List.take_zero, List.cons_append, List.nil_append, and_true]
        repeat' (first | apply And.intro | (go_big_quiet_step (fail); exact wpQuiet_nil rfl))
      refine wpRest_act rfl ?_
      go_wp2_with fail
      refine EP.out.mono ?_
      rintro e w4 ⟨rfl, oe⟩
      have hs8 := HS7.out.drew.only oe
      clear q0 q1 q2 q3 q4 qz r0 r1 r2 r3 r4 rz p0 p1 pz v0 vz SA SB EP
      obtain ⟨q0, q1, q2, q3, q4, _, qz⟩ := pts5 hs8
      obtain ⟨r0, r1, r2, r3, r4, _, rz⟩ := pts5 hs8.right
      obtain ⟨p0, p1, _, _, _, pz⟩ := pts6w hs8.right.right
      have v0 : w4.cell? ⟨v, 0, none⟩ = some (.pointer (some ⟨y.p, 0, none⟩)) := by rw [cell_of_heap hs8.right.right.right.pts_heap]; rfl
      have vz := hs8.right.right.right.lt
      have HST5 := Lib.hid (HST2.out.drew.trans oe.st)
      have hs9 := hs8.right.right.perm (B := (Pr.own h1).star ((Pr.own h2).star ((VaultAt v s y).star ((Pr.pts wb (workC v r bv wv tv xv)).star ((RefA r rs gs hush).star F))))) (by unfold VaultAt; ac_rfl)
      have H10 := Lib.hid (show Sat ((Pr.pts wb (workC v r bv wv tv xv)).star ((VaultA v s).star ((RefA r rs gs hush).star F))) w4 from (vaultA_iff.2 ⟨y, HOK.out, hs9.right.right⟩).perm (by ac_rfl))
      clear hs8 hs9 HS7 HST2 oe
      go_wp2
      refine onN_mk ?_
      refine wpQ_all _ rfl rfl ?_
      simp only [pick, List.drop_succ_cons, List.drop_zero, List.take_succ_cons, List.take_zero, List.cons_append, List.nil_append]
      iterate 2 (go_big_quiet_step (fail))
      refine wpQuiet_nil ⟨?_, ?_⟩
      · refine chk_all _ rfl rfl ?_
        simp only [pick, Same, List.drop_succ_cons, List.drop_zero, List.take_succ_cons, List.take_zero, List.cons_append, List.nil_append, and_true]
        repeat' (first | apply And.intro | (go_big_quiet_step (fail); exact wpQuiet_nil rfl))
      refine wpRest_nil ?_
      go_wp2
      go_roundw
      case rel => exact ⟨k + 1, by omega, by omega, congrArg (Value.int .i64) (by omega), HST5.out, H10.out⟩
      case measure => simp [intOf]; omega
end Go.Proofs.Ytbobcmimkonnoaa.alike

namespace Go.Proofs.Ytbobcmimkonnoaa.loads1
open Go.ChangeShapes Go.WideShapes Go.ChangeAt Go.RowKit Go.Sl Go.Cop Go.Proofs.Ytbobcmimkonnoaa.clone Go.Proofs.Ytbobcmimkonnoaa.page Go.Proofs.Ytbobcmimkonnoaa.vault1 Go.Proofs.Ytbobcmimkonnoaa.vault2 Go.Proofs.Ytbobcmimkonnoaa.counts Go.Proofs.Ytbobcmimkonnoaa.items Go.Proofs.Ytbobcmimkonnoaa.copyP Go.Proofs.Ytbobcmimkonnoaa.blob3 Go.Proofs.Ytbobcmimkonnoaa.vloadLaw Go.Proofs.Ytbobcmimkonnoaa.vload Go.Proofs.Ytbobcmimkonnoaa.ref1 Go.Proofs.Ytbobcmimkonnoaa.rload Go.Proofs.Ytbobcmimkonnoaa.looks Go.Proofs.Ytbobcmimkonnoaa.law1 Go.Proofs.Ytbobcmimkonnoaa.begun Go.Proofs.Ytbobcmimkonnoaa.alike Go.Proofs.Ytbobcmimkonnoaa.close

theorem add_nils {A F : Pr} {w : World} (T : Nat) (h : Sat (A.star F) w) : Sat (A.star ((Row T 1 nilS 0 []).star ((Row T 1 nilS 0 []).star F))) w := by
  have e : Row T 1 nilS 0 [] = Pr.emp := Row.nil _ _
  rw [e, Pr.emp_star, Pr.emp_star]
  exact h

set_option maxRecDepth 100000 in
set_option maxHeartbeats 4000000 in
theorem loads_walk (pages refs : Int) (vc vl : Value) (cs : List Int) (l : List NumV) (iv : Value) (x : ItemV) (w : World) (hx : Ints (heapOf w) vc cs) (hl : NumsIn (heapOf w) vl l) (hu : ∀ x ∈ l, ∀ y ∈ x.page.items, U8 y.key) (hi : ItemIn (heapOf w) iv x)
    (hn : x.key.length ≤ 140737488351232 ∧ x.value.length ≤ 140737488351232) :
    Calls Try.prog 6 #[.agg #[.int .i64 pages, .int .i64 refs, vc, vl], iv] w fun e w' => e = .returned (.bool true) ∧ Sat (Pr.own (heapOf w)) w' ∧ Stays w w' := by
  obtain ⟨ac, cc, rfl, _⟩ := ints_rd hx
  obtain ⟨al, cl, rfl, _⟩ := nums_rd hl
  obtain ⟨kv, vv, rfl, hk, hvv⟩ := id hi
  obtain ⟨ak, ck, rfl⟩ := bytes_shape hk
  obtain ⟨av, cv, rfl⟩ := bytes_shape hvv
  have h0 := ((sat_heap w).alloc (beginC pages refs (.slice ac cs.length cc) (.slice al l.length cl))).alloc (itemC (.slice ak x.key.length ck) (.slice av x.value.length cv) x.child x.size)
  rw [show (w.alloc (beginC pages refs (.slice ac cs.length cc) (.slice al l.length cl))).heap.size = w.heap.size + 1 by simp] at h0
  have h1 := h0.perm (B := (Pr.own (heapOf w)).star ((Pr.pts w.heap.size (beginC pages refs (.slice ac cs.length cc) (.slice al l.length cl))).star (Pr.pts (w.heap.size + 1) (itemC (.slice ak x.key.length ck) (.slice av x.value.length cv) x.child x.size)))) (by ac_rfl)
  have X := Lib.hid (fixed_yes _ _ h1)
  have HST := Lib.hid (((Stays.refl w).alloc (beginC pages refs (.slice ac cs.length cc) (.slice al l.length cl))).alloc (itemC (.slice ak x.key.length ck) (.slice av x.value.length cv) x.child x.size))
  have BG := Lib.hid (fun F w' hF => begun_any pages refs (heapOf w) _ _ cs l hx hl hu F w' hF)
  have HI := Lib.hid hi
  have HN := Lib.hid hn
  clear hx hl hu hk hvv h0 h1 hi hn
  go_enter Try.func6, Try.ntmps6
  go_wp2_with fail
  refine X.out.mono ?_
  rintro e w1 ⟨rfl, hs1, st1⟩
  obtain ⟨b0, b1, b2, b3, _, zB⟩ := pts4 hs1.right
  have B1 := Lib.hid (BG.out _ _ hs1)
  have HST1 := Lib.hid (HST.out.trans st1)
  clear hs1 st1 BG X
  go_wp2_with fail
  refine B1.out.mono ?_
  rintro e w2 ⟨st2, p, rfl, (⟨rfl, hs2⟩ | ⟨wb, v, r, refs', cs', on, rfl, hr, hs2⟩)⟩
  · have HS2 := Lib.hid hs2.left
    clear hs2
    go_wp2
    go_ret
    exact ⟨rfl, HS2.out, HST1.out.trans st2⟩
  · have hs3 := (add_nils 31 hs2).perm (B := (Pr.pts wb (workC v r nilS nilS nilS nilS)).star ((Row 31 1 nilS 0 []).star ((Row 31 1 nilS 0 []).star ((VaultA v (loadV refs' cs' on)).star ((RefA r (Go.Proofs.Ytbobcmimkonnoaa.pool9.poolOf refs' cs' 0) (pgsOf cs'.length on) true).star ((Pr.own (heapOf w)).star ((Pr.pts (w.heap.size + 1) (itemC (.slice ak x.key.length ck) (.slice av x.value.length cv) x.child x.size)).star (Pr.pts w.heap.size (beginC pages refs (.slice ac cs.length cc) (.slice al l.length cl)))))))))) (by ac_rfl)
    have LK := Lib.hid (looks_of (refs := refs') hr)
    have RK := Lib.hid (rlooks_of (refs := refs') hr)
    have L1 := load_any wb v r nilS nilS nilS nilS 0 [] [] _ _ _ true _ LK.out RK.out x (heapOf w) _ HI.out HN.out (by omega) _ _ hs3
    obtain ⟨q0, q1, q2, q3, _, zI⟩ := pts4 hs3.right.right.right.right.right.right
    have HL1 := Lib.hid L1
    have HST2 := Lib.hid (HST1.out.trans st2)
    clear hs2 hs3 st2 L1 b0 b1 b2 b3 zB B1 HST1
    go_wp2_with fail
    refine HL1.out.mono ?_
    rintro e w3 ⟨rfl, st3, o, c, tv1, xv1, hs4⟩
    rw [if_pos (by omega), if_pos (by omega), if_pos (by omega)] at hs4
    have hs5 := hs4.perm (B := (Pr.pts wb (workC v r nilS nilS tv1 xv1)).star ((Row 31 1 tv1 1 [o]).star ((Row 31 1 xv1 1 [c]).star ((VaultA v (loadV refs' cs' on)).star ((RefA r (Go.Proofs.Ytbobcmimkonnoaa.pool9.poolOf refs' cs' 0) (pgsOf cs'.length on) true).star ((Pr.own (heapOf w)).star ((Pr.pts (w.heap.size + 1) (itemC (.slice ak x.key.length ck) (.slice av x.value.length cv) x.child x.size)).star ((Pr.pts w.heap.size (beginC pages refs (.slice ac cs.length cc) (.slice al l.length cl))).star
      ((BytesRow o (valueL (lookL cs' on) x.size x.child x.value).1).star (BytesRow c (valueL (lookL cs' on) x.size x.child x.value).1)))))))))) (by ac_rfl)
    have L2 := load_any wb v r nilS nilS tv1 xv1 1 [o] [c] _ _ _ true _ LK.out RK.out x (heapOf w) _ HI.out HN.out (by omega) _ _ hs5
    clear q0 q1 q2 q3 zI
    obtain ⟨q0, q1, q2, q3, _, zI⟩ := pts4 hs5.right.right.right.right.right.right
    have HL2 := Lib.hid L2
    have HST3 := Lib.hid (HST2.out.trans st3)
    clear hs4 hs5 st3 L2 HL1 HST2
    go_wp2_with fail
    refine HL2.out.mono ?_
    rintro e w4 ⟨rfl, st4, o2, c2, tv2, xv2, hs6⟩
    rw [if_pos (by omega), if_pos (by omega), if_pos (by omega)] at hs6
    have hs7 := hs6.perm (B := (Pr.pts wb (workC v r nilS nilS tv2 xv2)).star ((VaultA v (loadV refs' cs' on)).star ((RefA r (Go.Proofs.Ytbobcmimkonnoaa.pool9.poolOf refs' cs' 0) (pgsOf cs'.length on) true).star ((Pr.own (heapOf w)).star ((Row 31 1 tv2 2 [o, o2]).star ((Row 31 1 xv2 2 [c, c2]).star ((Pr.pts (w.heap.size + 1) (itemC (.slice ak x.key.length ck) (.slice av x.value.length cv) x.child x.size)).star ((Pr.pts w.heap.size (beginC pages refs (.slice ac cs.length cc) (.slice al l.length cl))).star
      ((BytesRow o (valueL (lookL cs' on) x.size x.child x.value).1).star ((BytesRow c (valueL (lookL cs' on) x.size x.child x.value).1).star ((BytesRow o2 (valueL (lookL cs' on) x.size x.child x.value).1).star (BytesRow c2 (valueL (lookL cs' on) x.size x.child x.value).1))))))))))) ) (by simp only [List.cons_append, List.nil_append]; ac_rfl)
    have AL := Lib.hid (alike_any wb v r nilS nilS tv2 xv2 _ _ _ true _ LK.out RK.out rfl rfl _ _ hs7)
    have HST4 := Lib.hid (HST3.out.trans st4)
    clear hs6 hs7 st4 HL2 HST3 q0 q1 q2 q3 zI
    go_wp2_with fail
    refine AL.out.mono ?_
    rintro e w5 ⟨rfl, st5, hs8⟩
    have HS8 := Lib.hid hs8
    clear hs8
    go_wp2
    go_ret
    exact ⟨rfl, HS8.out.right.right.right.left, HST4.out.trans st5⟩
end Go.Proofs.Ytbobcmimkonnoaa.loads1
