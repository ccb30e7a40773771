import Derived.Test.YtbobcmimkonnoaaGreatBlobAnswersM35
import Derived.Test.YtbobcmimkonnoaaGreatBlobAnswersM42
import Derived.Test.YtbobcmimkonnoaaGreatBlobAnswersM13
import Derived.Test.YtbobcmimkonnoaaGreatBlobAnswersM11
import Derived.Test.YtbobcmimkonnoaaGreatBlobAnswersM03
import Derived.Test.YtbobcmimkonnoaaGreatBlobAnswersM16
import Derived.SizedLaws
namespace Go.Proofs.YtbobcmimkonnoaaGreat.begun
open ChangeShapes WideShapes ChangeAt RowKit Sl Cop pool1 pool2 pool5 pool8 pool9 clone page vault1 vault2 vault6 counts items copyP load1 vloadLaw vload ref1 ref2 ref3 rload rcopy2 looks vnew law1
abbrev beginC (pages refs : Int) (vc vl : Value) : Obj := .cells #[.int .i64 pages, .int .i64 refs, vc, vl] 51
abbrev workZ : Obj := .cells #[.pointer none, .pointer none, .slice none 0 0, .slice none 0 0, .slice none 0 0, .slice none 0 0] 65
abbrev nilS : Value := .slice none 0 0
abbrev workV (p q : Value) : Obj := .cells #[p, q, .slice none 0 0, .slice none 0 0, .slice none 0 0, .slice none 0 0] 65
theorem lasts_zero (n : Nat) : lastsOf (List.replicate n 0) = List.replicate n false := by
 unfold lastsOf
 simp
theorem right_load2 {refs : Int} {cs : List Int} {l : List NumV} (h : (loadE refs cs l).1 = 0) : Right cs (loadE refs cs l).2 ∧ ∀ c ∈ cs, 0 ≤ c ∧ c ≤ refs := by
 refine ⟨right_load h, ?_⟩
 unfold loadE at h
 split at h
 · cases h
 · split at h
   · cases h
   · rename_i hb
     intro c hc
     have h1 : badC refs cs = false := by simpa using hb
     unfold badC at h1
     have h2 := List.any_eq_false.1 h1 c hc
     simp only [decide_eq_true_eq] at h2
     omega
def Made (h : Hp) (F : Pr) (p : Value) (w : World) : Prop :=
 (p = .pointer none ∧ Sat ((Pr.own h).star F) w) ∨ ∃ wb v r refs cs on, p = .pointer (some ⟨wb, 0, none⟩) ∧ (Right cs on ∧ ∀ c ∈ cs, 0 ≤ c ∧ c ≤ refs) ∧
  Sat ((Pr.pts wb (workC v r nilS nilS nilS nilS)).star ((VaultA v (loadV refs cs on)).star ((RefA r (poolOf refs cs 0) (pgsOf cs.length on) (quietT true)).star ((Pr.own h).star F)))) w
set_option maxRecDepth 100000 in
set_option maxHeartbeats 4000000 in
theorem begun_any (pages refs : Int) (h : Hp) (vc vl : Value) (cs : List Int) (l : List NumV) (hx : Ints h vc cs) (hl : NumsIn h vl l) (hu : ∀ x ∈ l, ∀ y ∈ x.page.items, U8 y.key) (F : Pr) (w : World) (hF : Sat ((Pr.own h).star F) w) :
 Calls Tryz.prog 16 #[.agg #[.int .i64 pages, .int .i64 refs, vc, vl]] w fun e w' => Stays w w' ∧ ∃ p, e = .returned (.tuple #[p, .bool true]) ∧ Made h F p w' := by
 obtain ⟨ac, cc, rfl, _⟩ := ints_rd hx
 obtain ⟨al, cl, rfl, _⟩ := nums_rd hl
 have hb := hF.alloc (beginC pages refs (.slice ac cs.length cc) (.slice al l.length cl))
 by_cases hbig : 300 < (cs.length : Int) ∨ 300 < pages ∨ 400 < (l.length : Int)
 · have HB := Lib.hid hb.right
   have HST := Lib.hid ((Stays.refl w).alloc (beginC pages refs (.slice ac cs.length cc) (.slice al l.length cl)))
   clear hF hb
   by_cases h1 : 300 < (cs.length : Int)
   · clear hbig
     go_enter Tryz.func16, Tryz.ntmps16
     go_wp2
     go_ret2
     exact ⟨HST.out, _, rfl, .inl ⟨rfl, HB.out⟩⟩
   · by_cases h2 : 300 < pages
     · clear hbig
       go_enter Tryz.func16, Tryz.ntmps16
       go_wp2
       go_ret2
       exact ⟨HST.out, _, rfl, .inl ⟨rfl, HB.out⟩⟩
     · have h3 : 400 < (l.length : Int) := by omega
       clear hbig
       go_enter Tryz.func16, Tryz.ntmps16
       go_wp2
       go_ret2
       exact ⟨HST.out, _, rfl, .inl ⟨rfl, HB.out⟩⟩
 · have h1 : (cs.length : Int) ≤ 300 := by omega
   have h2 : pages ≤ 300 := by omega
   have h3 : (l.length : Int) ≤ 400 := by omega
   clear hbig
   have hc := hb.alloc workZ
   rw [show (w.alloc (beginC pages refs (.slice ac cs.length cc) (.slice al l.length cl))).heap.size = w.heap.size + 1 by simp] at hc
   have HST := Lib.hid (((Stays.refl w).alloc (beginC pages refs (.slice ac cs.length cc) (.slice al l.length cl))).alloc workZ)
   by_cases h4 : 0 < (cs.length : Int)
   · have VL := vload_any refs h _ _ cs l hx hl hu (by omega) _ _ (hc.perm (B := (Pr.own h).star ((Pr.pts (w.heap.size + 1) workZ).star ((Pr.pts w.heap.size (beginC pages refs (.slice ac cs.length cc) (.slice al l.length cl))).star F))) (by ac_rfl))
     have RL := Lib.hid (fun F w hF => rload_any refs h _ _ cs l hx hl (by omega) F w hF)
     have RG := Lib.hid (fun (he : (loadE refs cs l).1 = 0) => right_load2 he)
     obtain ⟨E, hE⟩ : ∃ E, (loadE refs cs l).1 = E := ⟨_, rfl⟩
     obtain ⟨on, hon⟩ : ∃ on, (loadE refs cs l).2 = on := ⟨_, rfl⟩
     rw [hE, hon] at VL RG
     have RL2 := RL.out
     rw [hE, hon] at RL2
     have HVL := Lib.hid VL
     have HRL := Lib.hid RL2
     clear hF hb hc VL RL RL2 hx hl hu hE hon
     go_enter Tryz.func16, Tryz.ntmps16
     go_wp2_with fail
     refine HVL.out.mono ?_
     rintro e w1 ⟨st1, (⟨hne, rfl, hs1⟩ | ⟨he, v, rfl, hs1⟩)⟩
     · have hs2 := hs1.perm (B := (Pr.pts (w.heap.size + 1) workZ).star ((Pr.own h).star ((Pr.pts w.heap.size (beginC pages refs (.slice ac cs.length cc) (.slice al l.length cl))).star F))) (by ac_rfl)
       have c0 := (pts6w hs2).1
       have c1 := (pts6w hs2).2.1
       have zW := hs2.lt
       have f0 := frozen_of_heap hs2.pts_heap 0
       obtain ⟨b0, b1, b2, b3, _, zB⟩ := pts4 hs2.right.right
       have hs3 : Sat ((Pr.pts (w.heap.size + 1) workZ).star ((Pr.own h).star ((Pr.pts w.heap.size (beginC pages refs (.slice ac cs.length cc) (.slice al l.length cl))).star F))) (w1.setCell ⟨w.heap.size + 1, 0, none⟩ (.pointer none)) := hs2.setCell (i := 0) (.pointer none)
       have RL3 := Lib.hid (HRL.out _ _ (hs3.perm (B := (Pr.own h).star ((Pr.pts (w.heap.size + 1) workZ).star ((Pr.pts w.heap.size (beginC pages refs (.slice ac cs.length cc) (.slice al l.length cl))).star F))) (by ac_rfl)))
       have HST1 := Lib.hid ((HST.out.trans st1).setCell ⟨w.heap.size + 1, 0, none⟩ (.pointer none))
       clear hs1 hs2 hs3 st1 HVL HRL
       go_wp2_with fail
       refine RL3.out.mono ?_
       rintro e w2 ⟨st2, (⟨_, rfl, hs4⟩ | ⟨he, _⟩)⟩
       · have hs5 := hs4.perm (B := (Pr.pts (w.heap.size + 1) workZ).star ((Pr.own h).star ((Pr.pts w.heap.size (beginC pages refs (.slice ac cs.length cc) (.slice al l.length cl))).star F))) (by ac_rfl)
         clear c0 c1 f0 zW b0 b1 b2 b3 zB RL3
         have c0 := (pts6w hs5).1
         have c1 := (pts6w hs5).2.1
         have zW := hs5.lt
         have f1 := frozen_of_heap hs5.pts_heap 1
         have HS6 := Lib.hid (show Sat ((Pr.pts (w.heap.size + 1) workZ).star ((Pr.own h).star ((Pr.pts w.heap.size (beginC pages refs (.slice ac cs.length cc) (.slice al l.length cl))).star F))) (w2.setCell ⟨w.heap.size + 1, 1, none⟩ (.pointer none)) from hs5.setCell (i := 1) (.pointer none))
         have HST2 := Lib.hid ((HST1.out.trans st2).setCell ⟨w.heap.size + 1, 1, none⟩ (.pointer none))
         clear hs4 hs5 st2 HST1
         go_wp2_with fail
         go_quiet (fail)
         go_wp2
         go_ret2
         exact ⟨HST2.out.drewN _, _, rfl, .inl ⟨rfl, (HS6.out.perm (B := (Pr.pts (w.heap.size + 1) workZ).star ((Pr.pts w.heap.size (beginC pages refs (.slice ac cs.length cc) (.slice al l.length cl))).star ((Pr.own h).star F))) (by ac_rfl)).right.right.drewN _⟩⟩
       · exact absurd he hne
     · subst he
       have hs2 := hs1.perm (B := (Pr.pts (w.heap.size + 1) workZ).star ((Pr.own h).star ((VaultA v (loadV refs cs on)).star ((Pr.pts w.heap.size (beginC pages refs (.slice ac cs.length cc) (.slice al l.length cl))).star F)))) (by ac_rfl)
       have c0 := (pts6w hs2).1
       have c1 := (pts6w hs2).2.1
       have zW := hs2.lt
       have f0 := frozen_of_heap hs2.pts_heap 0
       obtain ⟨b0, b1, b2, b3, _, zB⟩ := pts4 hs2.right.right.right
       have hs3 : Sat ((Pr.pts (w.heap.size + 1) (workV (.pointer (some ⟨v, 0, none⟩)) (.pointer none))).star ((Pr.own h).star ((VaultA v (loadV refs cs on)).star ((Pr.pts w.heap.size (beginC pages refs (.slice ac cs.length cc) (.slice al l.length cl))).star F)))) (w1.setCell ⟨w.heap.size + 1, 0, none⟩ (.pointer (some ⟨v, 0, none⟩))) := hs2.setCell (i := 0) (.pointer (some ⟨v, 0, none⟩))
       have RL3 := Lib.hid (HRL.out _ _ (hs3.perm (B := (Pr.own h).star ((Pr.pts (w.heap.size + 1) (workV (.pointer (some ⟨v, 0, none⟩)) (.pointer none))).star ((VaultA v (loadV refs cs on)).star ((Pr.pts w.heap.size (beginC pages refs (.slice ac cs.length cc) (.slice al l.length cl))).star F)))) (by ac_rfl)))
       have HST1 := Lib.hid ((HST.out.trans st1).setCell ⟨w.heap.size + 1, 0, none⟩ (.pointer (some ⟨v, 0, none⟩)))
       clear hs1 hs2 hs3 st1 HVL HRL
       go_wp2_with fail
       refine RL3.out.mono ?_
       rintro e w2 ⟨st2, (⟨hne, _⟩ | ⟨_, r, rfl, hs4⟩)⟩
       · exact absurd rfl hne
       · have hs5 := hs4.perm (B := (Pr.pts (w.heap.size + 1) (workV (.pointer (some ⟨v, 0, none⟩)) (.pointer none))).star ((RefA r (poolOf refs cs 0) (pgsOf cs.length on) (quietT false)).star ((Pr.own h).star ((VaultA v (loadV refs cs on)).star ((Pr.pts w.heap.size (beginC pages refs (.slice ac cs.length cc) (.slice al l.length cl))).star F))))) (by ac_rfl)
         clear c0 c1 f0 zW b0 b1 b2 b3 zB RL3
         have c0 := (pts6w hs5).1
         have c1 := (pts6w hs5).2.1
         have zW := hs5.lt
         have f1 := frozen_of_heap hs5.pts_heap 1
         have hs6 : Sat ((Pr.pts (w.heap.size + 1) (workC v r nilS nilS nilS nilS)).star ((RefA r (poolOf refs cs 0) (pgsOf cs.length on) (quietT false)).star ((Pr.own h).star ((VaultA v (loadV refs cs on)).star ((Pr.pts w.heap.size (beginC pages refs (.slice ac cs.length cc) (.slice al l.length cl))).star F))))) (w2.setCell ⟨w.heap.size + 1, 1, none⟩ (.pointer (some ⟨r, 0, none⟩))) := hs5.setCell (i := 1) (.pointer (some ⟨r, 0, none⟩))
         have CP := Lib.hid (rcopy_any r _ _ (quietT false) _ _ (hs6.perm (B := (RefA r (poolOf refs cs 0) (pgsOf cs.length on) (quietT false)).star ((Pr.pts (w.heap.size + 1) (workC v r nilS nilS nilS nilS)).star ((Pr.own h).star ((VaultA v (loadV refs cs on)).star ((Pr.pts w.heap.size (beginC pages refs (.slice ac cs.length cc) (.slice al l.length cl))).star F))))) (by ac_rfl)))
         have HST2 := Lib.hid ((HST1.out.trans st2).setCell ⟨w.heap.size + 1, 1, none⟩ (.pointer (some ⟨r, 0, none⟩)))
         clear hs4 hs5 hs6 st2 HST1
         go_wp2_with fail
         refine CP.out.mono ?_
         rintro e w3 ⟨r2, rfl, hs7, st3⟩
         have hs8 := hs7.perm (B := (Pr.pts (w.heap.size + 1) (workC v r nilS nilS nilS nilS)).star ((Pr.pts w.heap.size (beginC pages refs (.slice ac cs.length cc) (.slice al l.length cl))).star ((VaultA v (loadV refs cs on)).star ((RefA r2 (poolOf refs cs 0) (pgsOf cs.length on) (quietT true)).star ((Pr.own h).star F))))) (by ac_rfl)
         clear c0 c1 f1 zW CP
         have c0 := (pts6w hs8).1
         have c1 := (pts6w hs8).2.1
         have zW := hs8.lt
         have f1 := frozen_of_heap hs8.pts_heap 1
         have HS9 := Lib.hid (show Sat ((Pr.pts (w.heap.size + 1) (workC v r2 nilS nilS nilS nilS)).star ((Pr.pts w.heap.size (beginC pages refs (.slice ac cs.length cc) (.slice al l.length cl))).star ((VaultA v (loadV refs cs on)).star ((RefA r2 (poolOf refs cs 0) (pgsOf cs.length on) (quietT true)).star ((Pr.own h).star F))))) (w3.setCell ⟨w.heap.size + 1, 1, none⟩ (.pointer (some ⟨r2, 0, none⟩))) from hs8.setCell (i := 1) (.pointer (some ⟨r2, 0, none⟩)))
         have HST3 := Lib.hid ((HST2.out.trans st3).setCell ⟨w.heap.size + 1, 1, none⟩ (.pointer (some ⟨r2, 0, none⟩)))
         clear hs7 hs8 st3 HST2
         go_wp2
         go_ret2
         refine ⟨HST3.out, _, rfl, .inr ⟨w.heap.size + 1, v, r2, refs, cs, on, rfl, RG.out trivial, ?_⟩⟩
         exact (HS9.out.perm (B := (Pr.pts w.heap.size (beginC pages refs (.slice ac cs.length cc) (.slice al l.length cl))).star ((Pr.pts (w.heap.size + 1) (workC v r2 nilS nilS nilS nilS)).star ((VaultA v (loadV refs cs on)).star ((RefA r2 (poolOf refs cs 0) (pgsOf cs.length on) (quietT true)).star ((Pr.own h).star F))))) (by ac_rfl)).right
   · have hc0 : cs = [] := List.eq_nil_of_length_eq_zero (by omega)
     subst hc0
     have hc2 := hc.perm (B := (Pr.own h).star ((Pr.pts (w.heap.size + 1) workZ).star ((Pr.pts w.heap.size (beginC pages refs (.slice ac ([] : List Int).length cc) (.slice al l.length cl))).star F))) (by ac_rfl)
     by_cases hr : rangeOk pages refs = true
     · obtain ⟨n, rfl⟩ : ∃ n : Nat, pages = n := ⟨pages.toNat, by have := (rangeOk_iff.1 hr).1; omega⟩
       have hr2 := rangeOk_iff.1 hr
       have hr0 : (0 : Int) ≤ refs := by omega
       have VL := vnew_any n refs (by omega) _ _ hc2
       have RL := fun F w hF => rnew_any n refs hr F w hF
       have e1 : poolN refs n = poolOf refs (List.replicate n 0) 0 := by unfold poolN poolOf; rw [lasts_zero]
       have e2 : List.replicate n zeroP = pgsOf (List.replicate n (0 : Int)).length fun _ => none := by rw [List.length_replicate, pgsOf_none]
       rw [e1, e2] at RL
       have HVL := Lib.hid VL
       have HRL := Lib.hid RL
       have hn5 : n ≤ 65536 := by omega
       clear hF hb hc hc2 VL RL hx hl hu e1 e2 hr hr2
       go_enter Tryz.func16, Tryz.ntmps16
       go_wp2_with fail
       refine HVL.out.mono ?_
       rintro e w1 ⟨st1, v, rfl, hs1⟩
       have hs2 := hs1.perm (B := (Pr.pts (w.heap.size + 1) workZ).star ((Pr.own h).star ((VaultA v (loadV refs (List.replicate n 0) fun _ => none)).star ((Pr.pts w.heap.size (beginC (n : Int) refs (.slice ac ([] : List Int).length cc) (.slice al l.length cl))).star F)))) (by ac_rfl)
       have c0 := (pts6w hs2).1
       have c1 := (pts6w hs2).2.1
       have zW := hs2.lt
       have f0 := frozen_of_heap hs2.pts_heap 0
       obtain ⟨b0, b1, b2, b3, _, zB⟩ := pts4 hs2.right.right.right
       have hs3 : Sat ((Pr.pts (w.heap.size + 1) (workV (.pointer (some ⟨v, 0, none⟩)) (.pointer none))).star ((Pr.own h).star ((VaultA v (loadV refs (List.replicate n 0) fun _ => none)).star ((Pr.pts w.heap.size (beginC (n : Int) refs (.slice ac ([] : List Int).length cc) (.slice al l.length cl))).star F)))) (w1.setCell ⟨w.heap.size + 1, 0, none⟩ (.pointer (some ⟨v, 0, none⟩))) := hs2.setCell (i := 0) (.pointer (some ⟨v, 0, none⟩))
       have RL3 := Lib.hid (HRL.out _ _ hs3)
       have HST1 := Lib.hid ((HST.out.trans st1).setCell ⟨w.heap.size + 1, 0, none⟩ (.pointer (some ⟨v, 0, none⟩)))
       clear hs1 hs2 hs3 st1 HVL HRL
       go_wp2_with fail
       refine RL3.out.mono ?_
       rintro e w2 ⟨st2, r, rfl, hs4⟩
       · have hs5 := hs4.perm (B := (Pr.pts (w.heap.size + 1) (workV (.pointer (some ⟨v, 0, none⟩)) (.pointer none))).star ((RefA r (poolOf refs (List.replicate n 0) 0) (pgsOf (List.replicate n (0 : Int)).length fun _ => none) (quietT false)).star ((Pr.own h).star ((VaultA v (loadV refs (List.replicate n 0) fun _ => none)).star ((Pr.pts w.heap.size (beginC (n : Int) refs (.slice ac ([] : List Int).length cc) (.slice al l.length cl))).star F))))) (by ac_rfl)
         clear c0 c1 f0 zW b0 b1 b2 b3 zB RL3
         have c0 := (pts6w hs5).1
         have c1 := (pts6w hs5).2.1
         have zW := hs5.lt
         have f1 := frozen_of_heap hs5.pts_heap 1
         have hs6 : Sat ((Pr.pts (w.heap.size + 1) (workC v r nilS nilS nilS nilS)).star ((RefA r (poolOf refs (List.replicate n 0) 0) (pgsOf (List.replicate n (0 : Int)).length fun _ => none) (quietT false)).star ((Pr.own h).star ((VaultA v (loadV refs (List.replicate n 0) fun _ => none)).star ((Pr.pts w.heap.size (beginC (n : Int) refs (.slice ac ([] : List Int).length cc) (.slice al l.length cl))).star F))))) (w2.setCell ⟨w.heap.size + 1, 1, none⟩ (.pointer (some ⟨r, 0, none⟩))) := hs5.setCell (i := 1) (.pointer (some ⟨r, 0, none⟩))
         have CP := Lib.hid (rcopy_any r _ _ (quietT false) _ _ (hs6.perm (B := (RefA r (poolOf refs (List.replicate n 0) 0) (pgsOf (List.replicate n (0 : Int)).length fun _ => none) (quietT false)).star ((Pr.pts (w.heap.size + 1) (workC v r nilS nilS nilS nilS)).star ((Pr.own h).star ((VaultA v (loadV refs (List.replicate n 0) fun _ => none)).star ((Pr.pts w.heap.size (beginC (n : Int) refs (.slice ac ([] : List Int).length cc) (.slice al l.length cl))).star F))))) (by ac_rfl)))
         have HST2 := Lib.hid ((HST1.out.trans st2).setCell ⟨w.heap.size + 1, 1, none⟩ (.pointer (some ⟨r, 0, none⟩)))
         clear hs4 hs5 hs6 st2 HST1
         go_wp2_with fail
         refine CP.out.mono ?_
         rintro e w3 ⟨r2, rfl, hs7, st3⟩
         have hs8 := hs7.perm (B := (Pr.pts (w.heap.size + 1) (workC v r nilS nilS nilS nilS)).star ((Pr.pts w.heap.size (beginC (n : Int) refs (.slice ac ([] : List Int).length cc) (.slice al l.length cl))).star ((VaultA v (loadV refs (List.replicate n 0) fun _ => none)).star ((RefA r2 (poolOf refs (List.replicate n 0) 0) (pgsOf (List.replicate n (0 : Int)).length fun _ => none) (quietT true)).star ((Pr.own h).star F))))) (by ac_rfl)
         clear c0 c1 f1 zW CP
         have c0 := (pts6w hs8).1
         have c1 := (pts6w hs8).2.1
         have zW := hs8.lt
         have f1 := frozen_of_heap hs8.pts_heap 1
         have HS9 := Lib.hid (show Sat ((Pr.pts (w.heap.size + 1) (workC v r2 nilS nilS nilS nilS)).star ((Pr.pts w.heap.size (beginC (n : Int) refs (.slice ac ([] : List Int).length cc) (.slice al l.length cl))).star ((VaultA v (loadV refs (List.replicate n 0) fun _ => none)).star ((RefA r2 (poolOf refs (List.replicate n 0) 0) (pgsOf (List.replicate n (0 : Int)).length fun _ => none) (quietT true)).star ((Pr.own h).star F))))) (w3.setCell ⟨w.heap.size + 1, 1, none⟩ (.pointer (some ⟨r2, 0, none⟩))) from hs8.setCell (i := 1) (.pointer (some ⟨r2, 0, none⟩)))
         have HST3 := Lib.hid ((HST2.out.trans st3).setCell ⟨w.heap.size + 1, 1, none⟩ (.pointer (some ⟨r2, 0, none⟩)))
         clear hs7 hs8 st3 HST2
         go_wp2
         go_ret2
         refine ⟨HST3.out, _, rfl, .inr ⟨w.heap.size + 1, v, r2, refs, List.replicate n 0, fun _ => none, rfl, ⟨right_new n (by omega), fun c hc => by rw [List.eq_of_mem_replicate hc]; exact ⟨Int.le_refl _, hr0⟩⟩, ?_⟩⟩
         exact (HS9.out.perm (B := (Pr.pts w.heap.size (beginC (n : Int) refs (.slice ac ([] : List Int).length cc) (.slice al l.length cl))).star ((Pr.pts (w.heap.size + 1) (workC v r2 nilS nilS nilS nilS)).star ((VaultA v (loadV refs (List.replicate n 0) fun _ => none)).star ((RefA r2 (poolOf refs (List.replicate n 0) 0) (pgsOf (List.replicate n (0 : Int)).length fun _ => none) (quietT true)).star ((Pr.own h).star F))))) (by ac_rfl)).right
     · have hr2 : rangeOk pages refs = false := by simpa using hr
       have VB := Lib.hid (fun w => vnew_bad pages refs hr2 w)
       have RB := Lib.hid (fun w => rnew_bad pages refs hr2 w)
       have HC := Lib.hid hc
       clear hF hb hc hc2 hx hl hu hr hr2
       go_enter Tryz.func16, Tryz.ntmps16
       go_wp2_with fail
       refine (VB.out _).mono ?_
       rintro e w1 ⟨rfl, rfl⟩
       go_wp2_with fail
       refine (RB.out _).mono ?_
       rintro e w1 ⟨rfl, rfl⟩
       go_wp2_with fail
       go_quiet (fail)
       go_wp2
       go_ret2
       exact ⟨HST.out.drewN _, _, rfl, .inl ⟨rfl, HC.out.right.right.drewN _⟩⟩
end Go.Proofs.YtbobcmimkonnoaaGreat.begun
namespace Go.Proofs.YtbobcmimkonnoaaGreat.open2
open ChangeShapes WideShapes ChangeAt RowKit Sl Cop Deep clone close openArgs vault1 counts items vloadLaw
theorem cells_int : Tryz.prog.cellsOf 3 = 1 := by kernel_rfl
theorem cells_item : Tryz.prog.cellsOf 58 = 4 := by kernel_rfl
theorem cells_page : Tryz.prog.cellsOf 31 = 5 := by kernel_rfl
theorem cells_num : Tryz.prog.cellsOf 78 = 6 := by kernel_rfl
theorem bytes_u8 : Tryz.prog.bytesOf 5 = 1 := by kernel_rfl
theorem bytes_int : Tryz.prog.bytesOf 3 = 8 := by kernel_rfl
theorem bytes_item : Tryz.prog.bytesOf 58 = 64 := by kernel_rfl
theorem bytes_num : Tryz.prog.bytesOf 78 = 80 := by kernel_rfl
section
variable {H : Type} {enc : TypeId × Value → H}
def Small (d : DataW H) (t : TypeId) : Prop := ∀ m ∈ d.weights Tryz.prog t, m ≤ reachBytes
theorem weights_all {e : TypeId} : ∀ {l : List (DataW H)} {i : Nat} {d : DataW H}, l[i]? = some d → ∀ m ∈ d.weights Tryz.prog e, m ∈ DataW.weightsAll Tryz.prog e l
 | [], _, _, h, _, _ => by simp at h
 | x :: l, 0, d, h, m, hm => by
  simp only [List.getElem?_cons_zero, Option.some.injEq] at h
  subst h
  simp only [DataW.weightsAll, List.mem_append]
  exact .inl hm
 | x :: l, i + 1, d, h, m, hm => by
  simp only [List.getElem?_cons_succ] at h
  simp only [DataW.weightsAll, List.mem_append]
  exact .inr (weights_all h m hm)
set_option maxRecDepth 100000 in
theorem int_of {W : World} {base n : Nat} {v : Value} {x : DataW H × List MemPlace} (h : DataW.trod enc Tryz.prog W base (fun _ => true) true n 3 [v] = some x) : ∃ z, v = .int .i64 z ∧ -9223372036854775808 ≤ z ∧ z ≤ 9223372036854775807 := by
 cases n with
 | zero => simp [DataW.trod] at h
 | succ n =>
  unfold DataW.trod at h
  rw [Tryz.underlying3] at h
  cases v with
  | int k z =>
   simp only at h
   split at h
   · rename_i hk
     have e1 : IntKind.i64.min = -9223372036854775808 := by decide
     have e2 : IntKind.i64.max = 9223372036854775807 := by decide
     simp_all [Lit.wf]
   · simp at h
  | _ => simp at h
set_option maxRecDepth 100000 in
theorem bytes_sz {W : World} {base n : Nat} {v : Value} {x : DataW H × List MemPlace} (h : DataW.trod enc Tryz.prog W base (fun _ => true) true n 29 [v] = some x) :
 ∃ l : List Int, Bytes (heapOf W) v l ∧ U8 l ∧ (Small x.1 29 → l.length ≤ reachBytes) := by
 rcases open_ints Tryz.underlying29 Tryz.underlying5 cells_u8 h with ⟨e, _⟩ | ⟨a, len, cap, zs, e, _, hl, hm, hz, hx, hcell, hwf⟩
 · simp at e
   subst e
   exact ⟨[], RowIn.nil _ _, fun z hz => (by cases hz), fun _ => Nat.zero_le _⟩
 · simp at e
   subst e
   simp only [if_true] at hz
   have hlen : (zs.take len).length = len := by simp; omega
   refine ⟨zs.take len, ⟨by simp, some a, cap, by rw [hlen], by omega, hm, fun h0 => ?_⟩, fun z hz' => ?_, fun hs => ?_⟩
   · obtain ⟨ab, ao, spot⟩ := a
     have hspot : spot = none := by simpa [Addr.add] using World.cell?_spot (hcell 0 (by omega))
     subst hspot
     refine ⟨ab, ao, rfl, fun i hi => ?_⟩
     have hc := hcell i (by omega)
     rw [Addr.add_lit] at hc
     rw [heap_cell hc]
     have h1 : i < zs.length := by omega
     have h2 : i < len := by omega
     simp [h1, h2]
   · have := hwf z (List.mem_of_mem_take hz')
     simp only [Lit.wf, Bool.and_eq_true, decide_eq_true_eq] at this
     have e1 : IntKind.u8.min = 0 := by decide
     have e2 : IntKind.u8.max = 255 := by decide
     rw [e1, e2] at this
     exact this
   · subst hx
     have h2 := hs (((lits .u8 (zs.take len)).length + (lits .u8 (zs.drop len)).length) * Tryz.prog.bytesOf 5 : Nat) (by
      simp only [DataW.weights, Tryz.underlying29]
      exact List.mem_cons_self)
     rw [bytes_u8] at h2
     simp [lits] at h2
     rw [hlen]
     omega
set_option maxRecDepth 100000 in
theorem ints_sz {W : World} {base n : Nat} {v : Value} {x : DataW H × List MemPlace} (h : DataW.trod enc Tryz.prog W base (fun _ => true) true n 40 [v] = some x) :
 ∃ l : List Int, Ints (heapOf W) v l ∧ (∀ z ∈ l, -9223372036854775808 ≤ z ∧ z ≤ 9223372036854775807) ∧ (Small x.1 40 → l.length * 8 ≤ reachBytes) := by
 rcases open_ints Tryz.underlying40 Tryz.underlying3 cells_int h with ⟨e, _⟩ | ⟨a, len, cap, zs, e, _, hl, hm, hz, hx, hcell, hwf⟩
 · simp at e
   subst e
   exact ⟨[], RowIn.nil _ _, fun z hz => (by cases hz), fun _ => Nat.zero_le _⟩
 · simp at e
   subst e
   simp only [if_true] at hz
   have hlen : (zs.take len).length = len := by simp; omega
   refine ⟨zs.take len, ⟨by simp, some a, cap, by rw [hlen], by omega, hm, fun h0 => ?_⟩, fun z hz' => ?_, fun hs => ?_⟩
   · obtain ⟨ab, ao, spot⟩ := a
     have hspot : spot = none := by simpa [Addr.add] using World.cell?_spot (hcell 0 (by omega))
     subst hspot
     refine ⟨ab, ao, rfl, fun i hi => ?_⟩
     have hc := hcell i (by omega)
     rw [Addr.add_lit] at hc
     rw [heap_cell hc]
     have h1 : i < zs.length := by omega
     have h2 : i < len := by omega
     simp [h1, h2]
   · have := hwf z (List.mem_of_mem_take hz')
     simp only [Lit.wf, Bool.and_eq_true, decide_eq_true_eq] at this
     have e1 : IntKind.i64.min = -9223372036854775808 := by decide
     have e2 : IntKind.i64.max = 9223372036854775807 := by decide
     rw [e1, e2] at this
     exact this
   · subst hx
     have h2 := hs (((lits .i64 (zs.take len)).length + (lits .i64 (zs.drop len)).length) * Tryz.prog.bytesOf 3 : Nat) (by
      simp only [DataW.weights, Tryz.underlying40]
      exact List.mem_cons_self)
     rw [bytes_int] at h2
     simp [lits] at h2
     rw [hlen]
     omega
def ItemCells (h : Hp) (cs : List Value) (y : ItemV) : Prop := ∃ kv vv, cs = [kv, vv, .int .i64 y.child, .int .i64 y.size] ∧ Bytes h kv y.key ∧ Bytes h vv y.value
def ItemFits (y : ItemV) : Prop := U8 y.key ∧ U8 y.value ∧ (-9223372036854775808 ≤ y.child ∧ y.child ≤ 9223372036854775807) ∧ (-9223372036854775808 ≤ y.size ∧ y.size ≤ 9223372036854775807)
def ItemSized (y : ItemV) : Prop := y.key.length ≤ reachBytes ∧ y.value.length ≤ reachBytes
set_option maxRecDepth 100000 in
theorem item_of {W : World} {base n : Nat} {cs : List Value} {x : DataW H × List MemPlace} (h : DataW.trod enc Tryz.prog W base (fun _ => true) true n 58 cs = some x) :
 ∃ y : ItemV, ItemCells (heapOf W) cs y ∧ ItemFits y ∧ (Small x.1 58 → ItemSized y) := by
 obtain ⟨xs, m, rfl, rfl, hl, hlen, hf⟩ := DataW.trod_struct Tryz.underlying58 h
 rw [cells_item] at hl
 match cs, hl with
 | [c0, c1, c2, c3], _ =>
  match xs, hlen with
  | [x0, x1, x2, x3], _ =>
   have f0 := hf 0 _ rfl
   have f1 := hf 1 _ rfl
   have f2 := hf 2 _ rfl
   have f3 := hf 3 _ rfl
   simp only [List.getElem?_cons_zero, List.getElem?_cons_succ] at f0 f1 f2 f3
   obtain ⟨K, hk, uk, sk⟩ := bytes_sz f0
   obtain ⟨V, hv, uv, sv⟩ := bytes_sz f1
   obtain ⟨c, rfl, hc⟩ := int_of f2
   obtain ⟨s, rfl, hs⟩ := int_of f3
   refine ⟨⟨K, V, c, s⟩, ⟨c0, c1, rfl, hk, hv⟩, ⟨uk, uv, hc, hs⟩, fun hw => ⟨sk fun m hm => hw m ?_, sv fun m hm => hw m ?_⟩⟩
   · simp only [DataW.weights, Tryz.underlying58, List.map_cons, List.map_nil, DataW.weightsEach, List.mem_append]
     exact .inl hm
   · simp only [DataW.weights, Tryz.underlying58, List.map_cons, List.map_nil, DataW.weightsEach, List.mem_append]
     exact .inr (.inl hm)
theorem zip_range {α β : Type} (f : Nat → α) (g : Nat → β) (n : Nat) : ((List.range n).map f).zip ((List.range n).map g) = (List.range n).map fun i => (f i, g i) := by
 rw [List.zip_map']
set_option maxRecDepth 100000 in
theorem rows_of {W : World} {base n : Nat} {t e : TypeId} {k : Nat} (ht : Tryz.prog.underlying t = some (.slice e)) (hk : Tryz.prog.cellsOf e = k) (hk0 : 0 < k) {v : Value} {x : DataW H × List MemPlace} (h : DataW.trod enc Tryz.prog W base (fun _ => true) true n t [v] = some x) :
   ∃ (len n' : Nat) (C : Nat → List Value) (D : Nat → DataW H) (Pl : Nat → List MemPlace), (∀ i, i < len → (C i).length = k ∧ DataW.trod enc Tryz.prog W base (fun _ => true) true n' e (C i) = some (D i, Pl i)) ∧
     RowIn (heapOf W) k v len ((List.range len).flatMap C) ∧ (Small x.1 t → len * Tryz.prog.bytesOf e ≤ reachBytes ∧ ∀ i, i < len → Small (D i) e) := by
 rcases open_slice ht h with ⟨e1, e2⟩ | ⟨a, len, cap, m, n', D, Pl, e1, _, hl, hm, hmm, hx, hc⟩
 · simp at e1
   subst e1
   exact ⟨0, 0, fun _ => [], fun _ => .nil, fun _ => [], fun i hi => absurd hi (by omega), RowIn.nil _ _, fun _ => ⟨by simp, fun i hi => absurd hi (by omega)⟩⟩
 · simp at e1
   subst e1
   simp only [if_true] at hmm
   subst hmm
   rw [hk] at hc
   obtain ⟨C, hC⟩ := choose_lt (α := List Value) (n := m) (p := fun i cs' => W.cells? base (a.add (i * k)) k = some cs' ∧ DataW.trod enc Tryz.prog W base (fun _ => true) true n' e cs' = some (D i, Pl i)) hc
   have hC2 : ∀ i, i < m → (C i).length = k ∧ ∀ j, j < k → W.cell? ((a.add (i * k)).add j) = (C i)[j]? := fun i hi => by
     obtain ⟨_, h2, h3⟩ := World.cells?_some (hC i hi).1
     exact ⟨h2, h3⟩
   refine ⟨len, n', C, D, Pl, fun i hi => ⟨(hC2 i (by omega)).1, (hC i (by omega)).2⟩, ⟨?_, some a, m, rfl, hl, hm, fun h0 => ?_⟩, fun hs => ⟨?_, fun i hi w hw => hs w ?_⟩⟩
   · have e2 : ∀ q, q ≤ m → ((List.range q).flatMap C).length = q * k := by
       intro q
       induction q with
       | zero => intro _; simp
       | succ q ih =>
         intro hq
         rw [List.range_succ, List.flatMap_append, List.length_append, ih (by omega)]
         simp only [List.flatMap_cons, List.flatMap_nil, List.append_nil, (hC2 q (by omega)).1]
         rw [Nat.succ_mul]
     exact e2 len hl
   · obtain ⟨ab, ao, spot⟩ := a
     have hspot : spot = none := by
       have h1 := (hC2 0 (by omega)).2 0 hk0
       rw [List.getElem?_eq_getElem (by rw [(hC2 0 (by omega)).1]; exact hk0)] at h1
       have := World.cell?_spot h1
       simpa [Addr.add] using this
     subst hspot
     refine ⟨ab, ao, rfl, fun i hi => ?_⟩
     have e2 : ∀ q, q ≤ m → ∀ i, i < q * k → ((List.range q).flatMap C)[i]? = (C (i / k))[i % k]? := by
       intro q
       induction q with
       | zero => intro _ i hi; omega
       | succ q ih =>
         intro hq i hi
         have hlen : ((List.range q).flatMap C).length = q * k := by
           have e3 : ∀ r, r ≤ m → ((List.range r).flatMap C).length = r * k := by
             intro r
             induction r with
             | zero => intro _; simp
             | succ r ihr =>
               intro hr
               rw [List.range_succ, List.flatMap_append, List.length_append, ihr (by omega)]
               simp only [List.flatMap_cons, List.flatMap_nil, List.append_nil, (hC2 r (by omega)).1]
               rw [Nat.succ_mul]
           exact e3 q (by omega)
         rw [List.range_succ, List.flatMap_append]
         rcases Nat.lt_or_ge i (q * k) with h1 | h1
         · rw [List.getElem?_append_left (by rw [hlen]; exact h1)]
           exact ih (by omega) i h1
         · rw [List.getElem?_append_right (by rw [hlen]; exact h1), hlen]
           have h2 : i < q * k + k := by rw [Nat.succ_mul] at hi; exact hi
           have h3 : i / k = q := by
             have : q ≤ i / k := (Nat.le_div_iff_mul_le hk0).2 h1
             have : i / k < q + 1 := (Nat.div_lt_iff_lt_mul hk0).2 (by rw [Nat.succ_mul]; exact h2)
             omega
           have h4 : i % k = i - q * k := by
             have := Nat.div_add_mod i k
             rw [h3, Nat.mul_comm] at this
             omega
           rw [h3, h4]
           simp
     rw [e2 len hl i hi]
     have hik : i / k < len := (Nat.div_lt_iff_lt_mul hk0).2 hi
     have h5 := (hC2 (i / k) (by omega)).2 (i % k) (Nat.mod_lt _ hk0)
     rw [List.getElem?_eq_getElem (by rw [(hC2 (i / k) (by omega)).1]; exact Nat.mod_lt _ hk0)] at h5 ⊢
     rw [add_add, Addr.add_lit, show i / k * k + i % k = i by rw [Nat.mul_comm]; exact Nat.div_add_mod i k] at h5
     exact heap_cell h5
   · subst hx
     have h2 := hs ((((List.range len).map D).length + ((List.range (m - len)).map fun j => D (len + j)).length) * Tryz.prog.bytesOf e : Nat) (by
       simp only [DataW.weights, ht]
       exact List.mem_cons_self)
     simp only [List.length_map, List.length_range] at h2
     exact Nat.le_trans (Nat.mul_le_mul_right _ (by omega)) h2
   · subst hx
     simp only [DataW.weights, ht, List.mem_cons, List.mem_append]
     exact .inr (.inl (weights_all (l := (List.range len).map D) (i := i) (by simp [hi]) w hw))
instance : Inhabited ItemV := ⟨⟨[], [], 0, 0⟩⟩
instance : Inhabited PageV := ⟨⟨0, 0, [], [], 0⟩⟩
instance : Inhabited NumV := ⟨⟨0, default⟩⟩
set_option maxRecDepth 100000 in
theorem items_of {W : World} {base n : Nat} {v : Value} {x : DataW H × List MemPlace} (h : DataW.trod enc Tryz.prog W base (fun _ => true) true n 28 [v] = some x) :
 ∃ l : List ItemV, ItemsIn (heapOf W) v l ∧ (∀ y ∈ l, ItemFits y) ∧ (Small x.1 28 → l.length * 64 ≤ reachBytes ∧ ∀ y ∈ l, ItemSized y) := by
 obtain ⟨len, n', C, D, Pl, hC, hr, hs⟩ := rows_of Tryz.underlying28 cells_item (by omega) h
 obtain ⟨Y, hY⟩ := choose_lt (α := ItemV × Value × Value) (n := len) (p := fun i y => C i = [y.2.1, y.2.2, .int .i64 y.1.child, .int .i64 y.1.size] ∧ (Bytes (heapOf W) y.2.1 y.1.key ∧ Bytes (heapOf W) y.2.2 y.1.value) ∧ ItemFits y.1 ∧ (Small (D i) 58 → ItemSized y.1)) (fun i hi => by
  obtain ⟨y, ⟨kv, vv, e, h1, h2⟩, h3, h4⟩ := item_of (hC i hi).2
  exact ⟨(y, kv, vv), e, ⟨h1, h2⟩, h3, h4⟩)
 refine ⟨(List.range len).map fun i => (Y i).1, ⟨(List.range len).map fun i => (Y i).2, by simp, ?_, ?_⟩, ?_, fun hw => ⟨?_, ?_⟩⟩
 · rw [zip_range]
   have e1 : (List.range len).flatMap C = ((List.range len).map fun i => ((Y i).2, (Y i).1)).flatMap fun x => [x.1.1, x.1.2, .int .i64 x.2.child, .int .i64 x.2.size] := by
    rw [List.flatMap_map]
    exact flatMap_congr_range fun i hi => (hY i hi).1
   rw [← e1]
   simpa using hr
 · intro i hx hl
   simp at hl
   simp only [List.getElem_map, List.getElem_range]
   exact (hY i hl).2.1
 · intro y hy
   obtain ⟨i, hi, rfl⟩ := List.mem_map.1 hy
   exact (hY i (List.mem_range.1 hi)).2.2.1
 · have := (hs hw).1
   rw [bytes_item] at this
   simpa using this
 · intro y hy
   obtain ⟨i, hi, rfl⟩ := List.mem_map.1 hy
   exact (hY i (List.mem_range.1 hi)).2.2.2 ((hs hw).2 i (List.mem_range.1 hi))
def PageFits (g : PageV) : Prop := (∀ y ∈ g.items, ItemFits y) ∧ U8 g.data ∧ (-9223372036854775808 ≤ g.kind ∧ g.kind ≤ 9223372036854775807) ∧ (-9223372036854775808 ≤ g.level ∧ g.level ≤ 9223372036854775807) ∧ (-9223372036854775808 ≤ g.next ∧ g.next ≤ 9223372036854775807)
def PageSized (g : PageV) : Prop := g.items.length * 64 ≤ reachBytes ∧ (∀ y ∈ g.items, ItemSized y) ∧ g.data.length ≤ reachBytes
def PageCells (h : Hp) (cs : List Value) (g : PageV) : Prop := ∃ vi vd, cs = [.int .i64 g.kind, .int .i64 g.level, vi, vd, .int .i64 g.next] ∧ ItemsIn h vi g.items ∧ Bytes h vd g.data
set_option maxRecDepth 100000 in
theorem page_of {W : World} {base n : Nat} {cs : List Value} {x : DataW H × List MemPlace} (h : DataW.trod enc Tryz.prog W base (fun _ => true) true n 31 cs = some x) :
 ∃ g : PageV, PageCells (heapOf W) cs g ∧ PageFits g ∧ (Small x.1 31 → PageSized g) := by
 obtain ⟨xs, m, rfl, rfl, hl, hlen, hf⟩ := DataW.trod_struct Tryz.underlying31 h
 rw [cells_page] at hl
 match cs, hl with
 | [c0, c1, c2, c3, c4], _ =>
  match xs, hlen with
  | [x0, x1, x2, x3, x4], _ =>
   have f0 := hf 0 _ rfl
   have f1 := hf 1 _ rfl
   have f2 := hf 2 _ rfl
   have f3 := hf 3 _ rfl
   have f4 := hf 4 _ rfl
   simp only [List.getElem?_cons_zero, List.getElem?_cons_succ] at f0 f1 f2 f3 f4
   obtain ⟨k, rfl, hk⟩ := int_of f0
   obtain ⟨l, rfl, hl⟩ := int_of f1
   obtain ⟨I, hI, fI, sI⟩ := items_of f2
   obtain ⟨B, hB, uB, sB⟩ := bytes_sz f3
   obtain ⟨nx, rfl, hn⟩ := int_of f4
   refine ⟨⟨k, l, I, B, nx⟩, ⟨c2, c3, rfl, hI, hB⟩, ⟨fI, uB, hk, hl, hn⟩, fun hw => ?_⟩
   have w2 := sI fun m hm => hw m (by
    simp only [DataW.weights, Tryz.underlying31, List.map_cons, List.map_nil, DataW.weightsEach, List.mem_append]
    exact .inr (.inr (.inl hm)))
   have w3 := sB fun m hm => hw m (by
    simp only [DataW.weights, Tryz.underlying31, List.map_cons, List.map_nil, DataW.weightsEach, List.mem_append]
    exact .inr (.inr (.inr (.inl hm))))
   exact ⟨w2.1, w2.2, w3⟩
set_option maxRecDepth 100000 in
theorem num_of {W : World} {base n : Nat} {cs : List Value} {x : DataW H × List MemPlace} (h : DataW.trod enc Tryz.prog W base (fun _ => true) true n 78 cs = some x) :
 ∃ (y : NumV) (vi vd : Value), cs = [.int .i64 y.no, .int .i64 y.page.kind, .int .i64 y.page.level, vi, vd, .int .i64 y.page.next] ∧ (ItemsIn (heapOf W) vi y.page.items ∧ Bytes (heapOf W) vd y.page.data) ∧
  ((-9223372036854775808 ≤ y.no ∧ y.no ≤ 9223372036854775807) ∧ PageFits y.page) ∧ (Small x.1 78 → PageSized y.page) := by
 obtain ⟨xs, m, rfl, rfl, hl, hlen, hf⟩ := DataW.trod_struct Tryz.underlying78 h
 rw [cells_num] at hl
 match cs, hl with
 | [c0, c1, c2, c3, c4, c5], _ =>
  match xs, hlen with
  | [x0, x1], _ =>
   have f0 := hf 0 _ rfl
   have f1 := hf 1 _ rfl
   simp only [List.getElem?_cons_zero, List.getElem?_cons_succ] at f0 f1
   obtain ⟨k, rfl, hk⟩ := int_of f0
   obtain ⟨g, ⟨vi, vd, e, h1, h2⟩, hfit, hsz⟩ := page_of f1
   cases e
   refine ⟨⟨k, g⟩, c3, c4, rfl, ⟨h1, h2⟩, ⟨hk, hfit⟩, fun hw => hsz fun m hm => hw m ?_⟩
   simp only [DataW.weights, Tryz.underlying78, List.map_cons, List.map_nil, DataW.weightsEach, List.mem_append]
   exact .inr (.inl hm)
set_option maxRecDepth 100000 in
theorem nums_of {W : World} {base n : Nat} {v : Value} {x : DataW H × List MemPlace} (h : DataW.trod enc Tryz.prog W base (fun _ => true) true n 41 [v] = some x) :
 ∃ l : List NumV, NumsIn (heapOf W) v l ∧ (∀ y ∈ l, PageFits y.page) ∧ (Small x.1 41 → l.length * 80 ≤ reachBytes ∧ ∀ y ∈ l, PageSized y.page) := by
 obtain ⟨len, n', C, D, Pl, hC, hr, hs⟩ := rows_of Tryz.underlying41 cells_num (by omega) h
 obtain ⟨Y, hY⟩ := choose_lt (α := NumV × Value × Value) (n := len) (p := fun i y => C i = [.int .i64 y.1.no, .int .i64 y.1.page.kind, .int .i64 y.1.page.level, y.2.1, y.2.2, .int .i64 y.1.page.next] ∧ (ItemsIn (heapOf W) y.2.1 y.1.page.items ∧ Bytes (heapOf W) y.2.2 y.1.page.data) ∧ PageFits y.1.page ∧ (Small (D i) 78 → PageSized y.1.page)) (fun i hi => by
  obtain ⟨y, vi, vd, e, h1, h3, h4⟩ := num_of (hC i hi).2
  exact ⟨(y, vi, vd), e, h1, h3.2, h4⟩)
 refine ⟨(List.range len).map fun i => (Y i).1, ⟨(List.range len).map fun i => (Y i).2, by simp, ?_, ?_⟩, ?_, fun hw => ⟨?_, ?_⟩⟩
 · rw [zip_range]
   have e1 : (List.range len).flatMap C = ((List.range len).map fun i => ((Y i).2, (Y i).1)).flatMap numCells := by
    rw [List.flatMap_map]
    exact flatMap_congr_range fun i hi => (hY i hi).1
   rw [← e1]
   simpa using hr
 · intro i hx hl
   simp at hl
   simp only [List.getElem_map, List.getElem_range]
   exact (hY i hl).2.1
 · intro y hy
   obtain ⟨i, hi, rfl⟩ := List.mem_map.1 hy
   exact (hY i (List.mem_range.1 hi)).2.2.1
 · have := (hs hw).1
   rw [bytes_num] at this
   simpa using this
 · intro y hy
   obtain ⟨i, hi, rfl⟩ := List.mem_map.1 hy
   exact (hY i (List.mem_range.1 hi)).2.2.2 ((hs hw).2 i (List.mem_range.1 hi))
end
end Go.Proofs.YtbobcmimkonnoaaGreat.open2
