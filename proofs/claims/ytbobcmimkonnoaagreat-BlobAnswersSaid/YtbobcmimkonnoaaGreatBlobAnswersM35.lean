/- The law's load of any item over both vaults; the conditions stand as hypotheses. -/
import Derived.Test.YtbobcmimkonnoaaGreatBlobAnswersM33
import Derived.Test.YtbobcmimkonnoaaGreatBlobAnswersM34
import Derived.Test.YtbobcmimkonnoaaGreatBlobAnswersM25
import Derived.Test.YtbobcmimkonnoaaGreatBlobAnswersM01
namespace Go.Proofs.YtbobcmimkonnoaaGreat.law1
open ChangeShapes WideShapes ChangeAt RowKit Sl Cop pool2 pool9 clone page eqb vault1 vault2 items copyP ref1 rcopy2 spare kept spared bload bload2 rbload rbload2
abbrev workC (v r : Nat) (bv wv tv xv : Value) : Obj := .cells #[.pointer (some ⟨v, 0, none⟩), .pointer (some ⟨r, 0, none⟩), bv, wv, tv, xv] 65
theorem pts6w {b T : Nat} {v0 v1 v2 v3 v4 v5 : Value} {F : Pr} {w : World} (h : Sat ((Pr.pts b (.cells #[v0, v1, v2, v3, v4, v5] T)).star F) w) :
 w.cell? ⟨b, 0, none⟩ = some v0 ∧ w.cell? ⟨b, 1, none⟩ = some v1 ∧ w.cell? ⟨b, 4, none⟩ = some v4 ∧ w.cell? ⟨b, 5, none⟩ = some v5 ∧ (w.frozen? ⟨b, 4, none⟩ = false ∧ w.frozen? ⟨b, 5, none⟩ = false) ∧ b < w.heap.size := by
 have h1 := h.pts_heap
 exact ⟨by rw [cell_of_heap h1]; rfl, by rw [cell_of_heap h1]; rfl, by rw [cell_of_heap h1]; rfl, by rw [cell_of_heap h1]; rfl, ⟨frozen_of_heap h1 4, frozen_of_heap h1 5⟩, h.lt⟩
theorem infoSl : (Tryz.prog.info? 29).map (fun i => (i.zero, i.size, i.bytes)) = some (some (.slice none 0 0), 1, 24) := by kernel_rfl
def x17 (z : Int) : Int := bits .xor .u8 z 17
def xorK (k : Nat) (l : List Int) : List Int := (l.take k).map x17 ++ l.drop k
theorem xorK_len (k : Nat) (l : List Int) : (xorK k l).length = l.length := by
 unfold xorK; simp only [List.length_append, List.length_map, List.length_take, List.length_drop]; omega
theorem xorK_get {k : Nat} {l : List Int} (hk : k < l.length) : (xorK k l)[k]'(by rw [xorK_len]; exact hk) = l.getD k 0 := by
 have e : (xorK k l)[k]? = l[k]? := by
  unfold xorK
  rw [List.getElem?_append_right (by simp; omega)]
  simp only [List.length_map, List.length_take, List.getElem?_drop]
  congr 1; omega
 rw [List.getElem?_eq_getElem (by rw [xorK_len]; exact hk), List.getElem?_eq_getElem hk] at e
 simp only [Option.some.injEq] at e
 rw [e]; simp [hk]
theorem xorK_step {k : Nat} {l : List Int} (hk : k < l.length) : (xorK k l).set k (x17 (l.getD k 0)) = xorK (k + 1) l := by
 unfold xorK
 rw [List.set_append_right _ _ (by simp; omega), List.take_succ_eq_append_getElem hk, List.map_append, List.append_assoc]
 congr 1
 have e : l.getD k 0 = l[k] := by simp [hk]
 rw [show k - ((l.take k).map x17).length = 0 by simp; omega, List.drop_eq_getElem_cons hk, e]
 rfl
theorem spareL_set {l : List Int} {k : Nat} (hk : k < l.length) (v : Int) : (spareL l).set k v = spareL (l.set k v) := by
 unfold spareL
 rw [List.set_append_left _ _ hk, List.length_set]
/-- Both lists of an item that Spare made, as one part. -/
theorem two_whole {b1 b2 : Nat} {x : ItemV} {F : Pr} {w : World} (h : Sat ((WholeRow b1 x.key).star ((WholeRow b2 x.value).star F)) w) :
 ∃ h', ((WholeRow b1 x.key).star (WholeRow b2 x.value)) h' ∧ ItemIn h' (itemV (.slice (some ⟨b1, 0, none⟩) x.key.length (x.key.length + 64)) (.slice (some ⟨b2, 0, none⟩) x.value.length (x.value.length + 64)) x.child x.size) x ∧ Sat ((Pr.own h').star F) w := by
 rw [← Pr.star_assoc] at h
 obtain ⟨h', hq, hs⟩ := h.toOwn
 obtain ⟨a, b, ha, hb, s1, s2⟩ := star_sub hq
 exact ⟨h', hq, ⟨_, _, rfl, (whole_bytes ha).sub s1, (whole_bytes hb).sub s2⟩, hs⟩
theorem chain_len {look : Int → Option PageV} {N : Nat} : ∀ (k : Nat) (out : List Int) (n : Int), out.length ≤ N → (chainL look N k out n).1.length ≤ N
 | 0, out, n, h => by unfold chainL; exact h
 | k + 1, out, n, h => by
  unfold chainL
  split
  · exact h
  · split
    · simp
    · split
      · simp
      · split
        · rename_i hc
          exact chain_len k _ _ (by have := hc.1; rw [List.length_append]; omega)
        · simp
theorem value_len (look : Int → Option PageV) (size child : Int) (value : List Int) : (valueL look size child value).1.length ≤ 3840 := by
 unfold valueL
 split
 · simp
 · rename_i hb
   split
   · dsimp only; omega
   · exact Nat.le_trans (chain_len _ _ _ (by simp)) (by omega)
theorem bytes_le {v : Value} {V : List Int} {F : Pr} {w : World} (h : Sat ((BytesRow v V).star F) w) : ∃ a, Bytes a v V ∧ a.le w := by
 obtain ⟨a, ha, h2⟩ := h.toOwn
 exact ⟨a, Row.rowIn ha, h2.own⟩
abbrev XRow (b k : Nat) (l : List Int) : Pr := Row 5 1 (.slice (some ⟨b, 0, none⟩) (l.length + 64) (l.length + 64)) (l.length + 64) ((spareL (xorK k l)).map (Value.int .u8))
theorem xrow_cell {b k : Nat} {l : List Int} {F : Pr} {w : World} (h : Sat ((XRow b k l).star F) w) (hk : k < l.length) :
 w.cell? ⟨b, k, none⟩ = some (.int .u8 (l.getD k 0)) ∧ w.frozen? ⟨b, k, none⟩ = false ∧ Sat ((XRow b (k + 1) l).star F) (w.setCell ⟨b, k, none⟩ (.int .u8 (x17 (l.getD k 0)))) := by
 obtain ⟨_, _, e, hlen, hc⟩ := Row.read h
 cases e
 obtain ⟨b', eb, hd⟩ := hc (by omega)
 cases eb
 refine ⟨?_, (hd k (by omega)).2, ?_⟩
 · rw [(hd k (by omega)).1, List.getElem?_map, List.getElem?_eq_getElem (by rw [spareL_len, xorK_len]; omega), spareL_low (by rw [xorK_len]; exact hk), List.getD_eq_getElem?_getD, List.getElem?_eq_getElem (by rw [xorK_len]; exact hk), xorK_get hk]
   rfl
 · have h2 := Row.set h k (by rw [List.length_map, spareL_len, xorK_len]; omega) (.int .u8 (x17 (l.getD k 0)))
   rw [← List.map_set, spareL_set (by rw [xorK_len]; exact hk), xorK_step hk] at h2
   exact h2
theorem xrow_end (b : Nat) (l : List Int) : XRow b l.length l = WholeRow b (xorK l.length l) := by
 unfold XRow WholeRow
 rw [xorK_len]
set_option maxRecDepth 100000 in
set_option maxHeartbeats 8000000 in
theorem load_any (wb v r : Nat) (bv wv tv xv : Value) (n : Nat) (ts us : List Value) (s : VaultS) (rs : PoolS) (gs : List PageV) (hush : RTail) (look : Int → Option PageV) (hl : Looks s look) (hrl : RLooks rs gs look)
    (x : ItemV) (hp : Hp) (iv : Value) (hi : ItemIn hp iv x) (hn : x.key.length ≤ 140737488351232 ∧ x.value.length ≤ 140737488351232) (htn : n ≤ 65536) (F : Pr) (w : World)
    (hF : Sat ((Pr.pts wb (workC v r bv wv tv xv)).star ((Row 29 1 tv n ts).star ((Row 29 1 xv n us).star ((VaultA v s).star ((RefA r rs gs hush).star ((Pr.own hp).star F)))))) w) :
    Calls Tryz.prog 75 #[.pointer (some ⟨wb, 0, none⟩), iv] w fun e w' => e = .returned (.bool true) ∧ Stays w w' ∧ ∃ o c tv' xv',
      Sat ((Pr.pts wb (workC v r bv wv tv' xv')).star ((Row 29 1 tv' (if n < 30 then n + 1 else n) (if n < 30 then ts ++ [o] else ts)).star ((Row 29 1 xv' (if n < 30 then n + 1 else n) (if n < 30 then us ++ [c] else us)).star
        ((BytesRow o (valueL look x.size x.child x.value).1).star ((BytesRow c (valueL look x.size x.child x.value).1).star ((VaultA v s).star ((RefA r rs gs hush).star ((Pr.own hp).star F)))))))) w' := by
  obtain ⟨at', ct, etv, _, _⟩ := Row.read hF.right
  obtain ⟨ax, cx, exv, _, _⟩ := Row.read hF.right.right
  subst etv exv
  obtain ⟨kv, vv, rfl, hk, hvv⟩ := id hi
  obtain ⟨ak, ck, rfl⟩ := bytes_shape hk
  obtain ⟨av, cv, rfl⟩ := bytes_shape hvv
  have hF0 := hF.perm (B := (Pr.pts wb (workC v r bv wv (.slice at' n ct) (.slice ax n cx))).star ((VaultA v s).star ((RefA r rs gs hush).star ((Pr.own hp).star ((Row 29 1 (.slice at' n ct) n ts).star ((Row 29 1 (.slice ax n cx) n us).star F)))))) (by ac_rfl)
  obtain ⟨G, hG⟩ : ∃ G, G = (Row 29 1 (.slice at' n ct) n ts).star ((Row 29 1 (.slice ax n cx) n us).star F) := ⟨_, rfl⟩
  rw [← hG] at hF0
  have h1 := hF0.alloc (itemC (.slice ak x.key.length ck) (.slice av x.value.length cv) x.child x.size)
  have SP := Lib.hid (spared_any hp _ x hi hn _ _ (h1.perm (B := (Pr.own hp).star ((Pr.pts w.heap.size (itemC (.slice ak x.key.length ck) (.slice av x.value.length cv) x.child x.size)).star ((Pr.pts wb (workC v r bv wv (.slice at' n ct) (.slice ax n cx))).star ((VaultA v s).star ((RefA r rs gs hush).star G))))) (by ac_rfl)))
  have HI := Lib.hid hi
  have HN := Lib.hid hn
  have HG := Lib.hid hG
  have HST := Lib.hid ((Stays.refl w).alloc (itemC (.slice ak x.key.length ck) (.slice av x.value.length cv) x.child x.size))
  have hL0 : (x.value.length : Int) ≤ 140737488351232 := by have := hn.2; omega
  obtain ⟨V, E, hVE⟩ : ∃ V E, valueL look x.size x.child x.value = (V, E) := ⟨_, _, rfl⟩
  have HVE := Lib.hid hVE
  have HVL := Lib.hid (show V.length ≤ 3840 from by have := value_len look x.size x.child x.value; rw [hVE] at this; exact this)
  rw [hVE]
  clear hF hF0 h1 hk hvv hi hn hG hVE
  go_enter Tryz.func75, Tryz.ntmps75
  go_wp2_with fail
  refine SP.out.mono ?_
  rintro e w1 ⟨b1, b2, rfl, hs1, st1⟩
  obtain ⟨hx, hxq, hxi, hs2⟩ := two_whole hs1
  have hs3 := hs2.alloc (itemC (.slice (some ⟨b1, 0, none⟩) x.key.length (x.key.length + 64)) (.slice (some ⟨b2, 0, none⟩) x.value.length (x.value.length + 64)) x.child x.size)
  have HST1 := Lib.hid ((HST.out.trans st1).alloc (itemC (.slice (some ⟨b1, 0, none⟩) x.key.length (x.key.length + 64)) (.slice (some ⟨b2, 0, none⟩) x.value.length (x.value.length + 64)) x.child x.size))
  have HXQ := Lib.hid hxq
  have HXI := Lib.hid hxi
  clear hs1 hs2 st1 HST SP hxq hxi
  go_wp2_with fail
  have HS3 := Lib.hid hs3
  have T1 := HST1.out
  clear hs3 HST1
  generalize w.heap.size = I at *
  generalize hw2 : w1.alloc (itemC (.slice (some ⟨b1, 0, none⟩) x.key.length (x.key.length + 64)) (.slice (some ⟨b2, 0, none⟩) x.value.length (x.value.length + 64)) x.child x.size) = w2 at *
  generalize w1.heap.size = J at *
  have HST1 := Lib.hid T1
  clear hw2 T1
  have hs3 := HS3.out
  have hs4 := hs3.perm (B := (Pr.pts wb (workC v r bv wv (.slice at' n ct) (.slice ax n cx))).star ((Pr.pts J (itemC (.slice (some ⟨b1, 0, none⟩) x.key.length (x.key.length + 64)) (.slice (some ⟨b2, 0, none⟩) x.value.length (x.value.length + 64)) x.child x.size)).star ((VaultA v s).star ((Pr.own hx).star ((Pr.own hp).star ((Pr.pts I (itemC (.slice ak x.key.length ck) (.slice av x.value.length cv) x.child x.size)).star ((RefA r rs gs hush).star G))))))) (by ac_rfl)
  obtain ⟨p0, _, _, _, _, pz⟩ := pts6w hs4
  obtain ⟨q0, q1, q2, q3, _, qz⟩ := pts4 hs4.right
  have BL := Lib.hid (bload_any v s look hl x hx _ HXI.out _ _ (hs4.drew.perm (B := (VaultA v s).star ((Pr.own hx).star ((Pr.pts J (itemC (.slice (some ⟨b1, 0, none⟩) x.key.length (x.key.length + 64)) (.slice (some ⟨b2, 0, none⟩) x.value.length (x.value.length + 64)) x.child x.size)).star ((Pr.pts wb (workC v r bv wv (.slice at' n ct) (.slice ax n cx))).star ((Pr.own hp).star ((Pr.pts I (itemC (.slice ak x.key.length ck) (.slice av x.value.length cv) x.child x.size)).star ((RefA r rs gs hush).star G))))))) (by ac_rfl)))
  rw [HVE.out] at BL
  clear hs3 hs4 HS3
  refine wp_region_staged (sz := 129) (by kernel_rfl) [0, 1, 2, 3, 4] [(5, [6, 7, 8, 9, 10], [0, 1, 2])] rfl (by kernel_rfl) (by kernel_rfl) (by kernel_rfl) ?_
  refine wpQ_all _ rfl rfl ?_
  simp only [pick, pkA, pkB, pkC, pkD, pkE, pkF]
  iterate 5 (go_big_quiet_step (fail))
  refine wpQuiet_nil ?_
  refine wpRest_act rfl ?_
  go_wp2_with fail
  refine BL.out.mono ?_
  rintro e w3 ⟨st3, o, rfl, hs5⟩
  clear p0 pz q0 q1 q2 q3 qz BL
  obtain ⟨ao, co, eo, _, _⟩ := Row.read hs5
  subst eo
  have hs6 := hs5.perm (B := (Pr.pts wb (workC v r bv wv (.slice at' n ct) (.slice ax n cx))).star ((Pr.pts I (itemC (.slice ak x.key.length ck) (.slice av x.value.length cv) x.child x.size)).star ((RefA r rs gs hush).star ((Pr.own hp).star ((Pr.own hx).star ((Pr.pts J (itemC (.slice (some ⟨b1, 0, none⟩) x.key.length (x.key.length + 64)) (.slice (some ⟨b2, 0, none⟩) x.value.length (x.value.length + 64)) x.child x.size)).star ((BytesRow (.slice ao V.length co) V).star ((VaultA v s).star G)))))))) (by ac_rfl)
  obtain ⟨p0, p1, _, _, _, pz⟩ := pts6w hs6
  obtain ⟨q0, q1, q2, q3, _, qz⟩ := pts4 hs6.right
  have HST3 := Lib.hid (HST1.out.drew.trans st3)
  have RB := Lib.hid (rbload_any r rs gs hush look hrl x hp _ HI.out _ _ (hs6.drew.perm (B := (RefA r rs gs hush).star ((Pr.own hp).star ((Pr.pts J (itemC (.slice (some ⟨b1, 0, none⟩) x.key.length (x.key.length + 64)) (.slice (some ⟨b2, 0, none⟩) x.value.length (x.value.length + 64)) x.child x.size)).star ((Pr.pts wb (workC v r bv wv (.slice at' n ct) (.slice ax n cx))).star ((Pr.pts I (itemC (.slice ak x.key.length ck) (.slice av x.value.length cv) x.child x.size)).star ((Pr.own hx).star ((BytesRow (.slice ao V.length co) V).star ((VaultA v s).star G)))))))) (by ac_rfl)))
  rw [HVE.out] at RB
  clear hs5 hs6 st3 HST1
  go_wp2
  refine onN_mk ?_
  refine wpQ_all _ rfl rfl ?_
  simp only [pick, pkA, pkB, pkC, pkD, pkE, pkF]
  iterate 5 (go_big_quiet_step (fail))
  refine wpQuiet_nil ⟨?_, ?_⟩
  · refine chk_all _ rfl rfl ?_
    simp only [pick, Same, pkA, pkB, pkC, pkD, pkE, pkF, and_true]
    repeat' (first | apply And.intro | (go_big_quiet_step (fail); exact wpQuiet_nil rfl))
  refine wpRest_nil ?_
  go_wp2_with fail
  refine wp_region_staged (sz := 129) (by kernel_rfl) [0, 1, 2, 3, 4] [(5, [6, 7, 8, 9, 10], [0, 1, 2])] rfl (by kernel_rfl) (by kernel_rfl) (by kernel_rfl) ?_
  refine wpQ_all _ rfl rfl ?_
  simp only [pick, pkA, pkB, pkC, pkD, pkE, pkF]
  iterate 5 (go_big_quiet_step (fail))
  refine wpQuiet_nil ?_
  refine wpRest_act rfl ?_
  go_wp2_with fail
  refine RB.out.mono ?_
  rintro e w4 ⟨st4, c, rfl, hs7⟩
  clear p0 p1 pz q0 q1 q2 q3 qz RB
  obtain ⟨ac, cc, ec, _, _⟩ := Row.read hs7
  subst ec
  have hs8 := hs7.perm (B := (Pr.pts wb (workC v r bv wv (.slice at' n ct) (.slice ax n cx))).star ((Pr.pts I (itemC (.slice ak x.key.length ck) (.slice av x.value.length cv) x.child x.size)).star ((Pr.pts J (itemC (.slice (some ⟨b1, 0, none⟩) x.key.length (x.key.length + 64)) (.slice (some ⟨b2, 0, none⟩) x.value.length (x.value.length + 64)) x.child x.size)).star ((BytesRow (.slice ao V.length co) V).star ((BytesRow (.slice ac V.length cc) V).star ((VaultA v s).star ((RefA r rs gs hush).star ((Pr.own hp).star ((Pr.own hx).star G))))))))) (by ac_rfl)
  obtain ⟨p0, p1, _, _, _, pz⟩ := pts6w hs8
  obtain ⟨q0, q1, q2, q3, _, qz⟩ := pts4 hs8.right
  obtain ⟨ho1, by1, l1⟩ := bytes_le hs8.right.right.right
  obtain ⟨ho2, by2, l2⟩ := bytes_le hs8.right.right.right.right
  have EQ := Lib.hid (eq_same ho1 ho2 _ _ V by1 by2 (by have := HVL.out; omega) w4 l1 l2)
  have HST4 := Lib.hid (HST3.out.drew.trans st4)
  have HS8 := Lib.hid hs8
  clear hs7 hs8 st4 HST3 by1 by2 l1 l2
  go_wp2
  refine onN_mk ?_
  refine wpQ_all _ rfl rfl ?_
  simp only [pick, pkA, pkB, pkC, pkD, pkE, pkF]
  iterate 5 (go_big_quiet_step (fail))
  refine wpQuiet_nil ⟨?_, ?_⟩
  · refine chk_all _ rfl rfl ?_
    simp only [pick, Same, pkA, pkB, pkC, pkD, pkE, pkF, and_true]
    repeat' (first | apply And.intro | (go_big_quiet_step (fail); exact wpQuiet_nil rfl))
  refine wpRest_nil ?_
  go_wp2_with fail
  refine EQ.out.mono ?_
  rintro e w5 ⟨rfl, oe⟩
  have hs9 := (HS8.out.only oe).perm (B := (Pr.own hx).star ((Pr.own hp).star ((Pr.pts wb (workC v r bv wv (.slice at' n ct) (.slice ax n cx))).star ((Pr.pts I (itemC (.slice ak x.key.length ck) (.slice av x.value.length cv) x.child x.size)).star ((Pr.pts J (itemC (.slice (some ⟨b1, 0, none⟩) x.key.length (x.key.length + 64)) (.slice (some ⟨b2, 0, none⟩) x.value.length (x.value.length + 64)) x.child x.size)).star ((BytesRow (.slice ao V.length co) V).star ((BytesRow (.slice ac V.length cc) V).star ((VaultA v s).star ((RefA r rs gs hush).star G))))))))) (by ac_rfl)
  clear p0 p1 pz q0 q1 q2 q3 qz EQ
  obtain ⟨q0, q1, q2, q3, _, qz⟩ := pts4 hs9.right.right.right
  obtain ⟨r0, r1, r2, r3, _, rz⟩ := pts4 hs9.right.right.right.right
  have hs10 := hs9.ofOwn HXQ.out
  rw [Pr.star_assoc] at hs10
  have KP := Lib.hid (keptitem_any b1 b2 x hp _ HI.out HN.out _ _ hs10)
  have HS10 := Lib.hid hs10
  have HST5 := Lib.hid (HST4.out.trans oe.st)
  clear hs9 hs10 HS8 HST4 oe HXQ HXI
  go_wp2_with fail
  refine KP.out.mono ?_
  rintro e w6 ⟨rfl, ok6⟩
  have hs11 := (HS10.out.only ok6).perm (B := (WholeRow b2 x.value).star ((Pr.pts J (itemC (.slice (some ⟨b1, 0, none⟩) x.key.length (x.key.length + 64)) (.slice (some ⟨b2, 0, none⟩) x.value.length (x.value.length + 64)) x.child x.size)).star ((WholeRow b1 x.key).star ((Pr.own hp).star ((Pr.pts wb (workC v r bv wv (.slice at' n ct) (.slice ax n cx))).star ((Pr.pts I (itemC (.slice ak x.key.length ck) (.slice av x.value.length cv) x.child x.size)).star ((BytesRow (.slice ao V.length co) V).star ((BytesRow (.slice ac V.length cc) V).star ((VaultA v s).star ((RefA r rs gs hush).star G)))))))))) (by ac_rfl)
  obtain ⟨R0, hR0⟩ : ∃ R0, R0 = ((WholeRow b1 x.key).star ((Pr.own hp).star ((Pr.pts wb (workC v r bv wv (.slice at' n ct) (.slice ax n cx))).star ((Pr.pts I (itemC (.slice ak x.key.length ck) (.slice av x.value.length cv) x.child x.size)).star ((BytesRow (.slice ao V.length co) V).star ((BytesRow (.slice ac V.length cc) V).star ((VaultA v s).star ((RefA r rs gs hush).star G)))))))) := ⟨_, rfl⟩
  rw [← hR0] at hs11
  have HR0 := Lib.hid hR0
  have HS11 := Lib.hid hs11
  have HST6 := Lib.hid (HST5.out.trans ok6.st)
  clear hs11 hR0 HS10 HST5 ok6 KP q0 q1 q2 q3 qz r0 r1 r2 r3 rz
  go_wp2_with fail
  go_loopw [10] (fun i wr => ∃ k : Nat, k ≤ x.value.length ∧ i = .int .i64 k ∧ Stays w wr ∧ Sat ((XRow b2 k x.value).star ((Pr.pts J (itemC (.slice (some ⟨b1, 0, none⟩) x.key.length (x.key.length + 64)) (.slice (some ⟨b2, 0, none⟩) x.value.length (x.value.length + 64)) x.child x.size)).star R0)) wr) (fun i _ => x.value.length - (intOf i).toNat)
  case atStart => exact ⟨0, Nat.zero_le _, rfl, HST6.out, HS11.out⟩
  case round =>
    obtain ⟨k, hk, rfl, hst, hs⟩ := hrel
    obtain ⟨r0, r1, r2, r3, _, rz⟩ := pts4 hs.right
    rcases Nat.lt_or_ge k x.value.length with hlt | hge
    · obtain ⟨c0, f0, n0⟩ := xrow_cell hs hlt
      have z0 := World.block_lt_of_cell? _ _ c0
      have N0 := Lib.hid n0
      have HSTK := Lib.hid hst
      clear hs n0 hst
      generalize x.value.getD k 0 = zz at *
      go_wp2_with fail
      refine wp_region_staged (sz := 129) (by kernel_rfl) [0, 1, 2, 3, 4, 5, 6, 7, 8, 9] [(10, [], [])] rfl (by kernel_rfl) (by kernel_rfl) (by kernel_rfl) ?_
      refine wpQ_all _ rfl rfl ?_
      simp only [pick, pkA, pkB, pkC, pkD, pkE, pkF]
      iterate 10 (go_big_quiet_step (fail))
      refine wpQuiet_nil ?_
      refine wpRest_act rfl ?_
      go_wp2
      refine onN_mk ?_
      refine wpQ_nil ⟨?_, ?_⟩
      · exact chk_nil
      refine wpRest_nil ?_
      go_wp2
      go_roundw
      case rel => exact ⟨k + 1, by omega, congrArg (Value.int .i64) (by omega), (HSTK.out.setCell _ _).drew, N0.out.drew⟩
      case measure => simp [intOf]; omega
    · have hkl : k = x.value.length := by omega
      subst hkl
      obtain ⟨V2, hV2, hV2l⟩ : ∃ V2, V2 = xorK x.value.length x.value ∧ V2.length = x.value.length := ⟨_, rfl, xorK_len _ _⟩
      rw [xrow_end, ← hV2, HR0.out] at hs
      have hs12 := hs.perm (B := ((WholeRow b1 x.key).star ((WholeRow b2 V2).star ((Pr.pts J (itemC (.slice (some ⟨b1, 0, none⟩) x.key.length (x.key.length + 64)) (.slice (some ⟨b2, 0, none⟩) x.value.length (x.value.length + 64)) x.child x.size)).star ((Pr.pts wb (workC v r bv wv (.slice at' n ct) (.slice ax n cx))).star ((Pr.own hp).star ((Pr.pts I (itemC (.slice ak x.key.length ck) (.slice av x.value.length cv) x.child x.size)).star ((BytesRow (.slice ao V.length co) V).star ((BytesRow (.slice ac V.length cc) V).star ((VaultA v s).star ((RefA r rs gs hush).star G))))))))))) (by ac_rfl)
      obtain ⟨hy, _, hyi, hs13⟩ := two_whole (x := ⟨x.key, V2, x.child, x.size⟩) hs12
      dsimp only at hyi
      rw [hV2l] at hyi
      have CI := Lib.hid (copyitem_any hy _ ⟨x.key, V2, x.child, x.size⟩ hyi ⟨by have := HN.out.1; dsimp only; omega, by have := HN.out.2; dsimp only; omega⟩ _ _ hs13)
      dsimp only at CI
      obtain ⟨V3, E3, hVE3⟩ : ∃ V3 E3, valueL look x.size x.child V2 = (V3, E3) := ⟨_, _, rfl⟩
      have HVE3 := Lib.hid hVE3
      have HVL3 := Lib.hid (show V3.length ≤ 3840 from by have := value_len look x.size x.child V2; rw [hVE3] at this; exact this)
      have HYI := Lib.hid hyi
      have HSTL := Lib.hid hst
      have hV2m : (V2.length : Int) ≤ 140737488351232 := by rw [hV2l]; exact hL0
      have HV2L := Lib.hid hV2l
      clear hs hs12 hs13 hyi hst hVE3 HR0 hV2 hV2l HS11 HST6 HVE
      go_wp2_with fail
      refine CI.out.mono ?_
      rintro e w7 ⟨kv, vv, rfl, hs14, st7⟩
      obtain ⟨kk, kc, rfl, _, _⟩ := Row.read hs14
      obtain ⟨kw, kx, rfl, _, _⟩ := Row.read hs14.right
      obtain ⟨hz, hzi, hs15⟩ := item_arena (x := ⟨x.key, V2, x.child, x.size⟩) hs14
      have hs16 := hs15.alloc (itemC (.slice kk x.key.length kc) (.slice kw V2.length kx) x.child x.size)
      have T1 := (HSTL.out.trans st7).alloc (itemC (.slice kk x.key.length kc) (.slice kw V2.length kx) x.child x.size)
      have HZI := Lib.hid hzi
      have HS16 := Lib.hid hs16
      have HT1 := Lib.hid T1
      clear hs14 hs15 hs16 T1 st7 CI hzi HSTL r0 r1 r2 r3 rz
      go_wp2_with fail
      have T1 := HT1.out
      have T2 := HS16.out
      clear HT1 HS16
      generalize hw8 : w7.alloc (itemC (.slice kk x.key.length kc) (.slice kw V2.length kx) x.child x.size) = w8 at *
      generalize w7.heap.size = K at *
      have HST8 := Lib.hid T1
      have hs17 := T2.perm (B := ((Pr.pts wb (workC v r bv wv (.slice at' n ct) (.slice ax n cx))).star ((Pr.pts J (itemC (.slice (some ⟨b1, 0, none⟩) x.key.length (x.key.length + 64)) (.slice (some ⟨b2, 0, none⟩) x.value.length (x.value.length + 64)) x.child x.size)).star ((Pr.pts K (itemC (.slice kk x.key.length kc) (.slice kw V2.length kx) x.child x.size)).star ((VaultA v s).star ((Pr.own hy).star ((Pr.own hz).star ((RefA r rs gs hush).star ((Pr.own hp).star ((Pr.pts I (itemC (.slice ak x.key.length ck) (.slice av x.value.length cv) x.child x.size)).star ((BytesRow (.slice ao V.length co) V).star ((BytesRow (.slice ac V.length cc) V).star G)))))))))))) (by ac_rfl)
      clear T1 T2 hw8
      obtain ⟨p0, _, _, _, _, pz⟩ := pts6w hs17
      obtain ⟨q0, q1, q2, q3, _, qz⟩ := pts4 hs17.right
      have BL := Lib.hid (bload_any v s look hl ⟨x.key, V2, x.child, x.size⟩ hy _ HYI.out _ _ (hs17.drew.perm (B := ((VaultA v s).star ((Pr.own hy).star ((Pr.pts wb (workC v r bv wv (.slice at' n ct) (.slice ax n cx))).star ((Pr.pts J (itemC (.slice (some ⟨b1, 0, none⟩) x.key.length (x.key.length + 64)) (.slice (some ⟨b2, 0, none⟩) x.value.length (x.value.length + 64)) x.child x.size)).star ((Pr.pts K (itemC (.slice kk x.key.length kc) (.slice kw V2.length kx) x.child x.size)).star ((Pr.own hz).star ((RefA r rs gs hush).star ((Pr.own hp).star ((Pr.pts I (itemC (.slice ak x.key.length ck) (.slice av x.value.length cv) x.child x.size)).star ((BytesRow (.slice ao V.length co) V).star ((BytesRow (.slice ac V.length cc) V).star G)))))))))))) (by ac_rfl)))
      dsimp only at BL
      rw [HVE3.out] at BL
      clear hs17
      refine wp_region_staged (sz := 129) (by kernel_rfl) [0, 1, 2, 3, 4] [(5, [6, 7, 8, 9, 10], [0, 1, 2])] rfl (by kernel_rfl) (by kernel_rfl) (by kernel_rfl) ?_
      refine wpQ_all _ rfl rfl ?_
      simp only [pick, pkA, pkB, pkC, pkD, pkE, pkF]
      iterate 5 (go_big_quiet_step (fail))
      refine wpQuiet_nil ?_
      refine wpRest_act rfl ?_
      go_wp2_with fail
      refine BL.out.mono ?_
      rintro e w9 ⟨st9, o3, rfl, hs18⟩
      clear p0 pz q0 q1 q2 q3 qz BL
      obtain ⟨a3, c3, e3, _, _⟩ := Row.read hs18
      subst e3
      have O3 := hs18.perm (B := ((Pr.pts wb (workC v r bv wv (.slice at' n ct) (.slice ax n cx))).star ((Pr.pts K (itemC (.slice kk x.key.length kc) (.slice kw V2.length kx) x.child x.size)).star ((RefA r rs gs hush).star ((Pr.own hz).star ((BytesRow (.slice a3 V3.length c3) V3).star ((VaultA v s).star ((Pr.own hy).star ((Pr.pts J (itemC (.slice (some ⟨b1, 0, none⟩) x.key.length (x.key.length + 64)) (.slice (some ⟨b2, 0, none⟩) x.value.length (x.value.length + 64)) x.child x.size)).star ((Pr.own hp).star ((Pr.pts I (itemC (.slice ak x.key.length ck) (.slice av x.value.length cv) x.child x.size)).star ((BytesRow (.slice ao V.length co) V).star ((BytesRow (.slice ac V.length cc) V).star G))))))))))))) (by ac_rfl)
      obtain ⟨p0, p1, _, _, _, pz⟩ := pts6w O3
      obtain ⟨q0, q1, q2, q3, _, qz⟩ := pts4 O3.right
      have HST9 := Lib.hid (HST8.out.drew.trans st9)
      have RB := Lib.hid (rbload_any r rs gs hush look hrl ⟨x.key, V2, x.child, x.size⟩ hz _ HZI.out _ _ (O3.drew.perm (B := ((RefA r rs gs hush).star ((Pr.own hz).star ((Pr.pts wb (workC v r bv wv (.slice at' n ct) (.slice ax n cx))).star ((Pr.pts K (itemC (.slice kk x.key.length kc) (.slice kw V2.length kx) x.child x.size)).star ((BytesRow (.slice a3 V3.length c3) V3).star ((VaultA v s).star ((Pr.own hy).star ((Pr.pts J (itemC (.slice (some ⟨b1, 0, none⟩) x.key.length (x.key.length + 64)) (.slice (some ⟨b2, 0, none⟩) x.value.length (x.value.length + 64)) x.child x.size)).star ((Pr.own hp).star ((Pr.pts I (itemC (.slice ak x.key.length ck) (.slice av x.value.length cv) x.child x.size)).star ((BytesRow (.slice ao V.length co) V).star ((BytesRow (.slice ac V.length cc) V).star G))))))))))))) (by ac_rfl)))
      dsimp only at RB
      rw [HVE3.out] at RB
      clear hs18 O3 st9 HST8
      go_wp2
      refine onN_mk ?_
      refine wpQ_all _ rfl rfl ?_
      simp only [pick, pkA, pkB, pkC, pkD, pkE, pkF]
      iterate 5 (go_big_quiet_step (fail))
      refine wpQuiet_nil ⟨?_, ?_⟩
      · refine chk_all _ rfl rfl ?_
        simp only [pick, Same, pkA, pkB, pkC, pkD, pkE, pkF, and_true]
        repeat' (first | apply And.intro | (go_big_quiet_step (fail); exact wpQuiet_nil rfl))
      refine wpRest_nil ?_
      go_wp2_with fail
      refine wp_region_staged (sz := 129) (by kernel_rfl) [0, 1, 2, 3, 4] [(5, [6, 7, 8, 9, 10], [0, 1, 2])] rfl (by kernel_rfl) (by kernel_rfl) (by kernel_rfl) ?_
      refine wpQ_all _ rfl rfl ?_
      simp only [pick, pkA, pkB, pkC, pkD, pkE, pkF]
      iterate 5 (go_big_quiet_step (fail))
      refine wpQuiet_nil ?_
      refine wpRest_act rfl ?_
      go_wp2_with fail
      refine RB.out.mono ?_
      rintro e w10 ⟨st10, o4, rfl, hs19⟩
      clear p0 p1 pz q0 q1 q2 q3 qz RB
      obtain ⟨a4, c4, e4, _, _⟩ := Row.read hs19
      subst e4
      have O4 := hs19.perm (B := ((BytesRow (.slice ao V.length co) V).star ((BytesRow (.slice ac V.length cc) V).star ((BytesRow (.slice a3 V3.length c3) V3).star ((BytesRow (.slice a4 V3.length c4) V3).star ((Pr.pts wb (workC v r bv wv (.slice at' n ct) (.slice ax n cx))).star ((VaultA v s).star ((RefA r rs gs hush).star ((Pr.own hp).star (G.star ((Pr.pts K (itemC (.slice kk x.key.length kc) (.slice kw V2.length kx) x.child x.size)).star ((Pr.own hz).star ((Pr.own hy).star ((Pr.pts J (itemC (.slice (some ⟨b1, 0, none⟩) x.key.length (x.key.length + 64)) (.slice (some ⟨b2, 0, none⟩) x.value.length (x.value.length + 64)) x.child x.size)).star (Pr.pts I (itemC (.slice ak x.key.length ck) (.slice av x.value.length cv) x.child x.size)))))))))))))))) (by ac_rfl)
      obtain ⟨p0, p1, _, _, _, pz⟩ := pts6w O4.right.right.right.right
      obtain ⟨q0, q1, q2, q3, _, qz⟩ := pts4 O4.right.right.right.right.right.right.right.right.right
      obtain ⟨ho1, by1, l1⟩ := bytes_le O4
      obtain ⟨ho2, by2, l2⟩ := bytes_le O4.right
      obtain ⟨ho3, by3, l3⟩ := bytes_le O4.right.right
      obtain ⟨ho4, by4, l4⟩ := bytes_le O4.right.right.right
      have EQ := Lib.hid (eq_same ho1 ho2 _ _ V by1 by2 (by have := HVL.out; omega) w10 l1 l2)
      have EQ2 := Lib.hid (fun w' (ho : Only w10 w') => eq_same ho3 ho4 _ _ V3 by3 by4 (by have := HVL3.out; omega) w' (fun k o e => (ho.heap k (Array.getElem?_eq_some_iff.1 (l3 k o e)).1).trans (l3 k o e)) (fun k o e => (ho.heap k (Array.getElem?_eq_some_iff.1 (l4 k o e)).1).trans (l4 k o e)))
      have HST10 := Lib.hid (HST9.out.drew.trans st10)
      have HO4 := Lib.hid O4
      clear hs19 O4 st10 HST9 by1 by2 by3 by4 l1 l2 l3 l4
      go_wp2
      refine onN_mk ?_
      refine wpQ_all _ rfl rfl ?_
      simp only [pick, pkA, pkB, pkC, pkD, pkE, pkF]
      iterate 5 (go_big_quiet_step (fail))
      refine wpQuiet_nil ⟨?_, ?_⟩
      · refine chk_all _ rfl rfl ?_
        simp only [pick, Same, pkA, pkB, pkC, pkD, pkE, pkF, and_true]
        repeat' (first | apply And.intro | (go_big_quiet_step (fail); exact wpQuiet_nil rfl))
      refine wpRest_nil ?_
      go_wp2_with fail
      refine EQ.out.mono ?_
      rintro e w11 ⟨rfl, oe1⟩
      have EQ3 := Lib.hid (EQ2.out w11 oe1)
      clear EQ EQ2
      go_wp2_with fail
      refine EQ3.out.mono ?_
      rintro e w12 ⟨rfl, oe2⟩
      have hs20 := (HO4.out.only (oe1.trans oe2)).perm (B := ((BytesRow (.slice a3 V3.length c3) V3).star ((BytesRow (.slice a4 V3.length c4) V3).star ((Pr.pts K (itemC (.slice kk x.key.length kc) (.slice kw V2.length kx) x.child x.size)).star ((Pr.own hz).star ((Pr.own hy).star ((Pr.pts J (itemC (.slice (some ⟨b1, 0, none⟩) x.key.length (x.key.length + 64)) (.slice (some ⟨b2, 0, none⟩) x.value.length (x.value.length + 64)) x.child x.size)).star ((Pr.pts I (itemC (.slice ak x.key.length ck) (.slice av x.value.length cv) x.child x.size)).star ((Row 29 1 (.slice at' n ct) n ts).star ((Pr.pts wb (workC v r bv wv (.slice at' n ct) (.slice ax n cx))).star ((Row 29 1 (.slice ax n cx) n us).star ((BytesRow (.slice ao V.length co) V).star ((BytesRow (.slice ac V.length cc) V).star ((VaultA v s).star ((RefA r rs gs hush).star ((Pr.own hp).star F)))))))))))))))) (by rw [HG.out]; ac_rfl)
      have hs22 := hs20.right.right.right.right.right.right.right
      have HST12 := Lib.hid (HST10.out.trans (oe1.trans oe2).st)
      clear p0 p1 pz q0 q1 q2 q3 qz HO4 HST10 EQ3 hs20 oe1 oe2
      obtain ⟨_, _, p4, p5, ⟨f4, f5⟩, pz⟩ := pts6w hs22.right
      by_cases hn30 : n < 30
      · obtain ⟨j0, hj, hy0, hy1, hy2⟩ := info_parts infoSl
        have A1 := Lib.hid (hs22.alloc (.cells [.slice ao V.length co].toArray 29)).right
        have hnew := Lib.hid (new_cells w12 [.slice ao V.length co] 29 _ rfl)
        have hn31 : (n : Int) < 30 := by omega
        clear hs22
        go_wp2_with (first
          | (at_builtin
             refine wpList_append_sl rfl _ _ _ rfl 29 j0 (.slice none 0 0) 1 24 Tryz.underlying63 hj hy0 hy1 hy2 rfl _ _ _ rfl A2.out ⟨w13.heap.size, 0, none⟩ 1 1 [.slice ac V.length cc] rfl rfl hnew2.out (by simp [Value.oneCell']) (by simp only [maxLen]; omega) (by omega) ?_
             intro v8 w14 hs8 hg8 _
             obtain ⟨a8, c8, e8, _, _⟩ := Row.read hs8
             subst e8
             have g5 := (pts6w hs8.right).2.2.2.2.1.2
             have gz := (pts6w hs8.right).2.2.2.2.2
             have g6 := (pts6w hs8.right).2.2.2.1
             have HS8 := Lib.hid hs8
             have HG8 := Lib.hid (HST14.out.of_grown hg8)
             clear hs8 hg8 A2 hnew2 HST14 g4 gy g1 g0)
          | (at_builtin
             refine wpList_append_sl rfl _ _ _ rfl 29 j0 (.slice none 0 0) 1 24 Tryz.underlying63 hj hy0 hy1 hy2 rfl _ _ _ rfl A1.out ⟨w12.heap.size, 0, none⟩ 1 1 [.slice ao V.length co] rfl rfl hnew.out (by simp [Value.oneCell']) (by simp only [maxLen]; omega) (by omega) ?_
             intro v7 w13 hs7 hg7 _
             obtain ⟨a7, c7, e7, _, _⟩ := Row.read hs7
             subst e7
             have g4 := (pts6w hs7.right).2.2.2.2.1.1
             have g0 := (pts6w hs7.right).2.2.1
             have gy := (pts6w hs7.right).2.2.2.2.2
             have g1 := (pts6w hs7.right).2.2.2.1
             have hs9 := (hs7.perm (Pr.left_comm _ _ _)).setCell (i := 4) (.slice a7 (n + 1) c7)
             have hs10 : Sat ((Pr.pts wb (workC v r bv wv (.slice a7 (n + 1) c7) (.slice ax n cx))).star ((Row 29 1 (.slice a7 (n + 1) c7) (n + 1) (ts ++ [.slice ao V.length co])).star ((Row 29 1 (.slice ax n cx) n us).star ((BytesRow (.slice ao V.length co) V).star ((BytesRow (.slice ac V.length cc) V).star ((VaultA v s).star ((RefA r rs gs hush).star ((Pr.own hp).star F)))))))) (w13.setCell ⟨wb, 4, none⟩ (.slice a7 (n + 1) c7)) := hs9
             have hs11 := hs10.perm (B := ((Row 29 1 (.slice ax n cx) n us).star ((Pr.pts wb (workC v r bv wv (.slice a7 (n + 1) c7) (.slice ax n cx))).star ((Row 29 1 (.slice a7 (n + 1) c7) (n + 1) (ts ++ [.slice ao V.length co])).star ((BytesRow (.slice ao V.length co) V).star ((BytesRow (.slice ac V.length cc) V).star ((VaultA v s).star ((RefA r rs gs hush).star ((Pr.own hp).star F))))))))) (by ac_rfl)
             have A2 := Lib.hid (hs11.alloc (.cells [.slice ac V.length cc].toArray 29)).right
             have hnew2 := Lib.hid (new_cells (w13.setCell ⟨wb, 4, none⟩ (.slice a7 (n + 1) c7)) [.slice ac V.length cc] 29 w13.heap.size (by simp))
             have HST14 := Lib.hid ((((HST12.out.alloc (.cells [.slice ao V.length co].toArray 29)).of_grown hg7).setCell ⟨wb, 4, none⟩ (.slice a7 (n + 1) c7)).alloc (.cells [.slice ac V.length cc].toArray 29))
             clear hs7 hg7 hs9 hs10 hs11 A1 hnew HST12 p4 p5 f4 f5 pz))
        go_ret
        refine ⟨rfl, HG8.out.setCell _ _, .slice ao V.length co, .slice ac V.length cc, .slice a7 (n + 1) c7, .slice a8 (n + 1) c8, ?_⟩
        have hs15 := (HS8.out.perm (Pr.left_comm _ _ _)).setCell (i := 5) (.slice a8 (n + 1) c8)
        have hs16 : Sat ((Pr.pts wb (workC v r bv wv (.slice a7 (n + 1) c7) (.slice a8 (n + 1) c8))).star ((Row 29 1 (.slice a8 (n + 1) c8) (n + 1) (us ++ [.slice ac V.length cc])).star ((Row 29 1 (.slice a7 (n + 1) c7) (n + 1) (ts ++ [.slice ao V.length co])).star ((BytesRow (.slice ao V.length co) V).star ((BytesRow (.slice ac V.length cc) V).star ((VaultA v s).star ((RefA r rs gs hush).star ((Pr.own hp).star F)))))))) _ := hs15
        exact hs16.perm (by ac_rfl)
      · have HS22 := Lib.hid hs22
        clear hs22
        go_wp2
        go_ret
        refine ⟨rfl, HST12.out, .slice ao V.length co, .slice ac V.length cc, .slice at' n ct, .slice ax n cx, ?_⟩
        exact HS22.out.perm (by ac_rfl)
end Go.Proofs.YtbobcmimkonnoaaGreat.law1
