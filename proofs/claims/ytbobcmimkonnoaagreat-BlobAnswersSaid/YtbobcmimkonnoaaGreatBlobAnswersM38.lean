/- Both Releases of any item; the document's Store, whatever the value; the conditions stand as hypotheses. -/
import Derived.Test.YtbobcmimkonnoaaGreatBlobAnswersM37
import Derived.Test.YtbobcmimkonnoaaGreatBlobAnswersM35
import Derived.Test.YtbobcmimkonnoaaGreatBlobAnswersM01
namespace Go.Proofs.YtbobcmimkonnoaaGreat.release
open ChangeShapes WideShapes ChangeAt RowKit Sl Cop pool1 pool2 pool5 pool9 clone page vault1 vault2 vault6 counts items copyP copyB blob4 ref1 ref2 ref3 ref4 rdrop rmake rstore rstore2 dropB
theorem rstore_any (r : Nat) (rs : PoolS) (gs : List PageV) (hush : RTail) (hq : hush.q = true) (s : VaultS) (tw : Go.Cop.Twin s rs gs) (okp : PoolOk s.pool) (hm : s.pool.floor + s.pool.acts.length + 8 ≤ 1099511627776)
    (kv vv : Value) (hp : Hp) (K V : List Int) (hK : Bytes hp kv K) (hV : Bytes hp vv V) (F : Pr) (w : World) (hF : Sat ((RefA r rs gs hush).star ((Pr.own hp).star F)) w) :
    Calls Tryz.prog 127 #[.pointer (some ⟨r, 0, none⟩), kv, vv] w fun e w' => Stays w w' ∧
      ((storeE s.pool K V ≠ 0 ∧ e = .returned (.tuple #[zeroItem, .int .i64 (storeE s.pool K V)]) ∧ Sat ((RefA r rs gs hush).star ((Pr.own hp).star F)) w') ∨
       (storeE s.pool K V = 0 ∧ ∃ kv' vv' c t ns rs' gs' h', e = .returned (.tuple #[itemV kv' vv' c V.length, .int .i64 0]) ∧ Taken s t ns ∧ StoreAt t c V ns ∧ Go.Cop.Twin t rs' gs' ∧ ItemIn h' (itemV kv' vv' c V.length) (storedI K V c) ∧
        Sat ((Pr.own h').star ((RefA r rs' gs' hush).star ((Pr.own hp).star F))) w')) := by
  by_cases hk : K.length < 1 ∨ 24 < K.length
  · refine (rstore_bad r kv vv hp K V hK hV (by omega) w).mono ?_
    rintro e w' ⟨rfl, ho⟩
    have e1 : storeE s.pool K V = 7 := by unfold storeE; rw [if_pos hk]
    rw [if_pos hk, e1]
    exact ⟨ho.st, .inl ⟨by decide, rfl, hF.only ho⟩⟩
  · by_cases h1 : V.length ≤ 32
    · have e1 : storeE s.pool K V = 0 := by
        unfold storeE pagesV
        rw [if_neg hk, if_neg (by omega), if_pos h1, if_neg (by omega)]
      refine (rstore_short r kv vv hp K V hK hV (by omega) h1 ((RefA r rs gs hush).star F) w (hF.perm (by ac_rfl))).mono ?_
      rintro e w' ⟨hst, kv', vv', h', rfl, b1, b2, h2⟩
      refine ⟨hst, .inr ⟨e1, kv', vv', 0, s, [], rs, gs, h', rfl, Taken.refl s, .inl ⟨h1, rfl, rfl⟩, tw, ⟨kv', vv', rfl, b1, ?_⟩, h2.perm (by ac_rfl)⟩⟩
      dsimp only
      rw [if_pos h1]
      exact b2
    · by_cases h2 : V.length ≤ 3840
      · have hpv : pagesV V = chunks V := if_neg h1
        refine (rstore_long r rs gs hush hq s tw okp hm kv vv hp K V hK hV (by omega) ⟨by omega, h2⟩ F w hF).mono ?_
        rintro e w' ⟨hst, (⟨h3, rfl, h4⟩ | ⟨hr, kv', c, t, ns, rs', gs', h', rfl, b1, ht, hch, htw, h3⟩)⟩
        · have e1 : storeE s.pool K V = 12 := by unfold storeE; rw [if_neg hk, if_neg (by omega), hpv, if_pos h3]
          exact ⟨hst, .inl ⟨by rw [e1]; decide, by rw [e1], h4⟩⟩
        · refine ⟨hst, .inr ⟨by unfold storeE; rw [if_neg hk, if_neg (by omega), hpv, if_neg (by omega)], kv', .slice none 0 0, c, t, ns, rs', gs', h', rfl, ht, .inr ⟨⟨by omega, h2⟩, hch⟩, htw, ⟨kv', _, rfl, b1, ?_⟩, h3⟩⟩
          dsimp only
          rw [if_neg h1]
          exact RowIn.nil _ _
      · have e1 : storeE s.pool K V = 8 := by unfold storeE; rw [if_neg hk, if_pos (by omega)]
        refine (rstore_bad r kv vv hp K V hK hV (by omega) w).mono ?_
        rintro e w' ⟨rfl, ho⟩
        rw [if_neg hk, e1]
        exact ⟨ho.st, .inl ⟨by decide, rfl, hF.only ho⟩⟩
set_option maxRecDepth 100000 in
set_option maxHeartbeats 1000000 in
theorem release_any (v : Nat) (s : VaultS) (x : ItemV) (hp : Hp) (iv : Value) (hi : ItemIn hp iv x) (hb : Bare s) (hfit : ∀ n g, s.on n = some g → g.items.length ≤ 65535) (hm : s.pool.floor + s.pool.acts.length + sumC s.pool.counts < 1099511627776) (hvm : s.floor + s.acts.length < 1099511627776) (F : Pr) (w : World)
    (hF : Sat ((VaultA v s).star F) w) :
    Calls Tryz.prog 132 #[.pointer (some ⟨v, 0, none⟩), iv] w fun e w' => Stays w w' ∧
      ((x.size ≤ 32 ∧ e = .returned (.int .i64 0) ∧ Sat ((VaultA v s).star F) w') ∨
       (32 < x.size ∧ ∃ er t W, e = .returned (.int .i64 er) ∧ DropR s.get [x.child] s.pool.counts er t.pool.counts ∧ DInv s t W ∧ Far s t ∧ Sat ((if er = 0 then VaultA v (t.acted ⟨s.pool.mark, W⟩) else VaultA v s).star F) w')) := by
  obtain ⟨kv, vv, rfl, hk, hvv⟩ := id hi
  obtain ⟨ak, ck, rfl⟩ := bytes_shape hk
  obtain ⟨av, cv, rfl⟩ := bytes_shape hvv
  have h1 := hF.alloc (itemC (.slice ak x.key.length ck) (.slice av x.value.length cv) x.child x.size)
  have HST := Lib.hid ((Stays.refl w).alloc (itemC (.slice ak x.key.length ck) (.slice av x.value.length cv) x.child x.size))
  have VD := Lib.hid (vdrop_any v s x.child hb hfit hm hvm _ _ (h1.perm (B := (VaultA v s).star ((Pr.pts w.heap.size (itemC (.slice ak x.key.length ck) (.slice av x.value.length cv) x.child x.size)).star F)) (by ac_rfl)))
  have H1 := Lib.hid h1.right
  clear h1 hF hi hk hvv hb hfit hm hvm
  by_cases hs : x.size ≤ 32
  · clear VD
    have hd : decide (x.size ≤ 32) = true := decide_eq_true hs
    go_enter Tryz.func132, Tryz.ntmps132
    go_wp2
    go_ret
    exact ⟨HST.out, .inl ⟨hs, rfl, H1.out⟩⟩
  · have hd : decide (x.size ≤ 32) = false := decide_eq_false hs
    go_enter Tryz.func132, Tryz.ntmps132
    go_wp2_with fail
    refine VD.out.mono ?_
    rintro e w' ⟨st, er, t, W, rfl, h2, h3, h4, h5⟩
    have HST2 := Lib.hid (HST.out.trans st)
    have HS := Lib.hid (And.intro h2 (And.intro h3 (And.intro h4 h5)))
    clear h2 h3 h4 h5 st VD
    go_wp2
    go_ret
    refine ⟨HST2.out, .inr ⟨by omega, er, t, W, rfl, HS.out.1, HS.out.2.1, HS.out.2.2.1, ?_⟩⟩
    have h5 := HS.out.2.2.2
    exact (h5.perm (B := (Pr.pts w.heap.size (itemC (.slice ak x.key.length ck) (.slice av x.value.length cv) x.child x.size)).star ((if er = 0 then VaultA v (t.acted ⟨s.pool.mark, W⟩) else VaultA v s).star F)) (by ac_rfl)).right
set_option maxRecDepth 100000 in
set_option maxHeartbeats 1000000 in
theorem rrelease_any (r : Nat) (rs : PoolS) (gs : List PageV) (hush : RTail) (hq : hush.q = true) (x : ItemV) (hp : Hp) (iv : Value) (hi : ItemIn hp iv x) (hr : ∀ c ∈ rs.counts, c ≤ 65536) (F : Pr) (w : World) (hF : Sat ((RefA r rs gs hush).star F) w) :
    Calls Tryz.prog 133 #[.pointer (some ⟨r, 0, none⟩), iv] w fun e w' => Stays w w' ∧
      ((x.size ≤ 32 ∧ e = .returned (.int .i64 0) ∧ Sat ((RefA r rs gs hush).star F) w') ∨
       (32 < x.size ∧ ∃ er cs, e = .returned (.int .i64 er) ∧ DropR (pgAt gs) [x.child] rs.counts er cs ∧ cs.length = rs.counts.length ∧ Sat ((RefA r (if er = 0 then { rs with counts := cs } else rs) gs hush).star F) w')) := by
  obtain ⟨kv, vv, rfl, hk, hvv⟩ := id hi
  obtain ⟨ak, ck, rfl⟩ := bytes_shape hk
  obtain ⟨av, cv, rfl⟩ := bytes_shape hvv
  have h1 := hF.alloc (itemC (.slice ak x.key.length ck) (.slice av x.value.length cv) x.child x.size)
  have HST := Lib.hid ((Stays.refl w).alloc (itemC (.slice ak x.key.length ck) (.slice av x.value.length cv) x.child x.size))
  have VD := Lib.hid (rdrop_any r rs gs hush hq x.child hr _ _ (h1.perm (B := (RefA r rs gs hush).star ((Pr.pts w.heap.size (itemC (.slice ak x.key.length ck) (.slice av x.value.length cv) x.child x.size)).star F)) (by ac_rfl)))
  have H1 := Lib.hid h1.right
  clear h1 hF hi hk hvv hr
  by_cases hs : x.size ≤ 32
  · clear VD
    have hd : decide (x.size ≤ 32) = true := decide_eq_true hs
    go_enter Tryz.func133, Tryz.ntmps133
    go_wp2
    go_ret
    exact ⟨HST.out, .inl ⟨hs, rfl, H1.out⟩⟩
  · have hd : decide (x.size ≤ 32) = false := decide_eq_false hs
    go_enter Tryz.func133, Tryz.ntmps133
    go_wp2_with fail
    refine VD.out.mono ?_
    rintro e w' ⟨st, er, cs, rfl, h2, h3, h5⟩
    have HST2 := Lib.hid (HST.out.trans st)
    have HS := Lib.hid (And.intro h2 (And.intro h3 h5))
    clear h2 h3 h5 st VD
    go_wp2
    go_ret
    refine ⟨HST2.out, .inr ⟨by omega, er, cs, rfl, HS.out.1, HS.out.2.1, ?_⟩⟩
    have h5 := HS.out.2.2
    exact (h5.perm (B := (Pr.pts w.heap.size (itemC (.slice ak x.key.length ck) (.slice av x.value.length cv) x.child x.size)).star ((RefA r (if er = 0 then { rs with counts := cs } else rs) gs hush).star F)) (by ac_rfl)).right
end Go.Proofs.YtbobcmimkonnoaaGreat.release
namespace Go.Cop
open Go.Proofs.YtbobcmimkonnoaaGreat.pool8 Go.Proofs.YtbobcmimkonnoaaGreat.pool9 Go.Proofs.YtbobcmimkonnoaaGreat.ref2 Go.Proofs.YtbobcmimkonnoaaGreat.rsettle Go.Proofs.YtbobcmimkonnoaaGreat.rinc Go.Proofs.YtbobcmimkonnoaaGreat.incG
/-- Both vaults, and room for the acts of k more calls. -/
structure Both (s : VaultS) (rs : PoolS) (gs : List PageV) (k : Nat) : Prop where
 tw : Twin s rs gs
 pb : s.pool.floor + s.pool.acts.length + sumC s.pool.counts + 16 * k < 1099511627776
 vb : s.floor + s.acts.length + 16 * k < 1099511627776
theorem Both.mono {s : VaultS} {rs : PoolS} {gs : List PageV} {k : Nat} (h : Both s rs gs (k + 1)) : Both s rs gs k :=
 ⟨h.tw, by have := h.pb; omega, by have := h.vb; omega⟩
theorem Both.drop {s t : VaultS} {rs : PoolS} {gs : List PageV} {k : Nat} (h : Both s rs gs (k + 1)) (ok : PoolOk s.pool) {l : List Int} {e : Int} {W : List (Int × Option PageV)} (hd : DInv s t W) (hf : Far s t) (h1 : DropR s.get l s.pool.counts e t.pool.counts) (a : ActV) : Both (t.acted a) { rs with counts := t.pool.counts } gs k := by
 refine ⟨h.tw.drop ok hd h1 a, ?_, ?_⟩
 · have h2 := hf.acts
   have h3 := h.pb
   show t.pool.floor + t.pool.acts.length + sumC t.pool.counts + 16 * k < _
   omega
 · have h2 := hd.mid.vf
   have h3 := hd.mid.va
   have h4 := h.vb
   show t.floor + ((t.acts ++ [a]).length : Nat) + 16 * k < _
   rw [List.length_append, h2, h3]
   simp only [List.length_singleton]
   omega
theorem Both.keep {s : VaultS} {rs : PoolS} {gs : List PageV} {k : Nat} (h : Both s rs gs (k + 1)) (ok : PoolOk s.pool) {n : Int} (he : incE s.pool n = 0) (a : ActV) : Both ({ s with pool := s.pool.did n 1 }.acted a) { rs with counts := addC rs.counts n 1 } gs k := by
 have h0 : s.pool.count n ≠ 0 := fun e => by unfold incE at he; rw [if_pos e] at he; cases he
 have ht := there_of_count h0
 have hb := (count_bd ok n).1
 refine ⟨h.tw.keep ok he a, ?_, ?_⟩
 · have h2 := sum_addC (cs := s.pool.counts) (n := n) (b := 1) ht (by rw [← count_cnt]; exact hb) (by rw [← count_cnt]; omega)
   have h3 := h.pb
   show s.pool.floor + ((s.pool.acts ++ [(n, (1 : Int))]).length : Nat) + (sumC (s.pool.did n 1).counts : Nat) + 16 * k < _
   rw [did_counts, List.length_append]
   simp only [List.length_singleton]
   omega
 · have h4 := h.vb
   show s.floor + ((s.acts ++ [a]).length : Nat) + 16 * k < _
   rw [List.length_append]
   simp only [List.length_singleton]
   omega
theorem Both.settle {s : VaultS} {rs : PoolS} {gs : List PageV} {k : Nat} (h : Both s rs gs (k + 1)) (ok : PoolOk s.pool) : Both s.settled { rs with last := lastsOf rs.counts } (gsK rs gs rs.counts.length) k := by
 refine ⟨h.tw.settle ok, ?_, ?_⟩
 · have h3 := h.pb
   show s.pool.floor + s.pool.acts.length + ((([] : List (Int × Int)).length : Nat) : Int) + sumC s.pool.counts + 16 * k < _
   simp only [List.length_nil]
   omega
 · have h3 := h.vb
   show s.floor + s.acts.length + ((([] : List ActV).length : Nat) : Int) + 16 * k < _
   simp only [List.length_nil]
   omega
theorem Both.store {s a b : VaultS} {ns ms V : List Int} {c d : Int} {rs rs' : PoolS} {gs gs' : List PageV} {k : Nat} (h : Both s rs gs (k + 1)) (ok : PoolOk s.pool) (ha : Taken s a ns) (hb : Taken s b ms) (ca : StoreAt a c V ns) (cb : StoreAt b d V ms) (ht : Twin b rs' gs') : c = d ∧ Both a rs' gs' k := by
 obtain ⟨e, tw⟩ := twin_stored ha hb ca cb ht
 have h8 := (store_len ca).2
 have h1 := taken_sum ha (fun c hc => (ok.cs c hc).1)
 have h2 := ha.pf
 have h3 := ha.pa
 have h4 := ha.vf
 have h5 := ha.va
 have h6 := h.pb
 have h7 := h.vb
 exact ⟨e, tw, by omega, by omega⟩
theorem Both.fit {s : VaultS} {rs : PoolS} {gs : List PageV} {k : Nat} (h : Both s rs gs k) : ∀ n g, s.on n = some g → g.items.length ≤ 65535 := fun n g hg => by
 have := (h.tw.fit n g hg).n
 omega
theorem Both.cr {s : VaultS} {rs : PoolS} {gs : List PageV} {k : Nat} (h : Both s rs gs k) (ok : PoolOk s.pool) : ∀ c ∈ rs.counts, c ≤ 65536 := fun c hc => by
 rw [h.tw.cs] at hc
 exact (ok.cs c hc).2
end Go.Cop
namespace Go.Proofs.YtbobcmimkonnoaaGreat.lawRel
open ChangeShapes WideShapes ChangeAt RowKit Sl Cop pool2 pool9 clone page eqb vault1 vault2 items copyP ref1 ref2 rcopy2 spare kept spared law1 blob1 release
/-- What a release comes to on both sides: one answer, and both alike. -/
theorem rel_both {v r : Nat} {s : VaultS} {rs : PoolS} {gs : List PageV} {k : Nat} (hb : Both s rs gs (k + 1)) (ok : PoolOk s.pool) {x : ItemV} {er : Int} {t : VaultS} {W : List (Int × Option PageV)} (h1 : DropR s.get [x.child] s.pool.counts er t.pool.counts) (h2 : DInv s t W) (h3 : Far s t) {er2 : Int} {cs : List Int} (g1 : DropR (pgAt gs) [x.child] rs.counts er2 cs) {F : Pr} {w : World}
 (hF : Sat ((RefA r (if er2 = 0 then { rs with counts := cs } else rs) gs (quietT true)).star ((if er = 0 then VaultA v (t.acted ⟨s.pool.mark, W⟩) else VaultA v s).star F)) w) :
 er = er2 ∧ ∃ s' rs' gs', Both s' rs' gs' k ∧ Sat ((RefA r rs' gs' (quietT true)).star ((VaultA v s').star F)) w := by
 obtain ⟨e, c⟩ := hb.tw.drop_det ok h1 g1
 subst e c
 refine ⟨rfl, ?_⟩
 by_cases he : er = 0
 · rw [if_pos he, if_pos he] at hF
   exact ⟨_, _, _, hb.drop ok h2 h3 h1 _, hF⟩
 · rw [if_neg he, if_neg he] at hF
   exact ⟨_, _, _, hb.mono, hF⟩
set_option maxRecDepth 100000 in
set_option maxHeartbeats 8000000 in
theorem lrelease_any (wb v r : Nat) (bv wv tv xv : Value) (s : VaultS) (rs : PoolS) (gs : List PageV) (k : Nat) (hb : Both s rs gs (k + 1)) (x : ItemV) (hp : Hp) (iv : Value) (hi : ItemIn hp iv x) (hn : x.key.length ≤ 140737488351232 ∧ x.value.length ≤ 140737488351232) (F : Pr) (w : World)
 (hF : Sat ((Pr.pts wb (workC v r bv wv tv xv)).star ((VaultA v s).star ((RefA r rs gs (quietT true)).star ((Pr.own hp).star F)))) w) :
 Calls Tryz.prog 77 #[.pointer (some ⟨wb, 0, none⟩), iv] w fun e w' => e = .returned (.bool true) ∧ Stays w w' ∧ ∃ s' rs' gs', Both s' rs' gs' k ∧
  Sat ((Pr.pts wb (workC v r bv wv tv xv)).star ((VaultA v s').star ((RefA r rs' gs' (quietT true)).star ((Pr.own hp).star F)))) w' := by
 have okp := (vault_ok hF.right).1
 obtain ⟨kv, vv, rfl, hk, hvv⟩ := id hi
 obtain ⟨ak, ck, rfl⟩ := bytes_shape hk
 obtain ⟨av, cv, rfl⟩ := bytes_shape hvv
 have h1 := hF.alloc (itemC (.slice ak x.key.length ck) (.slice av x.value.length cv) x.child x.size)
 have SP := Lib.hid (spared_any hp _ x hi hn _ _ (h1.perm (B := (Pr.own hp).star ((Pr.pts w.heap.size (itemC (.slice ak x.key.length ck) (.slice av x.value.length cv) x.child x.size)).star ((Pr.pts wb (workC v r bv wv tv xv)).star ((VaultA v s).star ((RefA r rs gs (quietT true)).star F))))) (by ac_rfl)))
 have HI := Lib.hid hi
 have HN := Lib.hid hn
 have HB := Lib.hid hb
 have OK := Lib.hid okp
 have HST := Lib.hid ((Stays.refl w).alloc (itemC (.slice ak x.key.length ck) (.slice av x.value.length cv) x.child x.size))
 clear hF h1 hk hvv hi hn hb okp
 go_enter Tryz.func77, Tryz.ntmps77
 go_wp2_with fail
 refine SP.out.mono ?_
 rintro e w1 ⟨b1, b2, rfl, hs1, st1⟩
 obtain ⟨hx, hxq, hxi, hs2⟩ := two_whole hs1
 have hs3 := hs2.alloc (itemC (.slice (some ⟨b1, 0, none⟩) x.key.length (x.key.length + 64)) (.slice (some ⟨b2, 0, none⟩) x.value.length (x.value.length + 64)) x.child x.size)
 have HST1 := Lib.hid ((HST.out.trans st1).alloc (itemC (.slice (some ⟨b1, 0, none⟩) x.key.length (x.key.length + 64)) (.slice (some ⟨b2, 0, none⟩) x.value.length (x.value.length + 64)) x.child x.size))
 have HXQ := Lib.hid hxq
 have HXI := Lib.hid hxi
 clear hs1 hs2 st1 HST SP hxq hxi
 go_wp2_with fail
 have HS3 := Lib.hid hs3
 have T1 := HST1.out
 clear hs3 HST1
 generalize w.heap.size = I at *
 generalize hw2 : w1.alloc (itemC (.slice (some ⟨b1, 0, none⟩) x.key.length (x.key.length + 64)) (.slice (some ⟨b2, 0, none⟩) x.value.length (x.value.length + 64)) x.child x.size) = w2 at *
 generalize w1.heap.size = J at *
 have HST1 := Lib.hid T1
 clear hw2 T1
 have hs3 := HS3.out
 have hs4 := hs3.perm (B := (Pr.pts wb (workC v r bv wv tv xv)).star ((Pr.pts J (itemC (.slice (some ⟨b1, 0, none⟩) x.key.length (x.key.length + 64)) (.slice (some ⟨b2, 0, none⟩) x.value.length (x.value.length + 64)) x.child x.size)).star ((VaultA v s).star ((Pr.own hx).star ((Pr.own hp).star ((Pr.pts I (itemC (.slice ak x.key.length ck) (.slice av x.value.length cv) x.child x.size)).star ((RefA r rs gs (quietT true)).star F))))))) (by ac_rfl)
 obtain ⟨p0, _, _, _, _, pz⟩ := pts6w hs4
 obtain ⟨q0, q1, q2, q3, _, qz⟩ := pts4 hs4.right
 have BL := Lib.hid (release_any v s x hx _ HXI.out HB.out.tw.bare HB.out.fit (by have := HB.out.pb; omega) (by have := HB.out.vb; omega) _ _ (hs4.drew.perm (B := (VaultA v s).star ((Pr.own hx).star ((Pr.pts J (itemC (.slice (some ⟨b1, 0, none⟩) x.key.length (x.key.length + 64)) (.slice (some ⟨b2, 0, none⟩) x.value.length (x.value.length + 64)) x.child x.size)).star ((Pr.pts wb (workC v r bv wv tv xv)).star ((Pr.own hp).star ((Pr.pts I (itemC (.slice ak x.key.length ck) (.slice av x.value.length cv) x.child x.size)).star ((RefA r rs gs (quietT true)).star F))))))) (by ac_rfl)))
 clear hs3 hs4 HS3
 refine wp_region_staged (sz := 30) (by kernel_rfl) [0, 1, 2, 3, 4] [(5, [6], [0, 1, 2])] rfl (by kernel_rfl) (by kernel_rfl) (by kernel_rfl) ?_
 refine wpQ_all _ rfl rfl ?_
 simp only [pick, pkA, pkB, pkC, pkD, pkE, pkF]
 iterate 5 (go_big_quiet_step (fail))
 refine wpQuiet_nil ?_
 refine wpRest_act rfl ?_
 go_wp2_with fail
 refine BL.out.mono ?_
 rintro e w3 ⟨st3, hrel⟩
 -- both outcomes, as one
 have hone : ∃ (er : Int) (VP : Pr), e = .returned (.int .i64 er) ∧ (∀ (er2 : Int) (RP : Pr), (x.size ≤ 32 ∧ er2 = 0 ∧ RP = RefA r rs gs (quietT true)) ∨ (32 < x.size ∧ ∃ cs, DropR (pgAt gs) [x.child] rs.counts er2 cs ∧ RP = RefA r (if er2 = 0 then { rs with counts := cs } else rs) gs (quietT true)) →
  er = er2 ∧ ∀ (G : Pr) (w' : World), Sat (RP.star (VP.star G)) w' → ∃ s' rs' gs', Both s' rs' gs' k ∧ Sat ((RefA r rs' gs' (quietT true)).star ((VaultA v s').star G)) w') ∧
  Sat (VP.star ((Pr.own hx).star ((Pr.pts J (itemC (.slice (some ⟨b1, 0, none⟩) x.key.length (x.key.length + 64)) (.slice (some ⟨b2, 0, none⟩) x.value.length (x.value.length + 64)) x.child x.size)).star ((Pr.pts wb (workC v r bv wv tv xv)).star ((Pr.own hp).star ((Pr.pts I (itemC (.slice ak x.key.length ck) (.slice av x.value.length cv) x.child x.size)).star ((RefA r rs gs (quietT true)).star F))))))) w3 := by
  rcases hrel with ⟨hz, rfl, h5⟩ | ⟨hz, er, t, W, rfl, h2, h3, h4, h5⟩
  · refine ⟨0, VaultA v s, rfl, ?_, h5⟩
    rintro er2 RP (⟨_, rfl, rfl⟩ | ⟨hz2, _⟩)
    · exact ⟨rfl, fun G w' hG => ⟨s, rs, gs, HB.out.mono, hG⟩⟩
    · omega
  · refine ⟨er, _, rfl, ?_, h5⟩
    rintro er2 RP (⟨hz2, _⟩ | ⟨_, cs, g1, rfl⟩)
    · omega
    · refine ⟨(HB.out.tw.drop_det OK.out h2 g1).1, fun G w' hG => (rel_both HB.out OK.out h2 h3 h4 g1 hG).2⟩
 obtain ⟨er, VP, rfl, hjoin, hs5⟩ := hone
 clear hrel p0 pz q0 q1 q2 q3 qz BL
 have HJ := Lib.hid hjoin
 have hs6 := hs5.perm (B := (Pr.pts wb (workC v r bv wv tv xv)).star ((Pr.pts I (itemC (.slice ak x.key.length ck) (.slice av x.value.length cv) x.child x.size)).star ((RefA r rs gs (quietT true)).star ((Pr.own hp).star ((Pr.own hx).star ((Pr.pts J (itemC (.slice (some ⟨b1, 0, none⟩) x.key.length (x.key.length + 64)) (.slice (some ⟨b2, 0, none⟩) x.value.length (x.value.length + 64)) x.child x.size)).star (VP.star F))))))) (by ac_rfl)
 obtain ⟨p0, p1, _, _, _, pz⟩ := pts6w hs6
 obtain ⟨q0, q1, q2, q3, _, qz⟩ := pts4 hs6.right
 have HST3 := Lib.hid (HST1.out.drew.trans st3)
 have RB := Lib.hid (rrelease_any r rs gs (quietT true) rfl x hp _ HI.out (HB.out.cr OK.out) _ _ (hs6.drew.perm (B := (RefA r rs gs (quietT true)).star ((Pr.own hp).star ((Pr.pts J (itemC (.slice (some ⟨b1, 0, none⟩) x.key.length (x.key.length + 64)) (.slice (some ⟨b2, 0, none⟩) x.value.length (x.value.length + 64)) x.child x.size)).star ((Pr.pts wb (workC v r bv wv tv xv)).star ((Pr.pts I (itemC (.slice ak x.key.length ck) (.slice av x.value.length cv) x.child x.size)).star ((Pr.own hx).star (VP.star F))))))) (by ac_rfl)))
 clear hs5 hs6 st3 HST1 hjoin
 go_wp2
 refine onN_mk ?_
 refine wpQ_all _ rfl rfl ?_
 simp only [pick, pkA, pkB, pkC, pkD, pkE, pkF]
 iterate 1 (go_big_quiet_step (fail))
 refine wpQuiet_nil ⟨?_, ?_⟩
 · refine chk_all _ rfl rfl ?_
   simp only [pick, Same, pkA, pkB, pkC, pkD, pkE, pkF, and_true]
   repeat' (first | apply And.intro | (go_big_quiet_step (fail); exact wpQuiet_nil rfl))
 refine wpRest_nil ?_
 go_wp2_with fail
 refine wp_region_staged (sz := 30) (by kernel_rfl) [0, 1, 2, 3, 4] [(5, [6], [0, 1, 2])] rfl (by kernel_rfl) (by kernel_rfl) (by kernel_rfl) ?_
 refine wpQ_all _ rfl rfl ?_
 simp only [pick, pkA, pkB, pkC, pkD, pkE, pkF]
 iterate 5 (go_big_quiet_step (fail))
 refine wpQuiet_nil ?_
 refine wpRest_act rfl ?_
 go_wp2_with fail
 refine RB.out.mono ?_
 rintro e w4 ⟨st4, hrel⟩
 have htwo : e = .returned (.int .i64 er) ∧ ∃ RP : Pr, (∀ (G : Pr) (w' : World), Sat (RP.star (VP.star G)) w' → ∃ s' rs' gs', Both s' rs' gs' k ∧ Sat ((RefA r rs' gs' (quietT true)).star ((VaultA v s').star G)) w') ∧
  Sat (RP.star ((Pr.own hp).star ((Pr.pts J (itemC (.slice (some ⟨b1, 0, none⟩) x.key.length (x.key.length + 64)) (.slice (some ⟨b2, 0, none⟩) x.value.length (x.value.length + 64)) x.child x.size)).star ((Pr.pts wb (workC v r bv wv tv xv)).star ((Pr.pts I (itemC (.slice ak x.key.length ck) (.slice av x.value.length cv) x.child x.size)).star ((Pr.own hx).star (VP.star F))))))) w4 := by
  rcases hrel with ⟨hz, rfl, h5⟩ | ⟨hz, er2, cs, rfl, h2, _, h5⟩
  · obtain ⟨e1, j1⟩ := HJ.out 0 _ (.inl ⟨hz, rfl, rfl⟩)
    exact ⟨by rw [e1], _, j1, h5⟩
  · obtain ⟨e1, j1⟩ := HJ.out er2 _ (.inr ⟨hz, cs, h2, rfl⟩)
    exact ⟨by rw [e1], _, j1, h5⟩
 obtain ⟨rfl, RP, j1, hs7⟩ := htwo
 clear hrel p0 p1 pz q0 q1 q2 q3 qz RB HJ
 have hs8 := hs7.perm (B := (Pr.own hx).star ((Pr.own hp).star ((Pr.pts J (itemC (.slice (some ⟨b1, 0, none⟩) x.key.length (x.key.length + 64)) (.slice (some ⟨b2, 0, none⟩) x.value.length (x.value.length + 64)) x.child x.size)).star ((Pr.pts I (itemC (.slice ak x.key.length ck) (.slice av x.value.length cv) x.child x.size)).star ((Pr.pts wb (workC v r bv wv tv xv)).star (RP.star (VP.star F))))))) (by ac_rfl)
 obtain ⟨q0, q1, q2, q3, _, qz⟩ := pts4 hs8.right.right
 obtain ⟨r0, r1, r2, r3, _, rz⟩ := pts4 hs8.right.right.right
 have hs9 := hs8.ofOwn HXQ.out
 rw [Pr.star_assoc] at hs9
 have KP := Lib.hid (keptitem_any b1 b2 x hp _ HI.out HN.out _ _ hs9)
 have HS9 := Lib.hid hs9
 have HST4 := Lib.hid (HST3.out.drew.trans st4)
 have HJ1 := Lib.hid j1
 clear hs7 hs8 hs9 st4 HST3 HXQ HXI j1
 go_wp2
 refine onN_mk ?_
 refine wpQ_all _ rfl rfl ?_
 simp only [pick, pkA, pkB, pkC, pkD, pkE, pkF]
 iterate 1 (go_big_quiet_step (fail))
 refine wpQuiet_nil ⟨?_, ?_⟩
 · refine chk_all _ rfl rfl ?_
   simp only [pick, Same, pkA, pkB, pkC, pkD, pkE, pkF, and_true]
   repeat' (first | apply And.intro | (go_big_quiet_step (fail); exact wpQuiet_nil rfl))
 refine wpRest_nil ?_
 go_wp2_with fail
 refine KP.out.mono ?_
 rintro e w5 ⟨rfl, ok5⟩
 have HST5 := Lib.hid (HST4.out.trans ok5.st)
 have hs10 := (HS9.out.only ok5).perm (B := (WholeRow b1 x.key).star ((WholeRow b2 x.value).star ((Pr.pts J (itemC (.slice (some ⟨b1, 0, none⟩) x.key.length (x.key.length + 64)) (.slice (some ⟨b2, 0, none⟩) x.value.length (x.value.length + 64)) x.child x.size)).star ((Pr.pts I (itemC (.slice ak x.key.length ck) (.slice av x.value.length cv) x.child x.size)).star (RP.star (VP.star ((Pr.pts wb (workC v r bv wv tv xv)).star ((Pr.own hp).star F)))))))) (by ac_rfl)
 have HS10 := Lib.hid hs10.right.right.right.right
 clear hs10 HS9 HST4 KP ok5 q0 q1 q2 q3 qz r0 r1 r2 r3 rz
 go_wp2
 go_ret
 obtain ⟨s', rs', gs', hb2, hs11⟩ := HJ1.out _ _ HS10.out
 exact ⟨rfl, HST5.out, s', rs', gs', hb2, hs11.perm (by ac_rfl)⟩
end Go.Proofs.YtbobcmimkonnoaaGreat.lawRel
namespace Go.Cop
abbrev zeroI : ItemV := ⟨[], [], 0, 0⟩
/-- The item n of a book. -/
def bookAt (l : List ItemV) (n : Int) : ItemV := if 0 ≤ n then l.getD n.toNat zeroI else zeroI
end Go.Cop
namespace Go.Proofs.YtbobcmimkonnoaaGreat.lawItem
open ChangeShapes WideShapes ChangeAt RowKit Sl Cop clone page vault1 vault2 items copyP blob4
theorem zero_item (h : Hp) : ItemIn h zeroItem zeroI := ⟨_, _, rfl, RowIn.nil _ _, RowIn.nil _ _⟩
set_option maxRecDepth 100000 in
set_option maxHeartbeats 1000000 in
theorem litem_any (h : Hp) (v : Value) (l : List ItemV) (hi : ItemsIn h v l) (n : Int) (w : World) (hle : h.le w) :
    Calls Tryz.prog 76 #[v, .int .i64 n] w fun e w' => Only w w' ∧ ∃ iv, e = .returned iv ∧ ItemIn h iv (bookAt l n) := by
  obtain ⟨a, c, rfl, hcm, rd⟩ := items_rd hi
  have hlm : l.length ≤ maxLen := by
    obtain ⟨_, _, ⟨_, _, _, e, h1, h2, _⟩, _⟩ := hi
    cases e
    omega
  have HO := Lib.hid ((Only.refl w).alloc (itemC (.slice none 0 0) (.slice none 0 0) 0 0))
  have H1 := Lib.hid ((sat_emp w).alloc (itemC (.slice none 0 0) (.slice none 0 0) 0 0))
  by_cases h0 : n < 0
  · have hb : bookAt l n = zeroI := by unfold bookAt; rw [if_neg (by omega)]
    rw [hb]
    have hd : decide (n < 0) = true := decide_eq_true h0
    clear rd hi hb
    go_enter Tryz.func76, Tryz.ntmps76
    go_wp2
    refine bodyPost_ret (results_cell_row rfl _ _ w.heap.size _ _ _ _ rfl H1.out.pts_heap Tryz.underlying58 rfl infoItemS) rfl ?_
    exact ⟨HO.out, _, rfl, zero_item h⟩
  · obtain ⟨j, rfl⟩ : ∃ j : Nat, n = j := ⟨n.toNat, by omega⟩
    have hd : decide ((j : Int) < 0) = false := decide_eq_false h0
    by_cases hj : j < l.length
    · have hb : bookAt l j = l[j] := by
        unfold bookAt
        rw [if_pos (by omega), show ((j : Int)).toNat = j by omega, List.getD_eq_getElem?_getD, List.getElem?_eq_getElem hj]
        rfl
      rw [hb]
      obtain ⟨b, off, ak, ck, av, cv, rfl, b1, b2, cells⟩ := rd j hj
      obtain ⟨c0, c1, c2, c3⟩ := cells w hle
      have HB := Lib.hid (And.intro b1 b2)
      have hd2 : decide ((l.length : Int) ≤ (j : Int)) = false := decide_eq_false (by omega)
      have z0 := World.block_lt_of_cell? _ _ c0
      have hs : Sat ((Pr.pts w.heap.size (itemC (.slice ak l[j].key.length ck) (.slice av l[j].value.length cv) l[j].child l[j].size)).star Pr.emp) _ := (((H1.out.setCell (i := 0) (.slice ak l[j].key.length ck)).setCell (i := 1) (.slice av l[j].value.length cv)).setCell (i := 2) (.int .i64 l[j].child)).setCell (i := 3) (.int .i64 l[j].size)
      have HS := Lib.hid hs
      have HO2 := Lib.hid ((Only.refl w).alloc (itemC (.slice ak l[j].key.length ck) (.slice av l[j].value.length cv) l[j].child l[j].size))
      have H2 := Lib.hid ((sat_emp w).alloc (itemC (.slice ak l[j].key.length ck) (.slice av l[j].value.length cv) l[j].child l[j].size))
      clear rd hi hb b1 b2 cells hs
      go_enter Tryz.func76, Tryz.ntmps76
      go_wp2
      refine bodyPost_ret (results_cell_row rfl _ _ w.heap.size _ _ _ _ rfl H2.out.pts_heap Tryz.underlying58 rfl infoItemS) rfl ?_
      exact ⟨HO2.out, _, rfl, _, _, rfl, HB.out.1, HB.out.2⟩
    · have hb : bookAt l j = zeroI := by
        unfold bookAt
        rw [if_pos (by omega), show ((j : Int)).toNat = j by omega, List.getD_eq_getElem?_getD, List.getElem?_eq_none (by omega)]
        rfl
      rw [hb]
      have hd2 : decide ((l.length : Int) ≤ (j : Int)) = true := decide_eq_true (by omega)
      clear rd hi hb
      go_enter Tryz.func76, Tryz.ntmps76
      go_wp2
      refine bodyPost_ret (results_cell_row rfl _ _ w.heap.size _ _ _ _ rfl H1.out.pts_heap Tryz.underlying58 rfl infoItemS) rfl ?_
      exact ⟨HO.out, _, rfl, zero_item h⟩
end Go.Proofs.YtbobcmimkonnoaaGreat.lawItem
namespace Go.Proofs.YtbobcmimkonnoaaGreat.lawSto1
open ChangeShapes WideShapes ChangeAt RowKit Sl Cop pool2 pool9 clone page vault1 vault2 items copyP ref1 ref2 blob1 blob4 lawItem
abbrev nilV : Value := .slice none 0 0
abbrev shortV (V : List Int) : List Int := if V.length ≤ 32 then V else []
/-- What the program's Store comes to: the item's cells, and what is owned. -/
def Sto1 (v : Nat) (s : VaultS) (K V : List Int) (kv vv : Value) (c N : Int) (X : Pr) : Prop :=
 (storeE s.pool K V ≠ 0 ∧ kv = nilV ∧ vv = nilV ∧ c = 0 ∧ N = 0 ∧ X = VaultA v s) ∨
 (storeE s.pool K V = 0 ∧ N = V.length ∧ IsSl kv ∧ IsSl vv ∧ ∃ s1 ns, Taken s s1 ns ∧ StoreAt s1 c V ns ∧ X = (BytesRow kv K).star ((BytesRow vv (shortV V)).star (VaultA v s1)))
/-- What the document's comes to. -/
def Sto2 (r : Nat) (s : VaultS) (rs : PoolS) (gs : List PageV) (K V : List Int) (kv vv : Value) (c N : Int) (Y : Pr) : Prop :=
 (storeE s.pool K V ≠ 0 ∧ kv = nilV ∧ vv = nilV ∧ c = 0 ∧ N = 0 ∧ Y = RefA r rs gs (quietT true)) ∨
 (storeE s.pool K V = 0 ∧ N = V.length ∧ IsSl kv ∧ IsSl vv ∧ ∃ t ns rs' gs' h', Taken s t ns ∧ StoreAt t c V ns ∧ Go.Cop.Twin t rs' gs' ∧ ItemIn h' (itemV kv vv c V.length) (storedI K V c) ∧ Y = (Pr.own h').star (RefA r rs' gs' (quietT true)))
theorem Sto1.sl {v : Nat} {s : VaultS} {K V : List Int} {kv vv : Value} {c N : Int} {X : Pr} (h : Sto1 v s K V kv vv c N X) : IsSl kv ∧ IsSl vv := by
 rcases h with ⟨_, rfl, rfl, _⟩ | ⟨_, _, h1, h2, _⟩
 · exact ⟨⟨_, _, _, rfl⟩, ⟨_, _, _, rfl⟩⟩
 · exact ⟨h1, h2⟩
theorem Sto2.sl {r : Nat} {s : VaultS} {rs : PoolS} {gs : List PageV} {K V : List Int} {kv vv : Value} {c N : Int} {Y : Pr} (h : Sto2 r s rs gs K V kv vv c N Y) : IsSl kv ∧ IsSl vv := by
 rcases h with ⟨_, rfl, rfl, _⟩ | ⟨_, _, h1, h2, _⟩
 · exact ⟨⟨_, _, _, rfl⟩, ⟨_, _, _, rfl⟩⟩
 · exact ⟨h1, h2⟩
/-- The item that both tell. -/
def stoI (s : PoolS) (K V : List Int) (c : Int) : ItemV := if storeE s K V = 0 then storedI K V c else zeroI
theorem sto_join {v r : Nat} {s : VaultS} {rs : PoolS} {gs : List PageV} {k : Nat} (hb : Both s rs gs (k + 1)) (ok : PoolOk s.pool) {K V : List Int} {kv vv kv2 vv2 : Value} {c N c2 N2 : Int} {X Y : Pr} (h1 : Sto1 v s K V kv vv c N X) (h2 : Sto2 r s rs gs K V kv2 vv2 c2 N2 Y) :
    c2 = c ∧ N2 = N ∧ (stoI s.pool K V c).child = c ∧ (stoI s.pool K V c).size = N ∧
    (∀ (G : Pr) (w : World), Sat (X.star (Y.star G)) w → ∃ ha hb', ItemIn ha (itemV kv vv c N) (stoI s.pool K V c) ∧ ItemIn hb' (itemV kv2 vv2 c N) (stoI s.pool K V c) ∧ ha.le w ∧ hb'.le w) ∧
    ∃ s' rs' gs', Both s' rs' gs' k ∧
      ((storeE s.pool K V ≠ 0 ∧ X = VaultA v s' ∧ Y = RefA r rs' gs' (quietT true)) ∨
       (storeE s.pool K V = 0 ∧ ∃ h', ItemIn h' (itemV kv2 vv2 c N) (storedI K V c) ∧ X = (BytesRow kv K).star ((BytesRow vv (shortV V)).star (VaultA v s')) ∧ Y = (Pr.own h').star (RefA r rs' gs' (quietT true)))) := by
  unfold stoI
  rcases h1 with ⟨e1, rfl, rfl, rfl, rfl, rfl⟩ | ⟨e1, rfl, _, _, s1, ns, t1, a1, rfl⟩
  · rcases h2 with ⟨_, rfl, rfl, rfl, rfl, rfl⟩ | ⟨e2, _⟩
    · rw [if_neg e1]
      refine ⟨rfl, rfl, rfl, rfl, fun G w hG => ⟨Hp.nil, Hp.nil, zero_item _, zero_item _, fun k o e => (by cases e), fun k o e => (by cases e)⟩, s, rs, gs, hb.mono, .inl ⟨e1, rfl, rfl⟩⟩
    · exact absurd e2 e1
  · rcases h2 with ⟨e2, _⟩ | ⟨_, rfl, _, _, t, ms, rs', gs', h', t2, a2, tw, hi, rfl⟩
    · exact absurd e1 e2
    · obtain ⟨rfl, hb2⟩ := hb.store ok t1 t2 a1 a2 tw
      rw [if_pos e1]
      refine ⟨rfl, rfl, rfl, rfl, fun G w hG => ?_, s1, rs', gs', hb2, .inr ⟨e1, h', hi, rfl, rfl⟩⟩
      have hG1 : Sat (((BytesRow kv K).star (BytesRow vv (shortV V))).star ((VaultA v s1).star (((Pr.own h').star (RefA r rs' gs' (quietT true))).star G))) w := hG.perm (by ac_rfl)
      obtain ⟨ha, hq, hs⟩ := hG1.toOwn
      obtain ⟨x, y, hx, hy, sx, sy⟩ := star_sub hq
      have hG2 : Sat ((Pr.own h').star ((((BytesRow kv K).star ((BytesRow vv (shortV V)).star (VaultA v s1)))).star ((RefA r rs' gs' (quietT true)).star G))) w := hG.perm (by ac_rfl)
      exact ⟨ha, h', ⟨_, _, rfl, (Row.rowIn hx).sub sx, (Row.rowIn hy).sub sy⟩, hi, hs.own, hG2.own⟩
theorem rstore_sto (r : Nat) (rs : PoolS) (gs : List PageV) (s : VaultS) (tw : Go.Cop.Twin s rs gs) (okp : PoolOk s.pool) (hm : s.pool.floor + s.pool.acts.length + 8 ≤ 1099511627776)
 (kv vv : Value) (hp : Hp) (K V : List Int) (hK : Bytes hp kv K) (hV : Bytes hp vv V) (F : Pr) (w : World) (hF : Sat ((RefA r rs gs (quietT true)).star ((Pr.own hp).star F)) w) :
 Calls Tryz.prog 127 #[.pointer (some ⟨r, 0, none⟩), kv, vv] w fun e w' => Stays w w' ∧ ∃ kv2 vv2 c2 N2 Y, e = .returned (.tuple #[itemV kv2 vv2 c2 N2, .int .i64 (storeE s.pool K V)]) ∧ Sto2 r s rs gs K V kv2 vv2 c2 N2 Y ∧
  Sat (Y.star ((Pr.own hp).star F)) w' := by
 refine (Go.Proofs.YtbobcmimkonnoaaGreat.release.rstore_any r rs gs (quietT true) rfl s tw okp hm kv vv hp K V hK hV F w hF).mono ?_
 rintro e w' ⟨st, (⟨he, rfl, h5⟩ | ⟨he, kv2, vv2, c, t, ns, rs', gs', h', rfl, t1, a1, w1, hi, h5⟩)⟩
 · exact ⟨st, _, _, _, _, _, rfl, .inl ⟨he, rfl, rfl, rfl, rfl, rfl⟩, h5⟩
 · obtain ⟨_, _, e1, b1, b2⟩ := id hi
   cases e1
   obtain ⟨a1', c1', e1⟩ := bytes_shape b1
   obtain ⟨a2', c2', e2⟩ := bytes_shape b2
   exact ⟨st, kv2, vv2, c, V.length, _, by rw [he], .inr ⟨he, rfl, ⟨_, _, _, e1⟩, ⟨_, _, _, e2⟩, t, ns, rs', gs', h', t1, a1, w1, hi, rfl⟩, h5.perm (by ac_rfl)⟩
end Go.Proofs.YtbobcmimkonnoaaGreat.lawSto1
