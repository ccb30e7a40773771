/- The law's calls on both sides, one by one; the conditions stand as hypotheses. -/
import Derived.Test.YtbobcmimkonnoaaGreatBlobAnswersM40
import Derived.Test.YtbobcmimkonnoaaGreatBlobAnswersM13
import Derived.Test.YtbobcmimkonnoaaGreatBlobAnswersM01
namespace Go.Proofs.YtbobcmimkonnoaaGreat.doL
open ChangeShapes WideShapes ChangeAt RowKit Sl Cop pool2 pool9 clone page vault1 vault2 items copyP ref1 ref2 bload rbload law1 blob1 blob3 blob4 lawRel lawItem lawSto1 lawSto2 work incG rinc keepG racts dropB rdrop settleV rsettle2
/-- What a call leaves. -/
def Done (k wb v r : Nat) (n : Nat) (hp : Hp) (F : Pr) (w : World) : Prop :=
 ∃ bv wv tv xv bs ts s rs gs, Both s rs gs k ∧ BookOk bs ∧ TextOk ts ∧ bs.length ≤ n + 1 ∧ OwnL (workL wb v r bv wv tv xv bs ts s rs gs [Pr.own hp, F]) w
theorem wload_any (wb v r : Nat) (bv wv tv xv : Value) (ts : List TE) (s : VaultS) (rs : PoolS) (gs : List PageV) (look : Int → Option PageV) (hl : Looks s look) (hrl : RLooks rs gs look) (htx : TextOk ts)
 (x : ItemV) (hp : Hp) (iv : Value) (hi : ItemIn hp iv x) (hn : x.key.length ≤ 140737488351232 ∧ x.value.length ≤ 140737488351232) (R : List Pr) (w : World)
 (hs : OwnL (Pr.pts wb (workC v r bv wv tv xv) :: Row 29 1 tv ts.length (ts.map (·.o)) :: Row 29 1 xv ts.length (ts.map (·.c)) :: big teOf ts :: VaultA v s :: RefA r rs gs (quietT true) :: Pr.own hp :: R) w) :
 Calls Tryz.prog 75 #[.pointer (some ⟨wb, 0, none⟩), iv] w fun e w' => e = .returned (.bool true) ∧ Stays w w' ∧ ∃ tv' xv' ts', TextOk ts' ∧
  OwnL (Pr.pts wb (workC v r bv wv tv' xv') :: Row 29 1 tv' ts'.length (ts'.map (·.o)) :: Row 29 1 xv' ts'.length (ts'.map (·.c)) :: big teOf ts' :: VaultA v s :: RefA r rs gs (quietT true) :: Pr.own hp :: R) w' := by
 refine (load_any wb v r bv wv tv xv ts.length (ts.map (·.o)) (ts.map (·.c)) s rs gs (quietT true) look hl hrl x hp iv hi hn (by have := htx.1; omega) _ w hs.pull6).mono ?_
 rintro e w' ⟨rfl, st, o, c, tv', xv', h5⟩
 refine ⟨rfl, st, tv', xv', ?_⟩
 have h6 := OwnL.of8 h5
 by_cases hlt : ts.length < 30
 · rw [if_pos hlt, if_pos hlt, if_pos hlt] at h6
   refine ⟨ts ++ [⟨o, c, (valueL look x.size x.child x.value).1⟩], ⟨by simp; omega, fun e he => ?_⟩, ?_⟩
   · rcases List.mem_append.1 he with he | he
     · exact htx.2 e he
     · cases List.mem_singleton.1 he
       exact value_len _ _ _ _
   · simp only [List.map_append, List.map_cons, List.map_nil, List.length_append, List.length_cons, List.length_nil, Nat.zero_add]
     have h7 := h6.join2 (BytesRow o (valueL look x.size x.child x.value).1) (BytesRow c (valueL look x.size x.child x.value).1)
     have h8 : OwnL (teOf ⟨o, c, (valueL look x.size x.child x.value).1⟩ :: _) w' := h7
     exact (h8.snoc teOf ts ⟨o, c, (valueL look x.size x.child x.value).1⟩).to
 · rw [if_neg hlt, if_neg hlt, if_neg hlt] at h6
   exact ⟨ts, htx, ((h6.lose (BytesRow o (valueL look x.size x.child x.value).1)).lose (BytesRow c (valueL look x.size x.child x.value).1)).to⟩
set_option maxRecDepth 100000 in
set_option maxHeartbeats 4000000 in
theorem do0_any (wb v r : Nat) (bv wv tv xv : Value) (bs : List BE) (ts : List TE) (s : VaultS) (rs : PoolS) (gs : List PageV) (k : Nat) (hb : Both s rs gs (k + 1)) (hbk : BookOk bs) (htx : TextOk ts) (hbl : bs.length ≤ 65536) (kind N : Int) (hkd : kind = 0)
 (hN : -9223372036854775808 ≤ N ∧ N ≤ 9223372036854775807) (ak av ik iw : Option Addr) (nk nv nik niw ck cv cik ciw : Nat) (hp : Hp) (K V : List Int) (x : ItemV) (hK : Bytes hp (.slice ak nk ck) K) (hV : Bytes hp (.slice av nv cv) V) (hkn : K.length ≤ 140737488351232 ∧ V.length ≤ 140737488351232)
 (hi : ItemIn hp (itemV (.slice ik nik cik) (.slice iw niw ciw) x.child x.size) x) (hin : x.key.length ≤ 140737488351232 ∧ x.value.length ≤ 140737488351232) (F : Pr) (w : World) (hF : OwnL (workL wb v r bv wv tv xv bs ts s rs gs [Pr.own hp, F]) w) :
 Calls Tryz.prog 17 #[.pointer (some ⟨wb, 0, none⟩), .agg #[.int .i64 kind, .int .i64 N, .slice ak nk ck, .slice av nv cv, .slice ik nik cik, .slice iw niw ciw, .int .i64 x.child, .int .i64 x.size]] w fun e w' => e = .returned (.bool true) ∧ Stays w w' ∧ Done k wb v r bs.length hp F w' := by
 obtain ⟨ab, cb, rfl⟩ := Row.shape hF.drop.sat
 obtain ⟨aw, cw, rfl⟩ := Row.shape hF.drop.drop.sat
 have okp := (vault_ok (hF.pull1 (A1 := VaultA v s))).1
 have hs1 := hF.alloc (opC kind N (.slice ak nk ck) (.slice av nv cv) (.slice ik nik cik) (.slice iw niw ciw) x.child x.size)
 have HST := Lib.hid ((Stays.refl w).alloc (opC kind N (.slice ak nk ck) (.slice av nv cv) (.slice ik nik cik) (.slice iw niw ciw) x.child x.size))
 have c1 := hs1.facts
 simp only [CellsAt, Nat.reduceAdd, and_true] at c1
 have HB := Lib.hid hb
 have HBK := Lib.hid hbk
 have HTX := Lib.hid htx
 have HBL := Lib.hid hbl
 have HI := Lib.hid hi
 have HIN := Lib.hid hin
 have OK := Lib.hid okp
 have _u : True := (fun _ _ _ _ _ _ _ => trivial) hN hK hV hkn hi hin hbl
 have X := Lib.hid (lstore_any wb v r (.slice ab bs.length cb) (.slice aw bs.length cw) tv xv s rs gs k hb kind N _ _ hp K V hK hV hkn (.slice ik nik cik) (.slice iw niw ciw) x.child x.size bs.length (bs.flatMap cells1) (bs.flatMap cells2) hbl _ _ hs1.pull6)
 subst hkd
 clear hF hs1 hb hbk htx hbl hK hV hi hin okp
 go_enter Tryz.func17, Tryz.ntmps17
 go_wp2_with fail
 refine X.out.mono ?_
 rintro e w1 ⟨rfl, st1, s', rs', gs', hb', (h5 | ⟨kv1, vv1, kv2, vv2, c, h', bv', wv', hi', hl1, hl2, h5⟩)⟩
 · have H5 := Lib.hid (OwnL.of6 h5)
   have HB' := Lib.hid hb'
   clear h5 hb' X c1
   go_wp2
   go_ret
   exact ⟨rfl, HST.out.trans st1, .slice ab bs.length cb, .slice aw bs.length cw, tv, xv, bs, ts, s', rs', gs', HB'.out, HBK.out, HTX.out, by omega, H5.out.to⟩
 · have h6 := OwnL.of9 h5
   have h7 := h6.join3 (BytesRow kv1 K) (BytesRow vv1 (shortV V)) (Pr.own h')
   have h8 : OwnL (beOf ⟨K, V, c, kv1, vv1, kv2, vv2, h'⟩ :: _) w1 := h7
   have H8 := Lib.hid (h8.snoc beOf bs ⟨K, V, c, kv1, vv1, kv2, vv2, h'⟩)
   have HB' := Lib.hid hb'
   have HI' := Lib.hid hi'
   clear h5 h6 h7 h8 hb' hi' X c1
   go_wp2
   go_ret
   refine ⟨rfl, HST.out.trans st1, bv', wv', tv, xv, bs ++ [⟨K, V, c, kv1, vv1, kv2, vv2, h'⟩], ts, s', rs', gs', HB'.out, fun e he => ?_, HTX.out, by simp, ?_⟩
   · rcases List.mem_append.1 he with he | he
     · exact HBK.out e he
     · cases List.mem_singleton.1 he
       exact ⟨HI'.out, hl1, hl2⟩
   · have h9 := H8.out
     unfold workL
     simp only [List.flatMap_append, List.flatMap_cons, List.flatMap_nil, List.append_nil, List.length_append, List.length_cons, List.length_nil, Nat.zero_add, cells1, cells2]
     exact h9.to
set_option maxRecDepth 100000 in
set_option maxHeartbeats 4000000 in
theorem doS_any (wb v r : Nat) (bv wv tv xv : Value) (bs : List BE) (ts : List TE) (s : VaultS) (rs : PoolS) (gs : List PageV) (k : Nat) (hb : Both s rs gs (k + 1)) (hbk : BookOk bs) (htx : TextOk ts) (hbl : bs.length ≤ 65536) (kind N : Int) (hkd : kind ≠ 0 ∧ kind ≠ 1 ∧ kind ≠ 2 ∧ kind ≠ 3 ∧ kind ≠ 4 ∧ kind ≠ 5 ∧ kind ≠ 6 ∧ kind ≠ 7)
 (hN : -9223372036854775808 ≤ N ∧ N ≤ 9223372036854775807) (ak av ik iw : Option Addr) (nk nv nik niw ck cv cik ciw : Nat) (hp : Hp) (K V : List Int) (x : ItemV) (hK : Bytes hp (.slice ak nk ck) K) (hV : Bytes hp (.slice av nv cv) V) (hkn : K.length ≤ 140737488351232 ∧ V.length ≤ 140737488351232)
 (hi : ItemIn hp (itemV (.slice ik nik cik) (.slice iw niw ciw) x.child x.size) x) (hin : x.key.length ≤ 140737488351232 ∧ x.value.length ≤ 140737488351232) (F : Pr) (w : World) (hF : OwnL (workL wb v r bv wv tv xv bs ts s rs gs [Pr.own hp, F]) w) :
 Calls Tryz.prog 17 #[.pointer (some ⟨wb, 0, none⟩), .agg #[.int .i64 kind, .int .i64 N, .slice ak nk ck, .slice av nv cv, .slice ik nik cik, .slice iw niw ciw, .int .i64 x.child, .int .i64 x.size]] w fun e w' => e = .returned (.bool true) ∧ Stays w w' ∧ Done k wb v r bs.length hp F w' := by
 obtain ⟨ab, cb, rfl⟩ := Row.shape hF.drop.sat
 obtain ⟨aw, cw, rfl⟩ := Row.shape hF.drop.drop.sat
 have okp := (vault_ok (hF.pull1 (A1 := VaultA v s))).1
 have hs1 := hF.alloc (opC kind N (.slice ak nk ck) (.slice av nv cv) (.slice ik nik cik) (.slice iw niw ciw) x.child x.size)
 have HST := Lib.hid ((Stays.refl w).alloc (opC kind N (.slice ak nk ck) (.slice av nv cv) (.slice ik nik cik) (.slice iw niw ciw) x.child x.size))
 have c1 := hs1.facts
 simp only [CellsAt, Nat.reduceAdd, and_true] at c1
 have HB := Lib.hid hb
 have HBK := Lib.hid hbk
 have HTX := Lib.hid htx
 have HBL := Lib.hid hbl
 have HI := Lib.hid hi
 have HIN := Lib.hid hin
 have OK := Lib.hid okp
 have _u : True := (fun _ _ _ _ _ _ _ => trivial) hN hK hV hkn hi hin hbl
 have VS := Lib.hid (vsettle_any v s _ _ hs1.pull1)
 obtain ⟨d0, d1, d2, d3, d4, d5, d6, d7⟩ := hkd
 clear hF hs1 hb hbk htx hbl hK hV hi hin okp
 go_enter Tryz.func17, Tryz.ntmps17
 go_wp2_with fail
 refine VS.out.mono ?_
 rintro e w1 ⟨rfl, h5, st1⟩
 have h6 := OwnL.of1 h5
 have c2 := h6.facts
 simp only [CellsAt, Nat.reduceAdd, and_true] at c2
 have RS := Lib.hid (rsettle_any r rs gs (quietT true) none 0 0 rfl (by decide) _ _ h6.pull1)
 clear h5 h6 c1 VS
 go_wp2_with fail
 refine RS.out.mono ?_
 rintro e w2 ⟨rfl, st2, h7⟩
 rw [show (⟨.slice none 0 0, (quietT true).fl + (0 : Nat), (quietT true).q⟩ : RTail) = quietT true from rfl] at h7
 have H7 := Lib.hid (OwnL.of1 h7)
 clear h7 c2 RS
 go_wp2
 go_ret
 exact ⟨rfl, (HST.out.trans st1).trans st2, .slice ab bs.length cb, .slice aw bs.length cw, tv, xv, bs, ts, _, _, _, HB.out.settle OK.out, HBK.out, HTX.out, by omega, H7.out.to⟩
set_option maxRecDepth 100000 in
set_option maxHeartbeats 4000000 in
theorem do3_any (wb v r : Nat) (bv wv tv xv : Value) (bs : List BE) (ts : List TE) (s : VaultS) (rs : PoolS) (gs : List PageV) (k : Nat) (hb : Both s rs gs (k + 1)) (hbk : BookOk bs) (htx : TextOk ts) (hbl : bs.length ≤ 65536) (kind N : Int) (hkd : kind = 3)
 (hN : -9223372036854775808 ≤ N ∧ N ≤ 9223372036854775807) (ak av ik iw : Option Addr) (nk nv nik niw ck cv cik ciw : Nat) (hp : Hp) (K V : List Int) (x : ItemV) (hK : Bytes hp (.slice ak nk ck) K) (hV : Bytes hp (.slice av nv cv) V) (hkn : K.length ≤ 140737488351232 ∧ V.length ≤ 140737488351232)
 (hi : ItemIn hp (itemV (.slice ik nik cik) (.slice iw niw ciw) x.child x.size) x) (hin : x.key.length ≤ 140737488351232 ∧ x.value.length ≤ 140737488351232) (F : Pr) (w : World) (hF : OwnL (workL wb v r bv wv tv xv bs ts s rs gs [Pr.own hp, F]) w) :
 Calls Tryz.prog 17 #[.pointer (some ⟨wb, 0, none⟩), .agg #[.int .i64 kind, .int .i64 N, .slice ak nk ck, .slice av nv cv, .slice ik nik cik, .slice iw niw ciw, .int .i64 x.child, .int .i64 x.size]] w fun e w' => e = .returned (.bool true) ∧ Stays w w' ∧ Done k wb v r bs.length hp F w' := by
 obtain ⟨ab, cb, rfl⟩ := Row.shape hF.drop.sat
 obtain ⟨aw, cw, rfl⟩ := Row.shape hF.drop.drop.sat
 have okp := (vault_ok (hF.pull1 (A1 := VaultA v s))).1
 have hs1 := hF.alloc (opC kind N (.slice ak nk ck) (.slice av nv cv) (.slice ik nik cik) (.slice iw niw ciw) x.child x.size)
 have HST := Lib.hid ((Stays.refl w).alloc (opC kind N (.slice ak nk ck) (.slice av nv cv) (.slice ik nik cik) (.slice iw niw ciw) x.child x.size))
 have c1 := hs1.facts
 simp only [CellsAt, Nat.reduceAdd, and_true] at c1
 have HB := Lib.hid hb
 have HBK := Lib.hid hbk
 have HTX := Lib.hid htx
 have HBL := Lib.hid hbl
 have HI := Lib.hid hi
 have HIN := Lib.hid hin
 have OK := Lib.hid okp
 have _u : True := (fun _ _ _ _ _ _ _ => trivial) hN hK hV hkn hi hin hbl
 have X := Lib.hid (wload_any wb v r (.slice ab bs.length cb) (.slice aw bs.length cw) tv xv ts s rs gs _ (hb.tw.looks okp) (hb.tw.rlooks okp) htx x hp _ hi hin _ _ (hs1.to (M := [Pr.pts wb (workC v r (.slice ab bs.length cb) (.slice aw bs.length cw) tv xv), Row 29 1 tv ts.length (ts.map (·.o)), Row 29 1 xv ts.length (ts.map (·.c)), big teOf ts, VaultA v s, RefA r rs gs (quietT true), Pr.own hp, big beOf bs, Row 58 4 (.slice ab bs.length cb) bs.length (bs.flatMap cells1), Row 58 4 (.slice aw bs.length cw) bs.length (bs.flatMap cells2), F])))
 subst hkd
 clear hF hs1 hb hbk htx hbl hK hV hi hin okp
 go_enter Tryz.func17, Tryz.ntmps17
 go_wp2_with fail
 refine X.out.mono ?_
 rintro e w1 ⟨rfl, st1, tv', xv', ts', htx', h5⟩
 have H5 := Lib.hid h5
 have HTX' := Lib.hid htx'
 clear h5 htx' X c1
 go_wp2
 go_ret
 exact ⟨rfl, HST.out.trans st1, .slice ab bs.length cb, .slice aw bs.length cw, tv', xv', bs, ts', s, rs, gs, HB.out.mono, HBK.out, HTX'.out, by omega, H5.out.to⟩
set_option maxRecDepth 100000 in
set_option maxHeartbeats 4000000 in
theorem do4_any (wb v r : Nat) (bv wv tv xv : Value) (bs : List BE) (ts : List TE) (s : VaultS) (rs : PoolS) (gs : List PageV) (k : Nat) (hb : Both s rs gs (k + 1)) (hbk : BookOk bs) (htx : TextOk ts) (hbl : bs.length ≤ 65536) (kind N : Int) (hkd : kind = 4)
 (hN : -9223372036854775808 ≤ N ∧ N ≤ 9223372036854775807) (ak av ik iw : Option Addr) (nk nv nik niw ck cv cik ciw : Nat) (hp : Hp) (K V : List Int) (x : ItemV) (hK : Bytes hp (.slice ak nk ck) K) (hV : Bytes hp (.slice av nv cv) V) (hkn : K.length ≤ 140737488351232 ∧ V.length ≤ 140737488351232)
 (hi : ItemIn hp (itemV (.slice ik nik cik) (.slice iw niw ciw) x.child x.size) x) (hin : x.key.length ≤ 140737488351232 ∧ x.value.length ≤ 140737488351232) (F : Pr) (w : World) (hF : OwnL (workL wb v r bv wv tv xv bs ts s rs gs [Pr.own hp, F]) w) :
 Calls Tryz.prog 17 #[.pointer (some ⟨wb, 0, none⟩), .agg #[.int .i64 kind, .int .i64 N, .slice ak nk ck, .slice av nv cv, .slice ik nik cik, .slice iw niw ciw, .int .i64 x.child, .int .i64 x.size]] w fun e w' => e = .returned (.bool true) ∧ Stays w w' ∧ Done k wb v r bs.length hp F w' := by
 obtain ⟨ab, cb, rfl⟩ := Row.shape hF.drop.sat
 obtain ⟨aw, cw, rfl⟩ := Row.shape hF.drop.drop.sat
 have okp := (vault_ok (hF.pull1 (A1 := VaultA v s))).1
 have hs1 := hF.alloc (opC kind N (.slice ak nk ck) (.slice av nv cv) (.slice ik nik cik) (.slice iw niw ciw) x.child x.size)
 have HST := Lib.hid ((Stays.refl w).alloc (opC kind N (.slice ak nk ck) (.slice av nv cv) (.slice ik nik cik) (.slice iw niw ciw) x.child x.size))
 have c1 := hs1.facts
 simp only [CellsAt, Nat.reduceAdd, and_true] at c1
 have HB := Lib.hid hb
 have HBK := Lib.hid hbk
 have HTX := Lib.hid htx
 have HBL := Lib.hid hbl
 have HI := Lib.hid hi
 have HIN := Lib.hid hin
 have OK := Lib.hid okp
 have _u : True := (fun _ _ _ _ _ _ _ => trivial) hN hK hV hkn hi hin hbl
 have X := Lib.hid (lrelease_any wb v r (.slice ab bs.length cb) (.slice aw bs.length cw) tv xv s rs gs k hb x hp _ hi hin _ _ hs1.pull4)
 subst hkd
 clear hF hs1 hb hbk htx hbl hK hV hi hin okp
 go_enter Tryz.func17, Tryz.ntmps17
 go_wp2_with fail
 refine X.out.mono ?_
 rintro e w1 ⟨rfl, st1, s', rs', gs', hb', h5⟩
 have H5 := Lib.hid (OwnL.of4 h5)
 have HB' := Lib.hid hb'
 clear h5 hb' X c1
 go_wp2
 go_ret
 exact ⟨rfl, HST.out.trans st1, .slice ab bs.length cb, .slice aw bs.length cw, tv, xv, bs, ts, s', rs', gs', HB'.out, HBK.out, HTX.out, by omega, H5.out.to⟩
set_option maxRecDepth 100000 in
set_option maxHeartbeats 4000000 in
theorem do1_any (wb v r : Nat) (bv wv tv xv : Value) (bs : List BE) (ts : List TE) (s : VaultS) (rs : PoolS) (gs : List PageV) (k : Nat) (hb : Both s rs gs (k + 1)) (hbk : BookOk bs) (htx : TextOk ts) (hbl : bs.length ≤ 65536) (kind N : Int) (hkd : kind = 1)
 (hN : -9223372036854775808 ≤ N ∧ N ≤ 9223372036854775807) (ak av ik iw : Option Addr) (nk nv nik niw ck cv cik ciw : Nat) (hp : Hp) (K V : List Int) (x : ItemV) (hK : Bytes hp (.slice ak nk ck) K) (hV : Bytes hp (.slice av nv cv) V) (hkn : K.length ≤ 140737488351232 ∧ V.length ≤ 140737488351232)
 (hi : ItemIn hp (itemV (.slice ik nik cik) (.slice iw niw ciw) x.child x.size) x) (hin : x.key.length ≤ 140737488351232 ∧ x.value.length ≤ 140737488351232) (F : Pr) (w : World) (hF : OwnL (workL wb v r bv wv tv xv bs ts s rs gs [Pr.own hp, F]) w) :
 Calls Tryz.prog 17 #[.pointer (some ⟨wb, 0, none⟩), .agg #[.int .i64 kind, .int .i64 N, .slice ak nk ck, .slice av nv cv, .slice ik nik cik, .slice iw niw ciw, .int .i64 x.child, .int .i64 x.size]] w fun e w' => e = .returned (.bool true) ∧ Stays w w' ∧ Done k wb v r bs.length hp F w' := by
 obtain ⟨ab, cb, rfl⟩ := Row.shape hF.drop.sat
 obtain ⟨aw, cw, rfl⟩ := Row.shape hF.drop.drop.sat
 have okp := (vault_ok (hF.pull1 (A1 := VaultA v s))).1
 have hs1 := hF.alloc (opC kind N (.slice ak nk ck) (.slice av nv cv) (.slice ik nik cik) (.slice iw niw ciw) x.child x.size)
 have HST := Lib.hid ((Stays.refl w).alloc (opC kind N (.slice ak nk ck) (.slice av nv cv) (.slice ik nik cik) (.slice iw niw ciw) x.child x.size))
 have c1 := hs1.facts
 simp only [CellsAt, Nat.reduceAdd, and_true] at c1
 have HB := Lib.hid hb
 have HBK := Lib.hid hbk
 have HTX := Lib.hid htx
 have HBL := Lib.hid hbl
 have HI := Lib.hid hi
 have HIN := Lib.hid hin
 have OK := Lib.hid okp
 have _u : True := (fun _ _ _ _ _ _ _ => trivial) hN hK hV hkn hi hin hbl
 obtain ⟨h0, hh0, hs2⟩ := (hs1.join2 (Row 58 4 (.slice aw bs.length cw) bs.length (bs.flatMap cells2)) (big beOf bs)).arena ((Row 58 4 (.slice aw bs.length cw) bs.length (bs.flatMap cells2)).star (big beOf bs))
 have LI := Lib.hid (litem_any h0 _ (booked bs) (want_in hh0 hbk) N _ hs2.drew.le)
 have HH0 := Lib.hid hh0
 have HS2 := Lib.hid hs2
 have hbl2 := booked_len hbk N
 subst hkd
 clear hs2 hh0
 clear hF hs1 hb hbk htx hbl hK hV hi hin okp
 go_enter Tryz.func17, Tryz.ntmps17
 go_wp2_with fail
 refine wp_region_staged (sz := 103) (by kernel_rfl) [0, 1, 2, 3, 4, 5, 6] [(7, [], [0, 1, 2, 3, 5]), (8, [9], [1, 2, 3, 5])] rfl (by kernel_rfl) (by kernel_rfl) (by kernel_rfl) ?_
 refine wpQ_all _ rfl rfl ?_
 simp only [pick, pkA, pkB, pkC, pkD, pkE, pkF]
 iterate 7 (go_big_quiet_step (fail))
 refine wpQuiet_nil ?_
 refine wpRest_act rfl ?_
 go_wp2_with fail
 refine LI.out.mono ?_
 rintro e w1 ⟨ho1, iv, rfl, hiv⟩
 obtain ⟨kv3, vv3, rfl, hk3, hv3⟩ := id hiv
 obtain ⟨a3, c3, rfl⟩ := bytes_shape hk3
 obtain ⟨a4, c4, rfl⟩ := bytes_shape hv3
 have h4 := HS2.out.drew.ext ho1.heap
 have X := Lib.hid (wload_any wb v r (.slice ab bs.length cb) (.slice aw bs.length cw) tv xv ts s rs gs _ (HB.out.tw.looks OK.out) (HB.out.tw.rlooks OK.out) HTX.out (bookAt (booked bs) N) h0 _ hiv ⟨by have := hbl2.1; omega, by have := hbl2.2; omega⟩ _ _ (h4.to (M := [Pr.pts wb (workC v r (.slice ab bs.length cb) (.slice aw bs.length cw) tv xv), Row 29 1 tv ts.length (ts.map (·.o)), Row 29 1 xv ts.length (ts.map (·.c)), big teOf ts, VaultA v s, RefA r rs gs (quietT true), Pr.own h0, Row 58 4 (.slice ab bs.length cb) bs.length (bs.flatMap cells1), Pr.own hp, F])))
 clear c1
 have c1 := h4.facts
 simp only [CellsAt, Nat.reduceAdd, and_true] at c1
 clear h4 hiv hk3 hv3 LI
 go_wp2
 refine onN_mk ?_
 refine wpQ_nil ⟨?_, ?_⟩
 · refine chk_all _ rfl rfl ?_
   simp only [pick, Same, pkA, pkB, pkC, pkD, pkE, pkF, and_true]
   repeat' (first | apply And.intro | (go_big_quiet_step (fail); exact wpQuiet_nil rfl))
 refine wpRest_act rfl ?_
 go_wp2_with fail
 refine X.out.mono ?_
 rintro e w2 ⟨rfl, st2, tv', xv', ts', htx', h5⟩
 have h6 := (h5.back ((Row 58 4 (.slice aw bs.length cw) bs.length (bs.flatMap cells2)).star (big beOf bs)) HH0.out).norm
 have H6 := Lib.hid h6
 have HTX' := Lib.hid htx'
 clear h5 h6 htx' X c1
 go_wp2
 refine onN_mk ?_
 refine wpQ_all _ rfl rfl ?_
 simp only [pick, pkA, pkB, pkC, pkD, pkE, pkF]
 iterate 1 (go_big_quiet_step (fail))
 refine wpQuiet_nil ⟨?_, ?_⟩
 · refine chk_all _ rfl rfl ?_
   simp only [pick, Same, pkA, pkB, pkC, pkD, pkE, pkF, and_true]
   repeat' (first | apply And.intro | (go_big_quiet_step (fail); exact wpQuiet_nil rfl))
 refine wpRest_nil ?_
 go_wp2
 go_ret
 exact ⟨rfl, (HST.out.drew.trans ho1.st).trans st2, .slice ab bs.length cb, .slice aw bs.length cw, tv', xv', bs, ts', s, rs, gs, HB.out.mono, HBK.out, HTX'.out, by omega, H6.out.to⟩
set_option maxRecDepth 100000 in
set_option maxHeartbeats 4000000 in
theorem do2_any (wb v r : Nat) (bv wv tv xv : Value) (bs : List BE) (ts : List TE) (s : VaultS) (rs : PoolS) (gs : List PageV) (k : Nat) (hb : Both s rs gs (k + 1)) (hbk : BookOk bs) (htx : TextOk ts) (hbl : bs.length ≤ 65536) (kind N : Int) (hkd : kind = 2)
 (hN : -9223372036854775808 ≤ N ∧ N ≤ 9223372036854775807) (ak av ik iw : Option Addr) (nk nv nik niw ck cv cik ciw : Nat) (hp : Hp) (K V : List Int) (x : ItemV) (hK : Bytes hp (.slice ak nk ck) K) (hV : Bytes hp (.slice av nv cv) V) (hkn : K.length ≤ 140737488351232 ∧ V.length ≤ 140737488351232)
 (hi : ItemIn hp (itemV (.slice ik nik cik) (.slice iw niw ciw) x.child x.size) x) (hin : x.key.length ≤ 140737488351232 ∧ x.value.length ≤ 140737488351232) (F : Pr) (w : World) (hF : OwnL (workL wb v r bv wv tv xv bs ts s rs gs [Pr.own hp, F]) w) :
 Calls Tryz.prog 17 #[.pointer (some ⟨wb, 0, none⟩), .agg #[.int .i64 kind, .int .i64 N, .slice ak nk ck, .slice av nv cv, .slice ik nik cik, .slice iw niw ciw, .int .i64 x.child, .int .i64 x.size]] w fun e w' => e = .returned (.bool true) ∧ Stays w w' ∧ Done k wb v r bs.length hp F w' := by
 obtain ⟨ab, cb, rfl⟩ := Row.shape hF.drop.sat
 obtain ⟨aw, cw, rfl⟩ := Row.shape hF.drop.drop.sat
 have okp := (vault_ok (hF.pull1 (A1 := VaultA v s))).1
 have hs1 := hF.alloc (opC kind N (.slice ak nk ck) (.slice av nv cv) (.slice ik nik cik) (.slice iw niw ciw) x.child x.size)
 have HST := Lib.hid ((Stays.refl w).alloc (opC kind N (.slice ak nk ck) (.slice av nv cv) (.slice ik nik cik) (.slice iw niw ciw) x.child x.size))
 have c1 := hs1.facts
 simp only [CellsAt, Nat.reduceAdd, and_true] at c1
 have HB := Lib.hid hb
 have HBK := Lib.hid hbk
 have HTX := Lib.hid htx
 have HBL := Lib.hid hbl
 have HI := Lib.hid hi
 have HIN := Lib.hid hin
 have OK := Lib.hid okp
 have _u : True := (fun _ _ _ _ _ _ _ => trivial) hN hK hV hkn hi hin hbl
 obtain ⟨h0, hh0, hs2⟩ := (hs1.join2 (Row 58 4 (.slice aw bs.length cw) bs.length (bs.flatMap cells2)) (big beOf bs)).arena ((Row 58 4 (.slice aw bs.length cw) bs.length (bs.flatMap cells2)).star (big beOf bs))
 have LI := Lib.hid (litem_any h0 _ (booked bs) (want_in hh0 hbk) N _ hs2.drew.le)
 have HH0 := Lib.hid hh0
 have HS2 := Lib.hid hs2
 have hbl2 := booked_len hbk N
 subst hkd
 clear hs2 hh0
 clear hF hs1 hb hbk htx hbl hK hV hi hin okp
 go_enter Tryz.func17, Tryz.ntmps17
 go_wp2_with fail
 refine wp_region_staged (sz := 103) (by kernel_rfl) [0, 1, 2, 3, 4, 5, 6] [(7, [], [0, 1, 2, 3, 5]), (8, [9], [1, 2, 3, 5])] rfl (by kernel_rfl) (by kernel_rfl) (by kernel_rfl) ?_
 refine wpQ_all _ rfl rfl ?_
 simp only [pick, pkA, pkB, pkC, pkD, pkE, pkF]
 iterate 7 (go_big_quiet_step (fail))
 refine wpQuiet_nil ?_
 refine wpRest_act rfl ?_
 go_wp2_with fail
 refine LI.out.mono ?_
 rintro e w1 ⟨ho1, iv, rfl, hiv⟩
 obtain ⟨kv3, vv3, rfl, hk3, hv3⟩ := id hiv
 obtain ⟨a3, c3, rfl⟩ := bytes_shape hk3
 obtain ⟨a4, c4, rfl⟩ := bytes_shape hv3
 have h4 := HS2.out.drew.ext ho1.heap
 have X := Lib.hid (lrelease_any wb v r (.slice ab bs.length cb) (.slice aw bs.length cw) tv xv s rs gs k HB.out (bookAt (booked bs) N) h0 _ hiv ⟨by have := hbl2.1; omega, by have := hbl2.2; omega⟩ _ _ h4.pull4)
 clear c1
 have c1 := h4.facts
 simp only [CellsAt, Nat.reduceAdd, and_true] at c1
 clear h4 hiv hk3 hv3 LI
 go_wp2
 refine onN_mk ?_
 refine wpQ_nil ⟨?_, ?_⟩
 · refine chk_all _ rfl rfl ?_
   simp only [pick, Same, pkA, pkB, pkC, pkD, pkE, pkF, and_true]
   repeat' (first | apply And.intro | (go_big_quiet_step (fail); exact wpQuiet_nil rfl))
 refine wpRest_act rfl ?_
 go_wp2_with fail
 refine X.out.mono ?_
 rintro e w2 ⟨rfl, st2, s', rs', gs', hb', h5⟩
 have h6 := ((OwnL.of4 h5).back ((Row 58 4 (.slice aw bs.length cw) bs.length (bs.flatMap cells2)).star (big beOf bs)) HH0.out).norm
 have H6 := Lib.hid h6
 have HB' := Lib.hid hb'
 clear h5 h6 hb' X c1
 go_wp2
 refine onN_mk ?_
 refine wpQ_all _ rfl rfl ?_
 simp only [pick, pkA, pkB, pkC, pkD, pkE, pkF]
 iterate 1 (go_big_quiet_step (fail))
 refine wpQuiet_nil ⟨?_, ?_⟩
 · refine chk_all _ rfl rfl ?_
   simp only [pick, Same, pkA, pkB, pkC, pkD, pkE, pkF, and_true]
   repeat' (first | apply And.intro | (go_big_quiet_step (fail); exact wpQuiet_nil rfl))
 refine wpRest_nil ?_
 go_wp2
 go_ret
 exact ⟨rfl, (HST.out.drew.trans ho1.st).trans st2, .slice ab bs.length cb, .slice aw bs.length cw, tv, xv, bs, ts, s', rs', gs', HB'.out, HBK.out, HTX.out, by omega, H6.out.to⟩
set_option maxRecDepth 100000 in
set_option maxHeartbeats 4000000 in
theorem do5_any (wb v r : Nat) (bv wv tv xv : Value) (bs : List BE) (ts : List TE) (s : VaultS) (rs : PoolS) (gs : List PageV) (k : Nat) (hb : Both s rs gs (k + 1)) (hbk : BookOk bs) (htx : TextOk ts) (hbl : bs.length ≤ 65536) (kind N : Int) (hkd : kind = 5)
 (hN : -9223372036854775808 ≤ N ∧ N ≤ 9223372036854775807) (ak av ik iw : Option Addr) (nk nv nik niw ck cv cik ciw : Nat) (hp : Hp) (K V : List Int) (x : ItemV) (hK : Bytes hp (.slice ak nk ck) K) (hV : Bytes hp (.slice av nv cv) V) (hkn : K.length ≤ 140737488351232 ∧ V.length ≤ 140737488351232)
 (hi : ItemIn hp (itemV (.slice ik nik cik) (.slice iw niw ciw) x.child x.size) x) (hin : x.key.length ≤ 140737488351232 ∧ x.value.length ≤ 140737488351232) (F : Pr) (w : World) (hF : OwnL (workL wb v r bv wv tv xv bs ts s rs gs [Pr.own hp, F]) w) :
 Calls Tryz.prog 17 #[.pointer (some ⟨wb, 0, none⟩), .agg #[.int .i64 kind, .int .i64 N, .slice ak nk ck, .slice av nv cv, .slice ik nik cik, .slice iw niw ciw, .int .i64 x.child, .int .i64 x.size]] w fun e w' => e = .returned (.bool true) ∧ Stays w w' ∧ Done k wb v r bs.length hp F w' := by
 obtain ⟨ab, cb, rfl⟩ := Row.shape hF.drop.sat
 obtain ⟨aw, cw, rfl⟩ := Row.shape hF.drop.drop.sat
 have okp := (vault_ok (hF.pull1 (A1 := VaultA v s))).1
 have hs1 := hF.alloc (opC kind N (.slice ak nk ck) (.slice av nv cv) (.slice ik nik cik) (.slice iw niw ciw) x.child x.size)
 have HST := Lib.hid ((Stays.refl w).alloc (opC kind N (.slice ak nk ck) (.slice av nv cv) (.slice ik nik cik) (.slice iw niw ciw) x.child x.size))
 have c1 := hs1.facts
 simp only [CellsAt, Nat.reduceAdd, and_true] at c1
 have HB := Lib.hid hb
 have HBK := Lib.hid hbk
 have HTX := Lib.hid htx
 have HBL := Lib.hid hbl
 have HI := Lib.hid hi
 have HIN := Lib.hid hin
 have OK := Lib.hid okp
 have _u : True := (fun _ _ _ _ _ _ _ => trivial) hN hK hV hkn hi hin hbl
 have P1 := Lib.hid (fun w => pages_any N hN.2 w)
 have P2 := Lib.hid (fun w => rpages_any N hN.2 w)
 have HS1 := Lib.hid hs1
 subst hkd
 clear hF hs1 hb hbk htx hbl hK hV hi hin okp
 go_enter Tryz.func17, Tryz.ntmps17
 go_wp2_with fail
 refine wp_region_staged (sz := 103) (by kernel_rfl) [0, 1, 3, 4] [(2, [], [0, 3, 4]), (5, [6, 7], [0, 3])] rfl (by kernel_rfl) (by kernel_rfl) (by kernel_rfl) ?_
 refine wpQ_all _ rfl rfl ?_
 simp only [pick, pkA, pkB, pkC, pkD, pkE, pkF]
 iterate 4 (go_big_quiet_step (fail))
 refine wpQuiet_nil ?_
 refine wpRest_act rfl ?_
 go_wp2_with fail
 refine (P1.out _).mono ?_
 rintro e w1 ⟨rfl, rfl⟩
 go_wp2
 refine onN_mk ?_
 refine wpQ_nil ⟨?_, ?_⟩
 · refine chk_all _ rfl rfl ?_
   simp only [pick, Same, pkA, pkB, pkC, pkD, pkE, pkF, and_true]
   repeat' (first | apply And.intro | (go_big_quiet_step (fail); exact wpQuiet_nil rfl))
 refine wpRest_act rfl ?_
 go_wp2_with fail
 refine (P2.out _).mono ?_
 rintro e w1 ⟨rfl, rfl⟩
 go_wp2
 refine onN_mk ?_
 refine wpQ_all _ rfl rfl ?_
 simp only [pick, pkA, pkB, pkC, pkD, pkE, pkF]
 iterate 2 (go_big_quiet_step (fail))
 refine wpQuiet_nil ⟨?_, ?_⟩
 · refine chk_all _ rfl rfl ?_
   simp only [pick, Same, pkA, pkB, pkC, pkD, pkE, pkF, and_true]
   repeat' (first | apply And.intro | (go_big_quiet_step (fail); exact wpQuiet_nil rfl))
 refine wpRest_nil ?_
 go_wp2
 go_ret
 exact ⟨rfl, HST.out.drew, .slice ab bs.length cb, .slice aw bs.length cw, tv, xv, bs, ts, s, rs, gs, HB.out.mono, HBK.out, HTX.out, by omega, HS1.out.drew.to⟩
set_option maxRecDepth 100000 in
set_option maxHeartbeats 4000000 in
theorem do6_any (wb v r : Nat) (bv wv tv xv : Value) (bs : List BE) (ts : List TE) (s : VaultS) (rs : PoolS) (gs : List PageV) (k : Nat) (hb : Both s rs gs (k + 1)) (hbk : BookOk bs) (htx : TextOk ts) (hbl : bs.length ≤ 65536) (kind N : Int) (hkd : kind = 6)
 (hN : -9223372036854775808 ≤ N ∧ N ≤ 9223372036854775807) (ak av ik iw : Option Addr) (nk nv nik niw ck cv cik ciw : Nat) (hp : Hp) (K V : List Int) (x : ItemV) (hK : Bytes hp (.slice ak nk ck) K) (hV : Bytes hp (.slice av nv cv) V) (hkn : K.length ≤ 140737488351232 ∧ V.length ≤ 140737488351232)
 (hi : ItemIn hp (itemV (.slice ik nik cik) (.slice iw niw ciw) x.child x.size) x) (hin : x.key.length ≤ 140737488351232 ∧ x.value.length ≤ 140737488351232) (F : Pr) (w : World) (hF : OwnL (workL wb v r bv wv tv xv bs ts s rs gs [Pr.own hp, F]) w) :
 Calls Tryz.prog 17 #[.pointer (some ⟨wb, 0, none⟩), .agg #[.int .i64 kind, .int .i64 N, .slice ak nk ck, .slice av nv cv, .slice ik nik cik, .slice iw niw ciw, .int .i64 x.child, .int .i64 x.size]] w fun e w' => e = .returned (.bool true) ∧ Stays w w' ∧ Done k wb v r bs.length hp F w' := by
 obtain ⟨ab, cb, rfl⟩ := Row.shape hF.drop.sat
 obtain ⟨aw, cw, rfl⟩ := Row.shape hF.drop.drop.sat
 have okp := (vault_ok (hF.pull1 (A1 := VaultA v s))).1
 have hs1 := hF.alloc (opC kind N (.slice ak nk ck) (.slice av nv cv) (.slice ik nik cik) (.slice iw niw ciw) x.child x.size)
 have HST := Lib.hid ((Stays.refl w).alloc (opC kind N (.slice ak nk ck) (.slice av nv cv) (.slice ik nik cik) (.slice iw niw ciw) x.child x.size))
 have c1 := hs1.facts
 simp only [CellsAt, Nat.reduceAdd, and_true] at c1
 have HB := Lib.hid hb
 have HBK := Lib.hid hbk
 have HTX := Lib.hid htx
 have HBL := Lib.hid hbl
 have HI := Lib.hid hi
 have HIN := Lib.hid hin
 have OK := Lib.hid okp
 have _u : True := (fun _ _ _ _ _ _ _ => trivial) hN hK hV hkn hi hin hbl
 have VK := Lib.hid (vkeep_any v s N (hb.tw.crn okp N) (by have := hb.pb; omega) (by have := hb.vb; omega) _ _ hs1.drew.pull1)
 have EI := incE_incL hb.tw N
 obtain ⟨E, hE⟩ : ∃ E, incE s.pool N = E := ⟨_, rfl⟩
 rw [hE] at EI VK
 have HE := Lib.hid hE
 have HEI := Lib.hid EI
 subst hkd
 clear hE EI
 clear hF hs1 hb hbk htx hbl hK hV hi hin okp
 go_enter Tryz.func17, Tryz.ntmps17
 go_wp2_with fail
 refine wp_region_staged (sz := 103) (by kernel_rfl) [0, 1, 2, 3, 4, 5] [(6, [7], [0, 1, 2, 4])] rfl (by kernel_rfl) (by kernel_rfl) (by kernel_rfl) ?_
 refine wpQ_all _ rfl rfl ?_
 simp only [pick, pkA, pkB, pkC, pkD, pkE, pkF]
 iterate 6 (go_big_quiet_step (fail))
 refine wpQuiet_nil ?_
 refine wpRest_act rfl ?_
 go_wp2_with fail
 refine VK.out.mono ?_
 rintro e w1 ⟨st1, rfl, h5⟩
 have h6 := OwnL.of1 h5
 have RK := Lib.hid (rkeep_any r rs gs (quietT true) rfl N (by have := HB.out.cr OK.out; simpa using this) _ _ h6.drew.pull1)
 rw [← HEI.out] at RK
 clear c1
 have c1 := h6.facts
 simp only [CellsAt, Nat.reduceAdd, and_true] at c1
 clear h5 h6 VK
 go_wp2
 refine onN_mk ?_
 refine wpQ_all _ rfl rfl ?_
 simp only [pick, pkA, pkB, pkC, pkD, pkE, pkF]
 iterate 1 (go_big_quiet_step (fail))
 refine wpQuiet_nil ⟨?_, ?_⟩
 · refine chk_all _ rfl rfl ?_
   simp only [pick, Same, pkA, pkB, pkC, pkD, pkE, pkF, and_true]
   repeat' (first | apply And.intro | (go_big_quiet_step (fail); exact wpQuiet_nil rfl))
 refine wpRest_nil ?_
 go_wp2_with fail
 refine wp_region_staged (sz := 103) (by kernel_rfl) [0, 1, 2, 3, 4, 5, 6] [(7, [8, 9], [0, 1, 2, 3, 5])] rfl (by kernel_rfl) (by kernel_rfl) (by kernel_rfl) ?_
 refine wpQ_all _ rfl rfl ?_
 simp only [pick, pkA, pkB, pkC, pkD, pkE, pkF]
 iterate 7 (go_big_quiet_step (fail))
 refine wpQuiet_nil ?_
 refine wpRest_act rfl ?_
 go_wp2_with fail
 refine RK.out.mono ?_
 rintro e w2 ⟨rfl, st2, h7⟩
 have H7 := Lib.hid (OwnL.of1 h7)
 clear h7 c1 RK
 go_wp2
 refine onN_mk ?_
 refine wpQ_all _ rfl rfl ?_
 simp only [pick, pkA, pkB, pkC, pkD, pkE, pkF]
 iterate 2 (go_big_quiet_step (fail))
 refine wpQuiet_nil ⟨?_, ?_⟩
 · refine chk_all _ rfl rfl ?_
   simp only [pick, Same, pkA, pkB, pkC, pkD, pkE, pkF, and_true]
   repeat' (first | apply And.intro | (go_big_quiet_step (fail); exact wpQuiet_nil rfl))
 refine wpRest_nil ?_
 go_wp2
 go_ret
 refine ⟨rfl, (HST.out.drew.trans st1).drew.trans st2, .slice ab bs.length cb, .slice aw bs.length cw, tv, xv, bs, ts, ?_⟩
 have h8 := H7.out
 by_cases h0 : E = 0
 · rw [if_pos h0, if_pos h0] at h8
   exact ⟨_, _, _, HB.out.keep OK.out (HE.out.trans h0) ⟨s.pool.mark, []⟩, HBK.out, HTX.out, by omega, h8.to⟩
 · rw [if_neg h0, if_neg h0] at h8
   exact ⟨_, _, _, HB.out.mono, HBK.out, HTX.out, by omega, h8.to⟩
set_option maxRecDepth 100000 in
set_option maxHeartbeats 4000000 in
theorem do7_any (wb v r : Nat) (bv wv tv xv : Value) (bs : List BE) (ts : List TE) (s : VaultS) (rs : PoolS) (gs : List PageV) (k : Nat) (hb : Both s rs gs (k + 1)) (hbk : BookOk bs) (htx : TextOk ts) (hbl : bs.length ≤ 65536) (kind N : Int) (hkd : kind = 7)
 (hN : -9223372036854775808 ≤ N ∧ N ≤ 9223372036854775807) (ak av ik iw : Option Addr) (nk nv nik niw ck cv cik ciw : Nat) (hp : Hp) (K V : List Int) (x : ItemV) (hK : Bytes hp (.slice ak nk ck) K) (hV : Bytes hp (.slice av nv cv) V) (hkn : K.length ≤ 140737488351232 ∧ V.length ≤ 140737488351232)
 (hi : ItemIn hp (itemV (.slice ik nik cik) (.slice iw niw ciw) x.child x.size) x) (hin : x.key.length ≤ 140737488351232 ∧ x.value.length ≤ 140737488351232) (F : Pr) (w : World) (hF : OwnL (workL wb v r bv wv tv xv bs ts s rs gs [Pr.own hp, F]) w) :
 Calls Tryz.prog 17 #[.pointer (some ⟨wb, 0, none⟩), .agg #[.int .i64 kind, .int .i64 N, .slice ak nk ck, .slice av nv cv, .slice ik nik cik, .slice iw niw ciw, .int .i64 x.child, .int .i64 x.size]] w fun e w' => e = .returned (.bool true) ∧ Stays w w' ∧ Done k wb v r bs.length hp F w' := by
 obtain ⟨ab, cb, rfl⟩ := Row.shape hF.drop.sat
 obtain ⟨aw, cw, rfl⟩ := Row.shape hF.drop.drop.sat
 have okp := (vault_ok (hF.pull1 (A1 := VaultA v s))).1
 have hs1 := hF.alloc (opC kind N (.slice ak nk ck) (.slice av nv cv) (.slice ik nik cik) (.slice iw niw ciw) x.child x.size)
 have HST := Lib.hid ((Stays.refl w).alloc (opC kind N (.slice ak nk ck) (.slice av nv cv) (.slice ik nik cik) (.slice iw niw ciw) x.child x.size))
 have c1 := hs1.facts
 simp only [CellsAt, Nat.reduceAdd, and_true] at c1
 have HB := Lib.hid hb
 have HBK := Lib.hid hbk
 have HTX := Lib.hid htx
 have HBL := Lib.hid hbl
 have HI := Lib.hid hi
 have HIN := Lib.hid hin
 have OK := Lib.hid okp
 have _u : True := (fun _ _ _ _ _ _ _ => trivial) hN hK hV hkn hi hin hbl
 have VK := Lib.hid (vdrop_any v s N hb.tw.bare hb.fit (by have := hb.pb; omega) (by have := hb.vb; omega) _ _ hs1.drew.pull1)
 subst hkd
 clear hF hs1 hb hbk htx hbl hK hV hi hin okp
 go_enter Tryz.func17, Tryz.ntmps17
 go_wp2_with fail
 refine wp_region_staged (sz := 103) (by kernel_rfl) [0, 1, 2, 3, 4, 5] [(6, [7], [0, 1, 2, 4])] rfl (by kernel_rfl) (by kernel_rfl) (by kernel_rfl) ?_
 refine wpQ_all _ rfl rfl ?_
 simp only [pick, pkA, pkB, pkC, pkD, pkE, pkF]
 iterate 6 (go_big_quiet_step (fail))
 refine wpQuiet_nil ?_
 refine wpRest_act rfl ?_
 go_wp2_with fail
 refine VK.out.mono ?_
 rintro e w1 ⟨st1, er, t, W, rfl, g1, g2, g3, h5⟩
 have h6 := OwnL.of1 h5
 have RK := Lib.hid (rdrop_any r rs gs (quietT true) rfl N (HB.out.cr OK.out) _ _ h6.drew.pull1)
 have HG := Lib.hid (And.intro g1 (And.intro g2 g3))
 clear c1
 have c1 := h6.facts
 simp only [CellsAt, Nat.reduceAdd, and_true] at c1
 clear h5 h6 VK g1 g2 g3
 go_wp2
 refine onN_mk ?_
 refine wpQ_all _ rfl rfl ?_
 simp only [pick, pkA, pkB, pkC, pkD, pkE, pkF]
 iterate 1 (go_big_quiet_step (fail))
 refine wpQuiet_nil ⟨?_, ?_⟩
 · refine chk_all _ rfl rfl ?_
   simp only [pick, Same, pkA, pkB, pkC, pkD, pkE, pkF, and_true]
   repeat' (first | apply And.intro | (go_big_quiet_step (fail); exact wpQuiet_nil rfl))
 refine wpRest_nil ?_
 go_wp2_with fail
 refine wp_region_staged (sz := 103) (by kernel_rfl) [0, 1, 2, 3, 4, 5, 6] [(7, [8, 9], [0, 1, 2, 3, 5])] rfl (by kernel_rfl) (by kernel_rfl) (by kernel_rfl) ?_
 refine wpQ_all _ rfl rfl ?_
 simp only [pick, pkA, pkB, pkC, pkD, pkE, pkF]
 iterate 7 (go_big_quiet_step (fail))
 refine wpQuiet_nil ?_
 refine wpRest_act rfl ?_
 go_wp2_with fail
 refine RK.out.mono ?_
 rintro e w2 ⟨st2, er2, cs, rfl, g4, _, h7⟩
 obtain ⟨e5, s', rs', gs', hb', h8⟩ := rel_both (v := v) (r := r) (x := ⟨[], [], N, 0⟩) HB.out OK.out HG.out.1 HG.out.2.1 HG.out.2.2 g4 ((OwnL.of1 h7).pull2)
 subst e5
 have H8 := Lib.hid (OwnL.of2 h8)
 have HB' := Lib.hid hb'
 clear h7 h8 hb' g4 c1 RK HG
 go_wp2
 refine onN_mk ?_
 refine wpQ_all _ rfl rfl ?_
 simp only [pick, pkA, pkB, pkC, pkD, pkE, pkF]
 iterate 2 (go_big_quiet_step (fail))
 refine wpQuiet_nil ⟨?_, ?_⟩
 · refine chk_all _ rfl rfl ?_
   simp only [pick, Same, pkA, pkB, pkC, pkD, pkE, pkF, and_true]
   repeat' (first | apply And.intro | (go_big_quiet_step (fail); exact wpQuiet_nil rfl))
 refine wpRest_nil ?_
 go_wp2
 go_ret
 exact ⟨rfl, (HST.out.drew.trans st1).drew.trans st2, .slice ab bs.length cb, .slice aw bs.length cw, tv, xv, bs, ts, s', rs', gs', HB'.out, HBK.out, HTX.out, by omega, H8.out.to⟩
end Go.Proofs.YtbobcmimkonnoaaGreat.doL
