import Derived.Test.YtbobcmimkonnoaaGreatBlobAnswersM43
import Derived.Test.YtbobcmimkonnoaaGreatBlobAnswersM41
import Derived.Test.YtbobcmimkonnoaaGreatBlobAnswersM42
import Derived.Test.YtbobcmimkonnoaaGreatBlobAnswersM36
import Derived.Test.YtbobcmimkonnoaaGreatBlobAnswersM03
import Derived.Test.YtbobcmimkonnoaaGreatBlobAnswersM19
namespace Go.Cop
structure OpV where
 kind : Int
 n : Int
 K : List Int
 V : List Int
 x : ItemV
end Go.Cop
namespace Go.Proofs.YtbobcmimkonnoaaGreat.ops
open ChangeShapes WideShapes ChangeAt RowKit Sl Cop Deep clone close openArgs vault1 counts items vloadLaw open2
theorem cells_op : Tryz.prog.cellsOf 60 = 8 := by kernel_rfl
def i64B (z : Int) : Prop := -9223372036854775808 ≤ z ∧ z ≤ 9223372036854775807
def opCells (o : OpV) (v : Value × Value × Value × Value) : List Value := [.int .i64 o.kind, .int .i64 o.n, v.1, v.2.1, v.2.2.1, v.2.2.2, .int .i64 o.x.child, .int .i64 o.x.size]
def OpB (h : Hp) (o : OpV) (v : Value × Value × Value × Value) : Prop := Bytes h v.1 o.K ∧ Bytes h v.2.1 o.V ∧ Bytes h v.2.2.1 o.x.key ∧ Bytes h v.2.2.2 o.x.value
def OpsIn (h : Hp) (v : Value) (l : List OpV) : Prop :=
 ∃ xs : List (Value × Value × Value × Value), xs.length = l.length ∧ RowIn h 8 v l.length ((xs.zip l).flatMap fun y => opCells y.2 y.1) ∧ ∀ i (hx : i < xs.length) (hl : i < l.length), OpB h l[i] xs[i]
def OpSized (o : OpV) : Prop := o.K.length ≤ reachBytes ∧ o.V.length ≤ reachBytes ∧ ItemSized o.x
theorem ops_rd {h : Hp} {v : Value} {l : List OpV} (hi : OpsIn h v l) : ∃ a c, v = .slice a l.length c ∧ l.length ≤ c ∧ c ≤ maxLen ∧ ∀ i (hl : i < l.length), ∃ b off ak av ik iw ck cv cik ciw, a = some ⟨b, off, none⟩ ∧
 OpB h l[i] (.slice ak l[i].K.length ck, .slice av l[i].V.length cv, .slice ik l[i].x.key.length cik, .slice iw l[i].x.value.length ciw) ∧
 ∀ w, h.le w → w.cell? ⟨b, off + i * 8, none⟩ = some (.int .i64 l[i].kind) ∧ w.cell? ⟨b, off + i * 8 + 1, none⟩ = some (.int .i64 l[i].n) ∧
  w.cell? ⟨b, off + i * 8 + 2, none⟩ = some (.slice ak l[i].K.length ck) ∧ w.cell? ⟨b, off + i * 8 + 3, none⟩ = some (.slice av l[i].V.length cv) ∧
  w.cell? ⟨b, off + i * 8 + 4, none⟩ = some (.slice ik l[i].x.key.length cik) ∧ w.cell? ⟨b, off + i * 8 + 5, none⟩ = some (.slice iw l[i].x.value.length ciw) ∧
  w.cell? ⟨b, off + i * 8 + 6, none⟩ = some (.int .i64 l[i].x.child) ∧ w.cell? ⟨b, off + i * 8 + 7, none⟩ = some (.int .i64 l[i].x.size) := by
 obtain ⟨xs, hxl, ⟨hlen, a, c, e, hnc, hcm, hc⟩, hb⟩ := hi
 refine ⟨a, c, e, hnc, hcm, fun i hl => ?_⟩
 obtain ⟨b, off, ea, hcell⟩ := hc (by omega)
 have hxi : i < xs.length := by omega
 obtain ⟨h1, h2, h3, h4⟩ := hb i hxi hl
 obtain ⟨ak, ck, e1⟩ := bytes_shape h1
 obtain ⟨av, cv, e2⟩ := bytes_shape h2
 obtain ⟨ik, cik, e3⟩ := bytes_shape h3
 obtain ⟨iw, ciw, e4⟩ := bytes_shape h4
 have hz : i < (xs.zip l).length := by simp; omega
 have ez : (xs.zip l)[i] = (xs[i], l[i]) := by simp
 refine ⟨b, off, ak, av, ik, iw, ck, cv, cik, ciw, ea, ⟨e1 ▸ h1, e2 ▸ h2, e3 ▸ h3, e4 ▸ h4⟩, fun w hw => ?_⟩
 have at' : ∀ j, j < 8 → ∀ v, (opCells l[i] xs[i])[j]? = some v → w.cell? ⟨b, off + i * 8 + j, none⟩ = some v := by
  intro j hj v hv
  have h3 := hcell (i * 8 + j) (by omega)
  have h4 := flat_at (fun y : (Value × Value × Value × Value) × OpV => opCells y.2 y.1) 8 (fun _ => rfl) (xs.zip l) i j hz hj
  rw [ez, hv] at h4
  rw [Nat.add_assoc]
  exact Hp.cell_le hw (h3.trans h4)
 have k0 := at' 0 (by omega) _ rfl
 have k1 := at' 1 (by omega) _ rfl
 have k2 := at' 2 (by omega) _ rfl
 have k3 := at' 3 (by omega) _ rfl
 have k4 := at' 4 (by omega) _ rfl
 have k5 := at' 5 (by omega) _ rfl
 have k6 := at' 6 (by omega) _ rfl
 have k7 := at' 7 (by omega) _ rfl
 rw [e1] at k2
 rw [e2] at k3
 rw [e3] at k4
 rw [e4] at k5
 exact ⟨k0, k1, k2, k3, k4, k5, k6, k7⟩
section
variable {H : Type} {enc : TypeId × Value → H}
instance : Inhabited OpV := ⟨⟨0, 0, [], [], default⟩⟩
def OpI (o : OpV) : Prop := i64B o.kind ∧ i64B o.n
set_option maxRecDepth 100000 in
theorem op_of {W : World} {base n : Nat} {cs : List Value} {x : DataW H × List MemPlace} (h : DataW.trod enc Tryz.prog W base (fun _ => true) true n 60 cs = some x) :
 ∃ (o : OpV) (v : Value × Value × Value × Value), cs = opCells o v ∧ OpB (heapOf W) o v ∧ OpI o ∧ (Small x.1 60 → OpSized o) := by
 obtain ⟨xs, m, rfl, rfl, hl, hlen, hf⟩ := DataW.trod_struct Tryz.underlying60 h
 rw [cells_op] at hl
 match cs, hl with
 | [c0, c1, c2, c3, c4, c5, c6, c7], _ =>
  match xs, hlen with
  | [x0, x1, x2, x3, x4], _ =>
   have f0 := hf 0 _ rfl
   have f1 := hf 1 _ rfl
   have f2 := hf 2 _ rfl
   have f3 := hf 3 _ rfl
   have f4 := hf 4 _ rfl
   simp only [List.getElem?_cons_zero, List.getElem?_cons_succ] at f0 f1 f2 f3 f4
   obtain ⟨kind, rfl, hk⟩ := int_of f0
   obtain ⟨nn, rfl, hn⟩ := int_of f1
   obtain ⟨K, hK, uK, sK⟩ := bytes_sz f2
   obtain ⟨V, hV, uV, sV⟩ := bytes_sz f3
   obtain ⟨y, ⟨kv, vv, e, h1, h2⟩, fy, sy⟩ := item_of f4
   cases e
   refine ⟨⟨kind, nn, K, V, y⟩, (c2, c3, c4, c5), rfl, ⟨hK, hV, h1, h2⟩, ⟨hk, hn⟩, fun hw => ⟨sK fun m hm => hw m ?_, sV fun m hm => hw m ?_, sy fun m hm => hw m ?_⟩⟩
   · simp only [DataW.weights, Tryz.underlying60, List.map_cons, List.map_nil, DataW.weightsEach, List.mem_append]
     exact .inr (.inr (.inl hm))
   · simp only [DataW.weights, Tryz.underlying60, List.map_cons, List.map_nil, DataW.weightsEach, List.mem_append]
     exact .inr (.inr (.inr (.inl hm)))
   · simp only [DataW.weights, Tryz.underlying60, List.map_cons, List.map_nil, DataW.weightsEach, List.mem_append]
     exact .inr (.inr (.inr (.inr (.inl hm))))
set_option maxRecDepth 100000 in
theorem ops_of {W : World} {base n : Nat} {v : Value} {x : DataW H × List MemPlace} (h : DataW.trod enc Tryz.prog W base (fun _ => true) true n 52 [v] = some x) :
 ∃ l : List OpV, OpsIn (heapOf W) v l ∧ (∀ o ∈ l, OpI o) ∧ (Small x.1 52 → ∀ o ∈ l, OpSized o) := by
 obtain ⟨len, n', C, D, Pl, hC, hr, hs⟩ := rows_of Tryz.underlying52 cells_op (by omega) h
 obtain ⟨Y, hY⟩ := choose_lt (α := OpV × Value × Value × Value × Value) (n := len) (p := fun i y => C i = opCells y.1 y.2 ∧ OpB (heapOf W) y.1 y.2 ∧ OpI y.1 ∧ (Small (D i) 60 → OpSized y.1)) (fun i hi => by
  obtain ⟨o, v, h1, h2, h3, h4⟩ := op_of (hC i hi).2
  exact ⟨(o, v), h1, h2, h3, h4⟩)
 refine ⟨(List.range len).map fun i => (Y i).1, ⟨(List.range len).map fun i => (Y i).2, by simp, ?_, ?_⟩, ?_, ?_⟩
 · rw [zip_range]
   have e1 : (List.range len).flatMap C = ((List.range len).map fun i => ((Y i).2, (Y i).1)).flatMap fun y => opCells y.2 y.1 := by
    rw [List.flatMap_map]
    exact flatMap_congr_range fun i hi => (hY i hi).1
   rw [← e1]
   simpa using hr
 · intro i hx hl
   simp at hl
   simp only [List.getElem_map, List.getElem_range]
   exact (hY i hl).2.1
 · intro o ho
   obtain ⟨i, hi, rfl⟩ := List.mem_map.1 ho
   exact (hY i (List.mem_range.1 hi)).2.2.1
 · intro hw o ho
   obtain ⟨i, hi, rfl⟩ := List.mem_map.1 ho
   exact (hY i (List.mem_range.1 hi)).2.2.2 ((hs hw).2 i (List.mem_range.1 hi))
end
end Go.Proofs.YtbobcmimkonnoaaGreat.ops
namespace Go.Cop
open Go.Proofs.YtbobcmimkonnoaaGreat.pool8 Go.Proofs.YtbobcmimkonnoaaGreat.pool9 Go.Proofs.YtbobcmimkonnoaaGreat.vload Go.Proofs.YtbobcmimkonnoaaGreat.rload Go.Proofs.YtbobcmimkonnoaaGreat.looks Go.Proofs.YtbobcmimkonnoaaGreat.ref2
theorem sumC_le {B : Int} : ∀ {cs : List Int}, (∀ c ∈ cs, 0 ≤ c ∧ c ≤ B) → (sumC cs : Int) ≤ cs.length * B
 | [], _ => by simp [sumC]
 | c :: cs, h => by
  have h1 := sumC_le (B := B) (cs := cs) fun c hc => h c (by simp [hc])
  have h2 := h c (by simp)
  have e : sumC (c :: cs) = c.toNat + sumC cs := by simp [sumC]
  rw [e, List.length_cons]
  have e2 : ((cs.length + 1 : Nat) : Int) * B = cs.length * B + B := by rw [Int.natCast_add, Int.add_mul]; simp
  rw [e2]
  omega
theorem lasts_of (refs : Int) (cs : List Int) (n : Int) (ht : (poolOf refs cs 0).there n) : (poolOf refs cs 0).lasts n = decide (0 < (poolOf refs cs 0).count n) := by
 have hi : n.toNat - 1 < cs.length := by have h1 := ht.1; have h2 : n ≤ (cs.length : Int) := ht.2; omega
 have e1 : (poolOf refs cs 0).count n = cs.getD (n.toNat - 1) 0 := by unfold PoolS.count; rw [if_pos ht]
 rw [e1]
 show (lastsOf cs).getD (n.toNat - 1) false = _
 unfold lastsOf
 rw [List.getD_eq_getElem?_getD, List.getD_eq_getElem?_getD, List.getElem?_map, List.getElem?_eq_getElem hi]
 rfl
theorem both_load {refs : Int} {cs : List Int} {on : Int → Option PageV} (h : Right cs on) (hc : ∀ c ∈ cs, 0 ≤ c ∧ c ≤ refs) (ok : PoolOk (poolOf refs cs 0)) : Both (loadV refs cs on) (poolOf refs cs 0) (pgsOf cs.length on) 60 := by
 have hr : refs < 65536 := ok.r2
 have hn : cs.length ≤ 65536 := ok.n2
 have hr1 : (2 : Int) ≤ refs := ok.r1
 refine ⟨⟨rfl, rfl, rfl, by simp [pgsOf], fun n hn => ?_, fun n h1 h2 => ?_, h.ok.fit, hc⟩, ?_, ?_⟩
 · have h0 := count_of_free ok hn
   cases e : on n with
   | none => exact e
   | some g => exact absurd ((count_poolOf refs cs n).symm.trans h0) (h.ok.there n g e)
 · have ht : (poolOf refs cs 0).there n := h2
   have h3 : (poolOf refs cs 0).count n ≠ 0 := fun e => h1 (by
    show (poolOf refs cs 0).state n = 1
    rw [state_there ht, lasts_of refs cs n ht, e]
    rfl)
   obtain ⟨g, hg⟩ := h.full n (fun e => h3 ((count_poolOf refs cs n).trans e))
   show on n = _
   rw [hg]
   have b1 := ht.1
   have b2 : n ≤ (cs.length : Int) := ht.2
   congr 1
   unfold pgAt pgsOf
   rw [List.getD_eq_getElem?_getD, List.getElem?_map, List.getElem?_range (by show n.toNat - 1 < cs.length; omega)]
   simp only [Option.map_some, Option.getD_some]
   rw [show (((n.toNat - 1 : Nat) : Int)) + 1 = n by omega, hg]
   rfl
 · have h1 := sumC_le hc
   show (0 : Int) + (([] : List (Int × Int)).length : Nat) + (sumC cs : Nat) + 16 * (60 : Nat) < 1099511627776
   have h2 : (cs.length : Int) * refs ≤ 65536 * 65536 := Int.mul_le_mul (by omega) (by omega) (by omega) (by omega)
   simp only [List.length_nil]
   omega
 · show (0 : Int) + (([] : List ActV).length : Nat) + 16 * (60 : Nat) < 1099511627776
   simp only [List.length_nil]
   omega
end Go.Cop
namespace Go.Proofs.YtbobcmimkonnoaaGreat.ans1
open ChangeShapes WideShapes ChangeAt RowKit Sl Cop pool2 pool5 pool9 clone page vault1 vault2 items copyP ref1 ref2 law1 alike blob1 lawSto1 work doL apartL
theorem do_any (wb v r : Nat) (bv wv tv xv : Value) (bs : List BE) (ts : List TE) (s : VaultS) (rs : PoolS) (gs : List PageV) (k : Nat) (hb : Both s rs gs (k + 1)) (hbk : BookOk bs) (htx : TextOk ts) (hbl : bs.length ≤ 65536) (kind N : Int)
 (hN : -9223372036854775808 ≤ N ∧ N ≤ 9223372036854775807) (ak av ik iw : Option Addr) (nk nv nik niw ck cv cik ciw : Nat) (hp : Hp) (K V : List Int) (x : ItemV) (hK : Bytes hp (.slice ak nk ck) K) (hV : Bytes hp (.slice av nv cv) V) (hkn : K.length ≤ 140737488351232 ∧ V.length ≤ 140737488351232)
 (hi : ItemIn hp (itemV (.slice ik nik cik) (.slice iw niw ciw) x.child x.size) x) (hin : x.key.length ≤ 140737488351232 ∧ x.value.length ≤ 140737488351232) (F : Pr) (w : World) (hF : OwnL (workL wb v r bv wv tv xv bs ts s rs gs [Pr.own hp, F]) w) :
 Calls Tryz.prog 17 #[.pointer (some ⟨wb, 0, none⟩), .agg #[.int .i64 kind, .int .i64 N, .slice ak nk ck, .slice av nv cv, .slice ik nik cik, .slice iw niw ciw, .int .i64 x.child, .int .i64 x.size]] w fun e w' => e = .returned (.bool true) ∧ Stays w w' ∧ Done k wb v r bs.length hp F w' := by
 by_cases h0 : kind = 0
 · exact do0_any wb v r bv wv tv xv bs ts s rs gs k hb hbk htx hbl kind N h0 hN ak av ik iw nk nv nik niw ck cv cik ciw hp K V x hK hV hkn hi hin F w hF
 by_cases h1 : kind = 1
 · exact do1_any wb v r bv wv tv xv bs ts s rs gs k hb hbk htx hbl kind N h1 hN ak av ik iw nk nv nik niw ck cv cik ciw hp K V x hK hV hkn hi hin F w hF
 by_cases h2 : kind = 2
 · exact do2_any wb v r bv wv tv xv bs ts s rs gs k hb hbk htx hbl kind N h2 hN ak av ik iw nk nv nik niw ck cv cik ciw hp K V x hK hV hkn hi hin F w hF
 by_cases h3 : kind = 3
 · exact do3_any wb v r bv wv tv xv bs ts s rs gs k hb hbk htx hbl kind N h3 hN ak av ik iw nk nv nik niw ck cv cik ciw hp K V x hK hV hkn hi hin F w hF
 by_cases h4 : kind = 4
 · exact do4_any wb v r bv wv tv xv bs ts s rs gs k hb hbk htx hbl kind N h4 hN ak av ik iw nk nv nik niw ck cv cik ciw hp K V x hK hV hkn hi hin F w hF
 by_cases h5 : kind = 5
 · exact do5_any wb v r bv wv tv xv bs ts s rs gs k hb hbk htx hbl kind N h5 hN ak av ik iw nk nv nik niw ck cv cik ciw hp K V x hK hV hkn hi hin F w hF
 by_cases h6 : kind = 6
 · exact do6_any wb v r bv wv tv xv bs ts s rs gs k hb hbk htx hbl kind N h6 hN ak av ik iw nk nv nik niw ck cv cik ciw hp K V x hK hV hkn hi hin F w hF
 by_cases h7 : kind = 7
 · exact do7_any wb v r bv wv tv xv bs ts s rs gs k hb hbk htx hbl kind N h7 hN ak av ik iw nk nv nik niw ck cv cik ciw hp K V x hK hV hkn hi hin F w hF
 exact doS_any wb v r bv wv tv xv bs ts s rs gs k hb hbk htx hbl kind N ⟨h0, h1, h2, h3, h4, h5, h6, h7⟩ hN ak av ik iw nk nv nik niw ck cv cik ciw hp K V x hK hV hkn hi hin F w hF
theorem only_cell {w w' : World} (o : Only w w') {b i : Nat} {u : Value} (h : w.cell? ⟨b, i, none⟩ = some u) : w'.cell? ⟨b, i, none⟩ = some u := by
 have hb := World.block_lt_of_cell? _ _ h
 unfold World.cell? at *
 rw [o.heap b hb]
 exact h
abbrev vaultO (v : Nat) (s : VaultS) (x : VX) : Pr := Pr.pts v (.cells #[.pointer (some ⟨x.p, 0, none⟩), .map (some x.mb), x.av, .int .i64 s.floor] 71)
def VRest (s : VaultS) (x : VX) : Pr := (MapA Tryz.prog 3 x.mb x.f).star ((Row 158 2 x.av s.acts.length (actCells x.axs)).star (Pr.own x.h))
theorem vault_open {v : Nat} {s : VaultS} {L R : List Pr} {w : World} (o : OwnL L w) [h : Pull (VaultA v s) L R] : ∃ x, VOk s x ∧ OwnL (PoolA x.p s.pool :: vaultO v s x :: VRest s x :: R) w := by
 obtain ⟨x, ok, h1⟩ := vaultA_iff.1 (o.pull1 (A1 := VaultA v s))
 obtain ⟨_, _, h2⟩ := vault_at_pool h1
 exact ⟨x, ok, ⟨h2⟩⟩
theorem vault_close {v : Nat} {s : VaultS} {x : VX} (ok : VOk s x) {L R1 R2 R3 : List Pr} {w : World} (o : OwnL L w) [h1 : Pull (PoolA x.p s.pool) L R1] [h2 : Pull (vaultO v s x) R1 R2] [h3 : Pull (VRest s x) R2 R3] : OwnL (VaultA v s :: R3) w := by
 have h := o.pull3 (A1 := PoolA x.p s.pool) (A2 := vaultO v s x) (A3 := VRest s x)
 refine ⟨vaultA_iff.2 ⟨x, ok, ?_⟩⟩
 generalize starL R3 = F at *
 exact h.perm (by unfold VaultAt VRest vaultO; ac_rfl)
theorem row_flat4 {T : Nat} {a : Option Addr} {c : Nat} {α : Type} (f : α → List Value) (hf : ∀ x, (f x).length = 4) {l : List α} {F : Pr} {w : World} (h : Sat ((Row T 4 (.slice a l.length c) l.length (l.flatMap f)).star F) w) (i : Nat) (hi : i < l.length) :
 ∃ b, a = some ⟨b, 0, none⟩ ∧ ∀ j, j < 4 → w.cell? ⟨b, i * 4 + j, none⟩ = (f l[i])[j]? := by
 obtain ⟨_, _, e, hl, hc⟩ := Row.read h
 cases e
 obtain ⟨b, eb, hd⟩ := hc (by omega)
 refine ⟨b, eb, fun j hj => ?_⟩
 rw [(hd (i * 4 + j) (by omega)).1]
 exact flat_at f 4 hf l i j hi hj
theorem be_read {e : BE} {h : Hp} (hb : beOf e h) (ok : ItemIn e.h (itemV e.kv2 e.vv2 e.c e.V.length) (storedI e.K e.V e.c)) :
 ItemIn h (itemV e.kv1 e.vv1 e.c e.V.length) (storedI e.K e.V e.c) ∧ ItemIn h (itemV e.kv2 e.vv2 e.c e.V.length) (storedI e.K e.V e.c) := by
 obtain ⟨a, b, ha, hb', s1, s2⟩ := star_sub (show ((BytesRow e.kv1 e.K).star ((BytesRow e.vv1 (shortV e.V)).star (Pr.own e.h))) h from hb)
 obtain ⟨c, d, hc, hd, s3, s4⟩ := star_sub hb'
 cases hd
 exact ⟨⟨_, _, rfl, (Row.rowIn ha).sub s1, (Row.rowIn hc).sub (s3.trans s2)⟩, ok.sub (s4.trans s2)⟩
theorem big_star {α : Type} (f g : α → Pr) : ∀ (l : List α), big (fun x => (f x).star (g x)) l = (big f l).star (big g l)
 | [] => (Pr.emp_star _).symm
 | x :: l => by rw [big_cons, big_cons, big_cons, big_star f g l]; ac_rfl
theorem big_map {α β : Type} (f : β → Pr) (g : α → β) : ∀ (l : List α), big f (l.map g) = big (fun x => f (g x)) l
 | [] => rfl
 | x :: l => by rw [List.map_cons, big_cons, big_cons, big_map f g l]
theorem big_flat2 {α β : Type} (f : β → Pr) (g h : α → β) : ∀ (l : List α), big f (l.flatMap fun x => [g x, h x]) = big (fun x => (f (g x)).star (f (h x))) l
 | [] => rfl
 | x :: l => by
  rw [List.flatMap_cons, big_append, big_cons, big_one, big_flat2 f g h l]; rfl
abbrev lists (ts : List TE) (bs : List BE) : List (Value × List Int) := (ts.map fun e => (e.o, e.V)) ++ bs.flatMap fun e => [(e.kv1, e.K), (e.vv1, shortV e.V)]
theorem lists_len (ts : List TE) : ∀ (bs : List BE), (lists ts bs).length = ts.length + 2 * bs.length
 | [] => by simp [lists]
 | e :: bs => by have := lists_len ts bs; simp only [lists, List.length_append, List.flatMap_cons, List.length_cons, List.length_nil] at this ⊢; omega
theorem lists_of {ts : List TE} {bs : List BE} {L R R2 : List Pr} {w : World} (o : OwnL L w) [h1 : Pull (big teOf ts) L R] [h2 : Pull (big beOf bs) R R2] : OwnL (big rowOf (lists ts bs) :: R2) w := by
 have h := o.pull2 (A1 := big teOf ts) (A2 := big beOf bs)
 generalize hF : starL R2 = F at *
 have e1 : big teOf ts = (big rowOf (ts.map fun e => (e.o, e.V))).star (big (fun e : TE => BytesRow e.c e.V) ts) := by
  rw [big_map, ← big_star]
  rfl
 have e2 : big beOf bs = (big rowOf (bs.flatMap fun e => [(e.kv1, e.K), (e.vv1, shortV e.V)])).star (big (fun e : BE => Pr.own e.h) bs) := by
  rw [big_flat2, ← big_star]
  congr 1
  funext e
  show (BytesRow e.kv1 e.K).star ((BytesRow e.vv1 (shortV e.V)).star (Pr.own e.h)) = _
  rw [← Pr.star_assoc]
  rfl
 rw [e1, e2] at h
 refine ⟨?_⟩
 rw [show starL (big rowOf (lists ts bs) :: R2) = (big rowOf (lists ts bs)).star F by rw [← hF]; rfl, big_append]
 exact (h.perm (B := (big (fun e : TE => BytesRow e.c e.V) ts).star ((big (fun e : BE => Pr.own e.h) bs).star (((big rowOf (ts.map fun e => (e.o, e.V))).star (big rowOf (bs.flatMap fun e => [(e.kv1, e.K), (e.vv1, shortV e.V)]))).star F))) (by ac_rfl)).right.right
end Go.Proofs.YtbobcmimkonnoaaGreat.ans1
namespace Go.Proofs.YtbobcmimkonnoaaGreat.minSl
open ChangeShapes WideShapes ChangeAt RowKit Sl Cop
theorem wpList_min {ops : Array Oper} {rest : List Oper} {o : Oper} {ac : Act} {Q : Exit → Act → World → Prop} {w : World} (hgd : o.guard = none) (x y : Operand) (hop : o.op = .call { callee := .builtin .min, args := #[x, y], argTypes := #[3, 3] })
 (hty : o.type = 3) (a b n : Int) (hn : n = min a b) (hx : ac.eval x = .int .i64 a) (hy : ac.eval y = .int .i64 b) (hK : wpList Tryz.prog ops Q rest (ac.put o.dst (.int .i64 n)) w) : wpList Tryz.prog ops Q (o :: rest) ac w := by
 refine wpList_plain hgd fun K' hK' => ?_
 subst hn
 unfold Oper.wp execOp
 simp only [hop, resolve, invoke, builtin, Sem.run_bind, Sem.run_pure, Result.andThen_ok, List.map_toArray, List.map_cons, List.map_nil, hx, hy, hty]
 by_cases h : b < a
 · have e : min a b = b := by omega
   rw [e] at hK
   go_simp
   exact hK' _ _ hK
 · have e : min a b = a := by omega
   rw [e] at hK
   go_simp
   exact hK' _ _ hK
theorem slice_to (a : Option Addr) (len cap n : Nat) (hn : n ≤ cap) (w : World) : (Instr.sliceAt 52 (.slice a len cap) none (some (.int .i64 (n : Int))) none).run Tryz.prog w = .ok (.slice a n cap) w := by
 have h0 : (0 : Int) ≤ (n : Int) := by omega
 have h1 : (n : Int) ≤ (cap : Int) := by omega
 have hu := Tryz.underlying52
 cases a with
 | none => go_simp
 | some x =>
  by_cases hc : cap = 0
  · subst hc
    obtain rfl : n = 0 := by omega
    go_simp
  · go_simp
theorem wpList_slice_to {ops : Array Oper} {rest : List Oper} {o : Oper} {ac : Act} {Q : Exit → Act → World → Prop} {w : World} (hgd : o.guard = none) (x h : Operand) (hop : o.op = Op.slice 52 x none (some h) none) (a : Option Addr) (len cap n : Nat) (hn : n ≤ cap)
 (hx : ac.eval x = .slice a len cap) (hh : ac.eval h = .int .i64 (n : Int)) (hK : wpList Tryz.prog ops Q rest (ac.put o.dst (.slice a n cap)) w) : wpList Tryz.prog ops Q (o :: rest) ac w := by
 refine wpList_plain hgd fun K' hK' => ?_
 have hr := slice_to a len cap n hn w
 unfold Oper.wp
 simp [execOp, hop, hx, hh, hr, Result.andThen]
 exact hK' _ _ hK
end Go.Proofs.YtbobcmimkonnoaaGreat.minSl
namespace Go.Sl
section
variable {P : Program} {sz : Nat}
def lastPost (P : Program) (Q : Exit → Act → World → Prop) (o : Oper) : Exit → Act → World → Prop
 | .normal, a, w => o.wp P a w (Q .normal) Q
 | e, a, w => Q e a w
def lastOk (front : Array Oper) (o : Oper) : Bool :=
 o.guard.isNone && (o.after.all fun e => !Region.binds .any e || decide (e.on < front.size)) && ((List.range front.size).all fun i => bindsOn o i) &&
  (List.range front.size).all fun i => match front[i]? with
   | none => true
   | some p => p.guard.isNone
theorem wp_both {o : Oper} {a : Act} {w : World} {K K' : Act → World → Prop} {Q Q' : Exit → Act → World → Prop} (h : ∀ a w, K a w → K' a w) (hq : ∀ e a w, e ≠ .normal → Q' e a w → Q e a w) (hh : o.wp P a w K Q') : o.wp P a w K' Q := by
 unfold Oper.wp at *
 generalize (execOp a.eval o).run P w = r at *
 cases r with
 | ok n w' =>
  cases n <;> simp only [Oper.upon] at hh ⊢ <;>
   first
    | exact h _ _ hh
    | exact Calls.mono hh (fun e w'' he => by cases e <;> first | exact h _ _ he | exact hq _ _ _ (by simp) he | (obtain ⟨a, w, x⟩ := he; exact ⟨a, w, hq _ _ _ (by simp) x⟩))
    | exact Rows.mono hh (fun _ _ he => h _ _ he)
 | halt x w' => cases x <;> simp only [Oper.upon] at hh ⊢ <;> first | exact hq _ _ _ (by simp) hh | exact hh
theorem post_other {Q : Exit → Act → World → Prop} {o : Oper} : ∀ e a w, e ≠ .normal → lastPost P Q o e a w → Q e a w := fun e a w he h => by
 cases e <;> first | exact (he rfl).elim | exact h
theorem lst_push {L : Array Bool} {i : Nat} : Lst (L.push false) i ↔ (i ≠ L.size ∧ Lst L i) := by
 unfold Lst
 rcases Nat.lt_trichotomy i L.size with h | h | h
 · simp [Array.getD_eq_getD_getElem?, Array.getElem?_push, show i ≠ L.size by omega]
 · subst h; simp [Array.getD_eq_getD_getElem?]
 · simp [Array.getD_eq_getD_getElem?, Array.getElem?_push, show i ≠ L.size by omega]
theorem getD_push {L : Array Bool} {i : Nat} (h : i < L.size) : (L.push false).getD i false = L.getD i false := by
 simp [Array.getD_eq_getD_getElem?, Array.getElem?_push, show i ≠ L.size by omega]
theorem getD_of_lst {L : Array Bool} {i : Nat} (h : i < L.size) : L.getD i false = true ↔ Lst L i := by
 unfold Lst
 simp [Array.getD_eq_getD_getElem?, Array.getElem?_eq_getElem h]
theorem set_push {L : Array Bool} {i : Nat} (h : i < L.size) : (L.push false).setIfInBounds i true = (L.setIfInBounds i true).push false := by
 apply Array.ext_getElem?
 intro j
 simp only [Array.getElem?_setIfInBounds, Array.getElem?_push, Array.size_push, Array.size_setIfInBounds]
 by_cases he : i = j
 · subst he
   simp [h, show i ≠ L.size by omega, show i < L.size + 1 by omega]
 · simp [he]
theorem any_last {front : Array Oper} {o : Oper} {Q : Exit → Act → World → Prop} (hs : slotsOk front sz = true) (hl : lastOk front o = true) :
 ∀ (fuel : Nat) (L : Array Bool) (a : Act) (w : World), L.size = front.size → wpAny P .any front (lastPost P Q o) fuel L a w → wpAny P .any (front.push o) Q (fuel + 1) (L.push false) a w := by
 simp only [lastOk, Bool.and_eq_true] at hl
 obtain ⟨⟨⟨g1, g2⟩, g3⟩, g4⟩ := hl
 have hog : o.guard = none := by simpa using g1
 have hfront : ∀ i, i < front.size → (front.push o)[i]? = front[i]? := fun i hi => by simp [Array.getElem?_push, show i ≠ front.size by omega]
 have hlastat : (front.push o)[front.size]? = some o := by simp
 -- which ones may come
 have rd : ∀ (L : Array Bool), L.size = front.size → ∀ i, i < front.size → (i ∈ Region.ready .any (front.push o) (L.push false) ↔ i ∈ Region.ready .any front L) := fun L hL i hi => by
  rw [ready_mem, ready_mem, lst_push, hfront i hi, Array.size_push]
  constructor
  · rintro ⟨_, h2, p, hp, h3⟩
    refine ⟨hi, fun h => h2 ⟨by omega, h⟩, p, hp, fun e he hb => ?_⟩
    have := (slots_at hs hp).2.2.1 e he hb
    rw [← getD_push (by omega)]
    exact h3 e he hb
  · rintro ⟨_, h2, p, hp, h3⟩
    refine ⟨by omega, fun h => h2 h.2, p, hp, fun e he hb => ?_⟩
    have := (slots_at hs hp).2.2.1 e he hb
    rw [getD_push (by omega)]
    exact h3 e he hb
 have rl : ∀ (L : Array Bool), L.size = front.size → (front.size ∈ Region.ready .any (front.push o) (L.push false) ↔ ∀ i, i < front.size → Lst L i) := fun L hL => by
  rw [ready_mem, lst_push, hlastat, Array.size_push]
  constructor
  · rintro ⟨_, _, p, hp, h3⟩ i hi
    cases hp
    have hb := List.all_eq_true.1 g3 i (List.mem_range.2 hi)
    unfold bindsOn at hb
    obtain ⟨e, hem, heb⟩ := any_mem hb
    simp only [Bool.and_eq_true, beq_iff_eq] at heb
    have := h3 e hem heb.1
    rw [heb.2, getD_push (by omega), getD_of_lst (by omega)] at this
    exact this
  · intro hall
    refine ⟨by omega, fun h => h.1 hL.symm, o, rfl, fun e he hb => ?_⟩
    have h5 := Array.all_eq_true_iff_forall_mem.1 g2 e he
    have h6 : e.on < front.size := by simpa [hb] using h5
    rw [getD_push (by omega), getD_of_lst (by omega)]
    exact hall _ h6
 have done : ∀ (L : Array Bool), L.size = front.size → (∀ i, i < front.size → Lst L i) → Region.ready .any (front.push o) ((L.push false).setIfInBounds front.size true) = [] := fun L hL hall => by
  rw [List.eq_nil_iff_forall_not_mem]
  intro i hi
  obtain ⟨h1, h2, _⟩ := ready_mem.1 hi
  apply h2
  rw [lst_set]
  rw [Array.size_push] at h1
  by_cases he : i = front.size
  · exact .inl he
  · exact .inr (lst_push.2 ⟨by omega, hall i (by omega)⟩)
 have lastStep : ∀ (fuel : Nat) (L : Array Bool) (a : Act) (w : World), L.size = front.size → (∀ i, i < front.size → Lst L i) → lastPost P Q o .normal a w →
  wpOp P (front.push o) Q front.size (wpAny P .any (front.push o) Q fuel ((L.push false).setIfInBounds front.size true)) a w := fun fuel L a w hL hall h => by
  unfold wpOp
  rw [hlastat]
  simp only [Region.wanted, hog, if_true]
  refine .inl (Oper.wp_mono (fun a' w' h' => ?_) h)
  have hd := done L hL hall
  cases fuel with
  | zero => exact ⟨hd, h'⟩
  | succ n => exact ⟨fun _ => h', fun i hi => by rw [hd] at hi; cases hi⟩
 have lastOr : ∀ (L : Array Bool), L.size = front.size → Region.ready .any front L = [] → ∀ i, i < front.size → Lst L i := fun L hL hnil i hi => by
  by_cases h : Lst L i
  · exact h
  · obtain ⟨j, hj⟩ := unlisted_ready hs hL i i (Nat.le_refl _) hi h
    rw [hnil] at hj; cases hj
 have cases' : ∀ (L : Array Bool) (i : Nat), i ∈ Region.ready .any (front.push o) (L.push false) → i < front.size ∨ i = front.size := fun L i hi => by
  have := (ready_mem.1 hi).1
  rw [Array.size_push] at this
  omega
 intro fuel
 induction fuel with
 | zero =>
  intro L a w hL ⟨h1, h2⟩
  have hall := lastOr L hL h1
  refine ⟨fun hnil => ?_, fun i hi => ?_⟩
  · have := (rl L hL).2 hall
    rw [hnil] at this; cases this
  · rcases cases' L i hi with h | h
    · have := (rd L hL i h).1 hi
      rw [h1] at this; cases this
    · subst h
      exact lastStep 0 L a w hL hall h2
 | succ fuel ih =>
  intro L a w hL ⟨h1, h2⟩
  refine ⟨fun hnil => ?_, fun i hi => ?_⟩
  · exfalso
    by_cases hr : Region.ready .any front L = []
    · have := (rl L hL).2 (lastOr L hL hr)
      rw [hnil] at this; cases this
    · obtain ⟨j, hj⟩ := List.exists_mem_of_ne_nil _ hr
      have := (rd L hL j (ready_mem.1 hj).1).2 hj
      rw [hnil] at this; cases this
  · rcases cases' L i hi with h | h
    · have hi2 := (rd L hL i h).1 hi
      have h3 := h2 i hi2
      obtain ⟨_, _, p, hp, _⟩ := ready_mem.1 hi2
      have hpg : p.guard = none := by
       have := List.all_eq_true.1 g4 i (List.mem_range.2 h)
       simpa [hp] using this
      unfold wpOp at h3 ⊢
      rw [hfront i h, hp]
      simp only [hp, Region.wanted, hpg, if_true] at h3 ⊢
      rw [set_push (by omega)]
      rcases h3 with h3 | ⟨h3, h4⟩
      · exact .inl (wp_both (fun a' w' h' => ih (L.setIfInBounds i true) a' w' (by simpa using hL) h') post_other h3)
      · obtain ⟨a', w', h5⟩ := h4
        exact .inr ⟨h3, a', w', h5⟩
    · subst h
      have hall := (rl L hL).1 hi
      exact lastStep (fuel + 1) L a w hL hall (h1 (by
       rw [List.eq_nil_iff_forall_not_mem]
       intro j hj
       exact (ready_mem.1 hj).2.1 (hall j (ready_mem.1 hj).1)))
theorem wp_region_staged_last {Q : Exit → Act → World → Prop} {id : Nat} {a : Act} {w : World} (hm : P.follows .mixedOrders = true) {l L : List Oper} {o : Oper} (E0 : List Nat) (rest : List (Nat × List Nat × List Nat))
 (hL : l.dropLast = L) (hlo : l.getLast? = some o) (hsz : a.tmps.size = sz) (hs : slotsOk L.toArray sz = true) (hl : lastOk L.toArray o = true) (ho : orderOk L.toArray [] E0 = true) (hp : planOk L.toArray E0 [] rest = true)
 (h : wpQ P L.toArray E0 (fun f => wpRest P L.toArray (lastPost P Q o) rest f w.drew) a w.drew) : (Code.region id l.toArray true).wp P Q a w := by
 have e : l.toArray = L.toArray.push o := by
  obtain ⟨ys, rfl⟩ := List.getLast?_eq_some_iff.1 hlo
  rw [List.dropLast_concat] at hL
  rw [hL]
  simp
 rw [e]
 refine wp_region_any hm ?_
 rw [Array.size_push, show Array.replicate (L.toArray.size + 1) false = (Array.replicate L.toArray.size false).push false by simp [Array.replicate_succ]]
 refine any_last hs hl _ _ _ _ (by simp) ?_
 obtain ⟨f, hc, hfs, hfd, hft, hfy⟩ := wpQ_out hs E0 _ _ _ ho hsz h
 have hno : ∀ i, i < L.toArray.size → ¬ Lst (Array.replicate L.toArray.size false) i := fun i hi h => by
  have hi2 : i < L.length := by simpa using hi
  simp [Lst, hi2, Array.getD_eq_getD_getElem?] at h
 refine staged_any hs _ _ _ _ E0 [] rest f hp (by simp) ?_ hfs ⟨hsz.trans hfs.symm, hfd.symm, fun t ht => (hft t fun j hj e => ?_).symm⟩ (fun i hi hl => absurd hl (hno i hi)) (fun i hi => by cases hi) (fun i hi _ => hfy i hi) hc
 · unfold unl
   rw [List.filter_eq_self.2]
   · simp
   · intro i hi
     have := hno i (List.mem_range.1 hi)
     simpa [Lst] using this
 · have hj2 := (order_nin _ _ ho j hj).2
   exact hno j hj2 (ht j e)
end
end Go.Sl
