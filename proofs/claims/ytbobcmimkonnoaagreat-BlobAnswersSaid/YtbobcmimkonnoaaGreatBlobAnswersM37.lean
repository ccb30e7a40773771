/- blob.Store of bad keys, Load of what is gone, Store whatever is given; the conditions stand as hypotheses. -/
import Derived.Test.YtbobcmimkonnoaaGreatBlobAnswersM16
import Derived.Test.YtbobcmimkonnoaaGreatBlobAnswersM36
namespace Go.Proofs.YtbobcmimkonnoaaGreat.blob6
open ChangeShapes WideShapes ChangeAt RowKit Sl Cop pool1 pool2 pool5 pool9 clone page vault1 vault2 vault3 vault4 vault5 vault6 blob1 blob2 blob4 blob5 dropA apart1
set_option maxRecDepth 100000 in
set_option maxHeartbeats 4000000 in
theorem store_key (v : Nat) (kv vv : Value) (hp : Hp) (K V : List Int) (hK : Bytes hp kv K) (hV : Bytes hp vv V) (hk : K.length < 1 ∨ 24 < K.length) (w : World) :
 Calls Tryz.prog 70 #[.pointer (some ⟨v, 0, none⟩), kv, vv] w fun e w' => e = .returned (.tuple #[zeroItem, .int .i64 7]) ∧ Only w w' := by
 obtain ⟨_, ak, ck, rfl, _⟩ := id hK
 obtain ⟨_, av, cv, rfl, _, _, _⟩ := id hV
 have es : (w.alloc (.cells #[.pointer (some ⟨v, 0, none⟩)] 35)).heap.size = w.heap.size + 1 := by simp
 have es2 : ((w.alloc (.cells #[.pointer (some ⟨v, 0, none⟩)] 35)).alloc (.cells #[.slice none 0 0, .slice none 0 0, .int .i64 0, .int .i64 0] 58)).heap.size = w.heap.size + 1 + 1 := by simp
 have h1 := (((sat_emp w).alloc (.cells #[.pointer (some ⟨v, 0, none⟩)] 35)).alloc (.cells #[.slice none 0 0, .slice none 0 0, .int .i64 0, .int .i64 0] 58)).alloc (.cells #[.int .i64 7] 36)
 rw [es2, es] at h1
 have HO := Lib.hid ((((Only.refl w).alloc (.cells #[.pointer (some ⟨v, 0, none⟩)] 35)).alloc (.cells #[.slice none 0 0, .slice none 0 0, .int .i64 0, .int .i64 0] 58)).alloc (.cells #[.int .i64 7] 36))
 have H1 := Lib.hid h1
 clear h1 es es2 hK hV
 rcases hk with hk | hk
 · have hd : decide ((K.length : Int) < 1) = true := decide_eq_true (by omega)
   go_enter Tryz.func70, Tryz.ntmps70
   go_wp2
   have h2 := H1.out.perm (Pr.left_comm _ _ _)
   refine bodyPost_ret (results_cell_cell rfl _ _ (w.heap.size + 1) _ rfl (run_loadVar_row _ (w.heap.size + 1) _ _ _ _ _ h2.pts_heap Tryz.underlying58 rfl infoItemS) (w.heap.size + 1 + 1) (.int .i64 7) rfl (load_errno H1.out.pts_heap)) rfl ?_
   exact ⟨rfl, HO.out⟩
 · have hd : decide ((24 : Int) < (K.length : Int)) = true := decide_eq_true (by omega)
   go_enter Tryz.func70, Tryz.ntmps70
   go_wp2
   have h2 := H1.out.perm (Pr.left_comm _ _ _)
   refine bodyPost_ret (results_cell_cell rfl _ _ (w.heap.size + 1) _ rfl (run_loadVar_row _ (w.heap.size + 1) _ _ _ _ _ h2.pts_heap Tryz.underlying58 rfl infoItemS) (w.heap.size + 1 + 1) (.int .i64 7) rfl (load_errno H1.out.pts_heap)) rfl ?_
   exact ⟨rfl, HO.out⟩
end Go.Proofs.YtbobcmimkonnoaaGreat.blob6
namespace Go.Cop
/-- What Store refuses. -/
def storeE (s : PoolS) (K V : List Int) : Int := if K.length < 1 ∨ 24 < K.length then 7 else if 3840 < V.length then 8 else if s.many 1 < pagesV V then 12 else 0
/-- A value lies in a vault, at the page c; ns: its pages. -/
def StoreAt (s : VaultS) (c : Int) (V : List Int) (ns : List Int) : Prop := (V.length ≤ 32 ∧ c = 0 ∧ ns = []) ∨ ((32 < V.length ∧ V.length ≤ 3840) ∧ ChainAt s V (chunks V) 0 c ns)
abbrev storedI (K V : List Int) (c : Int) : ItemV := ⟨K, if V.length ≤ 32 then V else [], c, V.length⟩
theorem store_len {s : VaultS} {c : Int} {V ns : List Int} (h : StoreAt s c V ns) : ns.length = pagesV V ∧ ns.length ≤ 8 := by
 unfold pagesV
 rcases h with ⟨h1, _, rfl⟩ | ⟨h1, h2⟩
 · rw [if_pos h1]; simp
 · rw [if_neg (by omega), Go.Cop.chain_len h2]
   unfold chunks
   omega
theorem twin_stored {s a b : VaultS} {ns ms V : List Int} {c d : Int} {rs : PoolS} {gs : List PageV} (h : Taken s a ns) (k : Taken s b ms) (ch : StoreAt a c V ns) (kh : StoreAt b d V ms) (ht : Twin b rs gs) : c = d ∧ Twin a rs gs := by
 rcases ch with ⟨h1, rfl, rfl⟩ | ⟨h1, h2⟩
 · rcases kh with ⟨_, rfl, rfl⟩ | ⟨g1, _⟩
   · exact ⟨rfl, ht.move (counts_ext (by rw [k.len, h.len]) fun n => by rw [(h.same n (by simp)).1, (k.same n (by simp)).1]) (by rw [k.last, h.last]) (by rw [k.refs, h.refs]) (funext fun n => by rw [(h.same n (by simp)).2, (k.same n (by simp)).2])⟩
   · omega
 · rcases kh with ⟨g1, _⟩ | ⟨_, g2⟩
   · omega
   · exact twin_taken h k h2 g2 ht
theorem steps_sum {s t : VaultS} (h : Steps s t) : (∀ c ∈ s.pool.counts, 0 ≤ c) → (∀ c ∈ t.pool.counts, 0 ≤ c) ∧ (sumC t.pool.counts : Int) + s.pool.acts.length = sumC s.pool.counts + t.pool.acts.length := by
 induction h with
 | refl => intro h; exact ⟨h, rfl⟩
 | step n g h hn h0 ih =>
  intro hc
  obtain ⟨i1, i2⟩ := ih hc
  rename_i t
  have ht := there_of_state (by omega : t.pool.state n ≠ 0)
  have e : (t.make n g).pool.counts = addC t.pool.counts n 1 := did_counts t.pool n 1
  have h1 : cntL t.pool.counts n = 0 := by rw [← count_cnt]; exact h0
  have h2 := sum_addC (cs := t.pool.counts) (n := n) (b := 1) ht (by omega) (by omega)
  rw [e]
  refine ⟨Go.Proofs.YtbobcmimkonnoaaGreat.rinc.addC_nn i1 (by omega), ?_⟩
  have h3 : (t.make n g).pool.acts.length = t.pool.acts.length + 1 := by
   show (t.pool.acts ++ [(n, (1 : Int))]).length = _
   simp
  rw [h2, h3]
  omega
theorem taken_sum {s t : VaultS} {ns : List Int} (h : Taken s t ns) (hc : ∀ c ∈ s.pool.counts, 0 ≤ c) : sumC t.pool.counts = sumC s.pool.counts + ns.length := by
 have h1 := (steps_sum h.steps hc).2
 have h2 := h.pa
 omega
theorem many_eq {s t : PoolS} (hc : s.counts = t.counts) (hl : s.last = t.last) (k : Int) : s.many k = t.many k := by
 unfold PoolS.many; rw [hc, hl]
end Go.Cop
namespace Go.Proofs.YtbobcmimkonnoaaGreat.storeLaw
open ChangeShapes WideShapes ChangeAt RowKit Sl Cop pool1 pool2 pool5 pool9 clone page vault1 vault2 items vault8 blob4 blob5 blob6
theorem store_law (v : Nat) (s : VaultS) (kv vv : Value) (hp : Hp) (K V : List Int) (hK : Bytes hp kv K) (hV : Bytes hp vv V) (F : Pr) (w : World)
    (hF : Sat ((VaultA v s).star ((Pr.own hp).star F)) w) (hbare : Bare s) (hm : s.pool.floor + s.pool.acts.length + 8 ≤ 1099511627776) (hm2 : s.floor + s.acts.length + 8 ≤ 1099511627776) :
    Calls Tryz.prog 70 #[.pointer (some ⟨v, 0, none⟩), kv, vv] w fun e w' =>
      Stays w w' ∧ ((storeE s.pool K V ≠ 0 ∧ e = .returned (.tuple #[zeroItem, .int .i64 (storeE s.pool K V)]) ∧ Sat ((VaultA v s).star ((Pr.own hp).star F)) w') ∨
        (storeE s.pool K V = 0 ∧ ∃ kv' vv' c s' ns, e = .returned (.tuple #[itemV kv' vv' c V.length, .int .i64 0]) ∧ Taken s s' ns ∧ StoreAt s' c V ns ∧
          Sat ((BytesRow kv' K).star ((BytesRow vv' (if V.length ≤ 32 then V else [])).star ((VaultA v s').star ((Pr.own hp).star F)))) w')) := by
  by_cases hk : K.length < 1 ∨ 24 < K.length
  · refine (store_key v kv vv hp K V hK hV hk w).mono ?_
    rintro e w' ⟨rfl, ho⟩
    have e1 : storeE s.pool K V = 7 := by unfold storeE; rw [if_pos hk]
    exact ⟨ho.st, .inl ⟨by rw [e1]; decide, by rw [e1], hF.only ho⟩⟩
  · by_cases h1 : V.length ≤ 32
    · have e1 : storeE s.pool K V = 0 := by
        unfold storeE pagesV
        rw [if_neg hk, if_neg (by omega), if_pos h1, if_neg (by omega)]
      refine (store_short_row v kv vv hp K V hK hV (by omega) h1 ((VaultA v s).star F) w (hF.perm (by ac_rfl))).mono ?_
      rintro e w' ⟨hst, kv', vv', rfl, h2⟩
      refine ⟨hst, .inr ⟨e1, kv', vv', 0, s, [], rfl, Taken.refl s, .inl ⟨h1, rfl, rfl⟩, ?_⟩⟩
      rw [if_pos h1]
      exact h2.perm (by ac_rfl)
    · by_cases h2 : V.length ≤ 3840
      · have hc : chunks V ≤ 8 := by unfold chunks; omega
        have hpv : pagesV V = chunks V := if_neg h1
        refine (store_any_row v s kv vv hp K V hK hV (by omega) ⟨by omega, h2⟩ F w hF hbare (by omega) (by omega)).mono ?_
        rintro e w' ⟨hst, (⟨hr, kv', c, s', ns, rfl, ht, hch, h3⟩ | ⟨h3, rfl, h4⟩)⟩
        · refine ⟨hst, .inr ⟨by unfold storeE; rw [if_neg hk, if_neg (by omega), hpv, if_neg (by omega)], kv', .slice none 0 0, c, s', ns, rfl, ht, .inr ⟨⟨by omega, h2⟩, hch⟩, ?_⟩⟩
          rw [if_neg h1, show BytesRow (.slice none 0 0) [] = Pr.emp from Row.nil _ _, Pr.emp_star]
          exact h3
        · have e1 : storeE s.pool K V = 12 := by unfold storeE; rw [if_neg hk, if_neg (by omega), hpv, if_pos h3]
          exact ⟨hst, .inl ⟨by rw [e1]; decide, by rw [e1], h4⟩⟩
      · have e1 : storeE s.pool K V = 8 := by unfold storeE; rw [if_neg hk, if_pos (by omega)]
        refine (store_val v kv vv hp K V hK hV (by omega) (by omega) w).mono ?_
        rintro e w' ⟨rfl, ho⟩
        exact ⟨ho.st, .inl ⟨by rw [e1]; decide, by rw [e1], hF.only ho⟩⟩
end Go.Proofs.YtbobcmimkonnoaaGreat.storeLaw
namespace Go.Cop
open Go.Proofs.YtbobcmimkonnoaaGreat.rsettle
theorem tally_zip (f : Int × Bool → Bool) : ∀ (l : List Int) (m : List Bool), m.length = l.length → ((List.range l.length).filter fun i : Nat => f (l.getD i 0, m.getD i false)).length = ((l.zip m).filter f).length
 | [], _, _ => by simp
 | x :: l, [], h => by simp at h
 | x :: l, y :: m, h => by
  have ih := tally_zip f l m (by simpa using h)
  rw [List.length_cons, List.range_succ_eq_map, List.filter_cons, List.zip_cons_cons, List.filter_cons, List.filter_map]
  simp only [List.getD_cons_zero]
  have e : ((fun i : Nat => f ((x :: l).getD i 0, (y :: m).getD i false)) ∘ Nat.succ) = fun i : Nat => f (l.getD i 0, m.getD i false) := by
   funext i
   simp
  rw [e]
  split <;> simpa using ih
theorem tally_many {s : PoolS} (hl : s.last.length = s.counts.length) (k : Int) : tallyTo s k s.counts.length = s.many k := by
 have h := tally_zip (fun x => stateOf x.1 x.2 == k) s.counts s.last hl
 unfold tallyTo PoolS.many
 rw [← h]
 congr 1
 apply List.filter_congr
 intro i hi
 have hi2 : i < s.counts.length := by simpa using hi
 have ht : s.there ((i : Int) + 1) := ⟨by omega, by omega⟩
 rw [state_there ht]
 unfold PoolS.count PoolS.lasts
 rw [if_pos ht, show ((i : Int) + 1).toNat - 1 = i by omega]
end Go.Cop
namespace Go.Proofs.YtbobcmimkonnoaaGreat.rstore
open ChangeShapes WideShapes ChangeAt RowKit Sl Cop pool1 pool2 pool5 pool9 clone page vault1 vault2 vault6 counts items copyP copyB blob3 blob4 apart1 ref1 ref2 ref3 ref4 rsettle rmake
set_option maxRecDepth 100000 in
set_option maxHeartbeats 4000000 in
theorem rstore_bad (r : Nat) (kv vv : Value) (hp : Hp) (K V : List Int) (hK : Bytes hp kv K) (hV : Bytes hp vv V) (hk : K.length < 1 ∨ 24 < K.length ∨ 3840 < V.length) (w : World) :
 Calls Tryz.prog 127 #[.pointer (some ⟨r, 0, none⟩), kv, vv] w fun e w' => e = .returned (.tuple #[zeroItem, .int .i64 (if K.length < 1 ∨ 24 < K.length then 7 else 8)]) ∧ Only w w' := by
 obtain ⟨ak, ck, rfl⟩ := bytes_shape hK
 obtain ⟨av, cv, rfl⟩ := bytes_shape hV
 have h1 := (sat_emp w).alloc (itemC (.slice none 0 0) (.slice none 0 0) 0 0)
 have HO := Lib.hid ((Only.refl w).alloc (itemC (.slice none 0 0) (.slice none 0 0) 0 0))
 have H1 := Lib.hid h1
 clear h1 hK hV
 have hkk : K.length < 1 ∨ (1 ≤ K.length ∧ 24 < K.length) ∨ ((1 ≤ K.length ∧ K.length ≤ 24) ∧ 3840 < V.length) := by omega
 rcases hkk with hk | hk | hk
 · rw [if_pos (by omega)]
   have hd : decide ((K.length : Int) < 1) = true := decide_eq_true (by omega)
   go_enter Tryz.func127, Tryz.ntmps127
   go_wp2
   refine bodyPost_ret (results_cell_row_tmp rfl _ _ w.heap.size _ rfl (run_loadVar_row _ w.heap.size _ _ _ _ _ H1.out.pts_heap Tryz.underlying58 rfl infoItemS)) rfl ?_
   exact ⟨rfl, HO.out⟩
 · rw [if_pos (by omega)]
   have hd : decide ((24 : Int) < (K.length : Int)) = true := decide_eq_true (by omega)
   go_enter Tryz.func127, Tryz.ntmps127
   go_wp2
   refine bodyPost_ret (results_cell_row_tmp rfl _ _ w.heap.size _ rfl (run_loadVar_row _ w.heap.size _ _ _ _ _ H1.out.pts_heap Tryz.underlying58 rfl infoItemS)) rfl ?_
   exact ⟨rfl, HO.out⟩
 · rw [if_neg (by omega)]
   have hd : decide ((3840 : Int) < (V.length : Int)) = true := decide_eq_true (by omega)
   go_enter Tryz.func127, Tryz.ntmps127
   go_wp2
   refine bodyPost_ret (results_cell_row_tmp rfl _ _ w.heap.size _ rfl (run_loadVar_row _ w.heap.size _ _ _ _ _ H1.out.pts_heap Tryz.underlying58 rfl infoItemS)) rfl ?_
   exact ⟨rfl, HO.out⟩
set_option maxRecDepth 100000 in
set_option maxHeartbeats 4000000 in
theorem rstore_short (r : Nat) (kv vv : Value) (hp : Hp) (K V : List Int) (hK : Bytes hp kv K) (hV : Bytes hp vv V) (hk : 1 ≤ K.length ∧ K.length ≤ 24) (hv : V.length ≤ 32) (F : Pr) (w : World) (hF : Sat ((Pr.own hp).star F) w) :
 Calls Tryz.prog 127 #[.pointer (some ⟨r, 0, none⟩), kv, vv] w fun e w' => Stays w w' ∧ ∃ kv' vv' h', e = .returned (.tuple #[itemV kv' vv' 0 V.length, .int .i64 0]) ∧ Bytes h' kv' K ∧ Bytes h' vv' V ∧
  Sat ((Pr.own h').star ((Pr.own hp).star F)) w' := by
 obtain ⟨ak, ck, rfl⟩ := bytes_shape hK
 obtain ⟨av, cv, rfl⟩ := bytes_shape hV
 have h1 := (hF.alloc (itemC (.slice none 0 0) (.slice none 0 0) 0 0)).perm (B := (Pr.own hp).star ((Pr.pts w.heap.size (itemC (.slice none 0 0) (.slice none 0 0) 0 0)).star F)) (by ac_rfl)
 have CB := Lib.hid (copybytes_any hp _ K _ _ h1 hK (by omega))
 have PG := fun w => rpages_any (V.length : Int) (by omega) w
 have e0 : pagesOf V.length = 0 := by rw [pagesOf_eq]; unfold pagesV; rw [if_pos hv]; rfl
 rw [e0] at PG
 have HPG := Lib.hid PG
 have HV := Lib.hid hV
 have HST := Lib.hid ((Stays.refl w).alloc (itemC (.slice none 0 0) (.slice none 0 0) 0 0))
 clear h1 hF hK hV PG e0
 go_enter Tryz.func127, Tryz.ntmps127
 go_wp2_with fail
 refine CB.out.mono ?_
 rintro e w1 ⟨v1, rfl, hs1, st1⟩
 obtain ⟨a1, c1, e1, _, _⟩ := Row.read hs1
 subst e1
 have hs2 := (hs1.alloc (itemC (.slice a1 K.length c1) (.slice none 0 0) 0 V.length)).perm (B := (Pr.own hp).star ((Pr.pts w1.heap.size (itemC (.slice a1 K.length c1) (.slice none 0 0) 0 V.length)).star ((Pr.pts w.heap.size (itemC (.slice none 0 0) (.slice none 0 0) 0 0)).star ((BytesRow (.slice a1 K.length c1) K).star F)))) (by ac_rfl)
 have HS2 := Lib.hid hs2
 have PG1 := Lib.hid (HPG.out (w1.alloc (itemC (.slice a1 K.length c1) (.slice none 0 0) 0 V.length)))
 have HST2 := Lib.hid ((HST.out.trans st1).alloc (itemC (.slice a1 K.length c1) (.slice none 0 0) 0 V.length))
 clear hs1 hs2 st1 CB HST HPG
 go_wp2_with fail
 refine PG1.out.mono ?_
 rintro e w2 ⟨rfl, rfl⟩
 have CB2 := Lib.hid (copybytes_any hp _ V _ _ HS2.out HV.out (by omega))
 clear PG1
 go_wp2_with fail
 refine CB2.out.mono ?_
 rintro e w3 ⟨v2, rfl, hs3, st3⟩
 obtain ⟨a2, c2, e2, _, _⟩ := Row.read hs3
 subst e2
 have hs4 : Sat ((Pr.pts w1.heap.size (itemC (.slice a1 K.length c1) (.slice none 0 0) 0 V.length)).star ((Pr.pts w.heap.size (itemC (.slice none 0 0) (.slice none 0 0) 0 0)).star ((BytesRow (.slice a1 K.length c1) K).star ((BytesRow (.slice a2 V.length c2) V).star ((Pr.own hp).star F))))) w3 := hs3.perm (by ac_rfl)
 obtain ⟨q0, q1, q2, q3, ⟨f0, f1, f2, f3⟩, z0⟩ := pts4 hs4
 obtain ⟨p0, p1, p2, p3, ⟨g0, g1, g2, g3⟩, z1⟩ := pts4 hs4.right
 have hne := hs4.pts_ne
 have hs5 : Sat ((Pr.pts w1.heap.size (itemC (.slice a1 K.length c1) (.slice a2 V.length c2) 0 V.length)).star ((Pr.pts w.heap.size (itemC (.slice none 0 0) (.slice none 0 0) 0 0)).star ((BytesRow (.slice a1 K.length c1) K).star ((BytesRow (.slice a2 V.length c2) V).star ((Pr.own hp).star F))))) (w3.setCell ⟨w1.heap.size, 1, none⟩ (.slice a2 V.length c2)) := hs4.setCell (i := 1) (.slice a2 V.length c2)
 have hs6 : Sat ((Pr.pts w.heap.size (itemC (.slice none 0 0) (.slice none 0 0) 0 0)).star ((Pr.pts w1.heap.size (itemC (.slice a1 K.length c1) (.slice a2 V.length c2) 0 V.length)).star ((BytesRow (.slice a1 K.length c1) K).star ((BytesRow (.slice a2 V.length c2) V).star ((Pr.own hp).star F))))) (w3.setCell ⟨w1.heap.size, 1, none⟩ (.slice a2 V.length c2)) := hs5.perm (by ac_rfl)
 have hs7 : Sat ((Pr.pts w.heap.size (itemC (.slice a1 K.length c1) (.slice a2 V.length c2) 0 V.length)).star ((Pr.pts w1.heap.size (itemC (.slice a1 K.length c1) (.slice a2 V.length c2) 0 V.length)).star ((BytesRow (.slice a1 K.length c1) K).star ((BytesRow (.slice a2 V.length c2) V).star ((Pr.own hp).star F))))) _ := (((hs6.setCell (i := 0) (.slice a1 K.length c1)).setCell (i := 1) (.slice a2 V.length c2)).setCell (i := 2) (.int .i64 0)).setCell (i := 3) (.int .i64 V.length)
 have HS7 := Lib.hid hs7
 have HST3 := Lib.hid (((((HST2.out.trans st3).setCell ⟨w1.heap.size, 1, none⟩ (.slice a2 V.length c2)).setCell ⟨w.heap.size, 0, none⟩ (.slice a1 K.length c1)).setCell ⟨w.heap.size, 1, none⟩ (.slice a2 V.length c2)).setCell ⟨w.heap.size, 2, none⟩ (.int .i64 0) |>.setCell ⟨w.heap.size, 3, none⟩ (.int .i64 V.length))
 clear hs3 hs4 hs5 hs6 hs7 st3 CB2 HST2 HS2
 go_wp2
 refine bodyPost_ret (results_cell_row_tmp rfl _ _ w.heap.size _ rfl (run_loadVar_row _ w.heap.size _ _ _ _ _ HS7.out.pts_heap Tryz.underlying58 rfl infoItemS)) rfl ?_
 have hs8 := (HS7.out.right.right)
 rw [← Pr.star_assoc] at hs8
 obtain ⟨h', hq, hs9⟩ := hs8.toOwn
 obtain ⟨a, b, ha, hb, s1, s2⟩ := star_sub hq
 exact ⟨HST3.out, _, _, h', rfl, (Row.rowIn ha).sub s1, (Row.rowIn hb).sub s2, hs9⟩
theorem check_blob {d : List Int} {c : Int} (hd : 1 ≤ d.length ∧ d.length ≤ 480) (hc : c = 0 ∨ 1 ≤ c ∧ c ≤ 65536) : checkP (blobV d c) = 0 := by
 unfold checkP
 have h1 : Go.Cop.kindOk 3 = true := by decide
 have h2 : Go.Cop.formP 3 0 0 d.length c = true := by
  unfold Go.Cop.formP
  simp
  omega
 have h3 : nextOk c = true := by
  unfold nextOk Go.Cop.isPg
  rcases hc with rfl | hc
  · rfl
  · simp; omega
 dsimp only
 rw [h1, if_neg (by decide)]
 rw [show ([] : List ItemV).length = 0 from rfl, h2, if_neg (by decide), h3]
 rfl
theorem did_pok {s : PoolS} (h : PoolOk s) {n b : Int} (h0 : 0 ≤ s.count n + b) (h1 : s.count n + b ≤ 65536) (hm : s.floor + s.acts.length < 1099511627776) : PoolOk (s.did n b) := by
 have := turn_ok h h0 h1
 refine ⟨this.n1, this.n2, this.len, this.r1, this.r2, this.cs, this.fl, ?_⟩
 show s.floor + ((s.acts ++ [(n, b)]).length : Nat) ≤ _
 rw [List.length_append]
 simp only [List.length_singleton]
 omega
end Go.Proofs.YtbobcmimkonnoaaGreat.rstore
namespace Go.Proofs.YtbobcmimkonnoaaGreat.rstore2
open ChangeShapes WideShapes ChangeAt RowKit Sl Cop pool1 pool2 pool5 pool9 clone page vault1 vault2 vault6 counts items copyP copyB blob1 blob3 blob4 apart1 ref1 ref2 ref3 ref4 rsettle rmake rstore
theorem chunk_eq (V : List Int) (j E : Nat) (h : 480 * j < E ∧ E ≤ 480 * j + 480 ∧ E ≤ V.length) (he : E = V.length ∨ E = 480 * (j + 1)) : (chunk V j).length = E - 480 * j ∧ chunk V j = (V.drop (480 * j)).take (E - 480 * j) := by
 have e : (chunk V j).length = E - 480 * j := by rw [chunk_len]; omega
 refine ⟨e, ?_⟩
 unfold chunk
 rw [List.take_eq_take_iff, List.length_drop]
 omega
abbrev item0 : Obj := itemC (.slice none 0 0) (.slice none 0 0) 0 0
set_option maxRecDepth 100000 in
set_option maxHeartbeats 2000000 in
theorem rstore_long (r : Nat) (rs : PoolS) (gs : List PageV) (hush : RTail) (hq : hush.q = true) (s : VaultS) (tw : Go.Cop.Twin s rs gs) (okp : PoolOk s.pool) (hm : s.pool.floor + s.pool.acts.length + 8 ≤ 1099511627776)
    (kv vv : Value) (hp : Hp) (K V : List Int) (hK : Bytes hp kv K) (hV : Bytes hp vv V) (hk : 1 ≤ K.length ∧ K.length ≤ 24) (hv : 32 < V.length ∧ V.length ≤ 3840) (F : Pr) (w : World) (hF : Sat ((RefA r rs gs hush).star ((Pr.own hp).star F)) w) :
    Calls Tryz.prog 127 #[.pointer (some ⟨r, 0, none⟩), kv, vv] w fun e w' => Stays w w' ∧
      ((s.pool.many 1 < chunks V ∧ e = .returned (.tuple #[zeroItem, .int .i64 12]) ∧ Sat ((RefA r rs gs hush).star ((Pr.own hp).star F)) w') ∨
       (chunks V ≤ s.pool.many 1 ∧ ∃ kv' c t ns rs' gs' h', e = .returned (.tuple #[itemV kv' (.slice none 0 0) c V.length, .int .i64 0]) ∧ Bytes h' kv' K ∧ Taken s t ns ∧ ChainAt t V (chunks V) 0 c ns ∧ Go.Cop.Twin t rs' gs' ∧
        Sat ((Pr.own h').star ((RefA r rs' gs' hush).star ((Pr.own hp).star F))) w')) := by
  obtain ⟨ak, ck, rfl⟩ := bytes_shape hK
  obtain ⟨_, av, cv, rfl, hcv, hcv2, hcell⟩ := id hV
  obtain ⟨bv, ov, eav, _⟩ := hcell (by omega)
  subst eav
  have h1 := (hF.alloc item0).perm (B := (Pr.own hp).star ((Pr.pts w.heap.size item0).star ((RefA r rs gs hush).star F))) (by ac_rfl)
  have CB := Lib.hid (copybytes_any hp _ K _ _ h1 hK (by omega))
  have PG := fun w => rpages_any (V.length : Int) (by omega) w
  have e0 : pagesOf V.length = (chunks V : Int) := by rw [pagesOf_eq]; unfold pagesV; rw [if_neg (by omega)]
  have hc1 : 1 ≤ chunks V ∧ chunks V ≤ 8 := by unfold chunks; omega
  have hN : V.length ≤ 480 * chunks V ∧ 480 * chunks V < V.length + 480 := by unfold chunks; omega
  rw [e0] at PG
  have HPG := Lib.hid PG
  have HV := Lib.hid hV
  have HST := Lib.hid ((Stays.refl w).alloc item0)
  have TW := Lib.hid tw
  have OKP := Lib.hid okp
  have HM := Lib.hid hm
  clear h1 hF hK hV PG e0 hcell tw okp hm
  go_enter Tryz.func127, Tryz.ntmps127
  go_wp2_with fail
  refine CB.out.mono ?_
  rintro e w1 ⟨v1, rfl, hs1, st1⟩
  obtain ⟨a1, c1, e1, _, _⟩ := Row.read hs1
  subst e1
  have hs2 := (hs1.alloc (itemC (.slice a1 K.length c1) (.slice none 0 0) 0 V.length)).perm (B := (RefA r rs gs hush).star ((Pr.pts w1.heap.size (itemC (.slice a1 K.length c1) (.slice none 0 0) 0 V.length)).star ((Pr.pts w.heap.size item0).star ((BytesRow (.slice a1 K.length c1) K).star ((Pr.own hp).star F))))) (by ac_rfl)
  have HS2 := Lib.hid hs2
  have PG1 := Lib.hid (HPG.out (w1.alloc (itemC (.slice a1 K.length c1) (.slice none 0 0) 0 V.length)))
  have HST2 := Lib.hid ((HST.out.trans st1).alloc (itemC (.slice a1 K.length c1) (.slice none 0 0) 0 V.length))
  clear hs1 hs2 st1 CB HST HPG
  go_wp2_with fail
  refine PG1.out.mono ?_
  rintro e w2 ⟨rfl, ew2⟩
  have TL := rtally_any r rs gs hush 1 _ _ HS2.out
  rw [tally_many (by rw [TW.out.ls, TW.out.cs]; exact OKP.out.len), many_eq TW.out.cs TW.out.ls] at TL
  have HS3 := Lib.hid (ew2 ▸ HS2.out)
  have HST3 := Lib.hid (ew2 ▸ HST2.out)
  rw [ew2] at TL
  have HTL := Lib.hid TL
  have hz1 : w1.heap.size < w2.heap.size := by rw [← ew2]; simp
  have HEW := Lib.hid ew2
  clear PG1 HS2 HST2 TL ew2
  generalize w1.heap.size = I at *
  clear HEW
  generalize hmm : s.pool.many 1 = mm at *
  have hch : (chunks V == 0) = false := beq_eq_false_iff_ne.2 (by omega)
  go_wp2_with fail
  refine HTL.out.mono ?_
  rintro e w3 ⟨rfl, rfl⟩
  by_cases hroom : mm < chunks V
  · have hd : decide ((mm : Int) < (chunks V : Int)) = true := decide_eq_true (by omega)
    have hs4 := HS3.out.perm (B := (Pr.pts w.heap.size item0).star ((Pr.pts I (itemC (.slice a1 K.length c1) (.slice none 0 0) 0 V.length)).star ((BytesRow (.slice a1 K.length c1) K).star ((RefA r rs gs hush).star ((Pr.own hp).star F))))) (by ac_rfl)
    obtain ⟨p0, p1, p2, p3, ⟨g0, g1, g2, g3⟩, z1⟩ := pts4 hs4
    have hs5 : Sat ((Pr.pts w.heap.size item0).star ((Pr.pts I (itemC (.slice a1 K.length c1) (.slice none 0 0) 0 V.length)).star ((BytesRow (.slice a1 K.length c1) K).star ((RefA r rs gs hush).star ((Pr.own hp).star F))))) _ := (((hs4.setCell (i := 0) (.slice none 0 0)).setCell (i := 1) (.slice none 0 0)).setCell (i := 2) (.int .i64 0)).setCell (i := 3) (.int .i64 0)
    have HS5 := Lib.hid hs5
    have HST4 := Lib.hid ((((HST3.out.setCell ⟨w.heap.size, 0, none⟩ (.slice none 0 0)).setCell ⟨w.heap.size, 1, none⟩ (.slice none 0 0)).setCell ⟨w.heap.size, 2, none⟩ (.int .i64 0)).setCell ⟨w.heap.size, 3, none⟩ (.int .i64 0))
    clear hs4 hs5 HS3 HST3 HTL
    go_wp2
    refine bodyPost_ret (results_cell_row_tmp rfl _ _ w.heap.size _ rfl (run_loadVar_row _ w.heap.size _ _ _ _ _ HS5.out.pts_heap Tryz.underlying58 rfl Go.Proofs.YtbobcmimkonnoaaGreat.copyP.infoItemS)) rfl ?_
    exact ⟨HST4.out, .inl ⟨by rw [hmm]; exact hroom, rfl, HS5.out.right.right.right⟩⟩
  · have hd : decide ((mm : Int) < (chunks V : Int)) = false := decide_eq_false (by omega)
    have HMM := Lib.hid hmm
    clear hmm HTL
    go_wp2
    go_loopw [10, 11] (fun x k wr => ∃ (j : Nat) (c : Int) (t : VaultS) (ns : List Int) (rs' : PoolS) (gs' : List PageV), j ≤ chunks V ∧ x = .int .i64 c ∧ k = .int .i64 ((j : Int) - 1) ∧ Stays w wr ∧ Taken s t ns ∧ ChainAt t V (chunks V - j) j c ns ∧ Go.Cop.Twin t rs' gs' ∧ PoolOk t.pool ∧
      Sat ((RefA r rs' gs' hush).star ((Pr.pts I (itemC (.slice a1 K.length c1) (.slice none 0 0) 0 V.length)).star ((Pr.pts w.heap.size item0).star ((BytesRow (.slice a1 K.length c1) K).star ((Pr.own hp).star F))))) wr) (fun _ k _ => (intOf k + 1).toNat)
    case atStart =>
      refine ⟨chunks V, 0, s, [], rs, gs, Nat.le_refl _, rfl, rfl, HST3.out, Taken.refl s, ?_, TW.out, OKP.out, HS3.out⟩
      rw [Nat.sub_self]; exact ⟨rfl, rfl⟩
    case round =>
      obtain ⟨j, c, t, ns, rs', gs', hj, rfl, rfl, hst, ht, hch, htw, hok, hinv⟩ := hrel
      cases j with
      | zero =>
        rw [Nat.sub_zero] at hch
        have hs4 : Sat ((Pr.pts I (itemC (.slice a1 K.length c1) (.slice none 0 0) 0 V.length)).star ((Pr.pts w.heap.size item0).star ((BytesRow (.slice a1 K.length c1) K).star ((RefA r rs' gs' hush).star ((Pr.own hp).star F))))) wr := hinv.perm (by ac_rfl)
        obtain ⟨q0, q1, q2, q3, ⟨f0, f1, f2, f3⟩, z0⟩ := pts4 hs4
        obtain ⟨p0, p1, p2, p3, ⟨g0, g1, g2, g3⟩, z1⟩ := pts4 hs4.right
        have hne := hs4.pts_ne
        have hs5 : Sat ((Pr.pts I (itemC (.slice a1 K.length c1) (.slice none 0 0) c V.length)).star ((Pr.pts w.heap.size item0).star ((BytesRow (.slice a1 K.length c1) K).star ((RefA r rs' gs' hush).star ((Pr.own hp).star F))))) (wr.setCell ⟨I, 2, none⟩ (.int .i64 c)) := hs4.setCell (i := 2) (.int .i64 c)
        have hs6 : Sat ((Pr.pts w.heap.size item0).star ((Pr.pts I (itemC (.slice a1 K.length c1) (.slice none 0 0) c V.length)).star ((BytesRow (.slice a1 K.length c1) K).star ((RefA r rs' gs' hush).star ((Pr.own hp).star F))))) (wr.setCell ⟨I, 2, none⟩ (.int .i64 c)) := hs5.perm (by ac_rfl)
        have hs7 : Sat ((Pr.pts w.heap.size (itemC (.slice a1 K.length c1) (.slice none 0 0) c V.length)).star ((Pr.pts I (itemC (.slice a1 K.length c1) (.slice none 0 0) c V.length)).star ((BytesRow (.slice a1 K.length c1) K).star ((RefA r rs' gs' hush).star ((Pr.own hp).star F))))) _ := (((hs6.setCell (i := 0) (.slice a1 K.length c1)).setCell (i := 1) (.slice none 0 0)).setCell (i := 2) (.int .i64 c)).setCell (i := 3) (.int .i64 V.length)
        have HS7 := Lib.hid hs7
        have HST4 := Lib.hid (((((hst.setCell ⟨I, 2, none⟩ (.int .i64 c)).setCell ⟨w.heap.size, 0, none⟩ (.slice a1 K.length c1)).setCell ⟨w.heap.size, 1, none⟩ (.slice none 0 0)).setCell ⟨w.heap.size, 2, none⟩ (.int .i64 c)).setCell ⟨w.heap.size, 3, none⟩ (.int .i64 V.length))
        have HEND := Lib.hid (And.intro ht (And.intro hch htw))
        clear hinv hs4 hs5 hs6 hs7 hst ht hch htw hok HS3 HST3
        go_wp2
        refine bodyPost_ret (results_cell_row_tmp rfl _ _ w.heap.size _ rfl (run_loadVar_row _ w.heap.size _ _ _ _ _ HS7.out.pts_heap Tryz.underlying58 rfl Go.Proofs.YtbobcmimkonnoaaGreat.copyP.infoItemS)) rfl ?_
        obtain ⟨h', e1, e2⟩ := toArena (Q := fun x => Bytes x (.slice a1 K.length c1) K) (HS7.out.right.right) (fun x hx => Row.rowIn hx)
        exact ⟨HST4.out, .inr ⟨by rw [HMM.out]; omega, _, c, t, ns, rs', gs', h', rfl, e1, HEND.out.1, HEND.out.2.1, HEND.out.2.2, e2⟩⟩
      | succ j =>
        rcases Nat.lt_or_ge V.length (480 * (j + 1)) with hlt | hge
        · have hE1 : 480 * j < V.length ∧ V.length ≤ 480 * j + 480 ∧ V.length ≤ V.length := by omega
          obtain ⟨hcl, hce⟩ := chunk_eq V j V.length hE1 (by omega)
          have hcv3 : V.length ≤ cv := hcv
          have hsub : Bytes hp (.slice (some ⟨bv, ov + 480 * j, none⟩) (V.length - 480 * j) (cv - 480 * j)) (chunk V j) := by
            show RowIn _ _ _ (chunk V j).length _
            rw [hcl, hce]
            exact bytes_sub HV.out (by omega) hE1.2.2
          have CB := Lib.hid (copybytes_any hp _ (chunk V j) _ _ (hinv.perm (B := (Pr.own hp).star ((RefA r rs' gs' hush).star ((Pr.pts I (itemC (.slice a1 K.length c1) (.slice none 0 0) 0 V.length)).star ((Pr.pts w.heap.size item0).star ((BytesRow (.slice a1 K.length c1) K).star F))))) (by ac_rfl)) hsub (by omega))
          have HJ := Lib.hid hch
          have HT := Lib.hid ht
          have HTW := Lib.hid htw
          have HOK := Lib.hid hok
          have HS := Lib.hid hst
          have hd2' : (V.length : Int) < ((j : Int) + 1) * 480 ↔ True := by constructor <;> intro <;> first | trivial | omega
          have hnx := chain_next hch
          have hck : checkP (blobV (chunk V j) c) = 0 := check_blob (by omega) hnx
          have HCK := Lib.hid hck
          have HNL := Lib.hid (And.intro (Go.Cop.chain_len hch) ht.many)
          have HPA := Lib.hid (And.intro ht.pf ht.pa)
          clear hinv hch ht htw hok hst hsub hce hck hnx hcl
          rw [show ((j + 1 : Nat) : Int) - 1 = (j : Int) by omega]
          go_wp2_with fail
          rw [Nat.mul_comm j 480]
          refine CB.out.mono ?_
          rintro e w5 ⟨v2, rfl, hs5, st5⟩
          obtain ⟨a2, c2, e2, _, _⟩ := Row.read hs5
          subst e2
          obtain ⟨hc, e1, hs6⟩ := toArena (Q := fun x => Bytes x (.slice a2 (chunk V j).length c2) (chunk V j)) hs5 (fun x hx => Row.rowIn hx)
          have hpg : PageIn hc (.agg #[.int .i64 3, .int .i64 0, .slice none 0 0, .slice a2 (chunk V j).length c2, .int .i64 c]) (blobV (chunk V j) c) := ⟨_, _, rfl, items_mk (Nat.zero_le _), e1⟩
          have RM := rmake_any r rs' gs' hush hq hc _ _ hpg _ _ (hs6.perm (B := (RefA r rs' gs' hush).star ((Pr.own hc).star ((Pr.pts I (itemC (.slice a1 K.length c1) (.slice none 0 0) 0 V.length)).star ((Pr.pts w.heap.size item0).star ((BytesRow (.slice a1 K.length c1) K).star ((Pr.own hp).star F)))))) (by ac_rfl))
          rw [HCK.out] at RM
          have HRM := Lib.hid RM
          have HS5 := Lib.hid (HS.out.trans st5)
          clear hs5 hs6 e1 hpg RM CB st5 HS
          go_wp2_with fail
          refine HRM.out.mono ?_
          rintro e w6 ⟨st6, (⟨he, _⟩ | ⟨_, hno, _⟩ | ⟨_, n, hn, hle, rfl, hs7⟩)⟩
          · exact absurd rfl he
          · exfalso
            obtain ⟨x1, x2⟩ := HNL.out
            have h0 : t.pool.many 1 = 0 := many_of_none HOK.out fun n => by rw [← HTW.out.state]; exact hno n
            have x3 := HMM.out
            omega
          · have hn2 : t.pool.state n = 1 := by rw [← HTW.out.state]; exact hn
            have hle2 : ∀ m, t.pool.state m = 1 → n ≤ m := fun m hm => hle m (by rw [HTW.out.state]; exact hm)
            have hnb : 1 ≤ n ∧ n ≤ 65536 := by
              have x1 := there_of_state (by omega : t.pool.state n ≠ 0)
              have x2 := HOK.out.n2
              exact ⟨x1.1, by have := x1.2; omega⟩
            have hfit : Fit (blobV (chunk V j) c) := fit_of_check HCK.out
            have T2 := HT.out.step HOK.out hn2 hle2 (blobV (chunk V j) c)
            have W2 := HTW.out.make HOK.out hn2 hfit
            have C2 := chain_make HOK.out HJ.out (chain_counts HJ.out) hn2 hnb
            rw [show chunks V - (j + 1) + 1 = chunks V - j by omega] at C2
            have OK2 : PoolOk (t.make n (blobV (chunk V j) c)).pool := by
              refine did_pok HOK.out (n := n) (b := 1) ?_ ?_ ?_
              · rw [count_of_free HOK.out hn2]; omega
              · rw [count_of_free HOK.out hn2]; omega
              · have x1 := HPA.out.1
                have x2 := HPA.out.2
                have x3 := HNL.out.1
                have x4 := HM.out
                omega
            have HREL := Lib.hid (And.intro T2 (And.intro C2 (And.intro W2 OK2)))
            have HS7 := Lib.hid hs7
            have HS6 := Lib.hid (HS5.out.trans st6)
            clear T2 C2 W2 OK2 hs7 st6 HS5 hn hle hn2 hle2 hfit hnb HT HTW HOK HJ HRM HNL HPA HCK
            go_wp2
            go_roundw
            case rel =>
              refine ⟨j, n, _, _, _, _, by omega, rfl, rfl, HS6.out, HREL.out.1, HREL.out.2.1, HREL.out.2.2.1, HREL.out.2.2.2, ?_⟩
              exact (HS7.out.perm (B := (Pr.own hc).star ((RefA r { rs' with counts := rs'.counts.set (n.toNat - 1) 1 } (gs'.set (n.toNat - 1) (blobV (chunk V j) c)) hush).star ((Pr.pts I (itemC (.slice a1 K.length c1) (.slice none 0 0) 0 V.length)).star ((Pr.pts w.heap.size item0).star ((BytesRow (.slice a1 K.length c1) K).star ((Pr.own hp).star F)))))) (by ac_rfl)).right
            case measure => simp [intOf]
        · have hE1 : 480 * j < (480 * (j + 1)) ∧ (480 * (j + 1)) ≤ 480 * j + 480 ∧ (480 * (j + 1)) ≤ V.length := by omega
          obtain ⟨hcl, hce⟩ := chunk_eq V j (480 * (j + 1)) hE1 (by omega)
          have hcv3 : V.length ≤ cv := hcv
          have hsub : Bytes hp (.slice (some ⟨bv, ov + 480 * j, none⟩) ((480 * (j + 1)) - 480 * j) (cv - 480 * j)) (chunk V j) := by
            show RowIn _ _ _ (chunk V j).length _
            rw [hcl, hce]
            exact bytes_sub HV.out (by omega) hE1.2.2
          have CB := Lib.hid (copybytes_any hp _ (chunk V j) _ _ (hinv.perm (B := (Pr.own hp).star ((RefA r rs' gs' hush).star ((Pr.pts I (itemC (.slice a1 K.length c1) (.slice none 0 0) 0 V.length)).star ((Pr.pts w.heap.size item0).star ((BytesRow (.slice a1 K.length c1) K).star F))))) (by ac_rfl)) hsub (by omega))
          have HJ := Lib.hid hch
          have HT := Lib.hid ht
          have HTW := Lib.hid htw
          have HOK := Lib.hid hok
          have HS := Lib.hid hst
          have hd2' : (V.length : Int) < ((j : Int) + 1) * 480 ↔ False := by constructor <;> intro <;> first | trivial | omega
          have hnx := chain_next hch
          have hck : checkP (blobV (chunk V j) c) = 0 := check_blob (by omega) hnx
          have HCK := Lib.hid hck
          have HNL := Lib.hid (And.intro (Go.Cop.chain_len hch) ht.many)
          have HPA := Lib.hid (And.intro ht.pf ht.pa)
          clear hinv hch ht htw hok hst hsub hce hck hnx hcl
          rw [show ((j + 1 : Nat) : Int) - 1 = (j : Int) by omega]
          go_wp2_with fail
          rw [Nat.mul_comm j 480, Nat.mul_comm (j + 1) 480]
          refine CB.out.mono ?_
          rintro e w5 ⟨v2, rfl, hs5, st5⟩
          obtain ⟨a2, c2, e2, _, _⟩ := Row.read hs5
          subst e2
          obtain ⟨hc, e1, hs6⟩ := toArena (Q := fun x => Bytes x (.slice a2 (chunk V j).length c2) (chunk V j)) hs5 (fun x hx => Row.rowIn hx)
          have hpg : PageIn hc (.agg #[.int .i64 3, .int .i64 0, .slice none 0 0, .slice a2 (chunk V j).length c2, .int .i64 c]) (blobV (chunk V j) c) := ⟨_, _, rfl, items_mk (Nat.zero_le _), e1⟩
          have RM := rmake_any r rs' gs' hush hq hc _ _ hpg _ _ (hs6.perm (B := (RefA r rs' gs' hush).star ((Pr.own hc).star ((Pr.pts I (itemC (.slice a1 K.length c1) (.slice none 0 0) 0 V.length)).star ((Pr.pts w.heap.size item0).star ((BytesRow (.slice a1 K.length c1) K).star ((Pr.own hp).star F)))))) (by ac_rfl))
          rw [HCK.out] at RM
          have HRM := Lib.hid RM
          have HS5 := Lib.hid (HS.out.trans st5)
          clear hs5 hs6 e1 hpg RM CB st5 HS
          go_wp2_with fail
          refine HRM.out.mono ?_
          rintro e w6 ⟨st6, (⟨he, _⟩ | ⟨_, hno, _⟩ | ⟨_, n, hn, hle, rfl, hs7⟩)⟩
          · exact absurd rfl he
          · exfalso
            obtain ⟨x1, x2⟩ := HNL.out
            have h0 : t.pool.many 1 = 0 := many_of_none HOK.out fun n => by rw [← HTW.out.state]; exact hno n
            have x3 := HMM.out
            omega
          · have hn2 : t.pool.state n = 1 := by rw [← HTW.out.state]; exact hn
            have hle2 : ∀ m, t.pool.state m = 1 → n ≤ m := fun m hm => hle m (by rw [HTW.out.state]; exact hm)
            have hnb : 1 ≤ n ∧ n ≤ 65536 := by
              have x1 := there_of_state (by omega : t.pool.state n ≠ 0)
              have x2 := HOK.out.n2
              exact ⟨x1.1, by have := x1.2; omega⟩
            have hfit : Fit (blobV (chunk V j) c) := fit_of_check HCK.out
            have T2 := HT.out.step HOK.out hn2 hle2 (blobV (chunk V j) c)
            have W2 := HTW.out.make HOK.out hn2 hfit
            have C2 := chain_make HOK.out HJ.out (chain_counts HJ.out) hn2 hnb
            rw [show chunks V - (j + 1) + 1 = chunks V - j by omega] at C2
            have OK2 : PoolOk (t.make n (blobV (chunk V j) c)).pool := by
              refine did_pok HOK.out (n := n) (b := 1) ?_ ?_ ?_
              · rw [count_of_free HOK.out hn2]; omega
              · rw [count_of_free HOK.out hn2]; omega
              · have x1 := HPA.out.1
                have x2 := HPA.out.2
                have x3 := HNL.out.1
                have x4 := HM.out
                omega
            have HREL := Lib.hid (And.intro T2 (And.intro C2 (And.intro W2 OK2)))
            have HS7 := Lib.hid hs7
            have HS6 := Lib.hid (HS5.out.trans st6)
            clear T2 C2 W2 OK2 hs7 st6 HS5 hn hle hn2 hle2 hfit hnb HT HTW HOK HJ HRM HNL HPA HCK
            go_wp2
            go_roundw
            case rel =>
              refine ⟨j, n, _, _, _, _, by omega, rfl, rfl, HS6.out, HREL.out.1, HREL.out.2.1, HREL.out.2.2.1, HREL.out.2.2.2, ?_⟩
              exact (HS7.out.perm (B := (Pr.own hc).star ((RefA r { rs' with counts := rs'.counts.set (n.toNat - 1) 1 } (gs'.set (n.toNat - 1) (blobV (chunk V j) c)) hush).star ((Pr.pts I (itemC (.slice a1 K.length c1) (.slice none 0 0) 0 V.length)).star ((Pr.pts w.heap.size item0).star ((BytesRow (.slice a1 K.length c1) K).star ((Pr.own hp).star F)))))) (by ac_rfl)).right
            case measure => simp [intOf]
end Go.Proofs.YtbobcmimkonnoaaGreat.rstore2
