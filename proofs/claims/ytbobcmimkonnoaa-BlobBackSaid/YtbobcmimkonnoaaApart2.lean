/- The law BlobApart, walked; the conditions stand as hypotheses. -/
import Derived.Test.YtbobcmimkonnoaaApart1
import Derived.Test.YtbobcmimkonnoaaClose
namespace Go.Proofs.Ytbobcmimkonnoaa.apart2
open Go.ChangeShapes Go.WideShapes Go.ChangeAt Go.RowKit Go.Sl Go.Cop Go.Proofs.Ytbobcmimkonnoaa.pool1 Go.Proofs.Ytbobcmimkonnoaa.pool2 Go.Proofs.Ytbobcmimkonnoaa.pool5 Go.Proofs.Ytbobcmimkonnoaa.pool9 Go.Proofs.Ytbobcmimkonnoaa.clone Go.Proofs.Ytbobcmimkonnoaa.page Go.Proofs.Ytbobcmimkonnoaa.vault1 Go.Proofs.Ytbobcmimkonnoaa.vault2 Go.Proofs.Ytbobcmimkonnoaa.vault3 Go.Proofs.Ytbobcmimkonnoaa.vault4 Go.Proofs.Ytbobcmimkonnoaa.vault5 Go.Proofs.Ytbobcmimkonnoaa.vault6 Go.Proofs.Ytbobcmimkonnoaa.vault8 Go.Proofs.Ytbobcmimkonnoaa.blob1 Go.Proofs.Ytbobcmimkonnoaa.blob2 Go.Proofs.Ytbobcmimkonnoaa.blob3 Go.Proofs.Ytbobcmimkonnoaa.blob4 Go.Proofs.Ytbobcmimkonnoaa.blob5 Go.Proofs.Ytbobcmimkonnoaa.eqb Go.Proofs.Ytbobcmimkonnoaa.apart1 Go.Proofs.Ytbobcmimkonnoaa.close

/-- What has been stored: the item's parts, the value, and where it came from. -/
structure It where
  kv : Value
  vv : Value
  c : Int
  V : List Int
  tv : Value
def It.cells (x : It) : List Value := [x.kv, x.vv, .int .i64 x.c, .int .i64 x.V.length]
def took (l : List It) : Nat := (l.map fun x => pagesV x.V).sum
theorem took_snoc (l : List It) (x : It) : took (l ++ [x]) = took l + pagesV x.V := by simp [took]

theorem it_at (l : List It) (k j : Nat) (hk : k < l.length) (hj : j < 4) : (l.flatMap It.cells)[k * 4 + j]? = l[k].cells[j]? := by
  induction l generalizing k with
  | nil => simp at hk
  | cons x l ih =>
    have hx : x.cells.length = 4 := rfl
    cases k with
    | zero => simp only [List.flatMap_cons, Nat.zero_mul, Nat.zero_add, List.getElem_cons_zero]; rw [List.getElem?_append_left (by omega)]
    | succ k =>
      simp only [List.flatMap_cons, List.getElem_cons_succ]
      rw [List.getElem?_append_right (by omega), hx, show (k + 1) * 4 + j - 4 = k * 4 + j by omega]
      exact ih k (by simpa using hk)

/-- So far. -/
structure So (h0 : Hp) (pages k : Nat) (s : VaultS) (hA : Hp) (its : List It) : Prop where
  bare : Bare s
  pf : s.pool.floor = 0
  vf : s.floor = 0
  pa : s.pool.acts.length ≤ 8 * k
  va : s.acts.length ≤ 8 * k
  il : its.length ≤ k
  many : s.pool.many 1 + took its = pages
  st : ∀ x ∈ its, StoredAt s hA x.kv x.vv x.c x.V ∧ Bytes h0 x.tv x.V ∧ IsSl x.tv

theorem newV_bare (refs : Int) (n : Nat) : Bare (newV refs n) := fun _ _ => rfl
theorem newV_many (refs : Int) (n : Nat) : (newV refs n).pool.many 1 = n := by
  have h : ∀ m : Nat, (List.filter (fun x : Int × Bool => stateOf x.1 x.2 == 1) ((List.replicate m (0 : Int)).zip (lastsOf (List.replicate m (0 : Int))))).length = m := by
    intro m
    induction m with
    | zero => rfl
    | succ m ih =>
      simp only [List.replicate_succ, lastsOf, List.map_cons, List.zip_cons_cons, List.filter_cons] at ih ⊢
      rw [if_pos (by decide)]
      simp only [List.length_cons, ih]
  exact h n

theorem slice_to (a : Option Addr) (len cap n : Nat) (hn : n ≤ cap) (w : World) : (Instr.sliceAt 25 (.slice a len cap) none (some (.int .i64 (n : Int))) none).run Try.prog w = .ok (.slice a n cap) w := by
  have h0 : (0 : Int) ≤ (n : Int) := by omega
  have h1 : (n : Int) ≤ (cap : Int) := by omega
  have hu := Try.underlying25
  cases a with
  | none => go_simp
  | some x =>
    by_cases hc : cap = 0
    · subst hc
      obtain rfl : n = 0 := by omega
      go_simp
    · go_simp
theorem wpList_min {ops : Array Oper} {rest : List Oper} {o : Oper} {ac : Act} {Q : Exit → Act → World → Prop} {w : World} (hgd : o.guard = none) (x y : Operand) (hop : o.op = .call { callee := .builtin .min, args := #[x, y], argTypes := #[3, 3] })
    (hty : o.type = 3) (a b n : Int) (hn : n = min a b) (hx : ac.eval x = .int .i64 a) (hy : ac.eval y = .int .i64 b) (hK : wpList Try.prog ops Q rest (ac.put o.dst (.int .i64 n)) w) : wpList Try.prog ops Q (o :: rest) ac w := by
  refine wpList_plain hgd fun K' hK' => ?_
  subst hn
  unfold Oper.wp execOp
  simp only [hop, resolve, invoke, builtin, Sem.run_bind, Sem.run_pure, Result.andThen_ok, List.map_toArray, List.map_cons, List.map_nil, hx, hy, hty]
  by_cases h : b < a
  · have e : min a b = b := by omega
    rw [e] at hK
    go_simp
    exact hK' _ _ hK
  · have e : min a b = a := by omega
    rw [e] at hK
    go_simp
    exact hK' _ _ hK
theorem wpList_slice_to {ops : Array Oper} {rest : List Oper} {o : Oper} {ac : Act} {Q : Exit → Act → World → Prop} {w : World} (hgd : o.guard = none) (x h : Operand) (hop : o.op = Op.slice 25 x none (some h) none) (a : Option Addr) (len cap n : Nat) (hn : n ≤ cap)
    (hx : ac.eval x = .slice a len cap) (hh : ac.eval h = .int .i64 (n : Int)) (hK : wpList Try.prog ops Q rest (ac.put o.dst (.slice a n cap)) w) : wpList Try.prog ops Q (o :: rest) ac w := by
  refine wpList_plain hgd fun K' hK' => ?_
  have hr := slice_to a len cap n hn w
  unfold Oper.wp
  simp [execOp, hop, hx, hh, hr, Result.andThen]
  exact hK' _ _ hK

theorem infoSl : (Try.prog.info? 31).map (fun i => (i.zero, i.size, i.bytes)) = some (some (.slice none 0 0), 1, 24) := by kernel_rfl

set_option maxRecDepth 100000 in
set_option maxHeartbeats 8000000 in
theorem apart_walk (pages : Int) (hr : -9223372036854775808 ≤ pages ∧ pages ≤ 9223372036854775807) (v1 : Value) (vals : List (Value × List Int)) (w : World) (hv1 : RowIn (heapOf w) 1 v1 vals.length (vals.map Prod.fst)) (hvals : ∀ x ∈ vals, Bytes (heapOf w) x.1 x.2) :
    Calls Try.prog 4 #[.int .i64 pages, v1] w fun e w' => e = .returned (.bool true) ∧ Sat (Pr.own (heapOf w)) w' ∧ Stays w w' := by
  obtain ⟨hvl, a1, c1, rfl, hc1, hc2, hcell⟩ := hv1
  have X := Lib.hid (fixed_yes _ w (sat_heap w))
  obtain ⟨n, hn⟩ : ∃ n : Nat, n = min vals.length 200 := ⟨_, rfl⟩
  have hmin : min (vals.length : Int) 200 = (n : Int) := by omega
  have hnc : n ≤ c1 := by omega
  have hn2 : n ≤ 200 := by omega
  have hn3 : n ≤ vals.length := by omega
  have HC := Lib.hid hcell
  have HV := Lib.hid hvals
  clear hcell hvals hvl hc1 hn
  by_cases hp : 1 ≤ pages ∧ pages ≤ 300
  · obtain ⟨pn, rfl⟩ : ∃ pn : Nat, pages = pn := ⟨pages.toNat, by omega⟩
    have hp1 : 1 ≤ pn ∧ pn ≤ 300 := by omega
    clear hp
    go_enter Try.func4, Try.ntmps4
    go_wp2_with (first | refine wpList_min rfl _ _ rfl rfl (vals.length : Int) 200 (n : Int) hmin.symm rfl rfl ?_ | refine wpList_slice_to rfl _ _ rfl a1 vals.length c1 n hnc rfl rfl ?_)
    refine X.out.mono ?_
    rintro e w1 ⟨rfl, hs1, hst1⟩
    have N := Lib.hid (vnew_any pn 2 (by omega) _ w1 hs1)
    clear hs1 X
    go_wp2_with fail
    refine N.out.mono ?_
    rintro e w2 ⟨hst2, v, rfl, h2⟩
    have H2 := Lib.hid h2
    have HST2 := Lib.hid (hst1.trans hst2)
    clear h2 hst1 hst2 N
    go_wp2
    go_loopw [7, 8, 9, 10] (fun it tx tk i wr => ∃ (k : Nat) (s : VaultS) (hA : Hp) (its : List It), k ≤ n ∧ i = .int .i64 k ∧ tk = .int .i64 (took its : Nat) ∧ Stays w wr ∧ So (heapOf w) pn k s hA its ∧
      Sat ((Row 33 4 it its.length (its.flatMap It.cells)).star ((Row 31 1 tx its.length (its.map It.tv)).star ((VaultA v s).star ((Pr.own hA).star (Pr.own (heapOf w)))))) wr) (fun _ _ _ i _ => n - (intOf i).toNat)
    case atStart =>
      refine ⟨0, newV 2 pn, Hp.nil, [], Nat.zero_le _, rfl, rfl, HST2.out, ⟨newV_bare 2 pn, rfl, rfl, Nat.le_refl _, Nat.le_refl _, Nat.le_refl _, by rw [newV_many]; rfl, fun x hx => by cases hx⟩, ?_⟩
      show Sat ((Row _ 4 (.slice none 0 0) 0 []).star ((Row _ 1 (.slice none 0 0) 0 []).star ((VaultA v (newV 2 pn)).star ((Pr.own Hp.nil).star (Pr.own (heapOf w)))))) w2
      rw [Row.nil, Row.nil, Pr.emp_star, Pr.emp_star, own_nil, Pr.emp_star]
      exact H2.out
    case round =>
      obtain ⟨k, s, hA, its, hk, rfl, rfl, hst3, hso, hinv⟩ := hrel
      obtain ⟨a7, c7, e7, _, _⟩ := Row.read hinv
      obtain ⟨a8, c8, e8, _, _⟩ := Row.read (hinv.perm (Pr.left_comm _ _ _))
      subst e7
      subst e8
      rcases Nat.lt_or_ge k n with hlt | hge
      · have hkl : k < vals.length := by omega
        have hle : (heapOf w).le wr := (hinv.right.right.right.perm (Pr.star_comm _ _)).own
        obtain ⟨b1, o1, ea1, hc1⟩ := HC.out (by omega)
        subst ea1
        have hx := HV.out vals[k] (List.getElem_mem hkl)
        generalize hvk : vals[k] = tvV at *
        obtain ⟨tv, V⟩ := tvV
        dsimp only at hx
        obtain ⟨_, at', ct, etv, hct1, hct2, _⟩ := id hx
        subst etv
        have qk : wr.cell? ⟨b1, o1 + k, none⟩ = some (.slice at' V.length ct) := Hp.cell_le hle ((hc1 k (by omega)).trans (by simp [hkl, hvk]))
        have zb := World.block_lt_of_cell? _ _ qk
        have HQK : Hid ((heapOf w).cell b1 (o1 + k) = some (.slice at' V.length ct)) := Lib.hid ((hc1 k (by omega)).trans (by simp [hkl, hvk]))
        have hVm : V.length ≤ 9223372036854775807 := by simp only [maxLen] at hct2; omega
        have hw8 : IntKind.u8.wrap (k : Int) = (k : Int) := by
          simp [IntKind.wrap, IntKind.signed, IntKind.bits]
          omega
        have hk0 := hinv.alloc (.cells #[.int .u8 (k : Int), .int .u8 1] 5)
        have hk1 : Sat ((Pr.pts wr.heap.size (.cells #[.int .u8 (k : Int), .int .u8 1] 5)).star ((Pr.own (heapOf w)).star ((VaultA v s).star ((Row 33 4 (.slice a7 its.length c7) its.length (its.flatMap It.cells)).star ((Row 31 1 (.slice a8 its.length c8) its.length (its.map It.tv)).star (Pr.own hA)))))) _ := hk0.perm (by ac_rfl)
        obtain ⟨hdis, hk2⟩ := Sat.own_join (a := fun j => if j = wr.heap.size then some (.cells #[.int .u8 (k : Int), .int .u8 1] 5) else none) hk1
        obtain ⟨hkb, hkbe⟩ : ∃ hkb : Hp, hkb = fun j => if j = wr.heap.size then some (.cells #[.int .u8 (k : Int), .int .u8 1] 5) else none := ⟨_, rfl⟩
        rw [← hkbe] at hdis hk2
        have hkey : Bytes (hkb.un (heapOf w)) (.slice (some ⟨wr.heap.size, 0, none⟩) 2 2) [(k : Int), 1] := by
          refine ⟨rfl, _, _, rfl, Nat.le_refl _, by simp [maxLen], fun _ => ⟨_, _, rfl, fun i hi => ?_⟩⟩
          have e : (hkb.un (heapOf w)).cell wr.heap.size (0 + i) = hkb.cell wr.heap.size (0 + i) := by
            unfold Hp.cell Hp.un; rw [hkbe]; simp
          rw [e]
          unfold Hp.cell
          rw [hkbe]
          simp only [if_true]
          rw [Nat.zero_add]
          simp at hi ⊢
        obtain ⟨okp, _, _⟩ := vault_ok hk2.right
        have S := store_all v s _ _ (hkb.un (heapOf w)) _ V hkey (hx.sub (Hp.sub_un_right hdis)) (by simp) ((Row 33 4 (.slice a7 its.length c7) its.length (its.flatMap It.cells)).star ((Row 31 1 (.slice a8 its.length c8) its.length (its.map It.tv)).star (Pr.own hA))) _ (hk2.perm (by ac_rfl)) hso.bare (by have := hso.pf; have := hso.pa; omega) (by have := hso.vf; have := hso.va; omega)
        have HS := Lib.hid S
        have HDIS := Lib.hid (And.intro hdis hkbe)
        have HSO := Lib.hid (And.intro hso okp)
        have HX := Lib.hid hx
        have HST3 := Lib.hid (hst3.alloc (.cells #[.int .u8 (k : Int), .int .u8 1] 5))
        have hil : its.length ≤ 200 := by have := hso.il; omega
        clear S hkey hdis hkbe hk0 hk1 hk2 hso hx hst3 hinv okp hle hc1
        go_wp2_with fail
        refine HS.out.mono ?_
        rintro e w3 ⟨hst4, (⟨hV38, kv', vv', c, s', ns, h', rfl, ht, hnl, hstd, h5⟩ | ⟨x, rfl, hxx, h5⟩)⟩
        · obtain ⟨⟨ak, mk, ck, ekv⟩, ⟨av, mv, cv, evv⟩, _⟩ := id hstd
          subst ekv
          subst evv
          obtain ⟨hdis, hkbe⟩ := HDIS.out
          have h6 : Sat ((Pr.own (hkb.un (heapOf w))).star ((Pr.own hA).star ((Pr.own h').star ((VaultA v s').star ((Row 33 4 (.slice a7 its.length c7) its.length (its.flatMap It.cells)).star (Row 31 1 (.slice a8 its.length c8) its.length (its.map It.tv))))))) w3 := h5.perm (by ac_rfl)
          have h7 := Sat.own_split hdis h6
          have h8 : Sat ((Pr.own hA).star ((Pr.own h').star ((VaultA v s').star ((Row 33 4 (.slice a7 its.length c7) its.length (its.flatMap It.cells)).star ((Row 31 1 (.slice a8 its.length c8) its.length (its.map It.tv)).star (Pr.own (heapOf w))))))) w3 := h7.right.perm (by ac_rfl)
          obtain ⟨hdisA, h9⟩ := Sat.own_join h8
          have h10 : Sat ((Row 33 4 (.slice a7 its.length c7) its.length (its.flatMap It.cells)).star ((Row 31 1 (.slice a8 its.length c8) its.length (its.map It.tv)).star ((VaultA v s').star ((Pr.own (hA.un h')).star (Pr.own (heapOf w)))))) w3 := h9.perm (by ac_rfl)
          have hso' : So (heapOf w) pn (k + 1) s' (hA.un h') (its ++ [⟨.slice ak mk ck, .slice av mv cv, c, V, .slice at' V.length ct⟩]) := by
            obtain ⟨so, okp⟩ := HSO.out
            have hc8 : ns.length ≤ 8 := by rw [hnl]; unfold pagesV chunks; split <;> omega
            refine ⟨steps_bare ht.steps so.bare, ht.pf.trans so.pf, ht.vf.trans so.vf, by have := ht.pa; have := so.pa; omega, by have := ht.va; have := so.va; omega, by have := so.il; simp; omega, ?_, ?_⟩
            · rw [took_snoc]
              have := ht.many
              have := so.many
              dsimp only
              omega
            · intro y hy
              rcases List.mem_append.1 hy with hy | hy
              · obtain ⟨y1, y2⟩ := so.st y hy
                exact ⟨(y1.taken okp ht).sub (Hp.sub_un_left _ _), y2⟩
              · rw [List.mem_singleton] at hy
                subst hy
                exact ⟨hstd.sub (Hp.sub_un_right hdisA), HX.out, ⟨_, _, _, rfl⟩⟩
          have htk : took its + pagesV V ≤ 300 := by have := hso'.many; rw [took_snoc] at this; dsimp only at this; omega
          have e1 : (w3.alloc (.cells [.slice ak mk ck, .slice av mv cv, .int .i64 c, .int .i64 V.length].toArray 33)).heap.size = w3.heap.size + 1 := by simp
          have h11 := ((h10.alloc (.cells [.slice ak mk ck, .slice av mv cv, .int .i64 c, .int .i64 V.length].toArray 33)).right.alloc (.cells [.slice ak mk ck, .slice av mv cv, .int .i64 c, .int .i64 V.length].toArray 33)).right
          have hnew := Lib.hid (new_cells (w3.alloc (.cells [.slice ak mk ck, .slice av mv cv, .int .i64 c, .int .i64 V.length].toArray 33)) [.slice ak mk ck, .slice av mv cv, .int .i64 c, .int .i64 V.length] 33 (w3.heap.size + 1) e1.symm)
          have H11 := Lib.hid h11
          have HSO2 := Lib.hid hso'
          have HST4 := Lib.hid (((HST3.out.trans hst4).alloc (.cells [.slice ak mk ck, .slice av mv cv, .int .i64 c, .int .i64 V.length].toArray 33)).alloc (.cells [.slice ak mk ck, .slice av mv cv, .int .i64 c, .int .i64 V.length].toArray 33))
          obtain ⟨i0, hi, hz0, hz1, hz2⟩ := info_parts infoItem
          have HJ := Lib.hid (info_parts infoSl)
          obtain ⟨j0, hj, hy0, hy1, hy2⟩ := HJ.out
          have HLE := Lib.hid (fun (wx : World) (hl : (heapOf w).le wx) => (Hp.cell_le hl HQK.out : wx.cell? ⟨b1, o1 + k, none⟩ = some (.slice at' V.length ct)))
          clear h5 h6 h7 h8 h9 h10 h11 hso' hdis hkbe hdisA HSO HX hstd ht hnl HS HDIS HST3 hst4 qk e1
          go_wp2_with (first
            | (at_builtin
               have t1 := (((HS4.out.alloc (.cells [.slice at' V.length ct].toArray 31)).right).perm (Pr.left_comm _ _ _))
               refine wpList_append_sl rfl _ _ _ rfl 31 j0 (.slice none 0 0) 1 24 Try.underlying25 hj hy0 hy1 hy2 rfl _ _ _ rfl t1 ⟨w4.heap.size, 0, none⟩ 1 1 [.slice at' V.length ct] rfl rfl hn4.out ?_ ?_ ?_ ?_
               · simp [Value.oneCell']
               · simp only [maxLen]
                 omega
               · omega
               intro v8 w5 hs5 hg5 _
               obtain ⟨a8', c8', e8', _, _⟩ := Row.read hs5
               subst e8'
               have q5 := HLE.out w5 (hs5.right.right.right.perm (Pr.star_comm _ _)).own
               have HS5 := Lib.hid hs5
               have HG5 := Lib.hid hg5
               clear hs5 hg5 t1)
            | (at_builtin
               refine wpList_append_sl rfl _ _ _ rfl 33 i0 (.agg #[.slice none 0 0, .slice none 0 0, .int .i64 0, .int .i64 0]) 4 64 Try.underlying30 hi hz0 hz1 hz2 rfl _ _ _ rfl H11.out ⟨w3.heap.size + 1, 0, none⟩ 1 1 [.slice ak mk ck, .slice av mv cv, .int .i64 c, .int .i64 V.length] rfl rfl hnew.out (by simp [Value.oneCell']) (by simp only [maxLen]; omega) (by omega) ?_
               intro v7 w4 hs4 hg4 _
               obtain ⟨a7', c7', e7', _, _⟩ := Row.read hs4
               subst e7'
               have q4 := HLE.out w4 (hs4.right.right.right.perm (Pr.star_comm _ _)).own
               have z4 := World.block_lt_of_cell? _ _ q4
               have HS4 := Lib.hid hs4
               have HG4 := Lib.hid hg4
               have hn4 := Lib.hid (new_cells w4 [.slice at' V.length ct] 31 _ rfl)
               clear hs4 hg4)
            | (go_at_call 8; refine (pages_any V.length (by omega) _).mono ?_; rintro e w6 ⟨rfl, rfl⟩; rw [pagesOf_eq]))
          refine ⟨⟨k + 1, s', hA.un h', its ++ [⟨.slice ak mk ck, .slice av mv cv, c, V, .slice at' V.length ct⟩], by omega, congrArg (Value.int .i64) (by omega), ?_, ((HST4.out.of_grown HG4.out).alloc _).of_grown HG5.out, HSO2.out, ?_⟩, ?_⟩
          · rw [took_snoc]
            exact congrArg (Value.int .i64) (by dsimp only; omega)
          · rw [List.flatMap_append, List.map_append, List.length_append]
            exact HS5.out.perm (Pr.left_comm _ _ _)
          · simp [intOf]; omega
        · obtain ⟨hdis, hkbe⟩ := HDIS.out
          have h6 : Sat ((Pr.own (hkb.un (heapOf w))).star ((VaultA v s).star ((Pr.own hA).star ((Row 33 4 (.slice a7 its.length c7) its.length (its.flatMap It.cells)).star (Row 31 1 (.slice a8 its.length c8) its.length (its.map It.tv)))))) w3 := h5.perm (by ac_rfl)
          have h7 := (Sat.own_split hdis h6).right
          have h8 : Sat ((Row 33 4 (.slice a7 its.length c7) its.length (its.flatMap It.cells)).star ((Row 31 1 (.slice a8 its.length c8) its.length (its.map It.tv)).star ((VaultA v s).star ((Pr.own hA).star (Pr.own (heapOf w)))))) w3 := h7.perm (by ac_rfl)
          have q3 : w3.cell? ⟨b1, o1 + k, none⟩ = some (.slice at' V.length ct) := Hp.cell_le (h8.right.right.right.perm (Pr.star_comm _ _)).own HQK.out
          have z3 := World.block_lt_of_cell? _ _ q3
          have H8 := Lib.hid h8
          have HST4 := Lib.hid (HST3.out.trans hst4)
          obtain ⟨so, okp⟩ := HSO.out
          have hmany := so.many
          have HSO2 := Lib.hid so
          clear h5 h6 h7 h8 hdis hkbe HSO HX HS HDIS HST3 hst4 qk so okp
          rcases hxx with ⟨rfl, hxm, hxl⟩ | ⟨rfl, hxl⟩
          · have hcond : (pagesV V : Int) ≤ (pn : Int) - (took its : Nat) ↔ False := iff_false_intro (by omega)
            go_wp2_with (go_at_call 8; refine (pages_any V.length (by omega) _).mono ?_; rintro e w6 ⟨rfl, rfl⟩; rw [pagesOf_eq])
            refine ⟨⟨k + 1, s, hA, its, by omega, congrArg (Value.int .i64) (by omega), rfl, HST4.out.alloc _, ?_, (H8.out.alloc _).right⟩, by simp [intOf]; omega⟩
            obtain ⟨s1, s2, s3, s4, s5, s6, s7, s8⟩ := HSO2.out
            exact ⟨s1, s2, s3, by omega, by omega, by omega, s7, s8⟩
          · go_wp2
            refine ⟨⟨k + 1, s, hA, its, by omega, congrArg (Value.int .i64) (by omega), rfl, HST4.out.alloc _, ?_, (H8.out.alloc _).right⟩, by simp [intOf]; omega⟩
            obtain ⟨s1, s2, s3, s4, s5, s6, s7, s8⟩ := HSO2.out
            exact ⟨s1, s2, s3, by omega, by omega, by omega, s7, s8⟩
      · have hkn : k = n := by omega
        subst hkn
        have HSO := Lib.hid hso
        have HT := Lib.hid hso.many
        have HIL : its.length ≤ 200 := by have := hso.il; omega
        have HI := Lib.hid hinv
        clear hinv hso hk hge
        go_wp2
        go_loopw [13] (fun i wx => ∃ r : Nat, r ≤ its.length ∧ i = .int .i64 r ∧ Stays w wx ∧
          Sat ((Row 33 4 (.slice a7 its.length c7) its.length (its.flatMap It.cells)).star ((Row 31 1 (.slice a8 its.length c8) its.length (its.map It.tv)).star ((VaultA v s).star ((Pr.own hA).star (Pr.own (heapOf w)))))) wx) (fun i _ => its.length - (intOf i).toNat)
        case atStart => exact ⟨0, Nat.zero_le _, rfl, hst3, HI.out⟩
        case round =>
          obtain ⟨r, hr, rfl, hst4, hinv⟩ := hrel
          clear HI hst3
          rcases Nat.lt_or_ge r its.length with hlt | hge
          · obtain ⟨_, _, e7, _, hc7a⟩ := Row.read hinv
            obtain ⟨rfl, _, rfl⟩ := Value.slice.inj e7
            obtain ⟨b7, e7', hc7⟩ := hc7a (by omega)
            clear hc7a
            subst e7'
            have cells : ∀ j, j < 4 → wr.cell? ⟨b7, r * 4 + j, none⟩ = its[r].cells[j]? := fun j hj => by
              rw [(hc7 (r * 4 + j) (by omega)).1]
              exact it_at its r j hlt hj
            obtain ⟨s8, s9, _⟩ := HSO.out.st its[r] (List.getElem_mem hlt)
            have htv : (its.map It.tv)[r]? = some its[r].tv := by simp [hlt]
            have hinv2 : Sat ((VaultA v s).star ((Pr.own hA).star ((Row 33 4 (.slice (some ⟨b7, 0, none⟩) its.length c7) its.length (its.flatMap It.cells)).star ((Row 31 1 (.slice a8 its.length c8) its.length (its.map It.tv)).star (Pr.own (heapOf w)))))) wr := hinv.perm (by ac_rfl)
            generalize its[r] = X at *
            obtain ⟨kv, vv, c, V, tv⟩ := X
            dsimp only at s8 s9 htv
            obtain ⟨⟨ak, mk, ck, rfl⟩, ⟨av, mv, cv, rfl⟩, hlen⟩ := id s8
            obtain ⟨_, at', ct, rfl, _⟩ := id s9
            have hVl : V.length ≤ 3840 := by rcases hlen with ⟨h, _⟩ | ⟨⟨_, h⟩, _⟩ <;> omega
            have d0 : wr.cell? ⟨b7, r * 4, none⟩ = some (.slice ak mk ck) := cells 0 (by omega)
            have d1 : wr.cell? ⟨b7, r * 4 + 1, none⟩ = some (.slice av mv cv) := cells 1 (by omega)
            have d2 : wr.cell? ⟨b7, r * 4 + 2, none⟩ = some (.int .i64 c) := cells 2 (by omega)
            have d3 : wr.cell? ⟨b7, r * 4 + 3, none⟩ = some (.int .i64 V.length) := cells 3 (by omega)
            have L := Lib.hid (load_all v s hA _ _ c V s8 _ wr hinv2)
            have HST4 := Lib.hid hst4
            have HB := Lib.hid s9
            have HTV := Lib.hid htv
            clear hinv hinv2 cells hc7 s8 s9 hst4 e7 hlen htv
            go_wp2_with fail
            refine L.out.mono ?_
            rintro e w3 ⟨hst5, o, rfl, h3⟩
            obtain ⟨ao, co, eo, _, _⟩ := Row.read h3
            subst eo
            obtain ⟨ho, hb, h4⟩ := toArena (Q := fun y => Bytes y (.slice ao V.length co) V) h3 (fun y hy => Row.rowIn hy)
            have h5 : Sat ((Row 31 1 (.slice a8 its.length c8) its.length (its.map It.tv)).star ((Pr.own ho).star ((Pr.own (heapOf w)).star ((Row 33 4 (.slice (some ⟨b7, 0, none⟩) its.length c7) its.length (its.flatMap It.cells)).star ((VaultA v s).star (Pr.own hA)))))) w3 := h4.perm (by ac_rfl)
            obtain ⟨_, _, e8, _, hc8a⟩ := Row.read h5
            obtain ⟨rfl, _, rfl⟩ := Value.slice.inj e8
            obtain ⟨b8, e8', hc8⟩ := hc8a (by omega)
            clear hc8a
            subst e8'
            have qt : w3.cell? ⟨b8, r, none⟩ = some (.slice at' V.length ct) := (hc8 r (by omega)).1.trans HTV.out
            have C := Lib.hid (eq_same ho (heapOf w) _ _ V hb HB.out (by omega) w3 h5.right.own h5.right.right.own)
            have H6 : Hid (Sat ((Row 33 4 (.slice (some ⟨b7, 0, none⟩) its.length c7) its.length (its.flatMap It.cells)).star ((Row 31 1 (.slice (some ⟨b8, 0, none⟩) its.length c8) its.length (its.map It.tv)).star ((VaultA v s).star ((Pr.own hA).star (Pr.own (heapOf w)))))) w3) := Lib.hid (h4.right.perm (by ac_rfl))
            have HST5 := Lib.hid (HST4.out.trans hst5)
            clear h3 h4 h5 hb e8 hc8 hst5 d0 d1 d2 d3
            go_wp2_with fail
            refine C.out.mono ?_
            rintro e w4 ⟨rfl, ho4⟩
            go_wp2
            go_roundw
            case rel => exact ⟨r + 1, by omega, congrArg (Value.int .i64) (by omega), HST5.out.trans ho4.st, H6.out.only ho4⟩
            case measure => simp [intOf]; omega
          · have hrn : r = its.length := by omega
            subst hrn
            obtain ⟨x, ok, h11⟩ := vaultA_iff.1 (hinv.right.right)
            have h12 : Sat ((PoolA x.p s.pool).star ((Pr.pts v (.cells #[.pointer (some ⟨x.p, 0, none⟩), .map (some x.mb), x.av, .int .i64 s.floor] 43)).star
              ((((MapA Try.prog 3 x.mb x.f).star ((Row 94 2 x.av s.acts.length (actCells x.axs)).star (Pr.own x.h)))).star ((Pr.own hA).star (Pr.own (heapOf w)))))) wr := h11.perm (by unfold VaultAt; ac_rfl)
            have qv : wr.cell? ⟨v, 0, none⟩ = some (.pointer (some ⟨x.p, 0, none⟩)) := by rw [cell_of_heap h12.right.pts_heap]; rfl
            have T := tally_A x.p s.pool 1 (.inl rfl) _ _ h12
            have et : s.pool.tally 1 = (pn : Int) - (took its : Nat) := by
              unfold PoolS.tally
              rw [if_neg (by omega)]
              have := HT.out
              omega
            rw [et] at T
            have HTA := Lib.hid T
            have HF := Lib.hid ((hinv.right.right.right.perm (Pr.star_comm _ _)).left)
            have HST4 := Lib.hid hst4
            have htk : took its ≤ pn := by have := HT.out; omega
            clear hinv h11 h12 T ok et hst4
            go_wp2_with fail
            refine HTA.out.mono ?_
            rintro e w4 ⟨rfl, rfl⟩
            go_wp2
            go_ret
            exact ⟨rfl, HF.out, HST4.out⟩
  · go_enter Try.func4, Try.ntmps4
    go_wp2_with (first | refine wpList_min rfl _ _ rfl rfl (vals.length : Int) 200 (n : Int) hmin.symm rfl rfl ?_ | refine wpList_slice_to rfl _ _ rfl a1 vals.length c1 n hnc rfl rfl ?_)
    refine X.out.mono ?_
    rintro e w1 ⟨rfl, hs1, hst1⟩
    have HS1 := Lib.hid hs1
    have HST1 := Lib.hid hst1
    clear hs1 hst1 X
    rcases Int.lt_or_le pages 1 with h | h
    · have hd : decide (pages < 1) = true := decide_eq_true h
      go_wp2
      go_ret
      exact ⟨rfl, HS1.out, HST1.out⟩
    · have h2 : 300 < pages := by omega
      have hd : decide (300 < pages) = true := decide_eq_true h2
      go_wp2
      go_ret
      exact ⟨rfl, HS1.out, HST1.out⟩
end Go.Proofs.Ytbobcmimkonnoaa.apart2
