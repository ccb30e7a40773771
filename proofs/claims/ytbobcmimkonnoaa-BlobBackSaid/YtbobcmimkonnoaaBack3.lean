/- The law BlobBack, walked; the conditions stand as hypotheses. -/
import Derived.Test.YtbobcmimkonnoaaBackLaw
import Derived.Test.YtbobcmimkonnoaaApart2
namespace Go.Cop
theorem Same.ofActs {s t : VaultS} (h : Same s t) (a : List ActV) : Same s { t with acts := a } := ⟨h.counts, h.last, h.on, h.pf, h.vf⟩
end Go.Cop
namespace Go.Proofs.Ytbobcmimkonnoaa.back3
open Go.ChangeShapes Go.WideShapes Go.ChangeAt Go.RowKit Go.Sl Go.Cop Go.Proofs.Ytbobcmimkonnoaa.pool1 Go.Proofs.Ytbobcmimkonnoaa.pool2 Go.Proofs.Ytbobcmimkonnoaa.pool5 Go.Proofs.Ytbobcmimkonnoaa.pool9 Go.Proofs.Ytbobcmimkonnoaa.clone Go.Proofs.Ytbobcmimkonnoaa.page Go.Proofs.Ytbobcmimkonnoaa.vault1 Go.Proofs.Ytbobcmimkonnoaa.vault2 Go.Proofs.Ytbobcmimkonnoaa.vault3 Go.Proofs.Ytbobcmimkonnoaa.vault4 Go.Proofs.Ytbobcmimkonnoaa.vault5 Go.Proofs.Ytbobcmimkonnoaa.vault6 Go.Proofs.Ytbobcmimkonnoaa.vault8 Go.Proofs.Ytbobcmimkonnoaa.blob1 Go.Proofs.Ytbobcmimkonnoaa.blob2 Go.Proofs.Ytbobcmimkonnoaa.blob3 Go.Proofs.Ytbobcmimkonnoaa.blob4 Go.Proofs.Ytbobcmimkonnoaa.blob5 Go.Proofs.Ytbobcmimkonnoaa.blob6 Go.Proofs.Ytbobcmimkonnoaa.eqb Go.Proofs.Ytbobcmimkonnoaa.apart1 Go.Proofs.Ytbobcmimkonnoaa.apart2 Go.Proofs.Ytbobcmimkonnoaa.close Go.Proofs.Ytbobcmimkonnoaa.counts Go.Proofs.Ytbobcmimkonnoaa.dropA Go.Proofs.Ytbobcmimkonnoaa.backLaw

set_option maxRecDepth 100000 in
set_option maxHeartbeats 16000000 in
theorem back_walk (pages : Int) (hr : -9223372036854775808 ≤ pages ∧ pages ≤ 9223372036854775807) (kv vv v1 : Value) (K V : List Int) (vals : List (Value × List Int)) (w : World) (hK : Bytes (heapOf w) kv K) (hV : Bytes (heapOf w) vv V) (hv1 : RowIn (heapOf w) 1 v1 vals.length (vals.map Prod.fst)) (hvals : ∀ x ∈ vals, Bytes (heapOf w) x.1 x.2) :
    Calls Try.prog 5 #[.int .i64 pages, kv, vv, v1] w fun e w' => e = .returned (.bool true) ∧ Sat (Pr.own (heapOf w)) w' ∧ Stays w w' := by
  obtain ⟨hvl, a1, c1, rfl, hc1, hc2, hcell⟩ := hv1
  obtain ⟨_, ak, ck, rfl, hkl, hkm, _⟩ := id hK
  obtain ⟨_, av, cv, rfl, hvl2, hvm, _⟩ := id hV
  have X := Lib.hid (fixed_yes _ w (sat_heap w))
  obtain ⟨n, hn⟩ : ∃ n : Nat, n = min vals.length 200 := ⟨_, rfl⟩
  have hmin : min (vals.length : Int) 200 = (n : Int) := by omega
  have hnc : n ≤ c1 := by omega
  have hn2 : n ≤ 200 := by omega
  have hn3 : n ≤ vals.length := by omega
  have HC := Lib.hid hcell
  have HV := Lib.hid hvals
  have HKB := Lib.hid hK
  have HVB := Lib.hid hV
  have hKm : K.length ≤ 9223372036854775807 := by simp only [maxLen] at hkm; omega
  have hVm : V.length ≤ 9223372036854775807 := by simp only [maxLen] at hvm; omega
  clear hcell hvals hvl hc1 hn hK hV hkl hkm hvl2 hvm
  by_cases hp : 1 ≤ pages ∧ pages ≤ 300
  · obtain ⟨pn, rfl⟩ : ∃ pn : Nat, pages = pn := ⟨pages.toNat, by omega⟩
    have hp1 : 1 ≤ pn ∧ pn ≤ 300 := by omega
    clear hp
    go_enter Try.func5, Try.ntmps5
    go_wp2_with (first | refine wpList_min rfl _ _ rfl rfl (vals.length : Int) 200 (n : Int) hmin.symm rfl rfl ?_ | refine wpList_slice_to rfl _ _ rfl a1 vals.length c1 n hnc rfl rfl ?_)
    refine X.out.mono ?_
    rintro e w1 ⟨rfl, hs1, hst1⟩
    have N := Lib.hid (vnew_any pn 2 (by omega) _ w1 hs1)
    clear hs1 X
    go_wp2_with fail
    refine N.out.mono ?_
    rintro e w2 ⟨hst2, v, rfl, h2⟩
    have hmn : (newV 2 pn).pool.many 1 = pn := newV_many 2 pn
    have hbare : Bare (newV 2 pn) := newV_bare 2 pn
    have hpa : (newV 2 pn).pool.acts.length = 0 := rfl
    have hpf : (newV 2 pn).pool.floor = 0 := rfl
    have hva : (newV 2 pn).acts.length = 0 := rfl
    have hvf : (newV 2 pn).floor = 0 := rfl
    generalize hs0 : newV 2 pn = s0 at *
    clear hs0
    obtain ⟨okp, _, _⟩ := vault_ok h2
    obtain ⟨p0, qv, C0⟩ := vcounts_A v s0 _ w2 h2
    have HC0 := Lib.hid C0
    have HST2 := Lib.hid (hst1.trans hst2)
    have HB := Lib.hid hbare
    have HOK := Lib.hid okp
    have hcl : s0.pool.counts.length ≤ 65536 := okp.n2
    clear h2 hst1 hst2 N C0 hbare okp
    go_wp2_with fail
    refine HC0.out.mono ?_
    rintro e w3 ⟨bv, rfl, h3, hst3⟩
    obtain ⟨ab, cb, eb, _, _⟩ := Row.read h3
    subst eb
    obtain ⟨hb, hbI, h4⟩ := toArena (Q := fun y => Ints y (.slice ab s0.pool.counts.length cb) s0.pool.counts) h3 (fun y hy => Row.rowIn hy)
    have HBI := Lib.hid hbI
    have HST3 := Lib.hid (HST2.out.trans hst3)
    clear h3 hbI hst3 HC0 qv HST2
    by_cases hkey : 1 ≤ K.length ∧ K.length ≤ 24
    · have S := Lib.hid (store_full v s0 _ _ (heapOf w) K V HKB.out HVB.out hkey (Pr.own hb) w3 (h4.perm (by ac_rfl)) HB.out (by omega) (by omega))
      clear h4
      go_wp2_with fail
      refine S.out.mono ?_
      rintro e w4 ⟨hst4, (⟨hV38, kv', vv', c, s1, ns, h', rfl, ht, hnl, hkb, hstd, hns, h5⟩ | ⟨x, rfl, hxx, h5⟩)⟩
      · obtain ⟨⟨ak2, mk2, ck2, ekv⟩, ⟨av2, mv2, cv2, evv⟩, _⟩ := id hstd
        subst ekv
        subst evv
        obtain rfl : mk2 = K.length := by
          obtain ⟨_, _, _, e, _⟩ := id hkb
          exact (Value.slice.inj e).2.1
        have h6 : Sat ((VaultA v s1).star ((Pr.pts w4.heap.size (.cells #[.slice ak2 K.length ck2, .slice av2 mv2 cv2, .int .i64 c, .int .i64 V.length] 33)).star ((Pr.own h').star ((Pr.own (heapOf w)).star (Pr.own hb))))) _ := (h5.alloc (.cells #[.slice ak2 K.length ck2, .slice av2 mv2 cv2, .int .i64 c, .int .i64 V.length] 33)).perm (by ac_rfl)
        obtain ⟨p1, qv1, T1⟩ := vtally_A v s1 _ _ h6
        have hm1 : ((s1.pool.many 1 : Nat) : Int) = (pn : Int) - (pagesV V : Nat) := by have := ht.many; omega
        rw [hm1] at T1
        have hpv : pagesV V ≤ 8 := by unfold pagesV chunks; split <;> omega
        have HT1 := Lib.hid T1
        have zv := World.block_lt_of_cell? _ _ qv1
        have HE1 := Lib.hid (eq_same h' (heapOf w) _ _ K hkb HKB.out (by omega) _ h6.right.right.own h6.right.right.right.own)
        have HST4 := Lib.hid ((HST3.out.trans hst4).alloc (.cells #[.slice ak2 K.length ck2, .slice av2 mv2 cv2, .int .i64 c, .int .i64 V.length] 33))
        have H6 := Lib.hid h6
        have HTK := Lib.hid ht
        have HSD := Lib.hid hstd
        have HNS := Lib.hid hns
        have HNL := Lib.hid hnl
        clear h5 h6 T1 hst4 S ht hstd hns hnl hm1 hkb
        go_wp2_with (go_at_call 8; refine (pages_any V.length (by omega) _).mono ?_; rintro e w6 ⟨rfl, rfl⟩; rw [pagesOf_eq])
        refine HT1.out.mono ?_
        rintro e w5 ⟨rfl, rfl⟩
        go_wp2_with fail
        refine HE1.out.mono ?_
        rintro e w5 ⟨rfl, ho5⟩
        have h7 := H6.out.only ho5
        obtain ⟨p2, qv2, C2⟩ := vcounts_A v s1 _ w5 h7
        have HC2 := Lib.hid C2
        have HST5 := Lib.hid (HST4.out.trans ho5.st)
        clear h7 C2 ho5 HE1 HT1 qv1 zv H6
        go_wp2_with fail
        refine HC2.out.mono ?_
        rintro e w6 ⟨nv, rfl, h8, hst6⟩
        obtain ⟨an, cn, en, _, _⟩ := Row.read h8
        subst en
        obtain ⟨hn, hnI, h9⟩ := toArena (Q := fun y => Ints y (.slice an s1.pool.counts.length cn) s1.pool.counts) h8 (fun y hy => Row.rowIn hy)
        have h10 : Sat ((VaultA v s1).star ((Pr.pts w4.heap.size (.cells #[.slice ak2 K.length ck2, .slice av2 mv2 cv2, .int .i64 c, .int .i64 V.length] 33)).star ((Pr.own h').star ((Pr.own hb).star ((Pr.own hn).star (Pr.own (heapOf w))))))) w6 := h9.perm (by ac_rfl)
        have HNI := Lib.hid hnI
        have H10 := Lib.hid h10
        have HST6 := Lib.hid (HST5.out.trans hst6)
        have hcl1 : s1.pool.counts.length ≤ 65536 := by rw [HTK.out.len]; exact hcl
        clear h8 h9 h10 hnI hst6 HC2 qv2
        have hpa1 : s1.pool.acts.length ≤ 8 := by have := HTK.out.pa; have := HNL.out; omega
        have hva1 : s1.acts.length ≤ 8 := by have := HTK.out.va; have := HNL.out; omega
        have hpf1 : s1.pool.floor = 0 := HTK.out.pf.trans hpf
        have hvf1 : s1.floor = 0 := HTK.out.vf.trans hvf
        have HB1 := Lib.hid (steps_bare HTK.out.steps HB.out)
        go_wp2
        go_loopw [16] (fun i wr => ∃ (k : Nat) (t : VaultS), k ≤ n ∧ i = .int .i64 k ∧ Stays w wr ∧ Same s1 t ∧ t.pool.acts.length ≤ 8 + 16 * k ∧ t.acts.length ≤ 8 + 9 * k ∧
          Sat ((VaultA v t).star ((Pr.pts w4.heap.size (.cells #[.slice ak2 K.length ck2, .slice av2 mv2 cv2, .int .i64 c, .int .i64 V.length] 33)).star ((Pr.own h').star ((Pr.own hb).star ((Pr.own hn).star (Pr.own (heapOf w))))))) wr) (fun i _ => n - (intOf i).toNat)
        case atStart => exact ⟨0, s1, Nat.zero_le _, rfl, HST6.out, Same.refl s1, by omega, by omega, H10.out⟩
        case round =>
          obtain ⟨k, t, hk, rfl, hst7, hsame, hpa7, hva7, hinv⟩ := hrel
          clear H10 HST6
          have hpft : t.pool.floor = 0 := hsame.pf.trans hpf1
          have hvft : t.floor = 0 := hsame.vf.trans hvf1
          rcases Nat.lt_or_ge k n with hlt | hge
          · have hkl : k < vals.length := by omega
            have hle : (heapOf w).le wr := (hinv.right.right.right.right.perm (Pr.star_comm _ _)).own
            obtain ⟨b1, o1, ea1, hcl2⟩ := HC.out (by omega)
            subst ea1
            have hx := HV.out vals[k] (List.getElem_mem hkl)
            generalize hvk : vals[k] = tvV at *
            obtain ⟨tv, W⟩ := tvV
            dsimp only at hx
            obtain ⟨_, at', ct, etv, hct1, hct2, _⟩ := id hx
            subst etv
            have qk : wr.cell? ⟨b1, o1 + k, none⟩ = some (.slice at' W.length ct) := Hp.cell_le hle ((hcl2 k (by omega)).trans (by simp [hkl, hvk]))
            have zb := World.block_lt_of_cell? _ _ qk
            have hWm : W.length ≤ 9223372036854775807 := by simp only [maxLen] at hct2; omega
            have h12 : Sat ((Pr.pts wr.heap.size (.cells #[.int .u8 111] 5 (1, 2))).star ((Pr.own (heapOf w)).star ((VaultA v t).star ((Pr.pts w4.heap.size (.cells #[.slice ak2 K.length ck2, .slice av2 mv2 cv2, .int .i64 c, .int .i64 V.length] 33)).star ((Pr.own h').star ((Pr.own hb).star (Pr.own hn))))))) _ := (hinv.alloc (.cells #[.int .u8 111] 5 (1, 2))).perm (by ac_rfl)
            have hcv := Go.Joins.run_convert_bytes_const_at (P := Try.prog) wr 31 5 #[.int .u8 111] 1 1 wr.heap.size rfl Try.underlying31 Try.underlying5
            obtain ⟨hdis, h13⟩ := Sat.own_join (a := fun j => if j = wr.heap.size then some (.cells #[.int .u8 111] 5 (1, 2)) else none) h12
            obtain ⟨hkb2, hkbe⟩ : ∃ hkb2 : Hp, hkb2 = fun j => if j = wr.heap.size then some (.cells #[.int .u8 111] 5 (1, 2)) else none := ⟨_, rfl⟩
            rw [← hkbe] at hdis h13
            have hkey2 : Bytes (hkb2.un (heapOf w)) (.slice (some ⟨wr.heap.size, 0, none⟩) 1 1) [111] := by
              refine ⟨rfl, _, _, rfl, Nat.le_refl _, by simp [maxLen], fun _ => ⟨_, _, rfl, fun i hi => ?_⟩⟩
              have e : (hkb2.un (heapOf w)).cell wr.heap.size (0 + i) = hkb2.cell wr.heap.size (0 + i) := by
                unfold Hp.cell Hp.un; rw [hkbe]; simp
              rw [e]
              unfold Hp.cell
              rw [hkbe]
              simp only [if_true]
              rw [Nat.zero_add]
              simp at hi ⊢
            obtain ⟨okt, _, _⟩ := vault_ok h13.right
            have S2 := Lib.hid (store_full v t _ _ (hkb2.un (heapOf w)) [111] W hkey2 (hx.sub (Hp.sub_un_right hdis)) (by simp) ((Pr.pts w4.heap.size (.cells #[.slice ak2 K.length ck2, .slice av2 mv2 cv2, .int .i64 c, .int .i64 V.length] 33)).star ((Pr.own h').star ((Pr.own hb).star (Pr.own hn)))) _ (h13.perm (by ac_rfl)) (hsame.bare HB1.out) (by omega) (by omega))
            have HDIS := Lib.hid hdis
            have HSM := Lib.hid (And.intro hsame okt)
            have HST7 := Lib.hid (hst7.alloc (.cells #[.int .u8 111] 5 (1, 2)))
            clear hkey2 hdis hkbe h12 h13 hinv hx hle hcl2 hst7 okt hsame
            go_wp2_with fail
            refine S2.out.mono ?_
            rintro e w7 ⟨hst8, (⟨hW38, kv3, vv3, c3, t', ns3, h3', rfl, ht3, hnl3, _, hstd3, hns3, h14⟩ | ⟨x, rfl, hxx, h14⟩)⟩
            · obtain ⟨⟨a3, m3, d3, ekv⟩, ⟨f3, g3, i3, evv⟩, _⟩ := id hstd3
              subst ekv
              subst evv
              have h15 : Sat ((Pr.own (hkb2.un (heapOf w))).star ((VaultA v t').star ((Pr.pts w4.heap.size (.cells #[.slice ak2 K.length ck2, .slice av2 mv2 cv2, .int .i64 c, .int .i64 V.length] 33)).star ((Pr.own h').star ((Pr.own hb).star ((Pr.own hn).star (Pr.own h3'))))))) w7 := h14.perm (by ac_rfl)
              have h16 : Sat ((Pr.pts w4.heap.size (.cells #[.slice ak2 K.length ck2, .slice av2 mv2 cv2, .int .i64 c, .int .i64 V.length] 33)).star ((VaultA v t').star ((Pr.own h').star ((Pr.own hb).star ((Pr.own hn).star ((Pr.own h3').star (Pr.own (heapOf w)))))))) w7 := (Sat.own_split HDIS.out h15).right.perm (by ac_rfl)
              have i0 : w7.cell? ⟨w4.heap.size, 0, none⟩ = some (.slice ak2 K.length ck2) := by rw [cell_of_heap h16.pts_heap]; rfl
              have i1 : w7.cell? ⟨w4.heap.size, 1, none⟩ = some (.slice av2 mv2 cv2) := by rw [cell_of_heap h16.pts_heap]; rfl
              have i2 : w7.cell? ⟨w4.heap.size, 2, none⟩ = some (.int .i64 c) := by rw [cell_of_heap h16.pts_heap]; rfl
              have i3' : w7.cell? ⟨w4.heap.size, 3, none⟩ = some (.int .i64 V.length) := by rw [cell_of_heap h16.pts_heap]; rfl
              have zI := h16.lt
              have h17 : Sat ((VaultA v t').star ((Pr.own h').star ((Pr.pts w7.heap.size (.cells #[.slice a3 m3 d3, .slice f3 g3 i3, .int .i64 c3, .int .i64 W.length] 33)).star ((Pr.pts w4.heap.size (.cells #[.slice ak2 K.length ck2, .slice av2 mv2 cv2, .int .i64 c, .int .i64 V.length] 33)).star ((Pr.own hb).star ((Pr.own hn).star ((Pr.own h3').star (Pr.own (heapOf w))))))))) _ := (h16.alloc (.cells #[.slice a3 m3 d3, .slice f3 g3 i3, .int .i64 c3, .int .i64 W.length] 33)).perm (by ac_rfl)
              have L := Lib.hid (load_all v t' h' _ _ c V ((Same.stored HSM.out.1 HSD.out).taken HSM.out.2 ht3) _ _ h17)
              have HST8 := Lib.hid ((HST7.out.trans hst8).alloc (.cells #[.slice a3 m3 d3, .slice f3 g3 i3, .int .i64 c3, .int .i64 W.length] 33))
              have HT3 := Lib.hid (And.intro ht3 (And.intro hnl3 hns3))
              clear h14 h15 h16 h17 hst8 ht3 hnl3 hns3 hstd3 S2 qk zb
              go_wp2_with fail
              refine L.out.mono ?_
              rintro e w8 ⟨hst9, o, rfl, h18⟩
              obtain ⟨ao, co, eo, _, _⟩ := Row.read h18
              subst eo
              obtain ⟨ho, hbo, h19⟩ := toArena (Q := fun y => Bytes y (.slice ao V.length co) V) h18 (fun y hy => Row.rowIn hy)
              have h20 : Sat ((Pr.own (heapOf w)).star ((Pr.own ho).star ((VaultA v t').star ((Pr.pts w7.heap.size (.cells #[.slice a3 m3 d3, .slice f3 g3 i3, .int .i64 c3, .int .i64 W.length] 33)).star ((Pr.pts w4.heap.size (.cells #[.slice ak2 K.length ck2, .slice av2 mv2 cv2, .int .i64 c, .int .i64 V.length] 33)).star ((Pr.own h').star ((Pr.own hb).star ((Pr.own hn).star (Pr.own h3'))))))))) w8 := h19.perm (by ac_rfl)
              have E2 := Lib.hid (eq_same ho (heapOf w) _ _ V hbo HVB.out (by omega) w8 h20.right.own h20.own)
              have H20 := Lib.hid h20
              have HST9 := Lib.hid (HST8.out.trans hst9)
              clear h18 h19 h20 hbo hst9 L i0 i1 i2 i3' zI HST8
              go_wp2_with fail
              refine E2.out.mono ?_
              rintro e w9 ⟨rfl, ho9⟩
              have h21 := H20.out.only ho9
              have h22 := h21.right.right.right
              have j0 : w9.cell? ⟨w7.heap.size, 0, none⟩ = some (.slice a3 m3 d3) := by rw [cell_of_heap h22.pts_heap]; rfl
              have j1 : w9.cell? ⟨w7.heap.size, 1, none⟩ = some (.slice f3 g3 i3) := by rw [cell_of_heap h22.pts_heap]; rfl
              have j2 : w9.cell? ⟨w7.heap.size, 2, none⟩ = some (.int .i64 c3) := by rw [cell_of_heap h22.pts_heap]; rfl
              have j3 : w9.cell? ⟨w7.heap.size, 3, none⟩ = some (.int .i64 W.length) := by rw [cell_of_heap h22.pts_heap]; rfl
              have hns8 : ns3.length ≤ 8 := by rw [HT3.out.2.1]; unfold pagesV chunks; split <;> omega
              have htpa := HT3.out.1.pa
              have htva := HT3.out.1.va
              have htpf := HT3.out.1.pf
              have htvf := HT3.out.1.vf
              have R := Lib.hid (release_A v a3 f3 m3 d3 g3 i3 W c3 ns3 t' _ w9 HT3.out.2.2 (taken_nodup HT3.out.1) (taken_lasts HT3.out.1 HSM.out.2) (by omega) (by omega) (((h21.perm (Pr.left_comm _ _ _)).right).perm (B := (VaultA v t').star ((Pr.pts w4.heap.size (.cells #[.slice ak2 K.length ck2, .slice av2 mv2 cv2, .int .i64 c, .int .i64 V.length] 33)).star ((Pr.own h').star ((Pr.own hb).star ((Pr.own hn).star ((Pr.own h3').star ((Pr.own (heapOf w)).star (Pr.pts w7.heap.size (.cells #[.slice a3 m3 d3, .slice f3 g3 i3, .int .i64 c3, .int .i64 W.length] 33)))))))))  (by ac_rfl)))
              have HST10 := Lib.hid (HST9.out.trans ho9.st)
              clear h21 h22 H20 E2 ho9 HST9
              go_wp2_with fail
              refine R.out.mono ?_
              rintro e w10 ⟨hst10, rfl, acts', hal, h23⟩
              have hup : (t'.freedAll ns3).pool.acts.length ≤ 8 + 16 * (k + 1) := by
                rw [(freedAll_facts (taken_nodup HT3.out.1) HT3.out.1.cnt).2.2.2.2.1]
                omega
              have huv : (t'.acts ++ acts').length ≤ 8 + 9 * (k + 1) := by
                rw [List.length_append]
                omega
              have hsu : Same s1 { t'.freedAll ns3 with acts := t'.acts ++ acts' } := (HSM.out.1.trans (back_same HT3.out.1 HSM.out.2 (HSM.out.1.bare HB1.out) (Same.refl t'))).ofActs _
              generalize hu : ({ t'.freedAll ns3 with acts := t'.acts ++ acts' } : VaultS) = u at h23 hsu
              have hup2 : u.pool.acts.length ≤ 8 + 16 * (k + 1) := by rw [← hu]; exact hup
              have huv2 : u.acts.length ≤ 8 + 9 * (k + 1) := by rw [← hu]; exact huv
              clear hu hup huv R j0 j1 j2 j3 hns8 htpa htva htpf htvf
              obtain ⟨p3, qv3, C3⟩ := vcounts_A v u _ w10 h23
              rw [hsu.counts] at C3
              have HC3 := Lib.hid C3
              have HSU := Lib.hid (And.intro hsu (And.intro hup2 huv2))
              have HST11 := Lib.hid (HST10.out.trans hst10)
              clear h23 C3 hsu hup2 huv2 hst10 HST10
              go_wp2_with fail
              refine HC3.out.mono ?_
              rintro e w11 ⟨nv3, rfl, h24, hst11⟩
              obtain ⟨an3, cn3, en3, _, _⟩ := Row.read h24
              subst en3
              obtain ⟨hn3x, hnI3, h25⟩ := toArena (Q := fun y => Ints y (.slice an3 s1.pool.counts.length cn3) s1.pool.counts) h24 (fun y hy => Row.rowIn hy)
              have h26 : Sat ((Pr.own hn).star ((Pr.own hn3x).star ((VaultA v u).star ((Pr.pts w4.heap.size (.cells #[.slice ak2 K.length ck2, .slice av2 mv2 cv2, .int .i64 c, .int .i64 V.length] 33)).star ((Pr.own h').star ((Pr.own hb).star ((Pr.own h3').star ((Pr.own (heapOf w)).star (Pr.pts w7.heap.size (.cells #[.slice a3 m3 d3, .slice f3 g3 i3, .int .i64 c3, .int .i64 W.length] 33)))))))))) w11 := h25.perm (by ac_rfl)
              have E3 := Lib.hid (eqints_same hn3x hn _ _ s1.pool.counts hnI3 HNI.out hcl1 w11 h25.own h26.own)
              have H26 := Lib.hid h26
              have HST12 := Lib.hid (HST11.out.trans hst11)
              clear h24 h25 h26 hnI3 hst11 HC3 qv3 HST11
              go_wp2_with fail
              refine E3.out.mono ?_
              rintro e w12 ⟨rfl, ho12⟩
              go_wp2
              refine ⟨⟨k + 1, u, by omega, congrArg (Value.int .i64) (by omega), HST12.out.trans ho12.st, HSU.out.1, HSU.out.2.1, HSU.out.2.2, ?_⟩, by simp [intOf]; omega⟩
              have h28 : Sat ((Pr.own hn3x).star ((Pr.own h3').star ((Pr.pts w7.heap.size (.cells #[.slice a3 m3 d3, .slice f3 g3 i3, .int .i64 c3, .int .i64 W.length] 33)).star ((VaultA v u).star ((Pr.pts w4.heap.size (.cells #[.slice ak2 K.length ck2, .slice av2 mv2 cv2, .int .i64 c, .int .i64 V.length] 33)).star ((Pr.own h').star ((Pr.own hb).star ((Pr.own hn).star (Pr.own (heapOf w)))))))))) w12 := (H26.out.only ho12).perm (by ac_rfl)
              exact h28.right.right.right
            · have hx0 : (x == 0) = false := by rcases hxx with ⟨rfl, _⟩ | ⟨rfl, _⟩ <;> rfl
              have h15 : Sat ((Pr.own (hkb2.un (heapOf w))).star ((VaultA v t).star ((Pr.pts w4.heap.size (.cells #[.slice ak2 K.length ck2, .slice av2 mv2 cv2, .int .i64 c, .int .i64 V.length] 33)).star ((Pr.own h').star ((Pr.own hb).star (Pr.own hn)))))) w7 := h14.perm (by ac_rfl)
              have h16 : Sat ((Pr.pts w4.heap.size (.cells #[.slice ak2 K.length ck2, .slice av2 mv2 cv2, .int .i64 c, .int .i64 V.length] 33)).star ((VaultA v t).star ((Pr.own h').star ((Pr.own hb).star ((Pr.own hn).star (Pr.own (heapOf w))))))) w7 := (Sat.own_split HDIS.out h15).right.perm (by ac_rfl)
              have i0 : w7.cell? ⟨w4.heap.size, 0, none⟩ = some (.slice ak2 K.length ck2) := by rw [cell_of_heap h16.pts_heap]; rfl
              have i1 : w7.cell? ⟨w4.heap.size, 1, none⟩ = some (.slice av2 mv2 cv2) := by rw [cell_of_heap h16.pts_heap]; rfl
              have i2 : w7.cell? ⟨w4.heap.size, 2, none⟩ = some (.int .i64 c) := by rw [cell_of_heap h16.pts_heap]; rfl
              have i3' : w7.cell? ⟨w4.heap.size, 3, none⟩ = some (.int .i64 V.length) := by rw [cell_of_heap h16.pts_heap]; rfl
              have zI := h16.lt
              have h17 : Sat ((VaultA v t).star ((Pr.own h').star ((Pr.pts w7.heap.size (.cells #[.slice none 0 0, .slice none 0 0, .int .i64 0, .int .i64 0] 33)).star ((Pr.pts w4.heap.size (.cells #[.slice ak2 K.length ck2, .slice av2 mv2 cv2, .int .i64 c, .int .i64 V.length] 33)).star ((Pr.own hb).star ((Pr.own hn).star (Pr.own (heapOf w)))))))) _ := (h16.alloc (.cells #[.slice none 0 0, .slice none 0 0, .int .i64 0, .int .i64 0] 33)).perm (by ac_rfl)
              have L := Lib.hid (load_all v t h' _ _ c V (Same.stored HSM.out.1 HSD.out) _ _ h17)
              have HST8 := Lib.hid ((HST7.out.trans hst8).alloc (.cells #[.slice none 0 0, .slice none 0 0, .int .i64 0, .int .i64 0] 33))
              clear h14 h15 h16 h17 hst8 hxx S2 qk zb
              go_wp2_with fail
              refine L.out.mono ?_
              rintro e w8 ⟨hst9, o, rfl, h18⟩
              obtain ⟨ao, co, eo, _, _⟩ := Row.read h18
              subst eo
              obtain ⟨ho, hbo, h19⟩ := toArena (Q := fun y => Bytes y (.slice ao V.length co) V) h18 (fun y hy => Row.rowIn hy)
              have h20 : Sat ((Pr.own (heapOf w)).star ((Pr.own ho).star ((VaultA v t).star ((Pr.pts w7.heap.size (.cells #[.slice none 0 0, .slice none 0 0, .int .i64 0, .int .i64 0] 33)).star ((Pr.pts w4.heap.size (.cells #[.slice ak2 K.length ck2, .slice av2 mv2 cv2, .int .i64 c, .int .i64 V.length] 33)).star ((Pr.own h').star ((Pr.own hb).star (Pr.own hn)))))))) w8 := h19.perm (by ac_rfl)
              have E2 := Lib.hid (eq_same ho (heapOf w) _ _ V hbo HVB.out (by omega) w8 h20.right.own h20.own)
              have H20 := Lib.hid h20
              have HST9 := Lib.hid (HST8.out.trans hst9)
              clear h18 h19 h20 hbo hst9 L i0 i1 i2 i3' zI HST8
              go_wp2_with fail
              refine E2.out.mono ?_
              rintro e w9 ⟨rfl, ho9⟩
              have h21 := H20.out.only ho9
              have h23 : Sat ((VaultA v t).star ((Pr.pts w7.heap.size (.cells #[.slice none 0 0, .slice none 0 0, .int .i64 0, .int .i64 0] 33)).star ((Pr.pts w4.heap.size (.cells #[.slice ak2 K.length ck2, .slice av2 mv2 cv2, .int .i64 c, .int .i64 V.length] 33)).star ((Pr.own h').star ((Pr.own hb).star ((Pr.own hn).star (Pr.own (heapOf w)))))))) w9 := ((h21.perm (Pr.left_comm _ _ _)).right).perm (by ac_rfl)
              obtain ⟨p3, qv3, C3⟩ := vcounts_A v t _ w9 h23
              rw [HSM.out.1.counts] at C3
              have HC3 := Lib.hid C3
              have HST10 := Lib.hid (HST9.out.trans ho9.st)
              clear h21 h23 H20 E2 ho9 HST9 C3
              go_wp2_with fail
              refine HC3.out.mono ?_
              rintro e w11 ⟨nv3, rfl, h24, hst11⟩
              obtain ⟨an3, cn3, en3, _, _⟩ := Row.read h24
              subst en3
              obtain ⟨hn3x, hnI3, h25⟩ := toArena (Q := fun y => Ints y (.slice an3 s1.pool.counts.length cn3) s1.pool.counts) h24 (fun y hy => Row.rowIn hy)
              have h26 : Sat ((Pr.own hn).star ((Pr.own hn3x).star ((VaultA v t).star ((Pr.pts w4.heap.size (.cells #[.slice ak2 K.length ck2, .slice av2 mv2 cv2, .int .i64 c, .int .i64 V.length] 33)).star ((Pr.own h').star ((Pr.own hb).star ((Pr.own (heapOf w)).star (Pr.pts w7.heap.size (.cells #[.slice none 0 0, .slice none 0 0, .int .i64 0, .int .i64 0] 33))))))))) w11 := h25.perm (by ac_rfl)
              have E3 := Lib.hid (eqints_same hn3x hn _ _ s1.pool.counts hnI3 HNI.out hcl1 w11 h25.own h26.own)
              have H26 := Lib.hid h26
              have HST12 := Lib.hid (HST10.out.trans hst11)
              clear h24 h25 h26 hnI3 hst11 HC3 qv3 HST10
              go_wp2_with fail
              refine E3.out.mono ?_
              rintro e w12 ⟨rfl, ho12⟩
              go_wp2
              refine ⟨⟨k + 1, t, by omega, congrArg (Value.int .i64) (by omega), HST12.out.trans ho12.st, HSM.out.1, by omega, by omega, ?_⟩, by simp [intOf]; omega⟩
              have h28 : Sat ((Pr.own hn3x).star ((Pr.pts w7.heap.size (.cells #[.slice none 0 0, .slice none 0 0, .int .i64 0, .int .i64 0] 33)).star ((VaultA v t).star ((Pr.pts w4.heap.size (.cells #[.slice ak2 K.length ck2, .slice av2 mv2 cv2, .int .i64 c, .int .i64 V.length] 33)).star ((Pr.own h').star ((Pr.own hb).star ((Pr.own hn).star (Pr.own (heapOf w))))))))) w12 := (H26.out.only ho12).perm (by ac_rfl)
              exact h28.right.right
          · have hkn : k = n := by omega
            subst hkn
            have i0 : wr.cell? ⟨w4.heap.size, 0, none⟩ = some (.slice ak2 K.length ck2) := by rw [cell_of_heap hinv.right.pts_heap]; rfl
            have i1 : wr.cell? ⟨w4.heap.size, 1, none⟩ = some (.slice av2 mv2 cv2) := by rw [cell_of_heap hinv.right.pts_heap]; rfl
            have i2 : wr.cell? ⟨w4.heap.size, 2, none⟩ = some (.int .i64 c) := by rw [cell_of_heap hinv.right.pts_heap]; rfl
            have i3' : wr.cell? ⟨w4.heap.size, 3, none⟩ = some (.int .i64 V.length) := by rw [cell_of_heap hinv.right.pts_heap]; rfl
            have R := Lib.hid (release_A v ak2 av2 K.length ck2 mv2 cv2 V c ns t _ wr (Same.ns hsame HNS.out) (taken_nodup HTK.out) (fun m hm => (hsame.lasts m).trans (taken_lasts HTK.out HOK.out m hm)) (by omega) (by omega) hinv)
            have hsu0 : Same s0 (t.freedAll ns) := back_same HTK.out HOK.out HB.out hsame
            have HS0 := Lib.hid (And.intro hsu0 hsame)
            have HST7 := Lib.hid hst7
            clear hinv hst7 hsu0 hsame
            go_wp2_with fail
            refine R.out.mono ?_
            rintro e w7 ⟨hst8, rfl, acts', _, h8⟩
            have hsu : Same s0 { t.freedAll ns with acts := t.acts ++ acts' } := HS0.out.1.ofActs _
            have hco : ∀ m ∈ ns, ({ t.freedAll ns with acts := t.acts ++ acts' } : VaultS).pool.count m = 0 := fun m hm => by
              rw [hsu.count]
              exact count_of_free HOK.out (HTK.out.free m hm)
            generalize hu : ({ t.freedAll ns with acts := t.acts ++ acts' } : VaultS) = u at h8 hsu hco
            clear hu
            obtain ⟨p3, qv3, C3⟩ := vcounts_A v u _ w7 h8
            rw [hsu.counts] at C3
            have HC3 := Lib.hid C3
            have HCO := Lib.hid hco
            have HST8 := Lib.hid (HST7.out.trans hst8)
            clear h8 C3 hsu hco hst8 R i0 i1 i2 i3'
            go_wp2_with fail
            refine HC3.out.mono ?_
            rintro e w8 ⟨nv3, rfl, h24, hst11⟩
            obtain ⟨an3, cn3, en3, _, _⟩ := Row.read h24
            subst en3
            obtain ⟨hn3x, hnI3, h25⟩ := toArena (Q := fun y => Ints y (.slice an3 s0.pool.counts.length cn3) s0.pool.counts) h24 (fun y hy => Row.rowIn hy)
            have h26 : Sat ((Pr.own hb).star ((Pr.own hn3x).star ((VaultA v u).star ((Pr.own h').star ((Pr.pts w4.heap.size (.cells #[.slice ak2 K.length ck2, .slice av2 mv2 cv2, .int .i64 c, .int .i64 V.length] 33)).star ((Pr.own hn).star (Pr.own (heapOf w)))))))) w8 := h25.perm (by ac_rfl)
            have E3 := Lib.hid (eqints_same hn3x hb _ _ s0.pool.counts hnI3 HBI.out hcl w8 h25.own h26.own)
            have H26 := Lib.hid h26
            have HST9 := Lib.hid (HST8.out.trans hst11)
            clear h24 h25 h26 hnI3 hst11 HC3 qv3 HST8
            go_wp2_with fail
            refine E3.out.mono ?_
            rintro e w9 ⟨rfl, ho9⟩
            have h27 : Sat ((VaultA v u).star ((Pr.own h').star ((Pr.pts w4.heap.size (.cells #[.slice ak2 K.length ck2, .slice av2 mv2 cv2, .int .i64 c, .int .i64 V.length] 33)).star ((Pr.own hb).star ((Pr.own hn3x).star ((Pr.own hn).star (Pr.own (heapOf w)))))))) w9 := (H26.out.only ho9).perm (by ac_rfl)
            have k0 : w9.cell? ⟨w4.heap.size, 0, none⟩ = some (.slice ak2 K.length ck2) := by rw [cell_of_heap h27.right.right.pts_heap]; rfl
            have k1 : w9.cell? ⟨w4.heap.size, 1, none⟩ = some (.slice av2 mv2 cv2) := by rw [cell_of_heap h27.right.right.pts_heap]; rfl
            have k2 : w9.cell? ⟨w4.heap.size, 2, none⟩ = some (.int .i64 c) := by rw [cell_of_heap h27.right.right.pts_heap]; rfl
            have k3 : w9.cell? ⟨w4.heap.size, 3, none⟩ = some (.int .i64 V.length) := by rw [cell_of_heap h27.right.right.pts_heap]; rfl
            have HST10 := Lib.hid (HST9.out.trans ho9.st)
            by_cases hvs : V.length ≤ 32
            · have hp0 : pagesV V = 0 := if_pos hvs
              rw [hp0]
              obtain ⟨_, _, (⟨_, hbv⟩ | ⟨hl2, _⟩)⟩ := HSD.out
              · have L2 := Lib.hid (load_short v ak2 K.length ck2 c _ h' V hbv hvs _ w9 h27 h27.right.own)
                clear h27 H26 E3 ho9
                go_wp2_with fail
                refine L2.out.mono ?_
                rintro e w10 ⟨hst12, o, rfl, h28⟩
                obtain ⟨ao, co, eo, _, _⟩ := Row.read h28
                subst eo
                have HF := Lib.hid (h28.right.right.right.right.right.right.right)
                clear h28
                go_wp2
                go_ret
                exact ⟨rfl, HF.out, HST10.out.trans hst12⟩
              · exact absurd hl2.1 (by omega)
            · have hp0 : pagesV V = chunks V := if_neg hvs
              have hp8 : 1 ≤ chunks V ∧ chunks V ≤ 8 := by unfold chunks; omega
              rw [hp0]
              have hcn : c ∈ ns := by
                rcases HNS.out with ⟨h, _⟩ | ⟨_, hch⟩
                · exact absurd h hvs
                · obtain ⟨q, hq⟩ : ∃ q, chunks V = q + 1 := ⟨chunks V - 1, by omega⟩
                  rw [hq] at hch
                  obtain ⟨_, _, rfl, _⟩ := hch
                  simp
              have L2 := Lib.hid (load_gone v u ak2 av2 K.length ck2 mv2 cv2 c V (HCO.out c hcn) ⟨by omega, by omega⟩ _ w9 h27)
              clear h27 H26 E3 ho9
              generalize chunks V = q at *
              go_wp2_with fail
              refine L2.out.mono ?_
              rintro e w10 ⟨hst12, rfl, h28⟩
              have HF := Lib.hid (h28.right.right.right.right.right.right)
              clear h28
              go_wp2
              go_ret
              exact ⟨rfl, HF.out, HST10.out.trans hst12⟩
      · have HST4 := Lib.hid (HST3.out.trans hst4)
        clear S hst4
        rcases hxx with ⟨rfl, hxm, hxl⟩ | ⟨rfl, hxl⟩
        · have hcond : (pn : Int) < (pagesV V : Int) ↔ True := iff_true_intro (by omega)
          have h6 : Sat ((VaultA v s0).star ((Pr.own hb).star (Pr.own (heapOf w)))) _ := (h5.perm (by ac_rfl)).alloc (.cells #[.slice none 0 0, .slice none 0 0, .int .i64 0, .int .i64 0] 33) |>.right
          obtain ⟨p1, qv1, C1⟩ := vcounts_A v s0 _ _ h6
          have HC1 := Lib.hid C1
          have zv := World.block_lt_of_cell? _ _ qv1
          clear h5 h6 C1
          go_wp2_with (go_at_call 8; refine (pages_any V.length (by omega) _).mono ?_; rintro e w6 ⟨rfl, rfl⟩; rw [pagesOf_eq])
          refine HC1.out.mono ?_
          rintro e w5 ⟨cv2, rfl, h7, hst5⟩
          obtain ⟨ac, cc, ec, _, _⟩ := Row.read h7
          subst ec
          obtain ⟨hc, hcI, h8⟩ := toArena (Q := fun y => Ints y (.slice ac s0.pool.counts.length cc) s0.pool.counts) h7 (fun y hy => Row.rowIn hy)
          have h9 : Sat ((Pr.own hb).star ((Pr.own (heapOf w)).star ((Pr.own hc).star (VaultA v s0)))) w5 := h8.perm (by ac_rfl)
          have E := Lib.hid (eqints_same hc hb _ _ s0.pool.counts hcI HBI.out hcl w5 h8.own h9.own)
          have HF := Lib.hid (h9.right.left)
          have HST5 := Lib.hid ((HST4.out.alloc (.cells #[.slice none 0 0, .slice none 0 0, .int .i64 0, .int .i64 0] 33)).trans hst5)
          clear h7 h8 h9 hcI hst5 HC1 qv1 zv
          go_wp2_with fail
          refine E.out.mono ?_
          rintro e w6 ⟨rfl, ho6⟩
          have HF6 := Lib.hid (Sat.only HF.out ho6)
          go_wp2
          go_ret
          exact ⟨rfl, HF6.out, HST5.out.trans ho6.st⟩
        · have h6 : Sat ((VaultA v s0).star ((Pr.own hb).star (Pr.own (heapOf w)))) _ := (h5.perm (by ac_rfl)).alloc (.cells #[.slice none 0 0, .slice none 0 0, .int .i64 0, .int .i64 0] 33) |>.right
          obtain ⟨p1, qv1, C1⟩ := vcounts_A v s0 _ _ h6
          have HC1 := Lib.hid C1
          have zv := World.block_lt_of_cell? _ _ qv1
          clear h5 h6 C1
          go_wp2_with (go_at_call 8; refine (pages_any V.length (by omega) _).mono ?_; rintro e w6 ⟨rfl, rfl⟩; rw [pagesOf_eq])
          refine HC1.out.mono ?_
          rintro e w5 ⟨cv2, rfl, h7, hst5⟩
          obtain ⟨ac, cc, ec, _, _⟩ := Row.read h7
          subst ec
          obtain ⟨hc, hcI, h8⟩ := toArena (Q := fun y => Ints y (.slice ac s0.pool.counts.length cc) s0.pool.counts) h7 (fun y hy => Row.rowIn hy)
          have h9 : Sat ((Pr.own hb).star ((Pr.own (heapOf w)).star ((Pr.own hc).star (VaultA v s0)))) w5 := h8.perm (by ac_rfl)
          have E := Lib.hid (eqints_same hc hb _ _ s0.pool.counts hcI HBI.out hcl w5 h8.own h9.own)
          have HF := Lib.hid (h9.right.left)
          have HST5 := Lib.hid ((HST4.out.alloc (.cells #[.slice none 0 0, .slice none 0 0, .int .i64 0, .int .i64 0] 33)).trans hst5)
          clear h7 h8 h9 hcI hst5 HC1 qv1 zv
          go_wp2_with fail
          refine E.out.mono ?_
          rintro e w6 ⟨rfl, ho6⟩
          have HF6 := Lib.hid (Sat.only HF.out ho6)
          go_wp2
          go_ret
          exact ⟨rfl, HF6.out, HST5.out.trans ho6.st⟩
    · have hkey2 : K.length < 1 ∨ 24 < K.length := by omega
      have S := Lib.hid (store_key v _ _ (heapOf w) K V HKB.out HVB.out hkey2 w3)
      have H4 := Lib.hid h4
      clear h4 hkey
      go_wp2_with fail
      refine S.out.mono ?_
      rintro e w4 ⟨rfl, ho⟩
      have h5 := H4.out.only ho
      have HST4 := Lib.hid (HST3.out.trans ho.st)
      clear S ho H4
      rcases hkey2 with hkey | hkey
      · have h6 : Sat ((VaultA v s0).star ((Pr.own hb).star (Pr.own (heapOf w)))) _ := (h5.perm (by ac_rfl)).alloc (.cells #[.slice none 0 0, .slice none 0 0, .int .i64 0, .int .i64 0] 33) |>.right
        obtain ⟨p1, qv1, C1⟩ := vcounts_A v s0 _ _ h6
        have HC1 := Lib.hid C1
        have zv := World.block_lt_of_cell? _ _ qv1
        clear h5 h6 C1
        go_wp2_with (go_at_call 8; refine (pages_any V.length (by omega) _).mono ?_; rintro e w6 ⟨rfl, rfl⟩; rw [pagesOf_eq])
        refine HC1.out.mono ?_
        rintro e w5 ⟨cv2, rfl, h7, hst5⟩
        obtain ⟨ac, cc, ec, _, _⟩ := Row.read h7
        subst ec
        obtain ⟨hc, hcI, h8⟩ := toArena (Q := fun y => Ints y (.slice ac s0.pool.counts.length cc) s0.pool.counts) h7 (fun y hy => Row.rowIn hy)
        have h9 : Sat ((Pr.own hb).star ((Pr.own (heapOf w)).star ((Pr.own hc).star (VaultA v s0)))) w5 := h8.perm (by ac_rfl)
        have E := Lib.hid (eqints_same hc hb _ _ s0.pool.counts hcI HBI.out hcl w5 h8.own h9.own)
        have HF := Lib.hid (h9.right.left)
        have HST5 := Lib.hid ((HST4.out.alloc (.cells #[.slice none 0 0, .slice none 0 0, .int .i64 0, .int .i64 0] 33)).trans hst5)
        clear h7 h8 h9 hcI hst5 HC1 qv1 zv
        go_wp2_with fail
        refine E.out.mono ?_
        rintro e w6 ⟨rfl, ho6⟩
        have HF6 := Lib.hid (Sat.only HF.out ho6)
        go_wp2
        go_ret
        exact ⟨rfl, HF6.out, HST5.out.trans ho6.st⟩
      · have h6 : Sat ((VaultA v s0).star ((Pr.own hb).star (Pr.own (heapOf w)))) _ := (h5.perm (by ac_rfl)).alloc (.cells #[.slice none 0 0, .slice none 0 0, .int .i64 0, .int .i64 0] 33) |>.right
        obtain ⟨p1, qv1, C1⟩ := vcounts_A v s0 _ _ h6
        have HC1 := Lib.hid C1
        have zv := World.block_lt_of_cell? _ _ qv1
        clear h5 h6 C1
        go_wp2_with (go_at_call 8; refine (pages_any V.length (by omega) _).mono ?_; rintro e w6 ⟨rfl, rfl⟩; rw [pagesOf_eq])
        refine HC1.out.mono ?_
        rintro e w5 ⟨cv2, rfl, h7, hst5⟩
        obtain ⟨ac, cc, ec, _, _⟩ := Row.read h7
        subst ec
        obtain ⟨hc, hcI, h8⟩ := toArena (Q := fun y => Ints y (.slice ac s0.pool.counts.length cc) s0.pool.counts) h7 (fun y hy => Row.rowIn hy)
        have h9 : Sat ((Pr.own hb).star ((Pr.own (heapOf w)).star ((Pr.own hc).star (VaultA v s0)))) w5 := h8.perm (by ac_rfl)
        have E := Lib.hid (eqints_same hc hb _ _ s0.pool.counts hcI HBI.out hcl w5 h8.own h9.own)
        have HF := Lib.hid (h9.right.left)
        have HST5 := Lib.hid ((HST4.out.alloc (.cells #[.slice none 0 0, .slice none 0 0, .int .i64 0, .int .i64 0] 33)).trans hst5)
        clear h7 h8 h9 hcI hst5 HC1 qv1 zv
        go_wp2_with fail
        refine E.out.mono ?_
        rintro e w6 ⟨rfl, ho6⟩
        have HF6 := Lib.hid (Sat.only HF.out ho6)
        go_wp2
        go_ret
        exact ⟨rfl, HF6.out, HST5.out.trans ho6.st⟩
  · go_enter Try.func5, Try.ntmps5
    go_wp2_with (first | refine wpList_min rfl _ _ rfl rfl (vals.length : Int) 200 (n : Int) hmin.symm rfl rfl ?_ | refine wpList_slice_to rfl _ _ rfl a1 vals.length c1 n hnc rfl rfl ?_)
    refine X.out.mono ?_
    rintro e w1 ⟨rfl, hs1, hst1⟩
    have HS1 := Lib.hid hs1
    have HST1 := Lib.hid hst1
    clear hs1 hst1 X
    rcases Int.lt_or_le pages 1 with h | h
    · have hd : decide (pages < 1) = true := decide_eq_true h
      go_wp2
      go_ret
      exact ⟨rfl, HS1.out, HST1.out⟩
    · have h2 : 300 < pages := by omega
      have hd : decide (300 < pages) = true := decide_eq_true h2
      go_wp2
      go_ret
      exact ⟨rfl, HS1.out, HST1.out⟩
end Go.Proofs.Ytbobcmimkonnoaa.back3
