/- The vault: drop of a chain of pages of values, in the midst of an act; the conditions stand as hypotheses. -/
import Derived.Test.YtbobcmimkonnoaaFree
namespace Go.Cop
def VaultS.freedAll (s : VaultS) : List Int → VaultS
  | [] => s
  | n :: ns => (s.freed n).freedAll ns
theorem freed_count {s : VaultS} {n m : Int} (h : s.pool.there n) (h1 : s.pool.count n = 1) : (s.freed n).pool.count m = if m = n then 0 else s.pool.count m := by
  have := did_count (s := s.pool) (b := -1) (m := m) h
  rw [h1] at this
  exact this
theorem freed_state {s : VaultS} {n : Int} (h : s.pool.there n) (h1 : s.pool.count n = 1) (h2 : s.pool.lasts n = false) : (s.freed n).pool.state n = 1 := by
  have := did_state (s := s.pool) (b := -1) (m := n) h
  rw [if_pos rfl, h1, h2] at this
  exact this
theorem chain_freed {s : VaultS} {V : List Int} {k j : Nat} {c n : Int} {ns : List Int} (h : ChainAt s V k j c ns) (ht : s.pool.there n) (h1 : s.pool.count n = 1) (hn : n ∉ ns) : ChainAt (s.freed n) V k j c ns := by
  refine chain_keep (fun m hm => ?_) h
  have : m ≠ n := fun e => hn (e ▸ hm)
  refine ⟨by rw [freed_count ht h1, if_neg this], ?_⟩
  show (if m = n then _ else s.on m) = _
  rw [if_neg this]
end Go.Cop
namespace Go.Proofs.Ytbobcmimkonnoaa.drop
open Go.ChangeShapes Go.WideShapes Go.ChangeAt Go.RowKit Go.Sl Go.Cop Go.Proofs.Ytbobcmimkonnoaa.pool1 Go.Proofs.Ytbobcmimkonnoaa.pool2 Go.Proofs.Ytbobcmimkonnoaa.pool5 Go.Proofs.Ytbobcmimkonnoaa.pool9 Go.Proofs.Ytbobcmimkonnoaa.clone Go.Proofs.Ytbobcmimkonnoaa.page Go.Proofs.Ytbobcmimkonnoaa.vault1 Go.Proofs.Ytbobcmimkonnoaa.vault2 Go.Proofs.Ytbobcmimkonnoaa.vault3 Go.Proofs.Ytbobcmimkonnoaa.vault4 Go.Proofs.Ytbobcmimkonnoaa.kids Go.Proofs.Ytbobcmimkonnoaa.free

set_option maxRecDepth 100000 in
set_option maxHeartbeats 4000000 in
theorem drop_chain (v ab : Nat) (mark : Int) (V : List Int) : ∀ (k j : Nat) (c : Int) (ns : List Int) (s : VaultS) (was : List (Int × Option PageV)) (F : Pr) (w : World),
    ChainAt s V (k + 1) j c ns → ns.Nodup → (∀ n ∈ ns, s.pool.lasts n = false) → s.pool.floor + s.pool.acts.length + (k + 1) ≤ 1099511627776 → was.length + (k + 1) ≤ 65536 → Sat ((VMA v s ab mark was).star F) w →
    Calls Try.prog 57 #[.pointer (some ⟨v, 0, none⟩), .pointer (some ⟨ab, 0, none⟩), .int .i64 c] w fun e w' =>
      e = .returned (.int .i64 0) ∧ (∃ was', Sat ((VMA v (s.freedAll ns) ab mark was').star F) w') ∧ Stays w w' := by
  intro k
  induction k with
  | zero =>
    intro j c ns s was F w hch hnd hla hpm hwm hF
    obtain ⟨c', ns', rfl, hcb, hcc, hon, rfl, rfl⟩ := hch
    obtain ⟨x, wv, ws, ok, hws, hF⟩ := vma_iff.1 hF
    have hth := there_of_count (s := s.pool) (n := c) (by omega)
    have hla0 := hla c (by simp)
    have h1 : Sat ((PoolA x.p s.pool).star ((Pr.pts v (.cells #[.pointer (some ⟨x.p, 0, none⟩), .map (some x.mb), x.av, .int .i64 s.floor] 43)).star
      ((((MapA Try.prog 3 x.mb x.f).star ((Row 94 2 x.av s.acts.length (actCells x.axs)).star (Pr.own x.h)))).star (((Pr.pts ab (.cells #[.int .i64 mark, wv] 94)).star (Row 116 7 wv ws.length (ws.flatMap WasX.cells))).star F)))) w := hF.perm (by unfold VMAt VaultAt; ac_rfl)
    have qv : w.cell? ⟨v, 0, none⟩ = some (.pointer (some ⟨x.p, 0, none⟩)) := by rw [cell_of_heap h1.right.pts_heap]; rfl
    have D := dec_A x.p s.pool c _ w h1 (by omega)
    rw [hcc] at D
    have HD := Lib.hid D
    have HX := Lib.hid (And.intro ok hws)
    have HST := Lib.hid (freed_state hth hcc hla0)
    have HON := ok.on c
    rw [hon] at HON
    obtain ⟨pv, hf, hpv⟩ := HON
    obtain ⟨vi, vd, rfl, hvi, hvd⟩ := hpv
    obtain ⟨ai, ci, rfl, hcm⟩ := items_none hvi
    obtain ⟨_, ad, cd, rfl, _⟩ := hvd
    have HFN := Lib.hid hf
    have HWM := Lib.hid hwm
    clear h1 D hF ok hws hon hf hvi hla hpm hwm
    go_enter Try.func57, Try.ntmps57
    go_wp2_with fail
    refine HD.out.mono ?_
    rintro e w1 (⟨_, h0, _⟩ | ⟨rfl, _, h2, hst⟩)
    · exact absurd h0 (by omega)
    have h3 : Sat ((MapA Try.prog 3 x.mb x.f).star ((Pr.pts v (.cells #[.pointer (some ⟨x.p, 0, none⟩), .map (some x.mb), x.av, .int .i64 s.floor] 43)).star ((PoolA x.p (s.pool.did c (-1))).star
      ((((Row 94 2 x.av s.acts.length (actCells x.axs)).star (Pr.own x.h))).star (((Pr.pts ab (.cells #[.int .i64 mark, wv] 94)).star (Row 116 7 wv ws.length (ws.flatMap WasX.cells))).star F))))) w1 := h2.perm (by ac_rfl)
    have q1 : w1.cell? ⟨v, 1, none⟩ = some (.map (some x.mb)) := by rw [cell_of_heap h3.right.pts_heap]; rfl
    have K := kids_blob ai ad ci (chunk V j).length cd 0 _ w1 h3
    rw [show kidsB 0 = [] from rfl] at K
    have HK := Lib.hid K
    have H3 := Lib.hid h3
    clear h2 h3 K qv HD
    rw [show (1 : Int) - 1 = 0 from rfl]
    go_wp2_with (first | (at_lookup; refine wpList_look rfl _ _ _ false rfl Try.underlying3 Try.underlying40 zeroPage (zero_page _) c hcb rfl rfl H3.out ?_; rw [HFN.out]) | (go_at_call 85; refine HK.out.mono ?_))
    rintro e w2 ⟨kv, rfl, h4, hst2⟩
    obtain ⟨ak, ck, ek, _, _⟩ := Row.read h4
    subst ek
    obtain ⟨ok, hws⟩ := HX.out
    have h5 : Sat ((VMA v { s with pool := s.pool.did c (-1) } ab mark was).star ((Row 3 1 (.slice ak 0 ck) 0 (([] : List Int).map (Value.int .i64))).star F)) w2 := vma_iff.2 ⟨x, wv, ws, ⟨ok.on, ok.acts, ok.f0, ok.fb⟩, hws, h4.perm (by unfold VMAt VaultAt; dsimp only; ac_rfl)⟩
    have FR := Lib.hid (free_A v { s with pool := s.pool.did c (-1) } ab mark was c hcb HST.out (by have := HWM.out; omega) _ w2 h5)
    have HS2 := Lib.hid (hst.trans hst2)
    clear h4 h5 ok hws hst hst2 HK H3 q1
    go_wp2_with fail
    refine FR.out.mono ?_
    rintro e w3 ⟨rfl, h6, hst3⟩
    have H6 := Lib.hid h6
    have HS3 := Lib.hid (HS2.out.trans hst3)
    clear h6 hst3 FR
    go_wp2
    go_loopw [42] (fun i wr => i = .int .i64 0 ∧ wr = w3) (fun _ _ => 0)
    case atStart => exact ⟨rfl, rfl⟩
    case round =>
      obtain ⟨rfl, rfl⟩ := hrel
      go_wp2
      go_ret
      exact ⟨rfl, ⟨_, (H6.out.perm (Pr.left_comm _ _ _)).right⟩, HS3.out⟩
  | succ k ih =>
    intro j c ns s was F w hch hnd hla hpm hwm hF
    obtain ⟨c', ns', rfl, hcb, hcc, hon, htl⟩ := hch
    have hc' : c' ≠ 0 := by obtain ⟨_, _, _, h, _⟩ := htl; omega
    have hb0 : (c' == 0) = false := by rw [beq_eq_false_iff_ne]; exact hc'
    obtain ⟨hni, hnd'⟩ := List.nodup_cons.1 hnd
    obtain ⟨x, wv, ws, ok, hws, hF⟩ := vma_iff.1 hF
    have hth := there_of_count (s := s.pool) (n := c) (by omega)
    have hla0 := hla c (by simp)
    have HTL := Lib.hid (chain_freed htl hth hcc hni)
    have HLA := Lib.hid (fun n (hn : n ∈ ns') => hla n (by simp [hn]))
    have HND := Lib.hid hnd'
    have HPM := Lib.hid hpm
    have h1 : Sat ((PoolA x.p s.pool).star ((Pr.pts v (.cells #[.pointer (some ⟨x.p, 0, none⟩), .map (some x.mb), x.av, .int .i64 s.floor] 43)).star
      ((((MapA Try.prog 3 x.mb x.f).star ((Row 94 2 x.av s.acts.length (actCells x.axs)).star (Pr.own x.h)))).star (((Pr.pts ab (.cells #[.int .i64 mark, wv] 94)).star (Row 116 7 wv ws.length (ws.flatMap WasX.cells))).star F)))) w := hF.perm (by unfold VMAt VaultAt; ac_rfl)
    have qv : w.cell? ⟨v, 0, none⟩ = some (.pointer (some ⟨x.p, 0, none⟩)) := by rw [cell_of_heap h1.right.pts_heap]; rfl
    have D := dec_A x.p s.pool c _ w h1 (by omega)
    rw [hcc] at D
    have HD := Lib.hid D
    have HX := Lib.hid (And.intro ok hws)
    have HST := Lib.hid (freed_state hth hcc hla0)
    have HON := ok.on c
    rw [hon] at HON
    obtain ⟨pv, hf, hpv⟩ := HON
    obtain ⟨vi, vd, rfl, hvi, hvd⟩ := hpv
    obtain ⟨ai, ci, rfl, hcm⟩ := items_none hvi
    obtain ⟨_, ad, cd, rfl, _⟩ := hvd
    have HFN := Lib.hid hf
    have HWM := Lib.hid hwm
    clear h1 D hF ok hws hon hf hvi hla hpm hwm htl hnd hnd' hni
    go_enter Try.func57, Try.ntmps57
    go_wp2_with fail
    refine HD.out.mono ?_
    rintro e w1 (⟨_, h0, _⟩ | ⟨rfl, _, h2, hst⟩)
    · exact absurd h0 (by omega)
    have h3 : Sat ((MapA Try.prog 3 x.mb x.f).star ((Pr.pts v (.cells #[.pointer (some ⟨x.p, 0, none⟩), .map (some x.mb), x.av, .int .i64 s.floor] 43)).star ((PoolA x.p (s.pool.did c (-1))).star
      ((((Row 94 2 x.av s.acts.length (actCells x.axs)).star (Pr.own x.h))).star (((Pr.pts ab (.cells #[.int .i64 mark, wv] 94)).star (Row 116 7 wv ws.length (ws.flatMap WasX.cells))).star F))))) w1 := h2.perm (by ac_rfl)
    have q1 : w1.cell? ⟨v, 1, none⟩ = some (.map (some x.mb)) := by rw [cell_of_heap h3.right.pts_heap]; rfl
    have K := kids_blob ai ad ci (chunk V j).length cd c' _ w1 h3
    rw [show kidsB c' = [c'] from if_neg hc'] at K
    have HK := Lib.hid K
    have H3 := Lib.hid h3
    clear h2 h3 K qv HD
    rw [show (1 : Int) - 1 = 0 from rfl]
    go_wp2_with (first | (at_lookup; refine wpList_look rfl _ _ _ false rfl Try.underlying3 Try.underlying40 zeroPage (zero_page _) c hcb rfl rfl H3.out ?_; rw [HFN.out]) | (go_at_call 85; refine HK.out.mono ?_))
    rintro e w2 ⟨kv, rfl, h4, hst2⟩
    obtain ⟨ak, ck, ek, _, _⟩ := Row.read h4
    subst ek
    obtain ⟨ok, hws⟩ := HX.out
    have h5 : Sat ((VMA v { s with pool := s.pool.did c (-1) } ab mark was).star ((Row 3 1 (.slice ak 1 ck) 1 ([c'].map (Value.int .i64))).star F)) w2 := vma_iff.2 ⟨x, wv, ws, ⟨ok.on, ok.acts, ok.f0, ok.fb⟩, hws, h4.perm (by unfold VMAt VaultAt; dsimp only; ac_rfl)⟩
    have FR := Lib.hid (free_A v { s with pool := s.pool.did c (-1) } ab mark was c hcb HST.out (by have := HWM.out; omega) _ w2 h5)
    have HS2 := Lib.hid (hst.trans hst2)
    clear h4 h5 ok hws hst hst2 HK H3 q1
    go_wp2_with fail
    refine FR.out.mono ?_
    rintro e w3 ⟨rfl, h6, hst3⟩
    have H6 := Lib.hid h6
    have HS3 := Lib.hid (HS2.out.trans hst3)
    clear h6 hst3 FR
    go_wp2
    go_loopw [42] (fun i wr => Stays w wr ∧ ((i = .int .i64 0 ∧ Sat ((VMA v (s.freed c) ab mark (was ++ [(c, s.on c)])).star ((Row 3 1 (.slice ak 1 ck) 1 ([c'].map (Value.int .i64))).star F)) wr) ∨
      (i = .int .i64 1 ∧ ∃ was', Sat ((VMA v ((s.freed c).freedAll ns') ab mark was').star ((Row 3 1 (.slice ak 1 ck) 1 ([c'].map (Value.int .i64))).star F)) wr))) (fun i _ => 1 - (intOf i).toNat)
    case atStart => exact ⟨HS3.out, .inl ⟨rfl, H6.out⟩⟩
    case round =>
      clear H6
      obtain ⟨hst4, (⟨rfl, hs4⟩ | ⟨rfl, was', hs4⟩)⟩ := hrel
      · obtain ⟨_, _, e7, _, hc7⟩ := Row.read (hs4.perm (Pr.left_comm _ _ _))
        obtain ⟨rfl, _, rfl⟩ := Value.slice.inj e7
        obtain ⟨b7, e7', hc7b⟩ := hc7 (by omega)
        clear hc7 e7
        subst e7'
        have q7 : wr.cell? ⟨b7, 0, none⟩ = some (.int .i64 c') := (hc7b 0 (by omega)).1
        have IH := Lib.hid (ih (j + 1) c' ns' (s.freed c) _ _ wr HTL.out HND.out HLA.out (by
          have := HPM.out
          show s.pool.floor + ((s.pool.acts ++ [_]).length : Nat) + _ ≤ _
          rw [List.length_append]
          simp only [List.length_cons, List.length_nil]
          omega) (by
          have := HWM.out
          rw [List.length_append]
          simp only [List.length_cons, List.length_nil]
          omega) hs4)
        have HST4 := Lib.hid hst4
        clear hs4 hc7b hst4
        go_wp2_with fail
        refine IH.out.mono ?_
        rintro e w5 ⟨rfl, ⟨was2, h8⟩, hst5⟩
        have H8 := Lib.hid h8
        have HST5 := Lib.hid (HST4.out.trans hst5)
        clear h8 hst5 IH
        go_wp2
        go_roundw
        case rel => exact ⟨HST5.out, .inr ⟨rfl, was2, H8.out⟩⟩
        case measure => simp [intOf]
      · have HS4 := Lib.hid hs4
        clear hs4
        go_wp2
        go_ret
        exact ⟨rfl, ⟨_, (HS4.out.perm (Pr.left_comm _ _ _)).right⟩, hst4⟩
end Go.Proofs.Ytbobcmimkonnoaa.drop
