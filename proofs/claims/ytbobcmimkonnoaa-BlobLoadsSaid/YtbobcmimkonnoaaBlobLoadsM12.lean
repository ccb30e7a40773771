/- The vault: drop of a chain of pages of values, in the midst of an act; the conditions stand as hypotheses. What is stored, whatever the value; the conditions stand as hypotheses. The vault's Drop and blob.Release; the conditions stand as hypotheses. The pool's Counts; the document's EqInts at two lists that are the same; the conditions stand as hypotheses. The pool's Load; the conditions stand as hypotheses. The program's check of any page; the conditions stand as hypotheses. -/
import Derived.Test.YtbobcmimkonnoaaBlobLoadsM11
import Derived.Test.YtbobcmimkonnoaaBlobLoadsM03
import Derived.Test.YtbobcmimkonnoaaBlobLoadsM09
import Derived.Test.YtbobcmimkonnoaaBlobLoadsM07
namespace Go.Cop
def VaultS.freedAll (s : VaultS) : List Int → VaultS
  | [] => s
  | n :: ns => (s.freed n).freedAll ns
theorem freed_count {s : VaultS} {n m : Int} (h : s.pool.there n) (h1 : s.pool.count n = 1) : (s.freed n).pool.count m = if m = n then 0 else s.pool.count m := by
  have := did_count (s := s.pool) (b := -1) (m := m) h
  rw [h1] at this
  exact this
theorem freed_state {s : VaultS} {n : Int} (h : s.pool.there n) (h1 : s.pool.count n = 1) (h2 : s.pool.lasts n = false) : (s.freed n).pool.state n = 1 := by
  have := did_state (s := s.pool) (b := -1) (m := n) h
  rw [if_pos rfl, h1, h2] at this
  exact this
theorem chain_freed {s : VaultS} {V : List Int} {k j : Nat} {c n : Int} {ns : List Int} (h : ChainAt s V k j c ns) (ht : s.pool.there n) (h1 : s.pool.count n = 1) (hn : n ∉ ns) : ChainAt (s.freed n) V k j c ns := by
  refine chain_keep (fun m hm => ?_) h
  have : m ≠ n := fun e => hn (e ▸ hm)
  refine ⟨by rw [freed_count ht h1, if_neg this], ?_⟩
  show (if m = n then _ else s.on m) = _
  rw [if_neg this]
end Go.Cop
namespace Go.Proofs.Ytbobcmimkonnoaa.drop
open Go.ChangeShapes Go.WideShapes Go.ChangeAt Go.RowKit Go.Sl Go.Cop Go.Proofs.Ytbobcmimkonnoaa.pool1 Go.Proofs.Ytbobcmimkonnoaa.pool2 Go.Proofs.Ytbobcmimkonnoaa.pool5 Go.Proofs.Ytbobcmimkonnoaa.pool9 Go.Proofs.Ytbobcmimkonnoaa.clone Go.Proofs.Ytbobcmimkonnoaa.page Go.Proofs.Ytbobcmimkonnoaa.vault1 Go.Proofs.Ytbobcmimkonnoaa.vault2 Go.Proofs.Ytbobcmimkonnoaa.vault3 Go.Proofs.Ytbobcmimkonnoaa.vault4 Go.Proofs.Ytbobcmimkonnoaa.kids Go.Proofs.Ytbobcmimkonnoaa.free

set_option maxRecDepth 100000 in
set_option maxHeartbeats 4000000 in
theorem drop_chain (v ab : Nat) (mark : Int) (V : List Int) : ∀ (k j : Nat) (c : Int) (ns : List Int) (s : VaultS) (was : List (Int × Option PageV)) (F : Pr) (w : World),
    ChainAt s V (k + 1) j c ns → ns.Nodup → (∀ n ∈ ns, s.pool.lasts n = false) → s.pool.floor + s.pool.acts.length + (k + 1) ≤ 1099511627776 → was.length + (k + 1) ≤ 65536 → Sat ((VMA v s ab mark was).star F) w →
    Calls Try.prog 57 #[.pointer (some ⟨v, 0, none⟩), .pointer (some ⟨ab, 0, none⟩), .int .i64 c] w fun e w' =>
      e = .returned (.int .i64 0) ∧ (∃ was', Sat ((VMA v (s.freedAll ns) ab mark was').star F) w') ∧ Stays w w' := by
  intro k
  induction k with
  | zero =>
    intro j c ns s was F w hch hnd hla hpm hwm hF
    obtain ⟨c', ns', rfl, hcb, hcc, hon, rfl, rfl⟩ := hch
    obtain ⟨x, wv, ws, ok, hws, hF⟩ := vma_iff.1 hF
    have hth := there_of_count (s := s.pool) (n := c) (by omega)
    have hla0 := hla c (by simp)
    have h1 : Sat ((PoolA x.p s.pool).star ((Pr.pts v (.cells #[.pointer (some ⟨x.p, 0, none⟩), .map (some x.mb), x.av, .int .i64 s.floor] 43)).star
      ((((MapA Try.prog 3 x.mb x.f).star ((Row 94 2 x.av s.acts.length (actCells x.axs)).star (Pr.own x.h)))).star (((Pr.pts ab (.cells #[.int .i64 mark, wv] 94)).star (Row 116 7 wv ws.length (ws.flatMap WasX.cells))).star F)))) w := hF.perm (by unfold VMAt VaultAt; ac_rfl)
    have qv : w.cell? ⟨v, 0, none⟩ = some (.pointer (some ⟨x.p, 0, none⟩)) := by rw [cell_of_heap h1.right.pts_heap]; rfl
    have D := dec_A x.p s.pool c _ w h1 (by omega)
    rw [hcc] at D
    have HD := Lib.hid D
    have HX := Lib.hid (And.intro ok hws)
    have HST := Lib.hid (freed_state hth hcc hla0)
    have HON := ok.on c
    rw [hon] at HON
    obtain ⟨pv, hf, hpv⟩ := HON
    obtain ⟨vi, vd, rfl, hvi, hvd⟩ := hpv
    obtain ⟨ai, ci, rfl, hcm⟩ := items_none hvi
    obtain ⟨_, ad, cd, rfl, _⟩ := hvd
    have HFN := Lib.hid hf
    have HWM := Lib.hid hwm
    clear h1 D hF ok hws hon hf hvi hla hpm hwm
    go_enter Try.func57, Try.ntmps57
    go_wp2_with fail
    refine HD.out.mono ?_
    rintro e w1 (⟨_, h0, _⟩ | ⟨rfl, _, h2, hst⟩)
    · exact absurd h0 (by omega)
    have h3 : Sat ((MapA Try.prog 3 x.mb x.f).star ((Pr.pts v (.cells #[.pointer (some ⟨x.p, 0, none⟩), .map (some x.mb), x.av, .int .i64 s.floor] 43)).star ((PoolA x.p (s.pool.did c (-1))).star
      ((((Row 94 2 x.av s.acts.length (actCells x.axs)).star (Pr.own x.h))).star (((Pr.pts ab (.cells #[.int .i64 mark, wv] 94)).star (Row 116 7 wv ws.length (ws.flatMap WasX.cells))).star F))))) w1 := h2.perm (by ac_rfl)
    have q1 : w1.cell? ⟨v, 1, none⟩ = some (.map (some x.mb)) := by rw [cell_of_heap h3.right.pts_heap]; rfl
    have K := kids_blob ai ad ci (chunk V j).length cd 0 _ w1 h3
    rw [show kidsB 0 = [] from rfl] at K
    have HK := Lib.hid K
    have H3 := Lib.hid h3
    clear h2 h3 K qv HD
    rw [show (1 : Int) - 1 = 0 from rfl]
    go_wp2_with (first | (at_lookup; refine wpList_look rfl _ _ _ false rfl Try.underlying3 Try.underlying40 zeroPage (zero_page _) c hcb rfl rfl H3.out ?_; rw [HFN.out]) | (go_at_call 85; refine HK.out.mono ?_))
    rintro e w2 ⟨kv, rfl, h4, hst2⟩
    obtain ⟨ak, ck, ek, _, _⟩ := Row.read h4
    subst ek
    obtain ⟨ok, hws⟩ := HX.out
    have h5 : Sat ((VMA v { s with pool := s.pool.did c (-1) } ab mark was).star ((Row 3 1 (.slice ak 0 ck) 0 (([] : List Int).map (Value.int .i64))).star F)) w2 := vma_iff.2 ⟨x, wv, ws, ⟨ok.on, ok.acts, ok.f0, ok.fb⟩, hws, h4.perm (by unfold VMAt VaultAt; dsimp only; ac_rfl)⟩
    have FR := Lib.hid (free_A v { s with pool := s.pool.did c (-1) } ab mark was c hcb HST.out (by have := HWM.out; omega) _ w2 h5)
    have HS2 := Lib.hid (hst.trans hst2)
    clear h4 h5 ok hws hst hst2 HK H3 q1
    go_wp2_with fail
    refine FR.out.mono ?_
    rintro e w3 ⟨rfl, h6, hst3⟩
    have H6 := Lib.hid h6
    have HS3 := Lib.hid (HS2.out.trans hst3)
    clear h6 hst3 FR
    go_wp2
    go_loopw [42] (fun i wr => i = .int .i64 0 ∧ wr = w3) (fun _ _ => 0)
    case atStart => exact ⟨rfl, rfl⟩
    case round =>
      obtain ⟨rfl, rfl⟩ := hrel
      go_wp2
      go_ret
      exact ⟨rfl, ⟨_, (H6.out.perm (Pr.left_comm _ _ _)).right⟩, HS3.out⟩
  | succ k ih =>
    intro j c ns s was F w hch hnd hla hpm hwm hF
    obtain ⟨c', ns', rfl, hcb, hcc, hon, htl⟩ := hch
    have hc' : c' ≠ 0 := by obtain ⟨_, _, _, h, _⟩ := htl; omega
    have hb0 : (c' == 0) = false := by rw [beq_eq_false_iff_ne]; exact hc'
    obtain ⟨hni, hnd'⟩ := List.nodup_cons.1 hnd
    obtain ⟨x, wv, ws, ok, hws, hF⟩ := vma_iff.1 hF
    have hth := there_of_count (s := s.pool) (n := c) (by omega)
    have hla0 := hla c (by simp)
    have HTL := Lib.hid (chain_freed htl hth hcc hni)
    have HLA := Lib.hid (fun n (hn : n ∈ ns') => hla n (by simp [hn]))
    have HND := Lib.hid hnd'
    have HPM := Lib.hid hpm
    have h1 : Sat ((PoolA x.p s.pool).star ((Pr.pts v (.cells #[.pointer (some ⟨x.p, 0, none⟩), .map (some x.mb), x.av, .int .i64 s.floor] 43)).star
      ((((MapA Try.prog 3 x.mb x.f).star ((Row 94 2 x.av s.acts.length (actCells x.axs)).star (Pr.own x.h)))).star (((Pr.pts ab (.cells #[.int .i64 mark, wv] 94)).star (Row 116 7 wv ws.length (ws.flatMap WasX.cells))).star F)))) w := hF.perm (by unfold VMAt VaultAt; ac_rfl)
    have qv : w.cell? ⟨v, 0, none⟩ = some (.pointer (some ⟨x.p, 0, none⟩)) := by rw [cell_of_heap h1.right.pts_heap]; rfl
    have D := dec_A x.p s.pool c _ w h1 (by omega)
    rw [hcc] at D
    have HD := Lib.hid D
    have HX := Lib.hid (And.intro ok hws)
    have HST := Lib.hid (freed_state hth hcc hla0)
    have HON := ok.on c
    rw [hon] at HON
    obtain ⟨pv, hf, hpv⟩ := HON
    obtain ⟨vi, vd, rfl, hvi, hvd⟩ := hpv
    obtain ⟨ai, ci, rfl, hcm⟩ := items_none hvi
    obtain ⟨_, ad, cd, rfl, _⟩ := hvd
    have HFN := Lib.hid hf
    have HWM := Lib.hid hwm
    clear h1 D hF ok hws hon hf hvi hla hpm hwm htl hnd hnd' hni
    go_enter Try.func57, Try.ntmps57
    go_wp2_with fail
    refine HD.out.mono ?_
    rintro e w1 (⟨_, h0, _⟩ | ⟨rfl, _, h2, hst⟩)
    · exact absurd h0 (by omega)
    have h3 : Sat ((MapA Try.prog 3 x.mb x.f).star ((Pr.pts v (.cells #[.pointer (some ⟨x.p, 0, none⟩), .map (some x.mb), x.av, .int .i64 s.floor] 43)).star ((PoolA x.p (s.pool.did c (-1))).star
      ((((Row 94 2 x.av s.acts.length (actCells x.axs)).star (Pr.own x.h))).star (((Pr.pts ab (.cells #[.int .i64 mark, wv] 94)).star (Row 116 7 wv ws.length (ws.flatMap WasX.cells))).star F))))) w1 := h2.perm (by ac_rfl)
    have q1 : w1.cell? ⟨v, 1, none⟩ = some (.map (some x.mb)) := by rw [cell_of_heap h3.right.pts_heap]; rfl
    have K := kids_blob ai ad ci (chunk V j).length cd c' _ w1 h3
    rw [show kidsB c' = [c'] from if_neg hc'] at K
    have HK := Lib.hid K
    have H3 := Lib.hid h3
    clear h2 h3 K qv HD
    rw [show (1 : Int) - 1 = 0 from rfl]
    go_wp2_with (first | (at_lookup; refine wpList_look rfl _ _ _ false rfl Try.underlying3 Try.underlying40 zeroPage (zero_page _) c hcb rfl rfl H3.out ?_; rw [HFN.out]) | (go_at_call 85; refine HK.out.mono ?_))
    rintro e w2 ⟨kv, rfl, h4, hst2⟩
    obtain ⟨ak, ck, ek, _, _⟩ := Row.read h4
    subst ek
    obtain ⟨ok, hws⟩ := HX.out
    have h5 : Sat ((VMA v { s with pool := s.pool.did c (-1) } ab mark was).star ((Row 3 1 (.slice ak 1 ck) 1 ([c'].map (Value.int .i64))).star F)) w2 := vma_iff.2 ⟨x, wv, ws, ⟨ok.on, ok.acts, ok.f0, ok.fb⟩, hws, h4.perm (by unfold VMAt VaultAt; dsimp only; ac_rfl)⟩
    have FR := Lib.hid (free_A v { s with pool := s.pool.did c (-1) } ab mark was c hcb HST.out (by have := HWM.out; omega) _ w2 h5)
    have HS2 := Lib.hid (hst.trans hst2)
    clear h4 h5 ok hws hst hst2 HK H3 q1
    go_wp2_with fail
    refine FR.out.mono ?_
    rintro e w3 ⟨rfl, h6, hst3⟩
    have H6 := Lib.hid h6
    have HS3 := Lib.hid (HS2.out.trans hst3)
    clear h6 hst3 FR
    go_wp2
    go_loopw [42] (fun i wr => Stays w wr ∧ ((i = .int .i64 0 ∧ Sat ((VMA v (s.freed c) ab mark (was ++ [(c, s.on c)])).star ((Row 3 1 (.slice ak 1 ck) 1 ([c'].map (Value.int .i64))).star F)) wr) ∨
      (i = .int .i64 1 ∧ ∃ was', Sat ((VMA v ((s.freed c).freedAll ns') ab mark was').star ((Row 3 1 (.slice ak 1 ck) 1 ([c'].map (Value.int .i64))).star F)) wr))) (fun i _ => 1 - (intOf i).toNat)
    case atStart => exact ⟨HS3.out, .inl ⟨rfl, H6.out⟩⟩
    case round =>
      clear H6
      obtain ⟨hst4, (⟨rfl, hs4⟩ | ⟨rfl, was', hs4⟩)⟩ := hrel
      · obtain ⟨_, _, e7, _, hc7⟩ := Row.read (hs4.perm (Pr.left_comm _ _ _))
        obtain ⟨rfl, _, rfl⟩ := Value.slice.inj e7
        obtain ⟨b7, e7', hc7b⟩ := hc7 (by omega)
        clear hc7 e7
        subst e7'
        have q7 : wr.cell? ⟨b7, 0, none⟩ = some (.int .i64 c') := (hc7b 0 (by omega)).1
        have IH := Lib.hid (ih (j + 1) c' ns' (s.freed c) _ _ wr HTL.out HND.out HLA.out (by
          have := HPM.out
          show s.pool.floor + ((s.pool.acts ++ [_]).length : Nat) + _ ≤ _
          rw [List.length_append]
          simp only [List.length_cons, List.length_nil]
          omega) (by
          have := HWM.out
          rw [List.length_append]
          simp only [List.length_cons, List.length_nil]
          omega) hs4)
        have HST4 := Lib.hid hst4
        clear hs4 hc7b hst4
        go_wp2_with fail
        refine IH.out.mono ?_
        rintro e w5 ⟨rfl, ⟨was2, h8⟩, hst5⟩
        have H8 := Lib.hid h8
        have HST5 := Lib.hid (HST4.out.trans hst5)
        clear h8 hst5 IH
        go_wp2
        go_roundw
        case rel => exact ⟨HST5.out, .inr ⟨rfl, was2, H8.out⟩⟩
        case measure => simp [intOf]
      · have HS4 := Lib.hid hs4
        clear hs4
        go_wp2
        go_ret
        exact ⟨rfl, ⟨_, (HS4.out.perm (Pr.left_comm _ _ _)).right⟩, hst4⟩
end Go.Proofs.Ytbobcmimkonnoaa.drop

namespace Go.Cop
/-- How many pages a value takes. -/
def pagesV (V : List Int) : Nat := if V.length ≤ 32 then 0 else chunks V
theorem chain_counts {s : VaultS} {V : List Int} : ∀ {k j : Nat} {c : Int} {ns : List Int}, ChainAt s V k j c ns → ∀ n ∈ ns, s.pool.count n = 1 := by
  intro k
  induction k with
  | zero => intro j c ns h; rw [h.2]; simp
  | succ k ih =>
    intro j c ns h n hn
    obtain ⟨c', ns', rfl, _, h3, _, h5⟩ := h
    rcases List.mem_cons.1 hn with rfl | hn
    · exact h3
    · exact ih h5 n hn
theorem chain_taken {s s' : VaultS} {V : List Int} {k j : Nat} {c : Int} {ns ns' : List Int} (h : ChainAt s V k j c ns) (ok : PoolOk s.pool) (ht : Taken s s' ns') : ChainAt s' V k j c ns := by
  refine chain_keep (fun n hn => ?_) h
  have h1 := chain_counts h n hn
  exact ht.same n (fun hm => by have := count_of_free ok (ht.free n hm); omega)
end Go.Cop
namespace Go.Proofs.Ytbobcmimkonnoaa.apart1
open Go.ChangeShapes Go.WideShapes Go.ChangeAt Go.RowKit Go.Sl Go.Cop Go.Proofs.Ytbobcmimkonnoaa.pool1 Go.Proofs.Ytbobcmimkonnoaa.pool2 Go.Proofs.Ytbobcmimkonnoaa.pool5 Go.Proofs.Ytbobcmimkonnoaa.pool9 Go.Proofs.Ytbobcmimkonnoaa.clone Go.Proofs.Ytbobcmimkonnoaa.page Go.Proofs.Ytbobcmimkonnoaa.vault1 Go.Proofs.Ytbobcmimkonnoaa.vault2 Go.Proofs.Ytbobcmimkonnoaa.vault3 Go.Proofs.Ytbobcmimkonnoaa.vault4 Go.Proofs.Ytbobcmimkonnoaa.vault5 Go.Proofs.Ytbobcmimkonnoaa.vault6 Go.Proofs.Ytbobcmimkonnoaa.vault8 Go.Proofs.Ytbobcmimkonnoaa.blob1 Go.Proofs.Ytbobcmimkonnoaa.blob2 Go.Proofs.Ytbobcmimkonnoaa.blob3 Go.Proofs.Ytbobcmimkonnoaa.blob4 Go.Proofs.Ytbobcmimkonnoaa.blob5 Go.Proofs.Ytbobcmimkonnoaa.eqb

theorem pagesOf_eq (V : List Int) : pagesOf V.length = pagesV V := by
  unfold pagesOf pagesV chunks
  by_cases h : V.length ≤ 32
  · rw [if_pos (by omega), if_pos h]; rfl
  · rw [if_neg (by omega), if_neg h]; omega

/-- An item under which a value is stored. -/
def StoredAt (s : VaultS) (h : Hp) (kv vv : Value) (c : Int) (V : List Int) : Prop :=
  IsSl kv ∧ IsSl vv ∧ ((V.length ≤ 32 ∧ Bytes h vv V) ∨ ((32 < V.length ∧ V.length ≤ 3840) ∧ vv = .slice none 0 0 ∧ ∃ ns, ChainAt s V (chunks V) 0 c ns))
theorem StoredAt.sub {s : VaultS} {h h' : Hp} {kv vv : Value} {c : Int} {V : List Int} (hs : h.sub h') (x : StoredAt s h kv vv c V) : StoredAt s h' kv vv c V :=
  ⟨x.1, x.2.1, x.2.2.imp (fun y => ⟨y.1, y.2.sub hs⟩) id⟩
theorem StoredAt.taken {s s' : VaultS} {h : Hp} {kv vv : Value} {c : Int} {V : List Int} {ns : List Int} (ok : PoolOk s.pool) (ht : Taken s s' ns) (x : StoredAt s h kv vv c V) : StoredAt s' h kv vv c V :=
  ⟨x.1, x.2.1, x.2.2.imp id (fun ⟨y1, y2, m, y3⟩ => ⟨y1, y2, m, chain_taken y3 ok ht⟩)⟩

theorem store_all (v : Nat) (s : VaultS) (kv vv : Value) (hp : Hp) (K V : List Int) (hK : Bytes hp kv K) (hV : Bytes hp vv V) (hk : 1 ≤ K.length ∧ K.length ≤ 24) (F : Pr) (w : World)
    (hF : Sat ((VaultA v s).star ((Pr.own hp).star F)) w) (hbare : Bare s) (hm : s.pool.floor + s.pool.acts.length + 8 ≤ 1099511627776) (hm2 : s.floor + s.acts.length + 8 ≤ 1099511627776) :
    Calls Try.prog 11 #[.pointer (some ⟨v, 0, none⟩), kv, vv] w fun e w' =>
      Stays w w' ∧ ((V.length ≤ 3840 ∧ ∃ kv' vv' c s' ns h', e = .returned (.tuple #[.agg #[kv', vv', .int .i64 c, .int .i64 V.length], .int .i64 0]) ∧ Taken s s' ns ∧ ns.length = pagesV V ∧ StoredAt s' h' kv' vv' c V ∧
          Sat ((Pr.own h').star ((VaultA v s').star ((Pr.own hp).star F))) w') ∨
        (∃ x : Int, e = .returned (.tuple #[zeroItem, .int .i64 x]) ∧ ((x = 12 ∧ s.pool.many 1 < pagesV V ∧ V.length ≤ 3840) ∨ (x = 8 ∧ 3840 < V.length)) ∧ Sat ((VaultA v s).star ((Pr.own hp).star F)) w')) := by
  by_cases h1 : V.length ≤ 32
  · refine (store_short v kv vv hp K V hK hV hk h1 ((VaultA v s).star F) w (hF.perm (by ac_rfl))).mono ?_
    rintro e w' ⟨hst, kv', vv', h', rfl, b1, b2, h2⟩
    refine ⟨hst, .inl ⟨by omega, kv', vv', 0, s, [], h', rfl, Taken.refl s, by unfold pagesV; rw [if_pos h1]; rfl, ⟨?_, ?_, .inl ⟨h1, b2⟩⟩, h2.perm (by ac_rfl)⟩⟩
    · obtain ⟨_, a, c, e, _⟩ := b1; exact ⟨a, _, c, e⟩
    · obtain ⟨_, a, c, e, _⟩ := b2; exact ⟨a, _, c, e⟩
  · by_cases h2 : V.length ≤ 3840
    · have hc : chunks V ≤ 8 := by unfold chunks; omega
      have hpv : pagesV V = chunks V := if_neg h1
      refine (store_any v s kv vv hp K V hK hV hk ⟨by omega, h2⟩ F w hF hbare (by omega) (by omega)).mono ?_
      rintro e w' ⟨hst, (⟨_, kv', c, s', ns, h', rfl, b1, ht, hch, h3⟩ | ⟨h3, rfl, h4⟩)⟩
      · refine ⟨hst, .inl ⟨h2, kv', .slice none 0 0, c, s', ns, h', rfl, ht, by rw [hpv]; exact chain_len hch, ⟨?_, ⟨_, _, _, rfl⟩, .inr ⟨⟨by omega, h2⟩, rfl, ns, hch⟩⟩, h3⟩⟩
        obtain ⟨_, a, c, e, _⟩ := b1; exact ⟨a, _, c, e⟩
      · exact ⟨hst, .inr ⟨12, rfl, .inl ⟨rfl, by rw [hpv]; exact h3, h2⟩, h4⟩⟩
    · refine (store_val v kv vv hp K V hK hV hk (by omega) w).mono ?_
      rintro e w' ⟨rfl, ho⟩
      exact ⟨ho.st, .inr ⟨8, rfl, .inr ⟨rfl, by omega⟩, hF.only ho⟩⟩

theorem load_all (v : Nat) (s : VaultS) (h : Hp) (kv vv : Value) (c : Int) (V : List Int) (hs : StoredAt s h kv vv c V) (F : Pr) (w : World) (hF : Sat ((VaultA v s).star ((Pr.own h).star F)) w) :
    Calls Try.prog 12 #[.pointer (some ⟨v, 0, none⟩), .agg #[kv, vv, .int .i64 c, .int .i64 V.length]] w fun e w' =>
      Stays w w' ∧ ∃ o, e = .returned (.tuple #[o, .int .i64 0]) ∧ Sat ((BytesRow o V).star ((VaultA v s).star ((Pr.own h).star F))) w' := by
  obtain ⟨⟨ak, mk, ck, rfl⟩, _, (⟨h1, h2⟩ | ⟨h1, rfl, ns, h2⟩)⟩ := hs
  · refine load_short v ak mk ck c vv h V h2 h1 _ w hF ?_
    exact (hF.perm (Pr.left_comm _ _ _)).own
  · exact load_long v s ak mk ck c V ns h2 h1 _ w hF
end Go.Proofs.Ytbobcmimkonnoaa.apart1

namespace Go.Cop
theorem freedAll_acts {ns : List Int} : ∀ {s : VaultS}, (s.freedAll ns).acts = s.acts ∧ (s.freedAll ns).floor = s.floor := by
  induction ns with
  | nil => intro s; exact ⟨rfl, rfl⟩
  | cons n ns ih => intro s; exact ih (s := s.freed n)
end Go.Cop
namespace Go.Proofs.Ytbobcmimkonnoaa.dropA
open Go.ChangeShapes Go.WideShapes Go.ChangeAt Go.RowKit Go.Sl Go.Cop Go.Proofs.Ytbobcmimkonnoaa.pool1 Go.Proofs.Ytbobcmimkonnoaa.pool2 Go.Proofs.Ytbobcmimkonnoaa.pool5 Go.Proofs.Ytbobcmimkonnoaa.pool9 Go.Proofs.Ytbobcmimkonnoaa.clone Go.Proofs.Ytbobcmimkonnoaa.page Go.Proofs.Ytbobcmimkonnoaa.vault1 Go.Proofs.Ytbobcmimkonnoaa.vault2 Go.Proofs.Ytbobcmimkonnoaa.vault3 Go.Proofs.Ytbobcmimkonnoaa.vault4 Go.Proofs.Ytbobcmimkonnoaa.vault5 Go.Proofs.Ytbobcmimkonnoaa.kids Go.Proofs.Ytbobcmimkonnoaa.free Go.Proofs.Ytbobcmimkonnoaa.drop Go.Proofs.Ytbobcmimkonnoaa.apart1

set_option maxRecDepth 100000 in
set_option maxHeartbeats 2000000 in
theorem drop1_A (v ab : Nat) (mark : Int) (VB NB : Nat) (V : List Int) (k j : Nat) (c : Int) (ns : List Int) (s : VaultS) (F : Pr) (w : World)
    (hch : ChainAt s V (k + 1) j c ns) (hnd : ns.Nodup) (hla : ∀ n ∈ ns, s.pool.lasts n = false) (hpm : s.pool.floor + s.pool.acts.length + (k + 1) ≤ 1099511627776) (hk : k + 1 ≤ 65536)
    (hF : Sat ((VMA v s ab mark []).star ((Pr.pts VB (.cells #[.pointer (some ⟨v, 0, none⟩)] 26)).star ((Pr.pts NB (.cells #[.int .i64 c] 3)).star F))) w) :
    Calls Try.prog 56 #[.pointer (some ⟨ab, 0, none⟩), .pointer (some ⟨VB, 0, none⟩), .pointer (some ⟨NB, 0, none⟩)] w fun e w' =>
      Stays w w' ∧ e = .returned (.int .i64 0) ∧ ∃ was', Sat ((VMA v (s.freedAll ns) ab mark was').star F) w' := by
  have q1 : w.cell? ⟨VB, 0, none⟩ = some (.pointer (some ⟨v, 0, none⟩)) := by rw [cell_of_heap hF.right.pts_heap]; rfl
  have q2 : w.cell? ⟨NB, 0, none⟩ = some (.int .i64 c) := by rw [cell_of_heap hF.right.right.pts_heap]; rfl
  have D := Lib.hid (drop_chain v ab mark V k j c ns s [] _ w hch hnd hla hpm (by simpa using hk) hF)
  clear hF hch hnd hla hpm
  go_enter Try.func56, Try.ntmps56
  go_wp2_with fail
  refine D.out.mono ?_
  rintro e w1 ⟨rfl, ⟨was', h1⟩, hst⟩
  have h2 := h1.perm (B := ((Pr.pts VB (.cells #[.pointer (some ⟨v, 0, none⟩)] 26)).star (Pr.pts NB (.cells #[.int .i64 c] 3))).star ((VMA v (s.freedAll ns) ab mark was').star F)) (by ac_rfl)
  have H2 := Lib.hid h2.right
  clear h1 h2
  go_wp2
  go_ret
  exact ⟨hst, rfl, was', H2.out⟩

set_option maxRecDepth 100000 in
set_option maxHeartbeats 2000000 in
theorem drop_A (v : Nat) (V : List Int) (k j : Nat) (c : Int) (ns : List Int) (s : VaultS) (F : Pr) (w : World)
    (hch : ChainAt s V (k + 1) j c ns) (hnd : ns.Nodup) (hla : ∀ n ∈ ns, s.pool.lasts n = false) (hpm : s.pool.floor + s.pool.acts.length + (k + 1) ≤ 1099511627776) (hk : k + 1 ≤ 65536) (hvm : s.floor + s.acts.length < 1099511627776)
    (hF : Sat ((VaultA v s).star F) w) :
    Calls Try.prog 30 #[.pointer (some ⟨v, 0, none⟩), .int .i64 c] w fun e w' =>
      Stays w w' ∧ e = .returned (.int .i64 0) ∧ ∃ was', Sat ((VaultA v ((s.freedAll ns).acted ⟨s.pool.mark, was'⟩)).star F) w' := by
  have es : (w.alloc (.cells #[.pointer (some ⟨v, 0, none⟩)] 26)).heap.size = w.heap.size + 1 := by simp
  have h1 := (hF.alloc (.cells #[.pointer (some ⟨v, 0, none⟩)] 26)).alloc (.cells #[.int .i64 c] 3)
  rw [es] at h1
  have h2 := h1.perm (B := (VaultA v s).star ((Pr.pts w.heap.size (.cells #[.pointer (some ⟨v, 0, none⟩)] 26)).star ((Pr.pts (w.heap.size + 1) (.cells #[.int .i64 c] 3)).star F))) (by ac_rfl)
  have D := Lib.hid (do_ok v s 56 #[.pointer (some ⟨w.heap.size, 0, none⟩), .pointer (some ⟨w.heap.size + 1, 0, none⟩)] (fun _ : List (Int × Option PageV) => True)
    (fun _ => s.freedAll ns) (fun z => z) (fun _ => F) _ _ h2 hvm (fun _ _ => rfl) (fun z _ => freedAll_acts) (fun ab wx hwx =>
      (drop1_A v ab s.pool.mark w.heap.size (w.heap.size + 1) V k j c ns s F wx hch hnd hla hpm hk hwx).mono (by
        rintro e w' ⟨hst, e1, was', h⟩
        exact ⟨hst, e1, was', trivial, h⟩)))
  have HST := Lib.hid (((Stays.refl w).alloc (.cells #[.pointer (some ⟨v, 0, none⟩)] 26)).alloc (.cells #[.int .i64 c] 3))
  clear h1 h2 hF hch hnd hla hpm es
  go_enter Try.func30, Try.ntmps30
  go_wp2_with fail
  refine D.out.mono ?_
  rintro e w1 ⟨hst, rfl, was', _, h3⟩
  have H3 := Lib.hid h3
  clear h3
  go_wp2
  go_ret
  exact ⟨HST.out.trans hst, rfl, was', H3.out⟩

/-- The pages of what has been stored. -/
def nsOf (s : VaultS) (c : Int) (V : List Int) (ns : List Int) : Prop := (V.length ≤ 32 ∧ ns = []) ∨ ((32 < V.length ∧ V.length ≤ 3840) ∧ ChainAt s V (chunks V) 0 c ns)

set_option maxRecDepth 100000 in
set_option maxHeartbeats 2000000 in
theorem release_A (v : Nat) (ak av : Option Addr) (mk ck mv cv : Nat) (V : List Int) (c : Int) (ns : List Int) (s : VaultS) (F : Pr) (w : World)
    (hch : nsOf s c V ns) (hnd : ns.Nodup) (hla : ∀ n ∈ ns, s.pool.lasts n = false) (hpm : s.pool.floor + s.pool.acts.length + 8 ≤ 1099511627776) (hvm : s.floor + s.acts.length < 1099511627776)
    (hF : Sat ((VaultA v s).star F) w) :
    Calls Try.prog 17 #[.pointer (some ⟨v, 0, none⟩), .agg #[.slice ak mk ck, .slice av mv cv, .int .i64 c, .int .i64 V.length]] w fun e w' =>
      Stays w w' ∧ e = .returned (.int .i64 0) ∧ ∃ acts', acts'.length ≤ 1 ∧ Sat ((VaultA v { s.freedAll ns with acts := s.acts ++ acts' }).star F) w' := by
  have h1 := hF.alloc (.cells #[.slice ak mk ck, .slice av mv cv, .int .i64 c, .int .i64 V.length] 33)
  rcases hch with ⟨hv, rfl⟩ | ⟨hv, hch⟩
  · have H1 := Lib.hid h1
    clear h1 hF
    go_enter Try.func17, Try.ntmps17
    go_wp2
    go_ret
    refine ⟨(Stays.refl w).alloc _, rfl, [], by simp, ?_⟩
    rw [List.append_nil]
    exact H1.out.right
  · have hc : chunks V ≤ 8 ∧ 1 ≤ chunks V := by unfold chunks; omega
    obtain ⟨k, hk⟩ : ∃ k, chunks V = k + 1 := ⟨chunks V - 1, by omega⟩
    rw [hk] at hch
    have D := Lib.hid (drop_A v V k 0 c ns s _ _ hch hnd hla (by omega) (by omega) hvm (h1.perm (Pr.left_comm _ _ _)))
    clear h1 hF hch hnd hla hpm
    go_enter Try.func17, Try.ntmps17
    go_wp2_with fail
    refine D.out.mono ?_
    rintro e w1 ⟨hst, rfl, was', h3⟩
    have H3 := Lib.hid (h3.perm (Pr.left_comm _ _ _)).right
    clear h3
    go_wp2
    go_ret
    refine ⟨((Stays.refl w).alloc _).trans hst, rfl, [⟨s.pool.mark, was'⟩], by simp, ?_⟩
    have e1 : ({ s.freedAll ns with acts := s.acts ++ [⟨s.pool.mark, was'⟩] } : VaultS) = (s.freedAll ns).acted ⟨s.pool.mark, was'⟩ := by
      show _ = ({ s.freedAll ns with acts := (s.freedAll ns).acts ++ [_] } : VaultS)
      rw [freedAll_acts.1]
    rw [e1]
    exact H3.out
end Go.Proofs.Ytbobcmimkonnoaa.dropA

namespace Go.Proofs.Ytbobcmimkonnoaa.counts
open Go.ChangeShapes Go.WideShapes Go.ChangeAt Go.RowKit Go.Sl Go.Cop Go.Proofs.Ytbobcmimkonnoaa.pool1 Go.Proofs.Ytbobcmimkonnoaa.pool2 Go.Proofs.Ytbobcmimkonnoaa.pool5 Go.Proofs.Ytbobcmimkonnoaa.pool9 Go.Proofs.Ytbobcmimkonnoaa.clone Go.Proofs.Ytbobcmimkonnoaa.page Go.Proofs.Ytbobcmimkonnoaa.vault1 Go.Proofs.Ytbobcmimkonnoaa.vault2

abbrev Ints (h : Hp) (v : Value) (l : List Int) : Prop := RowIn h 1 v l.length (l.map (Value.int .i64))

set_option maxRecDepth 100000 in
set_option maxHeartbeats 400000 in
theorem clone_ints (h : Hp) (v : Value) (l : List Int) (F : Pr) (w : World) (hF : Sat F w) (hh : h.le w) (hx : Ints h v l) (hn : l.length ≤ 65536) :
    Calls Try.prog 29 #[v] w fun e w' => ∃ v', e = .returned v' ∧ Sat ((IntsRow v' l).star F) w' ∧ Stays w w' := by
  obtain ⟨_, ad, c, rfl, hnc, hcm, hcell⟩ := id hx
  have he : ∀ wx : World, (binOp .eql 45 (.slice ad l.length c) (.slice none 0 0)).run Try.prog wx = .ok (.bool ad.isNone) wx := fun wx => Lib.run_eql_slice_nil wx _ _ ad _ c 0 0 Try.underlying45
  cases ad with
  | none =>
    have hl : l.length = 0 := by
      rcases Nat.eq_zero_or_pos l.length with h0 | h0
      · exact h0
      · obtain ⟨b, off, e1, _⟩ := hcell (by omega); cases e1
    have hl2 : l = [] := List.eq_nil_of_length_eq_zero hl
    have HF := Lib.hid hF
    have HL := Lib.hid hl2
    clear hF hx hcell hh hl2 hl
    go_enter Try.func29, Try.ntmps29
    go_wp2
    go_ret
    refine ⟨_, rfl, ?_, Stays.refl w⟩
    have h1 := HF.out
    have h2 := HL.out
    subst h2
    rw [← Sat.emp, ← Row.nil 3 1] at h1
    exact h1
  | some ad =>
    have hnew : Sat ((Row 3 1 (.slice (some ⟨w.heap.size, 0, none⟩) 0 0) 0 []).star F) (w.alloc (.cells #[] 3)) :=
      Row.mk' (xs := []) (sp := []) (by simp) (by simp) (Nat.le_refl _) (by simp) (by simpa using hF.alloc (.cells #[] 3))
    have hle : h.le (w.alloc (.cells #[] 3)) := fun k o e => (Below.heap_alloc w _ k (Array.getElem?_eq_some_iff.1 (hh k o e)).1).trans (hh k o e)
    have HF := Lib.hid hnew
    have HX := Lib.hid hx
    have HH := Lib.hid hle
    clear hF hx hcell hh hnew hle
    go_enter Try.func29, Try.ntmps29
    obtain ⟨i0, hi, hz0, hz1, hz2⟩ := info_parts infoInt
    go_wp2_with (at_builtin; refine wpList_append_row rfl _ _ _ rfl 3 i0 (.int .i64 0) 1 8 Try.underlying45 hi hz0 hz1 hz2 rfl _ _ _ rfl HF.out h HH.out _ _ _ rfl HX.out (by simp [Value.oneCell']) (by simp only [maxLen]; omega) (by omega) ?_; intro v' w1 hsat hgr _; have HSAT := Lib.hid hsat; clear hsat)
    go_ret
    refine ⟨_, rfl, ?_, ((Stays.refl w).alloc _).of_grown hgr⟩
    have h1 := HSAT.out
    rw [Nat.zero_add, List.nil_append] at h1
    exact h1

set_option maxRecDepth 100000 in
set_option maxHeartbeats 1000000 in
theorem counts_A (p : Nat) (s : PoolS) (F : Pr) (w : World) (hF : Sat ((PoolA p s).star F) w) :
    Calls Try.prog 15 #[.pointer (some ⟨p, 0, none⟩)] w fun e w' => ∃ v', e = .returned v' ∧ Sat ((IntsRow v' s.counts).star ((PoolA p s).star F)) w' ∧ Stays w w' := by
  obtain ⟨ok, cv, lv, fb, av, hA⟩ := poolA_iff.1 hF
  have hA1 : Sat ((Pr.pts p (.cells (poolCells s cv lv fb av) 74)).star ((IntsRow cv s.counts).star ((BoolsRow lv s.last).star ((SetOf fb fun m => s.state m = 1).star ((ActsA p av s.acts).star F))))) w := hA.perm (by unfold PoolAt; ac_rfl)
  have q1 : w.cell? ⟨p, 1, none⟩ = some cv := by rw [cell_of_heap hA1.pts_heap]; rfl
  obtain ⟨x, ⟨a, f, ha, hf, hd, rfl⟩, hl⟩ := hA1.right
  have C := Lib.hid (clone_ints a cv s.counts _ w hF ((Hp.le_un hd).1 hl).1 (Row.rowIn ha) ok.n2)
  clear hA hA1 hF ha hf hd hl
  go_enter Try.func15, Try.ntmps15
  go_wp2_with fail
  refine C.out.mono ?_
  rintro e w1 ⟨v', rfl, h1, hst⟩
  have H1 := Lib.hid h1
  clear h1
  go_wp2
  go_ret
  exact ⟨_, rfl, H1.out, hst⟩

theorem ints_rd {h : Hp} {v : Value} {V : List Int} (hb : Ints h v V) : ∃ a c, v = .slice a V.length c ∧ ∀ i, i < V.length → ∃ b off, a = some ⟨b, off, none⟩ ∧ ∀ w, h.le w → w.cell? ⟨b, off + i, none⟩ = some (.int .i64 (V.getD i 0)) := by
  obtain ⟨hl, a, c, e, _, _, hc⟩ := hb
  refine ⟨a, c, e, fun i hi => ?_⟩
  obtain ⟨b, off, e1, e2⟩ := hc (by omega)
  refine ⟨b, off, e1, fun w hw => ?_⟩
  refine Hp.cell_le hw ((e2 i (by omega)).trans ?_)
  simp [hi]

set_option maxRecDepth 100000 in
set_option maxHeartbeats 1000000 in
theorem eqints_same (ha hb : Hp) (va vb : Value) (V : List Int) (h1 : Ints ha va V) (h2 : Ints hb vb V) (hn : V.length ≤ 65536) (w : World) (l1 : ha.le w) (l2 : hb.le w) :
    Calls Try.prog 16 #[va, vb] w fun e w' => e = .returned (.bool true) ∧ Only w w' := by
  obtain ⟨a, c, rfl, r1⟩ := ints_rd h1
  obtain ⟨a', c', rfl, r2⟩ := ints_rd h2
  have R1 := Lib.hid r1
  have R2 := Lib.hid r2
  have L1 := Lib.hid l1
  have L2 := Lib.hid l2
  clear r1 r2 h1 h2 l1 l2
  go_enter Try.func16, Try.ntmps16
  go_wp2
  go_loopw [5] (fun i wr => ∃ k : Nat, k ≤ V.length ∧ i = .int .i64 k ∧ Only w wr) (fun i _ => V.length - (intOf i).toNat)
  case atStart => exact ⟨0, Nat.zero_le _, rfl, Only.refl w⟩
  case round =>
    obtain ⟨k, hk, rfl, ho⟩ := hrel
    rcases Nat.lt_or_ge k V.length with hlt | hge
    · obtain ⟨b, off, rfl, c1⟩ := R1.out k hlt
      obtain ⟨b', off', rfl, c2⟩ := R2.out k hlt
      have q1 := c1 wr (fun k o e => (ho.heap k (Array.getElem?_eq_some_iff.1 (L1.out k o e)).1).trans (L1.out k o e))
      have q2 := c2 wr (fun k o e => (ho.heap k (Array.getElem?_eq_some_iff.1 (L2.out k o e)).1).trans (L2.out k o e))
      have HO := Lib.hid ho
      clear c1 c2 ho
      generalize V.getD k 0 = x at *
      go_wp2
      go_region
      go_wp2
      go_roundw
      case rel => exact ⟨k + 1, by omega, by go_num, HO.out.drew⟩
      case measure => simp [intOf]; omega
    · have hkl : k = V.length := by omega
      subst hkl
      go_wp2
      go_ret
      exact ⟨rfl, ho⟩
end Go.Proofs.Ytbobcmimkonnoaa.counts

namespace Go.Proofs.Ytbobcmimkonnoaa.load1
open Go.ChangeShapes Go.WideShapes Go.ChangeAt Go.RowKit Go.Sl Go.Cop Go.Proofs.Ytbobcmimkonnoaa.pool1 Go.Proofs.Ytbobcmimkonnoaa.pool2 Go.Proofs.Ytbobcmimkonnoaa.pool5 Go.Proofs.Ytbobcmimkonnoaa.pool8 Go.Proofs.Ytbobcmimkonnoaa.pool9 Go.Proofs.Ytbobcmimkonnoaa.clone Go.Proofs.Ytbobcmimkonnoaa.page Go.Proofs.Ytbobcmimkonnoaa.counts

set_option maxRecDepth 100000 in
set_option maxHeartbeats 1000000 in
theorem min_any (h : Hp) (v : Value) (cs : List Int) (hx : Ints h v cs) (hn : 1 ≤ cs.length) (hn2 : cs.length ≤ 65536) (w : World) (hh : h.le w) :
    Calls Try.prog 87 #[v] w fun e w' => (∃ m, e = .returned (.int .i64 m) ∧ ∀ t, m < t ↔ ∃ c ∈ cs, c < t) ∧ w = w' := by
  obtain ⟨a, c, rfl, rd⟩ := ints_rd hx
  obtain ⟨b, off, rfl, c0⟩ := rd 0 (by omega)
  have q0 := c0 w hh
  rw [Nat.add_zero] at q0
  have hl : ((cs.length : Int) < 1) = False := eq_false (by omega)
  have RD := Lib.hid rd
  have HH := Lib.hid hh
  have HN := Lib.hid hn
  clear rd hx c0 hh
  go_enter Try.func87, Try.ntmps87
  go_wp2
  go_loopw [3, 4] (fun m i wr => ∃ (k : Nat) (mm : Int), 1 ≤ k ∧ k ≤ cs.length ∧ m = .int .i64 mm ∧ i = .int .i64 k ∧ wr = w ∧ Hid (∀ t, mm < t ↔ ∃ c ∈ cs.take k, c < t)) (fun _ i _ => cs.length - (intOf i).toNat)
  case atStart =>
    refine ⟨1, cs.getD 0 0, Nat.le_refl _, HN.out, rfl, rfl, rfl, Lib.hid fun t => ?_⟩
    have hn := HN.out
    cases cs with
    | nil => simp at hn
    | cons x l => simp
  case round =>
    obtain ⟨k, mm, hk1, hk, rfl, rfl, rfl, hc⟩ := hrel
    rcases Nat.lt_or_ge k cs.length with hlt | hge
    · obtain ⟨b', off', e', c1⟩ := RD.out k hlt
      cases e'
      have q1 := c1 wr HH.out
      have hget : cs.getD k 0 = cs[k] := by simp [hlt]
      have HT := Lib.hid (show ∀ t, (∃ c ∈ cs.take (k + 1), c < t) ↔ (∃ c ∈ cs.take k, c < t) ∨ cs.getD k 0 < t by
        intro t
        rw [List.take_succ_eq_append_getElem hlt, hget]
        constructor
        · rintro ⟨c, hc, h⟩
          rcases List.mem_append.1 hc with h1 | h1
          · exact .inl ⟨c, h1, h⟩
          · rw [List.mem_singleton.1 h1] at h; exact .inr h
        · rintro (⟨c, h1, h⟩ | h)
          · exact ⟨c, List.mem_append_left _ h1, h⟩
          · exact ⟨_, List.mem_append_right _ (List.mem_singleton.2 rfl), h⟩)
      clear c1 hget
      generalize cs.getD k 0 = x at *
      go_wp2
      go_roundw
      case rel =>
        refine ⟨k + 1, _, by omega, by omega, rfl, congrArg (Value.int .i64) (by omega), trivial, Lib.hid fun t => ?_⟩
        rw [HT.out, ← hc.out]
        omega
      case measure => simp [intOf]; omega
    · have hkl : k = cs.length := by omega
      subst hkl
      have HC := Lib.hid hc.out
      clear hc
      go_wp2
      go_ret
      refine ⟨⟨mm, rfl, ?_⟩, rfl⟩
      have := HC.out
      rw [List.take_length] at this
      exact this

set_option maxRecDepth 100000 in
set_option maxHeartbeats 1000000 in
theorem max_any (h : Hp) (v : Value) (cs : List Int) (hx : Ints h v cs) (hn : 1 ≤ cs.length) (hn2 : cs.length ≤ 65536) (w : World) (hh : h.le w) :
    Calls Try.prog 88 #[v] w fun e w' => (∃ m, e = .returned (.int .i64 m) ∧ ∀ t, t < m ↔ ∃ c ∈ cs, t < c) ∧ w = w' := by
  obtain ⟨a, c, rfl, rd⟩ := ints_rd hx
  obtain ⟨b, off, rfl, c0⟩ := rd 0 (by omega)
  have q0 := c0 w hh
  rw [Nat.add_zero] at q0
  have hl : ((cs.length : Int) < 1) = False := eq_false (by omega)
  have RD := Lib.hid rd
  have HH := Lib.hid hh
  have HN := Lib.hid hn
  clear rd hx c0 hh
  go_enter Try.func88, Try.ntmps88
  go_wp2
  go_loopw [3, 4] (fun m i wr => ∃ (k : Nat) (mm : Int), 1 ≤ k ∧ k ≤ cs.length ∧ m = .int .i64 mm ∧ i = .int .i64 k ∧ wr = w ∧ Hid (∀ t, t < mm ↔ ∃ c ∈ cs.take k, t < c)) (fun _ i _ => cs.length - (intOf i).toNat)
  case atStart =>
    refine ⟨1, cs.getD 0 0, Nat.le_refl _, HN.out, rfl, rfl, rfl, Lib.hid fun t => ?_⟩
    have hn := HN.out
    cases cs with
    | nil => simp at hn
    | cons x l => simp
  case round =>
    obtain ⟨k, mm, hk1, hk, rfl, rfl, rfl, hc⟩ := hrel
    rcases Nat.lt_or_ge k cs.length with hlt | hge
    · obtain ⟨b', off', e', c1⟩ := RD.out k hlt
      cases e'
      have q1 := c1 wr HH.out
      have hget : cs.getD k 0 = cs[k] := by simp [hlt]
      have HT := Lib.hid (show ∀ t, (∃ c ∈ cs.take (k + 1), t < c) ↔ (∃ c ∈ cs.take k, t < c) ∨ t < cs.getD k 0 by
        intro t
        rw [List.take_succ_eq_append_getElem hlt, hget]
        constructor
        · rintro ⟨c, hc, h⟩
          rcases List.mem_append.1 hc with h1 | h1
          · exact .inl ⟨c, h1, h⟩
          · rw [List.mem_singleton.1 h1] at h; exact .inr h
        · rintro (⟨c, h1, h⟩ | h)
          · exact ⟨c, List.mem_append_left _ h1, h⟩
          · exact ⟨_, List.mem_append_right _ (List.mem_singleton.2 rfl), h⟩)
      clear c1 hget
      generalize cs.getD k 0 = x at *
      go_wp2
      go_roundw
      case rel =>
        refine ⟨k + 1, _, by omega, by omega, rfl, congrArg (Value.int .i64) (by omega), trivial, Lib.hid fun t => ?_⟩
        rw [HT.out, ← hc.out]
        omega
      case measure => simp [intOf]; omega
    · have hkl : k = cs.length := by omega
      subst hkl
      have HC := Lib.hid hc.out
      clear hc
      go_wp2
      go_ret
      refine ⟨⟨mm, rfl, ?_⟩, rfl⟩
      have := HC.out
      rw [List.take_length] at this
      exact this

set_option maxRecDepth 100000 in
set_option maxHeartbeats 1000000 in
theorem right_any (n r : Int) (w : World) : Calls Try.prog 46 #[.int .i64 n, .int .i64 r] w fun e w' => e = .returned (.bool (rangeOk n r)) ∧ w = w' := by
  have fin : ∀ (b : Bool), b = rangeOk n r → Ending.returned (Value.bool b) = Ending.returned (Value.bool (rangeOk n r)) := fun b e => by rw [e]
  by_cases h1 : 1 ≤ n
  · by_cases h2 : n ≤ 65536
    · by_cases h3 : 2 ≤ r
      · go_enter Try.func46, Try.ntmps46
        go_wp2
        go_ret
        refine ⟨fin _ ?_, rfl⟩
        rw [Bool.eq_iff_iff]; simp [rangeOk, h1, h2, h3]
      · go_enter Try.func46, Try.ntmps46
        go_wp2
        go_ret
        refine ⟨fin _ ?_, rfl⟩
        rw [Bool.eq_iff_iff]; simp [rangeOk]; omega
    · go_enter Try.func46, Try.ntmps46
      go_wp2
      go_ret
      refine ⟨fin _ ?_, rfl⟩
      rw [Bool.eq_iff_iff]; simp [rangeOk]; omega
  · go_enter Try.func46, Try.ntmps46
    go_wp2
    go_ret
    refine ⟨fin _ ?_, rfl⟩
    rw [Bool.eq_iff_iff]; simp [rangeOk]; omega

theorem badC_false {refs : Int} {cs : List Int} (h : badC refs cs = false) : ∀ c ∈ cs, 0 ≤ c ∧ c ≤ refs := by
  intro c hc
  have := List.any_eq_false.1 h c hc
  simp only [decide_eq_true_eq] at this
  omega
theorem badC_min {refs : Int} {cs : List Int} (h : ∃ c ∈ cs, c < 0) : badC refs cs = true := by
  obtain ⟨c, hc, h⟩ := h
  exact List.any_eq_true.2 ⟨c, hc, by simp only [decide_eq_true_eq]; exact .inl h⟩
theorem badC_max {refs : Int} {cs : List Int} (h : ∃ c ∈ cs, refs < c) : badC refs cs = true := by
  obtain ⟨c, hc, h⟩ := h
  exact List.any_eq_true.2 ⟨c, hc, by simp only [decide_eq_true_eq]; exact .inr h⟩
theorem badC_not {refs : Int} {cs : List Int} (h1 : ¬ ∃ c ∈ cs, c < 0) (h2 : ¬ ∃ c ∈ cs, refs < c) : badC refs cs = false := by
  refine List.any_eq_false.2 fun c hc => ?_
  simp only [decide_eq_true_eq]
  rintro (h | h)
  · exact h1 ⟨c, hc, h⟩
  · exact h2 ⟨c, hc, h⟩
theorem rangeOk_iff {n r : Int} : rangeOk n r = true ↔ (1 ≤ n ∧ n ≤ 65536 ∧ 2 ≤ r ∧ r < 65536) := by unfold rangeOk; exact decide_eq_true_iff
theorem poolOk_load {refs : Int} {cs : List Int} (h : rangeOk cs.length refs = true) (hb : badC refs cs = false) : PoolOk (poolOf refs cs 0) := by
  obtain ⟨h1, h2, h3, h4⟩ := rangeOk_iff.1 h
  refine ⟨?_, ?_, ?_, h3, h4, fun c hc => ?_, Int.le_refl _, by simp⟩
  · show 1 ≤ cs.length; omega
  · show cs.length ≤ 65536; omega
  · simp [lastsOf]
  · have := badC_false hb c hc; omega

set_option maxRecDepth 100000 in
set_option maxHeartbeats 2000000 in
theorem pload_any (refs : Int) (h : Hp) (v : Value) (cs : List Int) (hx : Ints h v cs) (F : Pr) (w : World) (hF : Sat ((Pr.own h).star F) w) :
    Calls Try.prog 58 #[.int .i64 refs, v] w fun e w' => Stays w w' ∧
      ((rangeOk cs.length refs = false ∧ e = .returned (.tuple #[.pointer none, .int .i64 1]) ∧ Sat ((Pr.own h).star F) w') ∨
       (rangeOk cs.length refs = true ∧ badC refs cs = true ∧ e = .returned (.tuple #[.pointer none, .int .i64 13]) ∧ Sat ((Pr.own h).star F) w') ∨
       (rangeOk cs.length refs = true ∧ badC refs cs = false ∧ ∃ p, e = .returned (.tuple #[.pointer (some ⟨p, 0, none⟩), .int .i64 0]) ∧ Sat ((PoolA p (poolOf refs cs 0)).star ((Pr.own h).star F)) w')) := by
  have hx0 := hx
  obtain ⟨_, a, c, rfl, _⟩ := hx0
  cases hr : rangeOk cs.length refs with
  | false =>
    have R := fun wx => Lib.hid (right_any cs.length refs wx)
    rw [hr] at R
    go_enter Try.func58, Try.ntmps58
    go_wp2_with fail
    refine (R _).out.mono ?_
    rintro e w1 ⟨rfl, rfl⟩
    go_wp2
    go_ret2
    exact ⟨Stays.refl _, .inl ⟨trivial, rfl, hF⟩⟩
  | true =>
    obtain ⟨n1, n2, n3, n4⟩ := rangeOk_iff.1 hr
    have R := fun wx => Lib.hid (right_any cs.length refs wx)
    rw [hr] at R
    have MI := Lib.hid (min_any h _ cs hx (by omega) (by omega) w hF.own)
    have MA := Lib.hid (max_any h _ cs hx (by omega) (by omega) w hF.own)
    have OK := fun hb => Lib.hid (poolOk_load hr hb)
    have CL := Lib.hid (clone_ints h _ cs _ w hF hF.own hx (by omega))
    have HF := Lib.hid hF
    clear hF hx hr n1 n2 n3 n4
    go_enter Try.func58, Try.ntmps58
    go_wp2_with fail
    refine (R _).out.mono ?_
    rintro e w1 ⟨rfl, rfl⟩
    go_wp2_with fail
    refine MI.out.mono ?_
    rintro e w1 ⟨⟨mi, rfl, hmi⟩, rfl⟩
    have HMI := Lib.hid hmi
    clear hmi
    by_cases h0 : mi < 0
    · go_wp2
      go_ret2
      exact ⟨Stays.refl _, .inr (.inl ⟨trivial, badC_min ((HMI.out 0).1 h0), rfl, HF.out⟩)⟩
    · go_wp2_with fail
      refine MA.out.mono ?_
      rintro e w1 ⟨⟨ma, rfl, hma⟩, rfl⟩
      have HMA := Lib.hid hma
      clear hma
      by_cases h1 : refs < ma
      · go_wp2
        go_ret2
        exact ⟨Stays.refl _, .inr (.inl ⟨trivial, badC_max ((HMA.out refs).1 h1), rfl, HF.out⟩)⟩
      · have hb : badC refs cs = false := badC_not (fun h => absurd ((HMI.out 0).2 h) (by omega)) (fun h => absurd ((HMA.out refs).2 h) (by omega))
        have HB := Lib.hid hb
        have hok := Lib.hid (OK hb).out
        clear hb
        go_wp2_with fail
        refine CL.out.mono ?_
        rintro e w1 ⟨v', rfl, hs1, hst1⟩
        obtain ⟨a', c', ev, _, _⟩ := Row.read hs1
        subst ev
        have OV := Lib.hid (over_any refs _ cs _ w1 hs1 hok.out)
        go_wp2_with fail
        refine OV.out.mono ?_
        rintro e w2 ⟨p, rfl, hs2, hst2⟩
        have H2 := Lib.hid hs2
        clear hs1 hs2
        go_wp2
        go_ret2
        exact ⟨hst1.trans hst2, .inr (.inr ⟨trivial, HB.out, p, rfl, H2.out⟩)⟩
end Go.Proofs.Ytbobcmimkonnoaa.load1

namespace Go.Proofs.Ytbobcmimkonnoaa.chk2
open Go.ChangeShapes Go.WideShapes Go.ChangeAt Go.RowKit Go.Sl Go.Cop Go.Proofs.Ytbobcmimkonnoaa.clone Go.Proofs.Ytbobcmimkonnoaa.page Go.Proofs.Ytbobcmimkonnoaa.eqb Go.Proofs.Ytbobcmimkonnoaa.cmp Go.Proofs.Ytbobcmimkonnoaa.chk1 Go.Proofs.Ytbobcmimkonnoaa.vault1 Go.Proofs.Ytbobcmimkonnoaa.items

/-- In the midst of a check: what is wrong so far, and the page. -/
def ChkAt (fb pb : Nat) (f k l : Int) (vi vd : Value) (nx : Int) (R : Pr) : Pr :=
  (Pr.pts fb (.cells #[.int .i64 f] 27)).star ((Pr.pts pb (.cells #[.int .i64 k, .int .i64 l, vi, vd, .int .i64 nx] 65)).star R)

theorem chkAt_rd {fb pb : Nat} {f k l : Int} {vi vd : Value} {nx : Int} {R : Pr} {w : World} (h : Sat (ChkAt fb pb f k l vi vd nx R) w) :
    w.cell? ⟨fb, 0, none⟩ = some (.int .i64 f) ∧ w.cell? ⟨pb, 0, none⟩ = some (.int .i64 k) ∧ w.cell? ⟨pb, 1, none⟩ = some (.int .i64 l) ∧ w.cell? ⟨pb, 2, none⟩ = some vi ∧ w.cell? ⟨pb, 3, none⟩ = some vd ∧ w.cell? ⟨pb, 4, none⟩ = some (.int .i64 nx) ∧ fb < w.heap.size ∧ pb < w.heap.size := by
  have h1 := h.pts_heap
  have h2 := (h.right).pts_heap
  refine ⟨by rw [cell_of_heap h1]; rfl, by rw [cell_of_heap h2]; rfl, by rw [cell_of_heap h2]; rfl, by rw [cell_of_heap h2]; rfl, by rw [cell_of_heap h2]; rfl, by rw [cell_of_heap h2]; rfl, h.lt, h.right.lt⟩

theorem chk_start {k l : Int} {vi vd : Value} {nx : Int} {R : Pr} {w : World} (h : Sat R w) :
    Sat (ChkAt (w.heap.size + 1) w.heap.size 0 k l vi vd nx R) ((w.alloc (.cells #[.int .i64 k, .int .i64 l, vi, vd, .int .i64 nx] 65)).alloc (.cells #[.int .i64 0] 27)) := by
  have h1 := (h.alloc (.cells #[.int .i64 k, .int .i64 l, vi, vd, .int .i64 nx] 65)).alloc (.cells #[.int .i64 0] 27)
  rw [show (w.alloc (.cells #[.int .i64 k, .int .i64 l, vi, vd, .int .i64 nx] 65)).heap.size = w.heap.size + 1 by simp] at h1
  exact h1

/-- An item in memory of its own. -/
theorem itm_start {fb pb : Nat} {f k l : Int} {vi vd : Value} {nx : Int} {R : Pr} {w : World} {kv vv : Value} {c sz : Int} (h : Sat (ChkAt fb pb f k l vi vd nx R) w) :
    Sat (ChkAt fb pb f k l vi vd nx ((Pr.pts w.heap.size (.cells #[kv, vv, .int .i64 c, .int .i64 sz] 33)).star R)) (w.alloc (.cells #[kv, vv, .int .i64 c, .int .i64 sz] 33)) := by
  have h1 := h.alloc (.cells #[kv, vv, .int .i64 c, .int .i64 sz] 33)
  exact h1.perm (by unfold ChkAt; ac_rfl)
theorem itm_rd {fb pb xb : Nat} {f k l : Int} {vi vd : Value} {nx : Int} {R : Pr} {w : World} {kv vv : Value} {c sz : Int} (h : Sat (ChkAt fb pb f k l vi vd nx ((Pr.pts xb (.cells #[kv, vv, .int .i64 c, .int .i64 sz] 33)).star R)) w) :
    w.cell? ⟨xb, 0, none⟩ = some kv ∧ w.cell? ⟨xb, 1, none⟩ = some vv ∧ w.cell? ⟨xb, 2, none⟩ = some (.int .i64 c) ∧ w.cell? ⟨xb, 3, none⟩ = some (.int .i64 sz) ∧ xb < w.heap.size := by
  have h1 := h.right.right.pts_heap
  exact ⟨by rw [cell_of_heap h1]; rfl, by rw [cell_of_heap h1]; rfl, by rw [cell_of_heap h1]; rfl, by rw [cell_of_heap h1]; rfl, h.right.right.lt⟩
theorem itm_drop {fb pb xb : Nat} {f k l : Int} {vi vd : Value} {nx : Int} {R : Pr} {w : World} {o : Obj} (h : Sat (ChkAt fb pb f k l vi vd nx ((Pr.pts xb o).star R)) w) : Sat (ChkAt fb pb f k l vi vd nx R) w := by
  have h1 : Sat ((Pr.pts xb o).star (ChkAt fb pb f k l vi vd nx R)) w := h.perm (by unfold ChkAt; ac_rfl)
  exact h1.right
theorem close4 {f rest T : Int} {kk : Int} {i : Nat} {prev : List Int} {x : ItemV} {b7 b11 b8 b15 : Bool} (h7 : keyOk kk i x = b7) (h11 : ordOk i prev x = b11) (h8 : valOk kk x = b8) (h15 : kidOk kk x = b15)
    (he : thenE f (thenE (thenE (if keyOk kk i x then 0 else 7) (thenE (if ordOk i prev x then 0 else 11) (thenE (if valOk kk x then 0 else 8) (if kidOk kk x then 0 else 15)))) rest) = T) :
    thenE (mustP (mustP (mustP (mustP f b7 7) b11 11) b8 8) b15 15) rest = T := by
  rw [← he, h7, h11, h8, h15]
  simp only [mustP_then, thenE_assoc]
theorem close3 {f rest T : Int} {kk : Int} {i : Nat} {prev : List Int} {x : ItemV} {b7 b8 b15 : Bool} (h7 : keyOk kk i x = b7) (h11 : ordOk i prev x = true) (h8 : valOk kk x = b8) (h15 : kidOk kk x = b15)
    (he : thenE f (thenE (thenE (if keyOk kk i x then 0 else 7) (thenE (if ordOk i prev x then 0 else 11) (thenE (if valOk kk x then 0 else 8) (if kidOk kk x then 0 else 15)))) rest) = T) :
    thenE (mustP (mustP (mustP f b7 7) b8 8) b15 15) rest = T := by
  rw [← he, h7, h11, h8, h15]
  simp only [mustP_then, thenE_assoc, if_true, zero_thenE]

theorem len_dec (l : List Int) : (Hid (l.length = 0) ∧ (1 ≤ (l.length : Int)) = False) ∨ (Hid (0 < l.length) ∧ (1 ≤ (l.length : Int)) = True) := by
  rcases Nat.eq_zero_or_pos l.length with h | h
  · exact .inl ⟨Lib.hid h, eq_false (by omega)⟩
  · exact .inr ⟨Lib.hid h, eq_true (by omega)⟩
theorem len_zero (l : List Int) : (Hid (l.length = 0) ∧ ((l.length : Int) == 0) = true) ∨ (Hid (0 < l.length) ∧ ((l.length : Int) == 0) = false) := by
  rcases Nat.eq_zero_or_pos l.length with h | h
  · exact .inl ⟨Lib.hid h, by rw [beq_iff_eq]; omega⟩
  · exact .inr ⟨Lib.hid h, by rw [beq_eq_false_iff_ne]; omega⟩

theorem mustP_22 (b : Bool) : mustP (mustP 0 false 22) b 5 = 22 := by cases b <;> rfl

set_option maxRecDepth 100000 in
set_option maxHeartbeats 4000000 in
/-- A kind that is none. -/
theorem check_kind (ai ad : Option Addr) (n ci d cd : Nat) (k l nx : Int) (hk : ¬ (1 ≤ k ∧ k ≤ 3)) (F : Pr) (w : World) (hF : Sat F w) :
    Calls Try.prog 49 #[pageV k l (.slice ai n ci) (.slice ad d cd) nx] w fun e w' => e = .returned (.int .i64 22) ∧ Sat F w' ∧ Stays w w' := by
  have h0 := chk_start (k := k) (l := l) (vi := .slice ai n ci) (vd := .slice ad d cd) (nx := nx) hF
  have H0 := Lib.hid h0
  have HST := Lib.hid (((Stays.refl w).alloc (.cells #[.int .i64 k, .int .i64 l, .slice ai n ci, .slice ad d cd, .int .i64 nx] 65)).alloc (.cells #[.int .i64 0] 27))
  have MB := fun (F : Pr) (w : World) (f : Int) (b : Bool) (x : Int) (hF : Sat ((Pr.pts (w.heap.size + 1) (.cells #[.int .i64 f] 27)).star F) w) => Lib.hid hF
  clear h0 hF MB
  by_cases h1 : 1 ≤ k
  · have h3 : ¬ k ≤ 3 := by omega
    go_enter Try.func49, Try.ntmps49
    go_wp2_with fail
    refine (must_any 0 22 false _ _ _ H0.out).mono ?_
    rintro e w1 ⟨rfl, hs1, st1⟩
    obtain ⟨q0, q1, q2, q3, q4, q5, z0, z1⟩ := chkAt_rd (f := mustP 0 false 22) hs1
    go_wp2_with fail
    refine (form_any ai ad n ci d cd k l nx _).mono ?_
    rintro e w2 ⟨rfl, ho⟩
    go_wp2_with fail
    refine (must_any _ 5 _ _ _ _ (hs1.only ho)).mono ?_
    rintro e w3 ⟨rfl, hs3, st3⟩
    rw [mustP_22] at hs3
    obtain ⟨q0', _⟩ := chkAt_rd (f := 22) hs3
    go_wp2
    go_ret
    exact ⟨rfl, hs3.right.right, HST.out.trans (st1.trans (ho.st.trans st3))⟩
  · go_enter Try.func49, Try.ntmps49
    go_wp2_with fail
    refine (must_any 0 22 false _ _ _ H0.out).mono ?_
    rintro e w1 ⟨rfl, hs1, st1⟩
    obtain ⟨q0, q1, q2, q3, q4, q5, z0, z1⟩ := chkAt_rd (f := mustP 0 false 22) hs1
    go_wp2_with fail
    refine (form_any ai ad n ci d cd k l nx _).mono ?_
    rintro e w2 ⟨rfl, ho⟩
    go_wp2_with fail
    refine (must_any _ 5 _ _ _ _ (hs1.only ho)).mono ?_
    rintro e w3 ⟨rfl, hs3, st3⟩
    rw [mustP_22] at hs3
    obtain ⟨q0', _⟩ := chkAt_rd (f := 22) hs3
    go_wp2
    go_ret
    exact ⟨rfl, hs3.right.right, HST.out.trans (st1.trans (ho.st.trans st3))⟩

set_option maxRecDepth 100000 in
set_option maxHeartbeats 4000000 in
/-- A form that is none. -/
theorem check_form (ai ad : Option Addr) (n ci d cd : Nat) (k l nx : Int) (hk : 1 ≤ k ∧ k ≤ 3) (hf : formP k l n d nx = false) (F : Pr) (w : World) (hF : Sat F w) :
    Calls Try.prog 49 #[pageV k l (.slice ai n ci) (.slice ad d cd) nx] w fun e w' => e = .returned (.int .i64 5) ∧ Sat F w' ∧ Stays w w' := by
  have h0 := chk_start (k := k) (l := l) (vi := .slice ai n ci) (vd := .slice ad d cd) (nx := nx) hF
  have H0 := Lib.hid h0
  have HST := Lib.hid (((Stays.refl w).alloc (.cells #[.int .i64 k, .int .i64 l, .slice ai n ci, .slice ad d cd, .int .i64 nx] 65)).alloc (.cells #[.int .i64 0] 27))
  clear h0 hF
  obtain ⟨h1, h3⟩ := hk
  go_enter Try.func49, Try.ntmps49
  go_wp2_with fail
  refine (must_any 0 22 true _ _ _ H0.out).mono ?_
  rintro e w1 ⟨rfl, hs1, st1⟩
  obtain ⟨q0, q1, q2, q3, q4, q5, z0, z1⟩ := chkAt_rd (f := mustP 0 true 22) hs1
  go_wp2_with fail
  refine (form_any ai ad n ci d cd k l nx _).mono ?_
  rintro e w2 ⟨rfl, ho⟩
  rw [hf]
  go_wp2_with fail
  refine (must_any _ 5 _ _ _ _ (hs1.only ho)).mono ?_
  rintro e w3 ⟨rfl, hs3, st3⟩
  obtain ⟨q0', _⟩ := chkAt_rd (f := 5) hs3
  go_wp2
  go_ret
  exact ⟨rfl, hs3.right.right, HST.out.trans (st1.trans (ho.st.trans st3))⟩

set_option maxRecDepth 100000 in
set_option maxHeartbeats 4000000 in
/-- The item that is looked at lies in memory of its own. -/
theorem check_index (h : Hp) (a ad : Option Addr) (c d cd : Nat) (its : List ItemV) (l nx : Int) (hi : ItemsIn h (.slice a its.length c) its) (hu : ∀ x ∈ its, U8 x.key) (hf : formP 2 l its.length d nx = true) (F : Pr) (w : World) (hF : Sat ((Pr.own h).star F) w) :
    Calls Try.prog 49 #[pageV 2 l (.slice a its.length c) (.slice ad d cd) nx] w fun e w' => e = .returned (.int .i64 (thenE (itemsE 2 0 [] its) (if nextOk nx then 0 else 15))) ∧ Sat ((Pr.own h).star F) w' ∧ Stays w w' := by
  have hnx : nx = 0 := by unfold formP at hf; simp at hf; omega
  have hnl : its.length ≤ 8 := by unfold formP at hf; simp at hf; omega
  subst hnx
  obtain ⟨a', c', e', _, rd⟩ := items_rd hi
  cases e'
  have h0 := chk_start (k := 2) (l := l) (vi := .slice a its.length c) (vd := .slice ad d cd) (nx := 0) hF
  have H0 := Lib.hid h0
  have RD := Lib.hid rd
  have HU := Lib.hid hu
  have HST := Lib.hid (((Stays.refl w).alloc (.cells #[.int .i64 2, .int .i64 l, .slice a its.length c, .slice ad d cd, .int .i64 0] 65)).alloc (.cells #[.int .i64 0] 27))
  clear h0 hF rd hu
  go_enter Try.func49, Try.ntmps49
  go_wp2_with fail
  refine (must_any 0 22 true _ _ _ H0.out).mono ?_
  rintro e w1 ⟨rfl, hs1, st1⟩
  obtain ⟨q0, q1, q2, q3, q4, q5, z0, z1⟩ := chkAt_rd (f := mustP 0 true 22) hs1
  go_wp2_with fail
  refine (form_any a ad its.length c d cd 2 l 0 _).mono ?_
  rintro e w2 ⟨rfl, ho⟩
  rw [hf]
  go_wp2_with fail
  refine (must_any _ 5 _ _ _ _ (hs1.only ho)).mono ?_
  rintro e w3 ⟨rfl, hs3, st3⟩
  have HST3 := Lib.hid (HST.out.trans (st1.trans (ho.st.trans st3)))
  have hs3' : Sat (ChkAt (w.heap.size + 1) w.heap.size 0 2 l (.slice a its.length c) (.slice ad d cd) 0 ((Pr.own h).star F)) w3 := hs3
  clear q0 q1 q2 q3 q4 q5 z0 z1 hs1 hs3 st1 ho st3 HST H0
  obtain ⟨q0, q1, q2, q3, q4, q5, z0, z1⟩ := chkAt_rd hs3'
  have H3 := Lib.hid hs3'
  clear hs3'
  go_wp2_with fail
  go_loopw [5, 30] (fun above i wr => ∃ (k : Nat) (f : Int) (prev : List Int), k ≤ its.length ∧ i = .int .i64 k ∧ Stays w wr ∧ Sat (ChkAt (w.heap.size + 1) w.heap.size f 2 l (.slice a its.length c) (.slice ad d cd) 0 ((Pr.own h).star F)) wr ∧ Bytes h above prev ∧ Hid (U8 prev) ∧
      Hid (thenE f (itemsE 2 k prev (its.drop k)) = itemsE 2 0 [] its)) (fun _ i _ => its.length - (intOf i).toNat)
  case atStart => exact ⟨0, 0, [], Nat.zero_le _, rfl, HST3.out, H3.out, RowIn.nil _ _, Lib.hid (fun z hz => by cases hz), Lib.hid rfl⟩
  case round =>
    obtain ⟨k, f, prev, hk, rfl, hst, hs, hab, hup, heq⟩ := hrel
    clear q0 q1 q2 q3 q4 q5 z0 z1
    obtain ⟨q0, q1, q2, q3, q4, q5, z0, z1⟩ := chkAt_rd hs
    rcases Nat.lt_or_ge k its.length with hlt | hge
    · obtain ⟨b, off, ak, ck, av, cv, rfl, hbk, hbv, hcell⟩ := RD.out k hlt
      obtain ⟨c0, c1, c2, c3⟩ := hcell wr hs.right.right.own
      have heq1 := heq.out
      rw [drop_at hlt, itemsE_cons, itemE_then] at heq1
      have HE := Lib.hid heq1
      have hux := Lib.hid (HU.out its[k] (List.getElem_mem hlt))
      clear hcell heq heq1
      generalize its[k] = x at *
      have HA := Lib.hid (itm_start (kv := .slice ak x.key.length ck) (vv := .slice av x.value.length cv) (c := x.child) (sz := x.size) hs)
      have HSTK := Lib.hid (hst.alloc (.cells #[.slice ak x.key.length ck, .slice av x.value.length cv, .int .i64 x.child, .int .i64 x.size] 33))
      clear hs hst
      have hn2 := len_dec x.key
      have hv2 := len_zero x.value
      rcases Nat.eq_zero_or_pos k with hk0 | hk0
      · subst hk0
        simp only [Nat.zero_mul, Nat.add_zero] at c0 c1 c2 c3
        rcases hv2 with ⟨hv, hv1⟩ | ⟨hv, hv1⟩
        all_goals
          go_wp2_with fail
          refine (must_any f 7 _ _ _ _ HA.out).mono ?_
          rintro e w4 ⟨rfl, hs4, st4⟩
          obtain ⟨q0, q1, q2, q3, q4, q5, z0, z1⟩ := chkAt_rd hs4
          obtain ⟨i0, i1, i2, i3, z2⟩ := itm_rd hs4
          go_wp2_with fail
          refine (must_any _ 8 _ _ _ _ hs4).mono ?_
          rintro e w5 ⟨rfl, hs5, st5⟩
          clear q0 q1 q2 q3 q4 q5 z0 z1 i0 i1 i2 i3 z2
          obtain ⟨q0, q1, q2, q3, q4, q5, z0, z1⟩ := chkAt_rd hs5
          obtain ⟨i0, i1, i2, i3, z2⟩ := itm_rd hs5
          go_wp2_with fail
          refine (isPage_any _ _).mono ?_
          rintro e w6 ⟨rfl, rfl⟩
          go_wp2_with fail
          refine (must_any _ 15 _ _ _ _ hs5).mono ?_
          rintro e w7 ⟨rfl, hs7, st7⟩
          go_wp2
          go_roundw
          case rel =>
            refine ⟨1, _, x.key, by omega, rfl, HSTK.out.trans (st4.trans (st5.trans st7)), itm_drop hs7, hbk, hux, Lib.hid (close3 ?_ rfl ?_ ?_ HE.out)⟩
            · rw [Bool.eq_iff_iff]; simp [keyOk]
            · have hv' := hv.out
              rw [Bool.eq_iff_iff]; unfold valOk; rw [if_pos rfl]; simp [-List.length_eq_zero_iff]; try omega
            · rw [Bool.eq_iff_iff]; simp [kidOk, isPg]
          case measure => simp [intOf]; omega
      · have hk1 : ((k : Int) == 0) = false := by rw [beq_eq_false_iff_ne]; omega
        rcases hn2 with ⟨hn, hn1⟩ | ⟨hn, hn1⟩
        all_goals
          rcases hv2 with ⟨hv, hv1⟩ | ⟨hv, hv1⟩
          all_goals
            go_wp2_with fail
            refine (must_any f 7 _ _ _ _ HA.out).mono ?_
            rintro e w4 ⟨rfl, hs4, st4⟩
            obtain ⟨q0, q1, q2, q3, q4, q5, z0, z1⟩ := chkAt_rd hs4
            obtain ⟨i0, i1, i2, i3, z2⟩ := itm_rd hs4
            go_wp2_with fail
            refine (bcompare_any h h _ _ x.key prev hbk hab hux.out hup.out _ hs4.right.right.right.own hs4.right.right.right.own).mono ?_
            rintro e w4' ⟨rfl, rfl⟩
            go_wp2_with fail
            refine (must_any _ 11 _ _ _ _ hs4).mono ?_
            rintro e w8 ⟨rfl, hs8, st8⟩
            clear q0 q1 q2 q3 q4 q5 z0 z1 i0 i1 i2 i3 z2
            obtain ⟨q0, q1, q2, q3, q4, q5, z0, z1⟩ := chkAt_rd hs8
            obtain ⟨i0, i1, i2, i3, z2⟩ := itm_rd hs8
            go_wp2_with fail
            refine (must_any _ 8 _ _ _ _ hs8).mono ?_
            rintro e w5 ⟨rfl, hs5, st5⟩
            clear q0 q1 q2 q3 q4 q5 z0 z1 i0 i1 i2 i3 z2
            obtain ⟨q0, q1, q2, q3, q4, q5, z0, z1⟩ := chkAt_rd hs5
            obtain ⟨i0, i1, i2, i3, z2⟩ := itm_rd hs5
            go_wp2_with fail
            refine (isPage_any _ _).mono ?_
            rintro e w6 ⟨rfl, rfl⟩
            go_wp2_with fail
            refine (must_any _ 15 _ _ _ _ hs5).mono ?_
            rintro e w7 ⟨rfl, hs7, st7⟩
            go_wp2
            go_roundw
            case rel =>
              refine ⟨k + 1, _, x.key, by omega, congrArg (Value.int .i64) (by omega), HSTK.out.trans (st4.trans (st8.trans (st5.trans st7))), itm_drop hs7, hbk, hux, Lib.hid (close4 ?_ ?_ ?_ ?_ HE.out)⟩
              · have hn' := hn.out
                rw [Bool.eq_iff_iff]; unfold keyOk; rw [if_neg (by omega)]; simp [-List.length_eq_zero_iff]; try omega
              · rw [Bool.eq_iff_iff]; simp [ordOk]; try omega
              · have hv' := hv.out
                rw [Bool.eq_iff_iff]; unfold valOk; rw [if_pos rfl]; simp [-List.length_eq_zero_iff]; try omega
              · rw [Bool.eq_iff_iff]; simp [kidOk, isPg]
            case measure => simp [intOf]; omega
    · have hkl : k = its.length := by omega
      subst hkl
      have heq1 := heq.out
      rw [List.drop_length] at heq1
      have HE := Lib.hid heq1
      clear heq heq1
      go_wp2_with fail
      refine (must_any _ 15 true _ _ _ hs).mono ?_
      rintro e w4 ⟨rfl, hs4, st4⟩
      obtain ⟨q0', _⟩ := chkAt_rd hs4
      go_wp2
      go_ret
      refine ⟨?_, hs4.right.right, hst.trans st4⟩
      rw [← HE.out]
      show _ = Ending.returned (Value.int .i64 (thenE (thenE f 0) 0))
      rw [thenE_zero, thenE_zero]
      rfl
end Go.Proofs.Ytbobcmimkonnoaa.chk2
