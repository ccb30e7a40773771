/- The vault: what Make does; the conditions stand as hypotheses. -/
import Derived.Test.YtbobcmimkonnoaaVault3
namespace Go.Cop
/-- A page has been taken, and this put on it. -/
def VaultS.made (s : VaultS) (n : Int) (g : PageV) : VaultS := { s with pool := s.pool.did n 1, on := fun m => if m = n then some g else s.on m }
end Go.Cop
namespace Go.Proofs.Ytbobcmimkonnoaa.vault4
open Go.ChangeShapes Go.WideShapes Go.ChangeAt Go.RowKit Go.Sl Go.Cop Go.Proofs.Ytbobcmimkonnoaa.pool1 Go.Proofs.Ytbobcmimkonnoaa.pool2 Go.Proofs.Ytbobcmimkonnoaa.pool5 Go.Proofs.Ytbobcmimkonnoaa.pool9 Go.Proofs.Ytbobcmimkonnoaa.clone Go.Proofs.Ytbobcmimkonnoaa.page Go.Proofs.Ytbobcmimkonnoaa.vault1 Go.Proofs.Ytbobcmimkonnoaa.vault2 Go.Proofs.Ytbobcmimkonnoaa.vault3

def VMA (v : Nat) (s : VaultS) (ab : Nat) (mark : Int) (was : List (Int × Option PageV)) : Pr :=
  Pr.ex fun y : VX × Value × List WasX => (Pr.pure (VOk s y.1 ∧ WasIn y.1.h y.2.2 was)).star (VMAt v s y.1 ab mark y.2.1 y.2.2)
theorem vma_iff {v : Nat} {s : VaultS} {ab : Nat} {mark : Int} {was : List (Int × Option PageV)} {F : Pr} {w : World} :
    Sat ((VMA v s ab mark was).star F) w ↔ ∃ x wv ws, VOk s x ∧ WasIn x.h ws was ∧ Sat ((VMAt v s x ab mark wv ws).star F) w := by
  unfold VMA
  rw [Sat.ex]
  constructor
  · rintro ⟨⟨x, wv, ws⟩, h⟩
    rw [Pr.star_assoc] at h
    obtain ⟨⟨h1, h2⟩, h3⟩ := Sat.pure.1 h
    exact ⟨x, wv, ws, h1, h2, h3⟩
  · rintro ⟨x, wv, ws, h1, h2, h3⟩
    refine ⟨(x, wv, ws), ?_⟩
    rw [Pr.star_assoc]
    exact Sat.pure.2 ⟨⟨h1, h2⟩, h3⟩

theorem was_one {h : Hp} {X : WasX} {y : Int × Option PageV} (hr : WasRel h X y) : WasIn h [X] [y] :=
  ⟨rfl, fun i h1 h2 => by
    have : i = 0 := by simp at h1; omega
    subst this; exact hr⟩

/-- Where a pool's page lies. -/
theorem page_bd {p : Nat} {s : PoolS} {F : Pr} {w : World} (h : Sat ((PoolA p s).star F) w) {n : Int} (hn : s.there n) : 1 ≤ n ∧ n ≤ 65536 := by
  have := (poolA_rd h).1.n2
  exact ⟨hn.1, by have := hn.2; omega⟩

abbrev blobCells (vi vd : Value) (next : Int) : Array Value := #[.int .i64 3, .int .i64 0, vi, vd, .int .i64 next]

set_option maxRecDepth 100000 in
set_option maxHeartbeats 4000000 in
theorem make1_A (v : Nat) (s : VaultS) (ab : Nat) (mark : Int) (VB MB PB : Nat) (m0 : Int) (hp : Hp) (vi vd : Value) (d : List Int) (next : Int) (hd : d.length ≤ 65536) (hg : PageIn hp (.agg (blobCells vi vd next)) (blobV d next)) (F : Pr) (w : World)
    (hF : Sat ((VMA v s ab mark []).star ((Pr.pts VB (.cells #[.pointer (some ⟨v, 0, none⟩)] 26)).star ((Pr.pts MB (.cells #[.int .i64 m0] 3)).star ((Pr.pts PB (.cells (blobCells vi vd next) 65)).star ((Pr.own hp).star F))))) w)
    (hm : s.pool.floor + s.pool.acts.length < 1099511627776) :
    Calls Try.prog 51 #[.pointer (some ⟨ab, 0, none⟩), .pointer (some ⟨VB, 0, none⟩), .pointer (some ⟨MB, 0, none⟩), .pointer (some ⟨PB, 0, none⟩)] w fun e w' =>
      Stays w w' ∧ ((e = .returned (.int .i64 12) ∧ (∀ m, s.pool.state m ≠ 1) ∧ Sat ((VMA v s ab mark []).star ((Pr.pts MB (.cells #[.int .i64 0] 3)).star ((Pr.own hp).star F))) w') ∨
        ∃ n, e = .returned (.int .i64 0) ∧ s.pool.state n = 1 ∧ (∀ m, s.pool.state m = 1 → n ≤ m) ∧
          Sat ((VMA v (s.made n (blobV d next)) ab mark [(n, s.on n)]).star ((Pr.pts MB (.cells #[.int .i64 n] 3)).star ((Pr.own hp).star F))) w') := by
  obtain ⟨x, wv, ws, ok, hws, hF⟩ := vma_iff.1 hF
  obtain ⟨vi0, vd0, ee, hi0, hb0⟩ := id hg
  simp only [blobCells, pageV, Value.agg.injEq, Array.mk.injEq, List.cons.injEq, and_true, true_and] at ee
  obtain ⟨rfl, rfl⟩ := ee
  obtain ⟨ai, ci, rfl, _⟩ := items_none hi0
  obtain ⟨_, ad, cd, rfl, _⟩ := id hb0
  clear hi0 hb0
  have h1 : Sat ((PoolA x.p s.pool).star ((Pr.pts v (.cells #[.pointer (some ⟨x.p, 0, none⟩), .map (some x.mb), x.av, .int .i64 s.floor] 43)).star ((Pr.pts VB (.cells #[.pointer (some ⟨v, 0, none⟩)] 26)).star ((Pr.pts MB (.cells #[.int .i64 m0] 3)).star ((Pr.pts PB (.cells (blobCells (.slice ai 0 ci) (.slice ad d.length cd) next) 65)).star ((Pr.own hp).star
    ((((MapA Try.prog 3 x.mb x.f).star ((Row 94 2 x.av s.acts.length (actCells x.axs)).star (Pr.own x.h)))).star (((Pr.pts ab (.cells #[.int .i64 mark, wv] 94)).star (Row 116 7 wv ws.length (ws.flatMap WasX.cells))).star F)))))))) w := hF.perm (by unfold VMAt VaultAt; ac_rfl)
  have qv : w.cell? ⟨v, 0, none⟩ = some (.pointer (some ⟨x.p, 0, none⟩)) := by rw [cell_of_heap h1.right.pts_heap]; rfl
  have qV : w.cell? ⟨VB, 0, none⟩ = some (.pointer (some ⟨v, 0, none⟩)) := by rw [cell_of_heap h1.right.right.pts_heap]; rfl
  have A := Lib.hid (alloc_A x.p s.pool _ w h1 hm)
  have HB := Lib.hid (fun n (hn : s.pool.there n) => page_bd h1 hn)
  have H1 := Lib.hid h1
  clear h1 hF
  go_enter Try.func51, Try.ntmps51
  go_wp2_with fail
  refine A.out.mono ?_
  rintro e w1 (⟨rfl, hno, rfl⟩ | ⟨n, rfl, hn, hle, hs, hst⟩)
  · have qM : w.cell? ⟨MB, 0, none⟩ = some (.int .i64 m0) := by rw [cell_of_heap H1.out.right.right.right.pts_heap]; rfl
    have zM := frozen_of_heap H1.out.right.right.right.pts_heap 0
    go_wp2
    go_ret
    refine ⟨(Stays.refl w).setCell _ _, .inl ⟨rfl, hno, vma_iff.2 ⟨x, wv, ws, ok, hws, ?_⟩⟩⟩
    have h2 := (H1.out.perm (B := (Pr.pts MB (.cells #[.int .i64 m0] 3)).star ((VMAt v s x ab mark wv ws).star ((Pr.own hp).star (((Pr.pts VB (.cells #[.pointer (some ⟨v, 0, none⟩)] 26)).star ((Pr.pts PB (.cells (blobCells (.slice ai 0 ci) (.slice ad d.length cd) next) 65)))).star F)))) (by unfold VMAt VaultAt; ac_rfl)).setCell (i := 0) (.int .i64 0)
    have h3 : Sat (((Pr.pts VB (.cells #[.pointer (some ⟨v, 0, none⟩)] 26)).star ((Pr.pts PB (.cells (blobCells (.slice ai 0 ci) (.slice ad d.length cd) next) 65)))).star ((VMAt v s x ab mark wv ws).star ((Pr.pts MB (.cells #[.int .i64 0] 3)).star ((Pr.own hp).star F)))) _ := h2.perm (show (Pr.pts MB (.cells #[.int .i64 0] 3)).star _ = _ from by ac_rfl)
    exact h3.right
  · have qM : w1.cell? ⟨MB, 0, none⟩ = some (.int .i64 m0) := by rw [cell_of_heap hs.right.right.right.pts_heap]; rfl
    have zM := frozen_of_heap hs.right.right.right.pts_heap 0
    have s2 := (hs.perm (B := (Pr.pts MB (.cells #[.int .i64 m0] 3)).star ((VMAt v { s with pool := s.pool.did n 1 } x ab mark wv ws).star ((Pr.own hp).star ((Pr.pts VB (.cells #[.pointer (some ⟨v, 0, none⟩)] 26)).star ((Pr.pts PB (.cells (blobCells (.slice ai 0 ci) (.slice ad d.length cd) next) 65)).star F))))) (by unfold VMAt VaultAt; dsimp only; ac_rfl)).setCell (i := 0) (.int .i64 n)
    have hnb := HB.out n (there_of_state (by omega : s.pool.state n ≠ 0))
    have HS2 := Lib.hid s2
    have HSQ := Lib.hid (And.intro hn hle)
    clear hn hle hs H1 A HB
    have r2 := HS2.out.right.right
    have HST := Lib.hid (hst.setCell ⟨MB, 0, none⟩ (.int .i64 n))
    have qV2 : (w1.setCell ⟨MB, 0, none⟩ (.int .i64 n)).cell? ⟨VB, 0, none⟩ = some (.pointer (some ⟨v, 0, none⟩)) := by rw [cell_of_heap r2.right.pts_heap]; rfl
    have qM2 : (w1.setCell ⟨MB, 0, none⟩ (.int .i64 n)).cell? ⟨MB, 0, none⟩ = some (.int .i64 n) := by rw [cell_of_heap HS2.out.pts_heap]; rfl
    have hb := r2.right.right.pts_heap
    have p0 : (w1.setCell ⟨MB, 0, none⟩ (.int .i64 n)).cell? ⟨PB, 0, none⟩ = some (.int .i64 3) := by rw [cell_of_heap hb]; rfl
    have p1 : (w1.setCell ⟨MB, 0, none⟩ (.int .i64 n)).cell? ⟨PB, 1, none⟩ = some (.int .i64 0) := by rw [cell_of_heap hb]; rfl
    have p2 : (w1.setCell ⟨MB, 0, none⟩ (.int .i64 n)).cell? ⟨PB, 2, none⟩ = some (.slice ai 0 ci) := by rw [cell_of_heap hb]; rfl
    have p3 : (w1.setCell ⟨MB, 0, none⟩ (.int .i64 n)).cell? ⟨PB, 3, none⟩ = some (.slice ad d.length cd) := by rw [cell_of_heap hb]; rfl
    have p4 : (w1.setCell ⟨MB, 0, none⟩ (.int .i64 n)).cell? ⟨PB, 4, none⟩ = some (.int .i64 next) := by rw [cell_of_heap hb]; rfl
    have hle2 : hp.le (w1.setCell ⟨MB, 0, none⟩ (.int .i64 n)).drew := r2.drew.own
    have s3 : Sat ((VMAt v { s with pool := s.pool.did n 1 } x ab mark wv ws).star ((Pr.pts MB (.cells #[.int .i64 n] 3)).star ((Pr.own hp).star (((Pr.pts VB (.cells #[.pointer (some ⟨v, 0, none⟩)] 26)).star (Pr.pts PB (.cells (blobCells (.slice ai 0 ci) (.slice ad d.length cd) next) 65))).star F)))) (w1.setCell ⟨MB, 0, none⟩ (.int .i64 n)).drew := HS2.out.drew.perm (show (Pr.pts MB (.cells #[.int .i64 n] 3)).star _ = _ from by ac_rfl)
    have C := Lib.hid (copied_blob hp _ d next hd hg _ _ s3 hle2)
    clear s2 s3 r2 hb hle2 hst
    go_wp2
    refine wp_region_staged (sz := 23) (by kernel_rfl) [0, 1, 2, 3] [(4, [], [0, 1, 2]), (5, [], [])] rfl (by kernel_rfl) (by kernel_rfl) (by kernel_rfl) ?_
    iterate 4 (refine wpQ_step rfl rfl (fun K hK => ?_); go_simp; refine hK _ ?_; clear hK K)
    refine wpQ_nil ?_
    refine wpRest_act rfl ?_
    go_wp2_with fail
    refine C.out.mono ?_
    rintro e w3 ⟨pv, rfl, ⟨h', hpv, s4⟩, hst4⟩
    have s5 : Sat ((Pr.pts VB (.cells #[.pointer (some ⟨v, 0, none⟩)] 26)).star ((Pr.pts MB (.cells #[.int .i64 n] 3)).star ((Pr.own x.h).star ((Pr.own h').star
      (((Pr.pts v (.cells #[.pointer (some ⟨x.p, 0, none⟩), .map (some x.mb), x.av, .int .i64 s.floor] 43)).star ((PoolA x.p (s.pool.did n 1)).star ((MapA Try.prog 3 x.mb x.f).star (Row 94 2 x.av s.acts.length (actCells x.axs))))).star
        (((Pr.pts ab (.cells #[.int .i64 mark, wv] 94)).star (Row 116 7 wv ws.length (ws.flatMap WasX.cells))).star ((Pr.own hp).star ((Pr.pts PB (.cells (blobCells (.slice ai 0 ci) (.slice ad d.length cd) next) 65)).star F)))))))) w3 := s4.perm (by unfold VMAt VaultAt; dsimp only; ac_rfl)
    have t0 : w3.cell? ⟨VB, 0, none⟩ = some (.pointer (some ⟨v, 0, none⟩)) := by rw [cell_of_heap s5.pts_heap]; rfl
    have t1 : w3.cell? ⟨MB, 0, none⟩ = some (.int .i64 n) := by rw [cell_of_heap s5.right.pts_heap]; rfl
    have s5b : Sat ((Pr.own x.h).star ((Pr.own h').star ((Pr.pts VB (.cells #[.pointer (some ⟨v, 0, none⟩)] 26)).star ((Pr.pts MB (.cells #[.int .i64 n] 3)).star (((Pr.pts v (.cells #[.pointer (some ⟨x.p, 0, none⟩), .map (some x.mb), x.av, .int .i64 s.floor] 43)).star ((PoolA x.p (s.pool.did n 1)).star ((MapA Try.prog 3 x.mb x.f).star (Row 94 2 x.av s.acts.length (actCells x.axs))))).star
        (((Pr.pts ab (.cells #[.int .i64 mark, wv] 94)).star (Row 116 7 wv ws.length (ws.flatMap WasX.cells))).star ((Pr.own hp).star ((Pr.pts PB (.cells (blobCells (.slice ai 0 ci) (.slice ad d.length cd) next) 65)).star F)))))))) w3 := s5.perm (by ac_rfl)
    obtain ⟨hdis, s6⟩ := Sat.own_join s5b
    have s7 : Sat ((VMAt v { s with pool := s.pool.did n 1 } { x with h := x.h.un h' } ab mark wv ws).star ((Pr.pts MB (.cells #[.int .i64 n] 3)).star ((Pr.own hp).star ((Pr.pts PB (.cells (blobCells (.slice ai 0 ci) (.slice ad d.length cd) next) 65)).star F)))) w3 := by
      have s6b : Sat (((Pr.pts VB (.cells #[.pointer (some ⟨v, 0, none⟩)] 26))).star ((VMAt v { s with pool := s.pool.did n 1 } { x with h := x.h.un h' } ab mark wv ws).star ((Pr.pts MB (.cells #[.int .i64 n] 3)).star ((Pr.own hp).star ((Pr.pts PB (.cells (blobCells (.slice ai 0 ci) (.slice ad d.length cd) next) 65)).star F))))) w3 := s6.perm (by unfold VMAt VaultAt; dsimp only; ac_rfl)
      exact s6b.right
    have hO : OnIn (x.h.un h') x.f s.on := ok.on.sub (Hp.sub_un_left _ _)
    have hpv' : PageIn (x.h.un h') pv (blobV d next) := hpv.sub (Hp.sub_un_right hdis)
    have hwl : ws = [] := List.eq_nil_of_length_eq_zero hws.1
    subst hwl
    have P := Lib.hid (put_at v { s with pool := s.pool.did n 1 } { x with h := x.h.un h' } ab mark wv [] n hnb pv (blobV d next) hpv' hO (by simp) _ w3 s7)
    have HO := Lib.hid (And.intro hO hpv')
    have HAC := Lib.hid (ok.acts.sub (Hp.sub_un_left x.h h'))
    have HFF := Lib.hid (And.intro ok.f0 ok.fb)
    have HST4 := Lib.hid (HST.out.drew.trans hst4)
    clear s4 s5 s5b s6 s7 hO hpv hpv' C HS2 ok p0 p1 p2 p3 p4 qV2 qM2 hst4 hg
    go_wp2
    refine onN_mk (wpQ_nil ⟨?_, ?_⟩)
    · refine chk_cons ?_ (chk_cons ?_ (chk_cons ?_ chk_nil)) <;> (refine yieldF_of rfl rfl rfl rfl ?_; go_simp; try omega)
    refine wpRest_act rfl ?_
    go_wp2_with fail
    refine P.out.mono ?_
    rintro e w4 ⟨rfl, ⟨wv', X, hX, s8⟩, hst5⟩
    have HX := Lib.hid hX
    have S8 := Lib.hid s8
    clear s8 hX P
    go_wp2
    refine onN_mk (wpQ_nil ⟨chk_nil, wpRest_nil ?_⟩)
    go_wp2
    go_ret
    refine ⟨HST4.out.trans hst5, .inr ⟨n, rfl, HSQ.out.1, HSQ.out.2, vma_iff.2 ⟨{ x with f := fun m => if m = n then some pv else x.f m, h := x.h.un h' }, wv', [X], ⟨HO.out.1.put HO.out.2, HAC.out, HFF.out.1, HFF.out.2⟩, was_one HX.out, ?_⟩⟩⟩
    have s9 : Sat ((Pr.pts PB (.cells (blobCells (.slice ai 0 ci) (.slice ad d.length cd) next) 65)).star ((VMAt v (s.made n (blobV d next)) { x with f := fun m => if m = n then some pv else x.f m, h := x.h.un h' } ab mark wv' [X]).star ((Pr.pts MB (.cells #[.int .i64 n] 3)).star ((Pr.own hp).star F)))) w4 := S8.out.perm (by unfold VMAt VaultAt; dsimp only [VaultS.made]; ac_rfl)
    exact s9.right
end Go.Proofs.Ytbobcmimkonnoaa.vault4
