/- The vault in memory; copies of blobs; the conditions stand as hypotheses. -/
import Derived.Test.YtbobcmimkonnoaaPage
import Derived.Test.YtbobcmimkonnoaaPool9
import Derived.Test.YtbobcmimkonnoaaMapF
import Derived.Laws.Rows
import Derived.Laws.ResultCell
namespace Go.Cop
structure ItemV where
  key : List Int
  value : List Int
  child : Int
  size : Int
structure PageV where
  kind : Int
  level : Int
  items : List ItemV
  data : List Int
  next : Int
abbrev blobV (d : List Int) (next : Int) : PageV := ⟨3, 0, [], d, next⟩
structure ActV where
  mark : Int
  was : List (Int × Option PageV)
structure VaultS where
  pool : PoolS
  on : Int → Option PageV
  acts : List ActV
  floor : Int
end Go.Cop
namespace Go.Proofs.Ytbobcmimkonnoaa.vault1
open Go.ChangeShapes Go.WideShapes Go.ChangeAt Go.RowKit Go.Sl Go.Cop Go.Proofs.Ytbobcmimkonnoaa.pool1 Go.Proofs.Ytbobcmimkonnoaa.pool2 Go.Proofs.Ytbobcmimkonnoaa.pool5 Go.Proofs.Ytbobcmimkonnoaa.pool9 Go.Proofs.Ytbobcmimkonnoaa.clone Go.Proofs.Ytbobcmimkonnoaa.page

theorem infoPage : (Try.prog.info? 65).map (·.size) = some 5 := by kernel_rfl
theorem infoItem : (Try.prog.info? 33).map (fun i => (i.zero, i.size, i.bytes)) = some (some (.agg #[.slice none 0 0, .slice none 0 0, .int .i64 0, .int .i64 0]), 4, 64) := by kernel_rfl
theorem infoWas : (Try.prog.info? 116).map (fun i => (i.zero, i.size, i.bytes)) = some (some (.agg #[.int .i64 0, .int .i64 0, .int .i64 0, .slice none 0 0, .slice none 0 0, .int .i64 0, .bool false]), 7, 88) := by kernel_rfl
theorem infoVAct : (Try.prog.info? 94).map (fun i => (i.zero, i.size, i.bytes)) = some (some (.agg #[.int .i64 0, .slice none 0 0]), 2, 32) := by kernel_rfl

def ItemsIn (h : Hp) (vi : Value) (l : List ItemV) : Prop :=
  ∃ xs : List (Value × Value), xs.length = l.length ∧ RowIn h 4 vi l.length ((xs.zip l).flatMap fun x => [x.1.1, x.1.2, .int .i64 x.2.child, .int .i64 x.2.size]) ∧
    ∀ i (hx : i < xs.length) (hl : i < l.length), Bytes h xs[i].1 l[i].key ∧ Bytes h xs[i].2 l[i].value
def PageIn (h : Hp) (v : Value) (g : PageV) : Prop := ∃ vi vd, v = pageV g.kind g.level vi vd g.next ∧ ItemsIn h vi g.items ∧ Bytes h vd g.data

theorem RowIn.sub' {a b : Hp} (hs : a.sub b) {k n : Nat} {v : Value} {xs : List Value} (h : RowIn a k v n xs) : RowIn b k v n xs := h.sub hs
theorem ItemsIn.sub {a b : Hp} (hs : a.sub b) {v : Value} {l : List ItemV} (h : ItemsIn a v l) : ItemsIn b v l := by
  obtain ⟨xs, h1, h2, h3⟩ := h
  exact ⟨xs, h1, h2.sub hs, fun i hx hl => ⟨(h3 i hx hl).1.sub hs, (h3 i hx hl).2.sub hs⟩⟩
theorem PageIn.sub {a b : Hp} (hs : a.sub b) {v : Value} {g : PageV} (h : PageIn a v g) : PageIn b v g := by
  obtain ⟨vi, vd, h1, h2, h3⟩ := h
  exact ⟨vi, vd, h1, h2.sub hs, h3.sub hs⟩
theorem items_none {h : Hp} {v : Value} (hi : ItemsIn h v []) : ∃ a c, v = .slice a 0 c ∧ c ≤ maxLen := by
  obtain ⟨xs, h1, h2, h3⟩ := hi
  obtain ⟨_, a, c, e, _, e2, _⟩ := h2
  exact ⟨a, c, e, e2⟩
theorem Row.bd {T k : Nat} {a : Option Addr} {m c n : Nat} {xs : List Value} {F : Pr} {w : World} (h : Sat ((Row T k (.slice a m c) n xs).star F) w) : c ≤ maxLen := by
  obtain ⟨_, (⟨e, _, _⟩ | ⟨b, cap, sp, e, _, _, h3, _⟩)⟩ := Row.open' h
  · cases e; exact Nat.zero_le _
  · cases e; exact h3
theorem sat_emp (w : World) : Sat Pr.emp w := ⟨Hp.nil, rfl, fun k o e => by cases e⟩
theorem only_grown {a w w' : World} {row : Option Nat} (h : Only a w) (hg : w.grownBy w' row) (hr : ∀ b, row = some b → a.heap.size ≤ b) : Only a w' :=
  ⟨h.st.of_grown hg, fun k hk => (hg.block k (Nat.lt_of_lt_of_le hk h.st.size) (fun e => by have := hr k e.symm; omega)).trans (h.heap k hk)⟩
theorem items_mk {h : Hp} {a : Option Addr} {c : Nat} (hc : c ≤ maxLen) : ItemsIn h (.slice a 0 c) [] :=
  ⟨[], rfl, ⟨by simp, a, c, rfl, Nat.zero_le _, hc, fun h => absurd h (by simp)⟩, fun i hx => absurd hx (by simp)⟩

set_option maxRecDepth 100000 in
set_option maxHeartbeats 400000 in
theorem clone_items0 (a : Option Addr) (c : Nat) (hc : c ≤ maxLen) (w : World) :
    Calls Try.prog 82 #[.slice a 0 c] w fun e w' => ∃ a' c', e = .returned (.slice a' 0 c') ∧ c' ≤ maxLen ∧ Only w w' := by
  have he : ∀ wx : World, (binOp .eql 30 (.slice a 0 c) (.slice none 0 0)).run Try.prog wx = .ok (.bool a.isNone) wx := fun wx => Lib.run_eql_slice_nil wx _ _ a _ c 0 0 Try.underlying30
  cases a with
  | none =>
    go_enter Try.func82, Try.ntmps82
    go_wp2
    go_ret
    exact ⟨_, _, rfl, Nat.zero_le _, Only.refl w⟩
  | some ad =>
    have hnew : Sat ((Row 33 4 (.slice (some ⟨w.heap.size, 0, none⟩) 0 0) 0 []).star Pr.emp) (w.alloc (.cells #[] 33)) :=
      Row.mk' (xs := []) (sp := []) (by simp) (by simp) (Nat.le_refl _) (by simp) (by simpa using (sat_emp w).alloc (.cells #[] 33))
    have hx : RowIn Hp.nil 4 (.slice (some ad) 0 c) 0 [] := ⟨by simp, some ad, c, rfl, Nat.zero_le _, hc, fun h => absurd h (by simp)⟩
    have HF := Lib.hid hnew
    have HX := Lib.hid hx
    clear hx hnew
    go_enter Try.func82, Try.ntmps82
    obtain ⟨i0, hi, hz0, hz1, hz2⟩ := info_parts infoItem
    go_wp2_with (at_builtin; refine wpList_append_row rfl _ _ _ rfl 33 i0 (.agg #[.slice none 0 0, .slice none 0 0, .int .i64 0, .int .i64 0]) 4 64 Try.underlying30 hi hz0 hz1 hz2 rfl _ _ _ rfl HF.out Hp.nil (fun k o e => by cases e) _ _ _ rfl HX.out (by simp) (by simp) (by simp) ?_; intro v' w1 hsat hgr _; have HSAT := Lib.hid hsat; clear hsat)
    go_ret
    have h1 := HSAT.out
    obtain ⟨a', c', e', _, _⟩ := Row.read h1
    subst e'
    exact ⟨a', c', rfl, Row.bd h1, only_grown ((Only.refl w).alloc _) hgr (fun b e => by cases e; exact Nat.le_refl _)⟩

theorem toArena {A F : Pr} {w : World} (h : Sat (A.star F) w) {Q : Hp → Prop} (hq : ∀ x, A x → Q x) : ∃ h', Q h' ∧ Sat ((Pr.own h').star F) w := by
  obtain ⟨x, ⟨a, f, ha, hf, hd, rfl⟩, hw⟩ := h
  exact ⟨a, hq a ha, _, ⟨a, f, rfl, hf, hd, rfl⟩, hw⟩

set_option maxRecDepth 100000 in
set_option maxHeartbeats 2000000 in
theorem copied_blob (h : Hp) (v : Value) (d : List Int) (next : Int) (hd : d.length ≤ 65536) (hv : PageIn h v (blobV d next)) (F : Pr) (w : World) (hF : Sat F w) (hh : h.le w) :
    Calls Try.prog 54 #[v] w fun e w' => ∃ v', e = .returned v' ∧ (∃ h', PageIn h' v' (blobV d next) ∧ Sat ((Pr.own h').star F) w') ∧ Stays w w' := by
  obtain ⟨vi, vd, rfl, h1, h2⟩ := hv
  obtain ⟨ai, ci, rfl, hci⟩ := items_none h1
  obtain ⟨_, ad, cd, hvd, _, _, _⟩ := id h2
  subst hvd
  dsimp only
  have es : (w.alloc (.cells #[.int .i64 3, .int .i64 0, .slice ai 0 ci, .slice ad d.length cd, .int .i64 next] 65)).heap.size = w.heap.size + 1 := by simp
  have hb := hF.alloc (.cells #[.int .i64 3, .int .i64 0, .slice ai 0 ci, .slice ad d.length cd, .int .i64 next] 65)
  have hb2 := hb.alloc (.cells #[.int .i64 0, .int .i64 0, .slice none 0 0, .slice none 0 0, .int .i64 0] 65)
  rw [es] at hb2
  have hle : h.le ((w.alloc (.cells #[.int .i64 3, .int .i64 0, .slice ai 0 ci, .slice ad d.length cd, .int .i64 next] 65)).alloc (.cells #[.int .i64 0, .int .i64 0, .slice none 0 0, .slice none 0 0, .int .i64 0] 65)) :=
    fun k o e => ((((Only.refl w).alloc _).alloc _).heap k (Array.getElem?_eq_some_iff.1 (hh k o e)).1).trans (hh k o e)
  have HB := Lib.hid hb2
  have HL := Lib.hid hle
  have H2 := Lib.hid h2
  clear hb hb2 hle h2 h1 hF hh es
  go_enter Try.func54, Try.ntmps54
  go_wp2
  refine wp_region_staged (sz := 39) (by kernel_rfl) [0, 1, 3, 4] [(2, [6], [0, 3, 4]), (5, [], [0, 3, 6]), (7, [8], []), (9, [], [])] rfl (by kernel_rfl) (by kernel_rfl) (by kernel_rfl) ?_
  iterate 4 (refine wpQ_step rfl rfl (fun K hK => ?_); go_simp; refine hK _ ?_; clear hK K)
  refine wpQ_nil ?_
  refine wpRest_act rfl ?_
  go_wp2_with fail
  refine (clone_items0 ai ci hci _).mono ?_
  rintro e w1 ⟨a', c', rfl, hc', ho⟩
  have s1 := HB.out.drew.only ho
  have l1 : h.le w1 := fun k o e => (ho.heap k (Array.getElem?_eq_some_iff.1 (HL.out k o e)).1).trans (HL.out k o e)
  have q3 : w1.cell? ⟨w.heap.size, 3, none⟩ = some (.slice ad d.length cd) := by rw [cell_of_heap s1.right.pts_heap]; rfl
  have S1 := Lib.hid s1
  have L1 := Lib.hid l1
  have HO := Lib.hid ho
  clear s1 l1 ho
  go_wp2
  refine onN_mk ?_
  iterate 1 (refine wpQ_step rfl rfl (fun K hK => ?_); go_simp; refine hK _ ?_; clear hK K)
  refine wpQ_nil ⟨?_, ?_⟩
  · refine chk_cons ?_ (chk_cons ?_ (chk_cons ?_ chk_nil)) <;> (refine yieldF_of rfl rfl rfl rfl ?_; go_simp; try omega)
  refine wpRest_act rfl ?_
  go_wp2_with fail
  refine (clone_bytes h _ d _ _ S1.out L1.out H2.out hd).mono ?_
  rintro e w2 ⟨vd2, rfl, s2, hst2⟩
  obtain ⟨a2, c2, ed, _, _⟩ := Row.read s2
  subst ed
  have s3 : Sat ((Pr.pts w.heap.size (.cells #[.int .i64 3, .int .i64 0, .slice ai 0 ci, .slice ad d.length cd, .int .i64 next] 65)).star ((Pr.pts (w.heap.size + 1) (.cells #[.int .i64 0, .int .i64 0, .slice none 0 0, .slice none 0 0, .int .i64 0] 65)).star
    ((BytesRow (.slice a2 d.length c2) d).star F))) w2 := s2.perm (by ac_rfl)
  have y2 : w2.cell? ⟨w.heap.size, 2, none⟩ = some (.slice ai 0 ci) := by rw [cell_of_heap s3.pts_heap]; rfl
  have y3 : w2.cell? ⟨w.heap.size, 3, none⟩ = some (.slice ad d.length cd) := by rw [cell_of_heap s3.pts_heap]; rfl
  have z2 := frozen_of_heap s3.pts_heap 2
  have z3 := frozen_of_heap s3.pts_heap 3
  have S3 := Lib.hid s3
  clear s2 s3 S1 L1 HB HL H2
  go_wp2
  refine onN_mk (wpQ_nil ⟨?_, ?_⟩)
  · refine chk_cons ?_ (chk_cons ?_ (chk_cons ?_ chk_nil)) <;> (refine yieldF_of rfl rfl rfl rfl ?_; go_simp; try omega)
  refine wpRest_act rfl ?_
  go_wp2
  refine onN_mk ?_
  iterate 1 (refine wpQ_step rfl rfl (fun K hK => ?_); go_simp; refine hK _ ?_; clear hK K)
  refine wpQ_nil ⟨chk_nil, ?_⟩
  refine wpRest_act rfl ?_
  go_wp2
  refine onN_mk (wpQ_nil ⟨chk_nil, wpRest_nil ?_⟩)
  clear z2 z3
  have s4 := (S3.out.setCell (i := 2) (.slice a' 0 c')).setCell (i := 3) (.slice a2 d.length c2)
  have w4 : Sat ((Pr.pts (w.heap.size + 1) (.cells #[.int .i64 0, .int .i64 0, .slice none 0 0, .slice none 0 0, .int .i64 0] 65)).star ((Pr.pts w.heap.size (.cells #[.int .i64 3, .int .i64 0, .slice a' 0 c', .slice a2 d.length c2, .int .i64 next] 65)).star
    ((BytesRow (.slice a2 d.length c2) d).star F))) _ := s4.perm (by rw [Pr.left_comm]; rfl)
  generalize hwe : (w2.setCell ⟨w.heap.size, 2, none⟩ (.slice a' 0 c')).setCell ⟨w.heap.size, 3, none⟩ (.slice a2 d.length c2) = w5 at *
  have hst5 : Stays w2 w5 := by rw [← hwe]; exact ((Stays.refl _).setCell _ _).setCell _ _
  have p0 : w5.cell? ⟨w.heap.size, 0, none⟩ = some (.int .i64 3) := by rw [cell_of_heap w4.right.pts_heap]; rfl
  have p1 : w5.cell? ⟨w.heap.size, 1, none⟩ = some (.int .i64 0) := by rw [cell_of_heap w4.right.pts_heap]; rfl
  have p2 : w5.cell? ⟨w.heap.size, 2, none⟩ = some (.slice a' 0 c') := by rw [cell_of_heap w4.right.pts_heap]; rfl
  have p3 : w5.cell? ⟨w.heap.size, 3, none⟩ = some (.slice a2 d.length c2) := by rw [cell_of_heap w4.right.pts_heap]; rfl
  have p4 : w5.cell? ⟨w.heap.size, 4, none⟩ = some (.int .i64 next) := by rw [cell_of_heap w4.right.pts_heap]; rfl
  have f0 : w5.cell? ⟨w.heap.size + 1, 0, none⟩ = some (.int .i64 0) := by rw [cell_of_heap w4.pts_heap]; rfl
  have f1 : w5.cell? ⟨w.heap.size + 1, 1, none⟩ = some (.int .i64 0) := by rw [cell_of_heap w4.pts_heap]; rfl
  have f2 : w5.cell? ⟨w.heap.size + 1, 2, none⟩ = some (.slice none 0 0) := by rw [cell_of_heap w4.pts_heap]; rfl
  have f3 : w5.cell? ⟨w.heap.size + 1, 3, none⟩ = some (.slice none 0 0) := by rw [cell_of_heap w4.pts_heap]; rfl
  have f4 : w5.cell? ⟨w.heap.size + 1, 4, none⟩ = some (.int .i64 0) := by rw [cell_of_heap w4.pts_heap]; rfl
  have z0 := frozen_of_heap w4.pts_heap 0
  have z1 := frozen_of_heap w4.pts_heap 1
  have z2 := frozen_of_heap w4.pts_heap 2
  have z3 := frozen_of_heap w4.pts_heap 3
  have z4 := frozen_of_heap w4.pts_heap 4
  have W4 := Lib.hid w4
  have HST := Lib.hid (((((Stays.refl w).alloc _).alloc _).drew.trans HO.out.st).trans (hst2.trans hst5))
  clear s4 w4 hwe hst5 y2 y3 S3 hst2 HO
  go_wp2
  go_loopw [16] (fun i wr => i = .int .i64 0 ∧ wr = w5) (fun _ _ => 0)
  case atStart => exact ⟨rfl, rfl⟩
  case round =>
    obtain ⟨rfl, rfl⟩ := hrel
    go_wp2
    have s6 := ((((W4.out.setCell (i := 0) (.int .i64 3)).setCell (i := 1) (.int .i64 0)).setCell (i := 2) (.slice a' 0 c')).setCell (i := 3) (.slice a2 d.length c2)).setCell (i := 4) (.int .i64 next)
    have s7 : Sat ((Pr.pts (w.heap.size + 1) (.cells #[.int .i64 3, .int .i64 0, .slice a' 0 c', .slice a2 d.length c2, .int .i64 next] 65)).star ((Pr.pts w.heap.size (.cells #[.int .i64 3, .int .i64 0, .slice a' 0 c', .slice a2 d.length c2, .int .i64 next] 65)).star
      ((BytesRow (.slice a2 d.length c2) d).star F))) _ := s6
    refine bodyPost_ret (results_cell_row rfl _ _ (w.heap.size + 1) _ _ _ _ rfl s7.pts_heap Try.underlying65 rfl infoPage) rfl ?_
    obtain ⟨h', e1, e2⟩ := toArena (Q := fun x => Bytes x (.slice a2 d.length c2) d) s7.right.right (fun x hx => Row.rowIn hx)
    exact ⟨_, rfl, ⟨h', ⟨_, _, rfl, items_mk hc', e1⟩, e2⟩, ((((HST.out.setCell _ _).setCell _ _).setCell _ _).setCell _ _).setCell _ _⟩
end Go.Proofs.Ytbobcmimkonnoaa.vault1
