/- The vault's Drop and blob.Release; the conditions stand as hypotheses. -/
import Derived.Test.YtbobcmimkonnoaaDrop
import Derived.Test.YtbobcmimkonnoaaApart1
namespace Go.Cop
theorem freedAll_acts {ns : List Int} : ∀ {s : VaultS}, (s.freedAll ns).acts = s.acts ∧ (s.freedAll ns).floor = s.floor := by
  induction ns with
  | nil => intro s; exact ⟨rfl, rfl⟩
  | cons n ns ih => intro s; exact ih (s := s.freed n)
end Go.Cop
namespace Go.Proofs.Ytbobcmimkonnoaa.dropA
open Go.ChangeShapes Go.WideShapes Go.ChangeAt Go.RowKit Go.Sl Go.Cop Go.Proofs.Ytbobcmimkonnoaa.pool1 Go.Proofs.Ytbobcmimkonnoaa.pool2 Go.Proofs.Ytbobcmimkonnoaa.pool5 Go.Proofs.Ytbobcmimkonnoaa.pool9 Go.Proofs.Ytbobcmimkonnoaa.clone Go.Proofs.Ytbobcmimkonnoaa.page Go.Proofs.Ytbobcmimkonnoaa.vault1 Go.Proofs.Ytbobcmimkonnoaa.vault2 Go.Proofs.Ytbobcmimkonnoaa.vault3 Go.Proofs.Ytbobcmimkonnoaa.vault4 Go.Proofs.Ytbobcmimkonnoaa.vault5 Go.Proofs.Ytbobcmimkonnoaa.kids Go.Proofs.Ytbobcmimkonnoaa.free Go.Proofs.Ytbobcmimkonnoaa.drop Go.Proofs.Ytbobcmimkonnoaa.apart1

set_option maxRecDepth 100000 in
set_option maxHeartbeats 2000000 in
theorem drop1_A (v ab : Nat) (mark : Int) (VB NB : Nat) (V : List Int) (k j : Nat) (c : Int) (ns : List Int) (s : VaultS) (F : Pr) (w : World)
    (hch : ChainAt s V (k + 1) j c ns) (hnd : ns.Nodup) (hla : ∀ n ∈ ns, s.pool.lasts n = false) (hpm : s.pool.floor + s.pool.acts.length + (k + 1) ≤ 1099511627776) (hk : k + 1 ≤ 65536)
    (hF : Sat ((VMA v s ab mark []).star ((Pr.pts VB (.cells #[.pointer (some ⟨v, 0, none⟩)] 26)).star ((Pr.pts NB (.cells #[.int .i64 c] 3)).star F))) w) :
    Calls Try.prog 56 #[.pointer (some ⟨ab, 0, none⟩), .pointer (some ⟨VB, 0, none⟩), .pointer (some ⟨NB, 0, none⟩)] w fun e w' =>
      Stays w w' ∧ e = .returned (.int .i64 0) ∧ ∃ was', Sat ((VMA v (s.freedAll ns) ab mark was').star F) w' := by
  have q1 : w.cell? ⟨VB, 0, none⟩ = some (.pointer (some ⟨v, 0, none⟩)) := by rw [cell_of_heap hF.right.pts_heap]; rfl
  have q2 : w.cell? ⟨NB, 0, none⟩ = some (.int .i64 c) := by rw [cell_of_heap hF.right.right.pts_heap]; rfl
  have D := Lib.hid (drop_chain v ab mark V k j c ns s [] _ w hch hnd hla hpm (by simpa using hk) hF)
  clear hF hch hnd hla hpm
  go_enter Try.func56, Try.ntmps56
  go_wp2_with fail
  refine D.out.mono ?_
  rintro e w1 ⟨rfl, ⟨was', h1⟩, hst⟩
  have h2 := h1.perm (B := ((Pr.pts VB (.cells #[.pointer (some ⟨v, 0, none⟩)] 26)).star (Pr.pts NB (.cells #[.int .i64 c] 3))).star ((VMA v (s.freedAll ns) ab mark was').star F)) (by ac_rfl)
  have H2 := Lib.hid h2.right
  clear h1 h2
  go_wp2
  go_ret
  exact ⟨hst, rfl, was', H2.out⟩

set_option maxRecDepth 100000 in
set_option maxHeartbeats 2000000 in
theorem drop_A (v : Nat) (V : List Int) (k j : Nat) (c : Int) (ns : List Int) (s : VaultS) (F : Pr) (w : World)
    (hch : ChainAt s V (k + 1) j c ns) (hnd : ns.Nodup) (hla : ∀ n ∈ ns, s.pool.lasts n = false) (hpm : s.pool.floor + s.pool.acts.length + (k + 1) ≤ 1099511627776) (hk : k + 1 ≤ 65536) (hvm : s.floor + s.acts.length < 1099511627776)
    (hF : Sat ((VaultA v s).star F) w) :
    Calls Try.prog 30 #[.pointer (some ⟨v, 0, none⟩), .int .i64 c] w fun e w' =>
      Stays w w' ∧ e = .returned (.int .i64 0) ∧ ∃ was', Sat ((VaultA v ((s.freedAll ns).acted ⟨s.pool.mark, was'⟩)).star F) w' := by
  have es : (w.alloc (.cells #[.pointer (some ⟨v, 0, none⟩)] 26)).heap.size = w.heap.size + 1 := by simp
  have h1 := (hF.alloc (.cells #[.pointer (some ⟨v, 0, none⟩)] 26)).alloc (.cells #[.int .i64 c] 3)
  rw [es] at h1
  have h2 := h1.perm (B := (VaultA v s).star ((Pr.pts w.heap.size (.cells #[.pointer (some ⟨v, 0, none⟩)] 26)).star ((Pr.pts (w.heap.size + 1) (.cells #[.int .i64 c] 3)).star F))) (by ac_rfl)
  have D := Lib.hid (do_ok v s 56 #[.pointer (some ⟨w.heap.size, 0, none⟩), .pointer (some ⟨w.heap.size + 1, 0, none⟩)] (fun _ : List (Int × Option PageV) => True)
    (fun _ => s.freedAll ns) (fun z => z) (fun _ => F) _ _ h2 hvm (fun _ _ => rfl) (fun z _ => freedAll_acts) (fun ab wx hwx =>
      (drop1_A v ab s.pool.mark w.heap.size (w.heap.size + 1) V k j c ns s F wx hch hnd hla hpm hk hwx).mono (by
        rintro e w' ⟨hst, e1, was', h⟩
        exact ⟨hst, e1, was', trivial, h⟩)))
  have HST := Lib.hid (((Stays.refl w).alloc (.cells #[.pointer (some ⟨v, 0, none⟩)] 26)).alloc (.cells #[.int .i64 c] 3))
  clear h1 h2 hF hch hnd hla hpm es
  go_enter Try.func30, Try.ntmps30
  go_wp2_with fail
  refine D.out.mono ?_
  rintro e w1 ⟨hst, rfl, was', _, h3⟩
  have H3 := Lib.hid h3
  clear h3
  go_wp2
  go_ret
  exact ⟨HST.out.trans hst, rfl, was', H3.out⟩

/-- The pages of what has been stored. -/
def nsOf (s : VaultS) (c : Int) (V : List Int) (ns : List Int) : Prop := (V.length ≤ 32 ∧ ns = []) ∨ ((32 < V.length ∧ V.length ≤ 3840) ∧ ChainAt s V (chunks V) 0 c ns)

set_option maxRecDepth 100000 in
set_option maxHeartbeats 2000000 in
theorem release_A (v : Nat) (ak av : Option Addr) (mk ck mv cv : Nat) (V : List Int) (c : Int) (ns : List Int) (s : VaultS) (F : Pr) (w : World)
    (hch : nsOf s c V ns) (hnd : ns.Nodup) (hla : ∀ n ∈ ns, s.pool.lasts n = false) (hpm : s.pool.floor + s.pool.acts.length + 8 ≤ 1099511627776) (hvm : s.floor + s.acts.length < 1099511627776)
    (hF : Sat ((VaultA v s).star F) w) :
    Calls Try.prog 17 #[.pointer (some ⟨v, 0, none⟩), .agg #[.slice ak mk ck, .slice av mv cv, .int .i64 c, .int .i64 V.length]] w fun e w' =>
      Stays w w' ∧ e = .returned (.int .i64 0) ∧ ∃ acts', acts'.length ≤ 1 ∧ Sat ((VaultA v { s.freedAll ns with acts := s.acts ++ acts' }).star F) w' := by
  have h1 := hF.alloc (.cells #[.slice ak mk ck, .slice av mv cv, .int .i64 c, .int .i64 V.length] 33)
  rcases hch with ⟨hv, rfl⟩ | ⟨hv, hch⟩
  · have H1 := Lib.hid h1
    clear h1 hF
    go_enter Try.func17, Try.ntmps17
    go_wp2
    go_ret
    refine ⟨(Stays.refl w).alloc _, rfl, [], by simp, ?_⟩
    rw [List.append_nil]
    exact H1.out.right
  · have hc : chunks V ≤ 8 ∧ 1 ≤ chunks V := by unfold chunks; omega
    obtain ⟨k, hk⟩ : ∃ k, chunks V = k + 1 := ⟨chunks V - 1, by omega⟩
    rw [hk] at hch
    have D := Lib.hid (drop_A v V k 0 c ns s _ _ hch hnd hla (by omega) (by omega) hvm (h1.perm (Pr.left_comm _ _ _)))
    clear h1 hF hch hnd hla hpm
    go_enter Try.func17, Try.ntmps17
    go_wp2_with fail
    refine D.out.mono ?_
    rintro e w1 ⟨hst, rfl, was', h3⟩
    have H3 := Lib.hid (h3.perm (Pr.left_comm _ _ _)).right
    clear h3
    go_wp2
    go_ret
    refine ⟨((Stays.refl w).alloc _).trans hst, rfl, [⟨s.pool.mark, was'⟩], by simp, ?_⟩
    have e1 : ({ s.freedAll ns with acts := s.acts ++ [⟨s.pool.mark, was'⟩] } : VaultS) = (s.freedAll ns).acted ⟨s.pool.mark, was'⟩ := by
      show _ = ({ s.freedAll ns with acts := (s.freedAll ns).acts ++ [_] } : VaultS)
      rw [freedAll_acts.1]
    rw [e1]
    exact H3.out
end Go.Proofs.Ytbobcmimkonnoaa.dropA
