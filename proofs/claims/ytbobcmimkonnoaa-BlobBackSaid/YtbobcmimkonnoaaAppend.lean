/- The builtin append onto a row that is owned whole: what is owned behind it. Plain lemmas over any program. -/
import Derived.Test.YtbobcmimkonnoaaSl
import Derived.OwnWalkIn
namespace Go.Sl
open Go.RowKit

theorem size_zeros (z : Array Value) (n : Nat) : (Builtin.zeroCells z n).size = n * z.size := by simp [Builtin.zeroCells]

section
variable {P : Program} {w : World} {F : Pr}

/-- A new row behind a draw. -/
theorem row_fresh {e size n cap : Nat} {xs : List Value} (z : Array Value) (hF : Sat F w) (hl : xs.length = n * size) (hz : z.size = size) (hn : n ≤ cap) (hc : cap ≤ maxLen) :
    Sat ((Row e size (.slice (some ⟨w.heap.size, 0, none⟩) n cap) n xs).star F) (w.drew.alloc (.cells (xs.toArray ++ Builtin.zeroCells z (cap - n)) e)) := by
  have hs := (hF.drew).alloc (.cells (xs.toArray ++ Builtin.zeroCells z (cap - n)) e)
  have he : xs.toArray ++ Builtin.zeroCells z (cap - n) = (xs ++ (Builtin.zeroCells z (cap - n)).toList).toArray := by
    apply Array.toList_inj.1; simp
  rw [he] at hs ⊢
  refine Row.mk' hl ?_ hn hc hs
  have h0 : (Builtin.zeroCells z (cap - n)).toList.length = (cap - n) * size := by rw [Array.length_toList, size_zeros, hz]
  show xs.length + _ = _
  rw [h0, hl, ← Nat.add_mul]
  congr 1
  omega

theorem run_append_sl (t ty e : TypeId) (i : TypeInfo) (z : Value) (size bytes : Nat) (ht : P.underlying t = some (.slice e)) (hi : P.info? e = some i) (hz : i.zero = some z)
    (hsize : i.size = size) (hby : i.bytes = bytes) (hzs : z.cells.size = size)
    (v : Value) (n : Nat) (xs : List Value) (hown : Sat ((Row e size v n xs).star F) w)
    (a : Addr) (m c : Nat) (news : List Value) (hl : news.length = m * size) (hnews : ∀ j u, news[j]? = some u → w.cell? (a.add j) = some u) (h1 : ∀ u ∈ news, u.oneCell' = true)
    (h63 : n + m ≤ maxLen) (hbytes : (n + m) * bytes ≤ 140737488355328) :
    ∃ v' w', (Builtin.append_ #[t, t] ty #[v, .slice (some a) m c]).run P w = .ok v' w' ∧ Sat ((Row e size v' (n + m) (xs ++ news)).star F) w' ∧ w.grownBy w' v.ownBlock ∧
      (v' = .slice none 0 0 ↔ v = .slice none 0 0 ∧ m = 0) := by
  subst hsize
  subst hby
  have hsmall : n + m ≤ 9223372036854775807 := by simp only [maxLen] at h63; omega
  obtain ⟨hxl, hcase⟩ := Row.open' hown
  have hlen : (xs ++ news).length = (n + m) * i.size := by rw [List.length_append, hxl, hl, Nat.add_mul]
  rcases hcase with ⟨rfl, rfl, hF⟩ | ⟨g, cap, sp, rfl, hcs, hnc, hcm, hp⟩
  · have hx : xs = [] := List.eq_nil_of_length_eq_zero (by simpa using hxl)
    subst hx
    by_cases hm : m = 0
    · subst hm
      have hn : news = [] := List.eq_nil_of_length_eq_zero (by simpa using hl)
      subst hn
      refine ⟨.slice none 0 0, w, ?_, hown, ⟨rfl, rfl, rfl, Nat.le_refl _, fun _ _ _ => rfl⟩, by simp⟩
      simp [Builtin.append_, run_underlying ht, sizeOf, typeInfo, hi, Builtin.lenOf, Builtin.firstCells, loadCells, loadCellsFrom]
    · have hr := run_append_nil (P := P) w t ty e i z ht hi hz a m c news hl hnews (by omega) (by omega) (by have hb := hbytes; simp only [Nat.zero_add] at hb; omega)
      refine ⟨_, _, hr, ?_, ⟨rfl, rfl, rfl, by simp, fun k hk _ => Below.heap_alloc w.drew _ k hk⟩, by simp [hm]⟩
      have := row_fresh (e := e) (size := i.size) (n := m) (cap := grownCap w m 0 e) (xs := news) z.cells hF hl hzs (grownCap_ge w m 0 e) (grownCap_le_maxLen w m 0 e (by omega))
      simpa using this
  · have hg := hp.pts_heap
    by_cases hroom : n + m ≤ cap
    · have hsz : (xs ++ sp).toArray.size = cap * i.size := by simp; omega
      have hfit : n * i.size + news.length ≤ (xs ++ sp).toArray.size := by rw [hl, hsz, ← Nat.add_mul]; exact Nat.mul_le_mul_right _ hroom
      have hr := run_append_room (P := P) w t ty e i ht hi g n cap _ hg a m c news hl hnews h1 hroom hfit
      refine ⟨_, _, hr, ?_, ⟨rfl, rfl, rfl, by simp, fun k _ hk => setRow_other w g k _ (fun e => hk (by simp [Value.ownBlock, e]))⟩, by simp⟩
      have hp' := hp.put (w' := w.setRow g ((xs ++ sp).toArray.toList.take (n * i.size) ++ news ++ (xs ++ sp).toArray.toList.drop (n * i.size + news.length)).toArray)
        (setRow_heap w g _ _ e _ hg) (fun k _ hk => setRow_other w g k _ hk)
      have he : (xs ++ sp).toArray.toList.take (n * i.size) ++ news ++ (xs ++ sp).toArray.toList.drop (n * i.size + news.length) = (xs ++ news) ++ sp.drop news.length := by
        show (xs ++ sp).take (n * i.size) ++ news ++ (xs ++ sp).drop (n * i.size + news.length) = _
        rw [← hxl, List.take_left, List.drop_append]
        simp [Nat.add_sub_cancel_left, List.drop_eq_nil_of_le (show xs.length ≤ xs.length + news.length by omega)]
      rw [he] at hp' ⊢
      refine Row.mk' hlen ?_ hroom hcm hp'
      simp only [List.length_append, List.length_drop]
      have : news.length ≤ sp.length := by
        simp only [List.size_toArray, List.length_append] at hfit
        omega
      omega
    · have holds : ∀ j u, xs[j]? = some u → w.cell? ((⟨g, 0, none⟩ : Addr).add j) = some u := by
        intro j u hu
        have hadd : (⟨g, 0, none⟩ : Addr).add j = ⟨g, j, none⟩ := by unfold Addr.add; split <;> simp_all
        rw [hadd, cell_of_heap hg]
        have hj : j < xs.length := (List.getElem?_eq_some_iff.1 hu).1
        simp [List.getElem?_append_left hj, hu]
      have hr := run_append_grow (P := P) w t ty e i z ht hi hz ⟨g, 0, none⟩ n cap xs hxl holds a m c news hl hnews (by omega) (by omega) (growslice_fits (by omega) hbytes)
      refine ⟨_, _, hr, ?_, ⟨rfl, rfl, rfl, by simp, fun k hk _ => Below.heap_alloc w.drew _ k hk⟩, by simp⟩
      have := row_fresh (e := e) (size := i.size) (n := n + m) (cap := grownCap w (n + m) cap e) (xs := xs ++ news) z.cells hp.right hlen hzs (grownCap_ge w (n + m) cap e) (grownCap_le_maxLen w (n + m) cap e h63)
      simpa using this

theorem wp_append_sl {o : Oper} {a : Act} {K : Act → World → Prop} {Q : Exit → Act → World → Prop} (s x : Operand) (t : TypeId)
    (ho : o.op = .call { callee := .builtin .append, args := #[s, x], argTypes := #[t, t] })
    (e : TypeId) (i : TypeInfo) (z : Value) (size bytes : Nat) (ht : P.underlying t = some (.slice e)) (hi : P.info? e = some i) (hz : i.zero = some z)
    (hsize : i.size = size) (hby : i.bytes = bytes) (hzs : z.cells.size = size)
    (v : Value) (n : Nat) (xs : List Value) (hs : a.eval s = v) (hown : Sat ((Row e size v n xs).star F) w)
    (ad : Addr) (m c : Nat) (news : List Value) (hx : a.eval x = .slice (some ad) m c) (hl : news.length = m * size) (hnews : ∀ j u, news[j]? = some u → w.cell? (ad.add j) = some u) (h1 : ∀ u ∈ news, u.oneCell' = true)
    (h63 : n + m ≤ maxLen) (hbytes : (n + m) * bytes ≤ 140737488355328)
    (h : ∀ v' w', Sat ((Row e size v' (n + m) (xs ++ news)).star F) w' → w.grownBy w' v.ownBlock → (v' = .slice none 0 0 ↔ v = .slice none 0 0 ∧ m = 0) → K (a.put o.dst v') w') : o.wp P a w K Q := by
  obtain ⟨v', w', hr, h2, h3, h4⟩ := run_append_sl (P := P) t o.type e i z size bytes ht hi hz hsize hby hzs v n xs hown ad m c news hl hnews h1 h63 hbytes
  unfold Oper.wp execOp
  simp only [ho, resolve, invoke, builtin, Sem.run_bind, Sem.run_pure, Result.andThen_ok, List.map_toArray, List.map_cons, List.map_nil, hs, hx, hr]
  exact h v' w' h2 h3 h4

theorem wpList_append_sl {ops : Array Oper} {rest : List Oper} {o : Oper} {a : Act} {Q : Exit → Act → World → Prop} (hgd : o.guard = none) (s x : Operand) (t : TypeId)
    (ho : o.op = .call { callee := .builtin .append, args := #[s, x], argTypes := #[t, t] })
    (e : TypeId) (i : TypeInfo) (z : Value) (size bytes : Nat) (ht : P.underlying t = some (.slice e)) (hi : P.info? e = some i) (hz : i.zero = some z)
    (hsize : i.size = size) (hby : i.bytes = bytes) (hzs : z.cells.size = size)
    (v : Value) (n : Nat) (xs : List Value) (hs : a.eval s = v) (hown : Sat ((Row e size v n xs).star F) w)
    (ad : Addr) (m c : Nat) (news : List Value) (hx : a.eval x = .slice (some ad) m c) (hl : news.length = m * size) (hnews : ∀ j u, news[j]? = some u → w.cell? (ad.add j) = some u) (h1 : ∀ u ∈ news, u.oneCell' = true)
    (h63 : n + m ≤ maxLen) (hbytes : (n + m) * bytes ≤ 140737488355328)
    (h : ∀ v' w', Sat ((Row e size v' (n + m) (xs ++ news)).star F) w' → w.grownBy w' v.ownBlock → (v' = .slice none 0 0 ↔ v = .slice none 0 0 ∧ m = 0) → wpList P ops Q rest (a.put o.dst v') w') : wpList P ops Q (o :: rest) a w :=
  wpList_plain hgd fun _ hK => wp_append_sl s x t ho e i z size bytes ht hi hz hsize hby hzs v n xs hs hown ad m c news hx hl hnews h1 h63 hbytes fun v' w' h2 h3 h4 => hK _ _ (h v' w' h2 h3 h4)
end
end Go.Sl
