/- The pool: a new one, Tally; the conditions stand as hypotheses. -/
import Derived.Test.YtiegeadmgpanoaaGreatDoorWalkChecksM08
import Derived.Test.YtiegeadmgpanoaaGreatDoorWalkAgreesM01
import Derived.Test.YtiegeadmgpanoaaGreatDoorWalkChecksM05
import Derived.Deep.OwnRows
import Derived.Test.YtiegeadmgpanoaaGreatDoorWalkChecksM03
import Derived.Laws.Rows
import Derived.Laws.ResultCell
import Derived.Test.YtiegeadmgpanoaaGreatDoorWalkChecksM09
import Derived.Test.YtiegeadmgpanoaaGreatDoorWalkChecksM10
import Derived.BigQuiet
import Derived.Test.YtiegeadmgpanoaaGreatDoorWalkChecksM13
import Derived.Test.YtiegeadmgpanoaaGreatDoorWalkChecksM11
import Derived.Test.YtiegeadmgpanoaaGreatDoorWalkChecksM12
import Derived.Defers
import Derived.Test.YtiegeadmgpanoaaGreatDoorWalkChecksM07
import Derived.Maps.OwnIn
import Derived.Lib.SmallJoins
import Derived.Deep.Slices
import Derived.WideKeyArgs
set_option maxRecDepth 100000
set_option maxHeartbeats 16000000










namespace Go.Cop
theorem cmp_zero {a b:List Int}:cmpI a b=0↔a=b:=⟨cmp_eq,fun h=>h ▸ cmp_self a⟩
where
  up_gt : ∀ p : List Int, upL p ≠ [] → cmpI p (upL p) < 0
  | [], h => absurd rfl h
  | x :: p, h => by
    unfold upL at h ⊢
    by_cases h1 : upL p = []
    · rw [if_pos h1] at h ⊢
      by_cases h2 : x = 255
      · rw [if_pos h2] at h; exact absurd rfl h
      · rw [if_neg h2]
        unfold cmpI
        rw [if_pos (by omega)]; omega
    · rw [if_neg h1]
      unfold cmpI
      rw [if_neg (by omega), if_neg (by omega)]
      exact up_gt p h1
end Go.Cop








namespace Go.Cop
theorem chain_len {s:VaultS}{V:List Int}:∀ {k j:Nat} {c:Int} {ns:List Int},ChainAt s V k j c ns→ns.length=k:=by
 intro k;induction k with
 | zero=>intro j c ns h;rw [h.2];rfl
 | succ k ih=>
   intro j c ns h;obtain⟨c',ns',rfl,_,_,_,h5⟩:=h;simp [ih h5]
end Go.Cop


















