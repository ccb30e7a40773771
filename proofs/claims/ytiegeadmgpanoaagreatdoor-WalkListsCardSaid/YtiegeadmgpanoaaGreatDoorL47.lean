/- What the calls say of a tree fits together: the plain law. No program in sight. -/
import Derived.Test.YtiegeadmgpanoaaGreatDoorL46
set_option maxRecDepth 100000
set_option maxHeartbeats 16000000
namespace Go.fB
section
variable {L:List en}(hs:L.Pairwise tW){i:Nat}(hi:i<L.length)
include hs
variable(hu:∀x∈L,U8 x.key)
include hu
omit hu in
omit hu in
end
theorem Ek {look:Int→Option dR}{root dT items:Int}{L:List en}(h:kK look root dT items L):items=(L.length:Int):=by
 rcases h with⟨_,_,rfl,rfl⟩ | ⟨_,h,_⟩
 · rfl
 · exact h
end Go.fB
