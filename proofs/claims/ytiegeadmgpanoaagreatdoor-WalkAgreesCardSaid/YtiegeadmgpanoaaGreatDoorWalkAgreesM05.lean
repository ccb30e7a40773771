/- The vault's Load; the conditions stand as hypotheses. -/
import Derived.Test.YtiegeadmgpanoaaGreatDoorWalkChecksM13
import Derived.Test.YtiegeadmgpanoaaGreatDoorWalkAgreesM02
import Derived.Test.YtiegeadmgpanoaaGreatDoorWalkChecksM14
import Derived.Test.YtiegeadmgpanoaaGreatDoorWalkAgreesM03
import Derived.Test.YtiegeadmgpanoaaGreatDoorWalkChecksM21
import Derived.Test.YtiegeadmgpanoaaGreatDoorWalkAgreesM04
import Derived.Test.YtiegeadmgpanoaaGreatDoorWalkChecksM15
import Derived.Test.YtiegeadmgpanoaaGreatDoorWalkChecksM03
import Derived.Test.YtiegeadmgpanoaaGreatDoorWalkAgreesM01
import Derived.Test.YtiegeadmgpanoaaGreatDoorWalkChecksM12
import Derived.Test.YtiegeadmgpanoaaGreatDoorWalkChecksM23
import Derived.Test.YtiegeadmgpanoaaGreatDoorWalkChecksM22
import Derived.Test.YtiegeadmgpanoaaGreatDoorWalkChecksM05
import Derived.Test.YtiegeadmgpanoaaGreatDoorWalkChecksM24
import Derived.Test.YtiegeadmgpanoaaGreatDoorWalkChecksM25
import Derived.Deep.CutRange
import Derived.Test.YtiegeadmgpanoaaGreatDoorWalkChecksM16
import Derived.Test.YtiegeadmgpanoaaGreatDoorWalkChecksM11
import Derived.BigQuiet
import Derived.Deep.QuietTactic
import Derived.Lib.SmallJoins
import Derived.Test.YtiegeadmgpanoaaGreatDoorWalkChecksM17
import Derived.Test.YtiegeadmgpanoaaGreatDoorWalkChecksM27
import Derived.Test.YtiegeadmgpanoaaGreatDoorWalkChecksM19
import Derived.Test.YtiegeadmgpanoaaGreatDoorWalkChecksM26
set_option maxRecDepth 100000
set_option maxHeartbeats 16000000





















namespace Go.Proofs.YtiegeadmgpanoaaGreatDoor.K8
open ChangeShapes WideShapes ChangeAt RowKit Sl Cop D2 F3 K3 P3 G2 J2 Q3 V3 C4 D4 F4 G4 K4 M4 G5 K5 X3 M5 P5 G6 J6 F6 L6 T6 D7
end Go.Proofs.YtiegeadmgpanoaaGreatDoor.K8
namespace Go.Proofs.YtiegeadmgpanoaaGreatDoor.F7
open ChangeShapes WideShapes ChangeAt RowKit Sl Cop F3 P3 G2 J2 N2 Q3 V3 X3 M5 G6 Q6 U6 Y6 Z6 L6 S6 T6 D7
theorem chain_len {look:Int→Option PageV}{N:Nat}:∀(k:Nat) (out:List Int) (n:Int),out.length≤N→(chainL look N k out n).1.length≤N
 | 0,out,n,h=>by unfold chainL;exact h
 | k+1,out,n,h=>by
   unfold chainL;split
   · exact h
   · split
     · simp
     · split
       · simp
       · split
         · rename_i hc
           exact chain_len k _ _ (by have:=hc.1;rw [List.length_append];omega)
         · simp
theorem value_len(look:Int→Option PageV)(size child:Int)(value:List Int):(valueL look size child value).1.length≤3840:=by
 unfold valueL;split
 · simp
 · rename_i hb
   split
   · dsimp only;omega
   · exact Nat.le_trans (chain_len _ _ _ (by simp)) (by omega)
end Go.Proofs.YtiegeadmgpanoaaGreatDoor.F7









