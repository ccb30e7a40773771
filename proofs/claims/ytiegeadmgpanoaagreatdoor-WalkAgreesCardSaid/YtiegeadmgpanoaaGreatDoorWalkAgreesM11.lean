/- The image of the law's lives: two leaves under an index; the conditions stand as hypotheses. -/
import Derived.Test.YtiegeadmgpanoaaGreatDoorWalkChecksM31
import Derived.Test.YtiegeadmgpanoaaGreatDoorWalkAgreesM07
import Derived.Test.YtiegeadmgpanoaaGreatDoorWalkChecksM24
import Derived.Test.YtiegeadmgpanoaaGreatDoorWalkAgreesM05
import Derived.Test.YtiegeadmgpanoaaGreatDoorWalkChecksM25
import Derived.Test.YtiegeadmgpanoaaGreatDoorWalkChecksM23
import Derived.Lib.SmallJoins
import Derived.BigQuiet
import Derived.Laws.BytesArg
import Derived.Test.YtiegeadmgpanoaaGreatDoorWalkChecksM32
set_option maxRecDepth 100000
set_option maxHeartbeats 16000000

