/- The document's range of a child; the conditions stand as hypotheses. -/
import Derived.Test.YtiegeadmgpanoaaGreatDoorWalkChecksM19
import Derived.Test.YtiegeadmgpanoaaGreatDoorWalkAgreesM03
import Derived.Test.YtiegeadmgpanoaaGreatDoorWalkChecksM27
import Derived.Test.YtiegeadmgpanoaaGreatDoorWalkAgreesM05
import Derived.Test.YtiegeadmgpanoaaGreatDoorWalkChecksM26
import Derived.Test.YtiegeadmgpanoaaGreatDoorWalkChecksM29
set_option maxRecDepth 100000
set_option maxHeartbeats 16000000



