/- The program's check of a leaf, of a value's page, and of any page; the conditions stand as hypotheses. -/
import Derived.Test.YtiegeadmgpanoaaGreatDoorWalkChecksM10
import Derived.Test.YtiegeadmgpanoaaGreatDoorWalkAgreesM02
import Derived.Test.YtiegeadmgpanoaaGreatDoorWalkChecksM18
import Derived.Test.YtiegeadmgpanoaaGreatDoorWalkChecksM21
set_option maxRecDepth 100000
set_option maxHeartbeats 16000000


