/- The program's Load of any item; the conditions stand as hypotheses. -/
import Derived.Test.YtbobcmimkonnoaaGreatVaultLoadsM28
set_option maxRecDepth 100000
set_option maxHeartbeats 16000000
namespace Go.Proofs.YtbobcmimkonnoaaGreat.C8
open ChangeShapes WideShapes ChangeAt RowKit Sl Cop M2 N2 E4 G4 J4 L6 V7
end Go.Proofs.YtbobcmimkonnoaaGreat.C8
namespace Go.Proofs.YtbobcmimkonnoaaGreat.E8
open ChangeShapes WideShapes ChangeAt RowKit Sl Cop D2 M3 Q3 D4 M2 N2 E4 G4 P4 X4 E5 J4 L6 G7 M7 Q7 V7
structure RLooks(s:PoolS)(gs:List PageV)(look:Int→Option PageV):Prop where
 none:∀n,look n=none→s.count n=0
 some:∀n g,look n=some g→s.count n≠0∧pgAt gs n=g∧Fit g
end Go.Proofs.YtbobcmimkonnoaaGreat.E8
namespace Go.Proofs.YtbobcmimkonnoaaGreat.P8
open ChangeShapes WideShapes ChangeAt RowKit Sl Cop M2 N2 E4 G4 J4 L6 G6 M7 Q7 V7 E8
end Go.Proofs.YtbobcmimkonnoaaGreat.P8
