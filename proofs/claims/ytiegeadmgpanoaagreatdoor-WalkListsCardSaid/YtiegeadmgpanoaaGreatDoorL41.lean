/- The program's pair, Ceil and Floor in a tree that stands; the conditions stand as hypotheses. -/
import Derived.Test.YtiegeadmgpanoaaGreatDoorL39
set_option maxRecDepth 100000
set_option maxHeartbeats 16000000
namespace Go.fB
def aaE(o:Option en):List Int:=match o with | some x=>x.key | none=> []
def aaF(look:Int→Option dR)(o:Option en):List Int:=match o with | some x=>nq look x | none=> []
end Go.fB
namespace Go.Proofs.YtiegeadmgpanoaaGreatDoor.D9
open ChangeShapes WideShapes ChangeAt RowKit Sl fB Go.Shelf D2 L3 Z3 E4 X5 M8 Y8
attribute [local go_sem] Oper.semAt_some
abbrev Av(a b:Value):Obj:= .cells #[a,b] 49
def CI(VB TB A6 A7 A8 v:Nat)(root dT items:Int)(F:Pr)(pre:List Hr):Pr:=
 (Pr.pure (pre= [])).star ((Pr.pts VB (lq v)).star ((Pr.pts TB (eT root dT items)).star ((Pr.pts A6 (Av (.slice none 0 0) (.slice none 0 0))).star ((Pr.pts A7 (.cells #[.bool false] 4)).star ((Pr.pts A8 (.cells #[.int .i64 0] 32)).star F)))))
def CX(A6 A7 A8:Nat)(look:Int→Option dR)(F:Pr)(c:Code)(pre:List Hr):Pr:=
 Pr.ex fun q:Value × Value × en=>(Pr.pure (c= .ret∧pre.map (·.2)= [q.2.2])).star ((Pr.pts A6 (Av q.1 q.2.1)).star ((Pr.pts A7 (.cells #[.bool true] 4)).star ((Pr.pts A8 (.cells #[.int .i64 0] 32)).star
  ((dM q.1 q.2.2.key).star ((dM q.2.1 (nq look q.2.2)).star F)))))
end Go.Proofs.YtiegeadmgpanoaaGreatDoor.D9
