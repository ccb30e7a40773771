/-
  NARROWER THAN 'FOR EVERY INPUT', by the rows' own cells (each row's printed sentence says how): WalkChecks: laid · WalkGets: laid · WalkAgrees: laid · WalkLists: laid.
  DERIVED. THE GIVEN ROWS OF THIS SEAT. 4 by the template 'for every input the law returns true; each argument reads behind the call as it read before'; 0 by the template 'total and deterministic' (their statements: YtiegeadmgpanoaaGreatDoorTotals.lean).
  GIVEN WITH THE SEED: the statements are not yours to turn. If you find one false, say at which input.
  Laid BY PROGRAM, IN A SANDBOX (cutbox-rows.mjs): the forced cells as the released guide's own fill.sh prints them over the translation ec11915539175770… (all of the seat's roots in one cut). By AI agents, Wed Nov 11 2026. No macro, syntax, notation, axiom, sorry.
-/
import Derived.Test.YtiegeadmgpanoaaGreatDoorChecked
import GoSem.Claim
import GoSem.ClaimJoined
import GoSem.ClaimMapViews
import Derived.JoinedTies
import Derived.KernelRfl
namespace Go.Proofs.YtiegeadmgpanoaaGreatDoor
/- THE CELL 'sum', in the pinned program and in every row, IS THE sha256 OF THE DUMP (.gsa) THAT YtiegeadmgpanoaaGreatDoorProg.lean LOADS. Nothing in Lean hashes anything: it is a label: what it is worth is what the hold of that sum in a sandbox is worth. -/
noncomputable def Tryz.pinned : Pinned := { name := "ytiegeadmgpanoaagreatdoor", sum := "ec1191553917577072c20986f1dcb0855f327a020dc8e3ee5fa015d734e2ead4", checked := Tryz.checked }
namespace Rows
def none {H : Type} : Left H := { results := [], args := [] }

/- WHAT THE LISTED PACKAGE-LEVEL VARIABLES READ AS WHEN THE CALL BEGINS. Each datum BY PROGRAM (the guide's laid-datum.mjs) off the statement by which the dump's own 'gosem.cut.vars' lays the variable. In a bare row this is a premise. The card (YtiegeadmgpanoaaGreatDoorCards.lean) ties it to the program's text. -/
def laid_coppice_walk_everything {H : Type} : DataW H := .agg [.nil, .nil, .lit (.bool true)]

/-- 'coppicelaw14.WalkChecks': WHATEVER THE INPUT: true; the input reads as it did. -/
def walkChecksSpec : ChangeSpec := { name := "walkChecks", fn := fun _ => fun
  | [d] => { results := [.lit (.bool true)], args := [d] }
  | _ => none }
def walkChecksRow : OpenClaim := { program := "ytiegeadmgpanoaagreatdoor", sum := "ec1191553917577072c20986f1dcb0855f327a020dc8e3ee5fa015d734e2ead4", func := "coppice/coppicelaw14.WalkChecks", spec := "walkChecks", inPlace := ["internal/bytealg.Compare"], unfollowed := true, recurses := true, named := ["coppice/walk.everything"], apart := false, laid := [("coppice/walk.everything", laid_coppice_walk_everything)] }
def WalkChecksSaid : Prop := walkChecksRow.holds Tryz.pinned (OpenSpec.ofChange walkChecksSpec)

/-- ITS FALSE NEIGHBOUR: 'it returns false'. Refute it at one input. -/
def walkChecksWrong : ChangeSpec := { name := "walkChecks", fn := fun _ => fun
  | [d] => { results := [.lit (.bool false)], args := [d] }
  | _ => none }
def WalkChecksWrongFalsely : Prop := walkChecksRow.holds Tryz.pinned (OpenSpec.ofChange walkChecksWrong)

/-- 'coppicelaw14.WalkGets': WHATEVER THE INPUT: true; the input reads as it did. -/
def walkGetsSpec : ChangeSpec := { name := "walkGets", fn := fun _ => fun
  | [d1, d2, d3] => { results := [.lit (.bool true)], args := [d1, d2, d3] }
  | _ => none }
def walkGetsRow : OpenClaim := { program := "ytiegeadmgpanoaagreatdoor", sum := "ec1191553917577072c20986f1dcb0855f327a020dc8e3ee5fa015d734e2ead4", func := "coppice/coppicelaw14.WalkGets", spec := "walkGets", inPlace := ["internal/bytealg.Compare"], unfollowed := true, recurses := true, named := ["coppice/walk.everything"], apart := false, laid := [("coppice/walk.everything", laid_coppice_walk_everything)] }
def WalkGetsSaid : Prop := walkGetsRow.holds Tryz.pinned (OpenSpec.ofChange walkGetsSpec)

/-- ITS FALSE NEIGHBOUR: 'it returns false'. Refute it at one input. -/
def walkGetsWrong : ChangeSpec := { name := "walkGets", fn := fun _ => fun
  | [d1, d2, d3] => { results := [.lit (.bool false)], args := [d1, d2, d3] }
  | _ => none }
def WalkGetsWrongFalsely : Prop := walkGetsRow.holds Tryz.pinned (OpenSpec.ofChange walkGetsWrong)

/-- 'coppicelaw14.WalkAgrees': WHATEVER THE INPUT: true; the input reads as it did. -/
def walkAgreesSpec : ChangeSpec := { name := "walkAgrees", fn := fun _ => fun
  | [d1, d2, d3] => { results := [.lit (.bool true)], args := [d1, d2, d3] }
  | _ => none }
def walkAgreesRow : OpenClaim := { program := "ytiegeadmgpanoaagreatdoor", sum := "ec1191553917577072c20986f1dcb0855f327a020dc8e3ee5fa015d734e2ead4", func := "coppice/coppicelaw14.WalkAgrees", spec := "walkAgrees", inPlace := ["internal/bytealg.Compare"], unfollowed := true, recurses := true, named := ["coppice/walk.everything"], apart := false, laid := [("coppice/walk.everything", laid_coppice_walk_everything)] }
def WalkAgreesSaid : Prop := walkAgreesRow.holds Tryz.pinned (OpenSpec.ofChange walkAgreesSpec)

/-- ITS FALSE NEIGHBOUR: 'it returns false'. Refute it at one input. -/
def walkAgreesWrong : ChangeSpec := { name := "walkAgrees", fn := fun _ => fun
  | [d1, d2, d3] => { results := [.lit (.bool false)], args := [d1, d2, d3] }
  | _ => none }
def WalkAgreesWrongFalsely : Prop := walkAgreesRow.holds Tryz.pinned (OpenSpec.ofChange walkAgreesWrong)

/-- 'coppicelaw14.WalkLists': WHATEVER THE INPUT: true; the input reads as it did. -/
def walkListsSpec : ChangeSpec := { name := "walkLists", fn := fun _ => fun
  | [d1, d2, d3, d4] => { results := [.lit (.bool true)], args := [d1, d2, d3, d4] }
  | _ => none }
def walkListsRow : OpenClaim := { program := "ytiegeadmgpanoaagreatdoor", sum := "ec1191553917577072c20986f1dcb0855f327a020dc8e3ee5fa015d734e2ead4", func := "coppice/coppicelaw14.WalkLists", spec := "walkLists", inPlace := ["internal/bytealg.Compare"], unfollowed := true, recurses := true, named := ["coppice/walk.everything"], apart := false, laid := [("coppice/walk.everything", laid_coppice_walk_everything)] }
def WalkListsSaid : Prop := walkListsRow.holds Tryz.pinned (OpenSpec.ofChange walkListsSpec)

/-- ITS FALSE NEIGHBOUR: 'it returns false'. Refute it at one input. -/
def walkListsWrong : ChangeSpec := { name := "walkLists", fn := fun _ => fun
  | [d1, d2, d3, d4] => { results := [.lit (.bool false)], args := [d1, d2, d3, d4] }
  | _ => none }
def WalkListsWrongFalsely : Prop := walkListsRow.holds Tryz.pinned (OpenSpec.ofChange walkListsWrong)

/- THE SECOND FORM. 'bulk': how many values and letters a reading holds, each counted each time it is reached (what is shared counts as often as it is met; a slice's spare places count too). A statement '..UptoSaid' is the law's where the arguments, and the package variables that the reading takes, are together of bulk at most 1048576: NARROWER than '..Said'. Prove '..Said' where nothing that the law and all that it calls make is longer than what came in: it says more and counts as full. Else prove '..UptoSaid'. A law counts once. -/
mutual
def uptoBulk {H : Type} : DataW H → Nat
  | .lit (.string bytes) => bytes.length + 1
  | .lit _ => 1
  | .nil => 1
  | .ptr d => uptoBulk d + 1
  | .slice elems spare => uptoBulkAll elems + uptoBulkAll spare + 1
  | .agg parts => uptoBulkAll parts + 1
  | .iface _ d => uptoBulk d + 1
  | .map entries => uptoBulkEntries entries + 1
  | .held _ => 1
def uptoBulkAll {H : Type} : List (DataW H) → Nat
  | [] => 0
  | d :: r => uptoBulk d + uptoBulkAll r
def uptoBulkEntries {H : Type} : List (Lit × DataW H) → Nat
  | [] => 0
  | x :: r => uptoBulkEntry x + uptoBulkEntries r
def uptoBulkEntry {H : Type} : Lit × DataW H → Nat
  | (.string bytes, d) => bytes.length + uptoBulk d + 1
  | (_, d) => uptoBulk d + 1
 end
def uptoSmall : (H : Type) → List (DataW H) → Bool := fun _ ds => decide (uptoBulkAll ds ≤ 1048576)
def OpenSpec.upto (s : _root_.Go.ChangeSpec) : _root_.Go.OpenSpec := { _root_.Go.OpenSpec.ofChange s with cond := some uptoSmall }

/-- 'coppicelaw14.WalkChecks', WHERE WHAT IT READS IS OF BULK AT MOST 1048576: true; the input reads as it did. -/
def walkChecksUptoRow : OpenClaim := { program := "ytiegeadmgpanoaagreatdoor", sum := "ec1191553917577072c20986f1dcb0855f327a020dc8e3ee5fa015d734e2ead4", func := "coppice/coppicelaw14.WalkChecks", spec := "walkChecks", inPlace := ["internal/bytealg.Compare"], unfollowed := true, recurses := true, named := ["coppice/walk.everything"], apart := false, laid := [("coppice/walk.everything", laid_coppice_walk_everything)], narrowed := true }
def WalkChecksUptoSaid : Prop := walkChecksUptoRow.holds Tryz.pinned (OpenSpec.upto walkChecksSpec)

/-- 'coppicelaw14.WalkGets', WHERE WHAT IT READS IS OF BULK AT MOST 1048576: true; the input reads as it did. -/
def walkGetsUptoRow : OpenClaim := { program := "ytiegeadmgpanoaagreatdoor", sum := "ec1191553917577072c20986f1dcb0855f327a020dc8e3ee5fa015d734e2ead4", func := "coppice/coppicelaw14.WalkGets", spec := "walkGets", inPlace := ["internal/bytealg.Compare"], unfollowed := true, recurses := true, named := ["coppice/walk.everything"], apart := false, laid := [("coppice/walk.everything", laid_coppice_walk_everything)], narrowed := true }
def WalkGetsUptoSaid : Prop := walkGetsUptoRow.holds Tryz.pinned (OpenSpec.upto walkGetsSpec)

/-- 'coppicelaw14.WalkAgrees', WHERE WHAT IT READS IS OF BULK AT MOST 1048576: true; the input reads as it did. -/
def walkAgreesUptoRow : OpenClaim := { program := "ytiegeadmgpanoaagreatdoor", sum := "ec1191553917577072c20986f1dcb0855f327a020dc8e3ee5fa015d734e2ead4", func := "coppice/coppicelaw14.WalkAgrees", spec := "walkAgrees", inPlace := ["internal/bytealg.Compare"], unfollowed := true, recurses := true, named := ["coppice/walk.everything"], apart := false, laid := [("coppice/walk.everything", laid_coppice_walk_everything)], narrowed := true }
def WalkAgreesUptoSaid : Prop := walkAgreesUptoRow.holds Tryz.pinned (OpenSpec.upto walkAgreesSpec)

/-- 'coppicelaw14.WalkLists', WHERE WHAT IT READS IS OF BULK AT MOST 1048576: true; the input reads as it did. -/
def walkListsUptoRow : OpenClaim := { program := "ytiegeadmgpanoaagreatdoor", sum := "ec1191553917577072c20986f1dcb0855f327a020dc8e3ee5fa015d734e2ead4", func := "coppice/coppicelaw14.WalkLists", spec := "walkLists", inPlace := ["internal/bytealg.Compare"], unfollowed := true, recurses := true, named := ["coppice/walk.everything"], apart := false, laid := [("coppice/walk.everything", laid_coppice_walk_everything)], narrowed := true }
def WalkListsUptoSaid : Prop := walkListsUptoRow.holds Tryz.pinned (OpenSpec.upto walkListsSpec)

end Rows
end Go.Proofs.YtiegeadmgpanoaaGreatDoor
