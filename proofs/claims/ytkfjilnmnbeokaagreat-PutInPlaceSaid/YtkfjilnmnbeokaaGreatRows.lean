/-
  No cell of these rows narrows 'for every input' (looked for: loops, veiled, ifaces, maps, wideKeys, modest, calm, conditions, laid).
  DERIVED. THE GIVEN ROWS OF THIS SEAT. 4 by the template 'for every input the law returns true; each argument reads behind the call as it read before'; 0 by the template 'total and deterministic' (their statements: YtkfjilnmnbeokaaGreatTotals.lean).
  GIVEN WITH THE SEED: the statements are not yours to turn. If you find one false, say at which input.
  Laid BY PROGRAM, IN A SANDBOX (cutbox-rows.mjs): the forced cells as the released guide's own fill.sh prints them over the translation d8beea3beac5ebf6… (all of the seat's roots in one cut). By AI agents, Wed Nov 11 2026. No macro, syntax, notation, axiom, sorry.
-/
import Derived.Test.YtkfjilnmnbeokaaGreatChecked
import GoSem.Claim
import GoSem.ClaimJoined
import GoSem.ClaimMapViews
import Derived.JoinedTies
import Derived.KernelRfl
namespace Go.Proofs.YtkfjilnmnbeokaaGreat
/- THE CELL 'sum', in the pinned program and in every row, IS THE sha256 OF THE DUMP (.gsa) THAT YtkfjilnmnbeokaaGreatProg.lean LOADS. Nothing in Lean hashes anything: it is a label: what it is worth is what the hold of that sum in a sandbox is worth. -/
noncomputable def Tryz.pinned : Pinned := { name := "ytkfjilnmnbeokaagreat", sum := "d8beea3beac5ebf6396335ff9462726b5ded5a9408382814a02168a249ad2fcb", checked := Tryz.checked }
namespace Rows
def none {H : Type} : Left H := { results := [], args := [] }

/-- 'coppicelaw15.PutFresh': WHATEVER THE INPUT: true; the input reads as it did. -/
def putFreshSpec : ChangeSpec := { name := "putFresh", fn := fun _ => fun
  | [d1, d2] => { results := [.lit (.bool true)], args := [d1, d2] }
  | _ => none }
def putFreshRow : OpenClaim := { program := "ytkfjilnmnbeokaagreat", sum := "d8beea3beac5ebf6396335ff9462726b5ded5a9408382814a02168a249ad2fcb", func := "coppice/coppicelaw15.PutFresh", spec := "putFresh", inPlace := ["internal/bytealg.Compare"], unfollowed := true, recurses := true, apart := false }
def PutFreshSaid : Prop := putFreshRow.holds Tryz.pinned (OpenSpec.ofChange putFreshSpec)

/-- ITS FALSE NEIGHBOUR: 'it returns false'. Refute it at one input. -/
def putFreshWrong : ChangeSpec := { name := "putFresh", fn := fun _ => fun
  | [d1, d2] => { results := [.lit (.bool false)], args := [d1, d2] }
  | _ => none }
def PutFreshWrongFalsely : Prop := putFreshRow.holds Tryz.pinned (OpenSpec.ofChange putFreshWrong)

/-- 'coppicelaw15.PutInPlace': WHATEVER THE INPUT: true; the input reads as it did. -/
def putInPlaceSpec : ChangeSpec := { name := "putInPlace", fn := fun _ => fun
  | [d1, d2, d3] => { results := [.lit (.bool true)], args := [d1, d2, d3] }
  | _ => none }
def putInPlaceRow : OpenClaim := { program := "ytkfjilnmnbeokaagreat", sum := "d8beea3beac5ebf6396335ff9462726b5ded5a9408382814a02168a249ad2fcb", func := "coppice/coppicelaw15.PutInPlace", spec := "putInPlace", inPlace := ["internal/bytealg.Compare"], unfollowed := true, recurses := true, apart := false }
def PutInPlaceSaid : Prop := putInPlaceRow.holds Tryz.pinned (OpenSpec.ofChange putInPlaceSpec)

/-- ITS FALSE NEIGHBOUR: 'it returns false'. Refute it at one input. -/
def putInPlaceWrong : ChangeSpec := { name := "putInPlace", fn := fun _ => fun
  | [d1, d2, d3] => { results := [.lit (.bool false)], args := [d1, d2, d3] }
  | _ => none }
def PutInPlaceWrongFalsely : Prop := putInPlaceRow.holds Tryz.pinned (OpenSpec.ofChange putInPlaceWrong)

/-- 'coppicelaw15.PutUndone': WHATEVER THE INPUT: true; the input reads as it did. -/
def putUndoneSpec : ChangeSpec := { name := "putUndone", fn := fun _ => fun
  | [d1, d2, d3] => { results := [.lit (.bool true)], args := [d1, d2, d3] }
  | _ => none }
def putUndoneRow : OpenClaim := { program := "ytkfjilnmnbeokaagreat", sum := "d8beea3beac5ebf6396335ff9462726b5ded5a9408382814a02168a249ad2fcb", func := "coppice/coppicelaw15.PutUndone", spec := "putUndone", inPlace := ["internal/bytealg.Compare"], unfollowed := true, recurses := true, apart := false }
def PutUndoneSaid : Prop := putUndoneRow.holds Tryz.pinned (OpenSpec.ofChange putUndoneSpec)

/-- ITS FALSE NEIGHBOUR: 'it returns false'. Refute it at one input. -/
def putUndoneWrong : ChangeSpec := { name := "putUndone", fn := fun _ => fun
  | [d1, d2, d3] => { results := [.lit (.bool false)], args := [d1, d2, d3] }
  | _ => none }
def PutUndoneWrongFalsely : Prop := putUndoneRow.holds Tryz.pinned (OpenSpec.ofChange putUndoneWrong)

/-- 'coppicelaw15.PutRoom': WHATEVER THE INPUT: true; the input reads as it did. -/
def putRoomSpec : ChangeSpec := { name := "putRoom", fn := fun _ => fun
  | [d1, d2, d3] => { results := [.lit (.bool true)], args := [d1, d2, d3] }
  | _ => none }
def putRoomRow : OpenClaim := { program := "ytkfjilnmnbeokaagreat", sum := "d8beea3beac5ebf6396335ff9462726b5ded5a9408382814a02168a249ad2fcb", func := "coppice/coppicelaw15.PutRoom", spec := "putRoom", inPlace := ["internal/bytealg.Compare"], unfollowed := true, recurses := true, apart := false }
def PutRoomSaid : Prop := putRoomRow.holds Tryz.pinned (OpenSpec.ofChange putRoomSpec)

/-- ITS FALSE NEIGHBOUR: 'it returns false'. Refute it at one input. -/
def putRoomWrong : ChangeSpec := { name := "putRoom", fn := fun _ => fun
  | [d1, d2, d3] => { results := [.lit (.bool false)], args := [d1, d2, d3] }
  | _ => none }
def PutRoomWrongFalsely : Prop := putRoomRow.holds Tryz.pinned (OpenSpec.ofChange putRoomWrong)

/- THE SECOND FORM. 'bulk': how many values and letters a reading holds, each counted each time it is reached (what is shared counts as often as it is met; a slice's spare places count too). A statement '..UptoSaid' is the law's where the arguments, and the package variables that the reading takes, are together of bulk at most 1048576: NARROWER than '..Said'. Prove '..Said' where nothing that the law and all that it calls make is longer than what came in: it says more and counts as full. Else prove '..UptoSaid'. A law counts once. -/
mutual
def uptoBulk {H : Type} : DataW H → Nat
  | .lit (.string bytes) => bytes.length + 1
  | .lit _ => 1
  | .nil => 1
  | .ptr d => uptoBulk d + 1
  | .slice elems spare => uptoBulkAll elems + uptoBulkAll spare + 1
  | .agg parts => uptoBulkAll parts + 1
  | .iface _ d => uptoBulk d + 1
  | .map entries => uptoBulkEntries entries + 1
  | .held _ => 1
def uptoBulkAll {H : Type} : List (DataW H) → Nat
  | [] => 0
  | d :: r => uptoBulk d + uptoBulkAll r
def uptoBulkEntries {H : Type} : List (Lit × DataW H) → Nat
  | [] => 0
  | x :: r => uptoBulkEntry x + uptoBulkEntries r
def uptoBulkEntry {H : Type} : Lit × DataW H → Nat
  | (.string bytes, d) => bytes.length + uptoBulk d + 1
  | (_, d) => uptoBulk d + 1
 end
def uptoSmall : (H : Type) → List (DataW H) → Bool := fun _ ds => decide (uptoBulkAll ds ≤ 1048576)
def OpenSpec.upto (s : _root_.Go.ChangeSpec) : _root_.Go.OpenSpec := { _root_.Go.OpenSpec.ofChange s with cond := some uptoSmall }

/-- 'coppicelaw15.PutFresh', WHERE WHAT IT READS IS OF BULK AT MOST 1048576: true; the input reads as it did. -/
def putFreshUptoRow : OpenClaim := { program := "ytkfjilnmnbeokaagreat", sum := "d8beea3beac5ebf6396335ff9462726b5ded5a9408382814a02168a249ad2fcb", func := "coppice/coppicelaw15.PutFresh", spec := "putFresh", inPlace := ["internal/bytealg.Compare"], unfollowed := true, recurses := true, apart := false, narrowed := true }
def PutFreshUptoSaid : Prop := putFreshUptoRow.holds Tryz.pinned (OpenSpec.upto putFreshSpec)

/-- 'coppicelaw15.PutInPlace', WHERE WHAT IT READS IS OF BULK AT MOST 1048576: true; the input reads as it did. -/
def putInPlaceUptoRow : OpenClaim := { program := "ytkfjilnmnbeokaagreat", sum := "d8beea3beac5ebf6396335ff9462726b5ded5a9408382814a02168a249ad2fcb", func := "coppice/coppicelaw15.PutInPlace", spec := "putInPlace", inPlace := ["internal/bytealg.Compare"], unfollowed := true, recurses := true, apart := false, narrowed := true }
def PutInPlaceUptoSaid : Prop := putInPlaceUptoRow.holds Tryz.pinned (OpenSpec.upto putInPlaceSpec)

/-- 'coppicelaw15.PutUndone', WHERE WHAT IT READS IS OF BULK AT MOST 1048576: true; the input reads as it did. -/
def putUndoneUptoRow : OpenClaim := { program := "ytkfjilnmnbeokaagreat", sum := "d8beea3beac5ebf6396335ff9462726b5ded5a9408382814a02168a249ad2fcb", func := "coppice/coppicelaw15.PutUndone", spec := "putUndone", inPlace := ["internal/bytealg.Compare"], unfollowed := true, recurses := true, apart := false, narrowed := true }
def PutUndoneUptoSaid : Prop := putUndoneUptoRow.holds Tryz.pinned (OpenSpec.upto putUndoneSpec)

/-- 'coppicelaw15.PutRoom', WHERE WHAT IT READS IS OF BULK AT MOST 1048576: true; the input reads as it did. -/
def putRoomUptoRow : OpenClaim := { program := "ytkfjilnmnbeokaagreat", sum := "d8beea3beac5ebf6396335ff9462726b5ded5a9408382814a02168a249ad2fcb", func := "coppice/coppicelaw15.PutRoom", spec := "putRoom", inPlace := ["internal/bytealg.Compare"], unfollowed := true, recurses := true, apart := false, narrowed := true }
def PutRoomUptoSaid : Prop := putRoomUptoRow.holds Tryz.pinned (OpenSpec.upto putRoomSpec)

end Rows
end Go.Proofs.YtkfjilnmnbeokaaGreat
