/-
  No cell of these rows narrows 'for every input' (looked for: loops, veiled, ifaces, maps, wideKeys, modest, calm, conditions, laid).
  DERIVED. THE GIVEN ROWS OF THIS SEAT. 4 by the template 'for every input the law returns true; each argument reads behind the call as it read before'; 0 by the template 'total and deterministic' (their statements: YtbobcmimkonnoaaTotals.lean).
  GIVEN WITH THE SEED: the statements are not yours to turn. If you find one false, say at which input.
  Laid BY PROGRAM, IN A SANDBOX (cutbox-rows.mjs): the forced cells as the released guide's own fill.sh prints them over the translation 377af462f0f2d329… (all of the seat's roots in one cut). By AI agents, Wed Nov 11 2026. No macro, syntax, notation, axiom, sorry.
-/
import Derived.Test.YtbobcmimkonnoaaChecked
import GoSem.Claim
import GoSem.ClaimJoined
import GoSem.ClaimMapViews
import Derived.JoinedTies
import Derived.KernelRfl
namespace Go.Proofs.Ytbobcmimkonnoaa
/- THE CELL 'sum', in the pinned program and in every row, IS THE sha256 OF THE DUMP (.gsa) THAT YtbobcmimkonnoaaProg.lean LOADS. Nothing in Lean hashes anything: it is a label: what it is worth is what the hold of that sum in a sandbox is worth. -/
noncomputable def Try.pinned : Pinned := { name := "ytbobcmimkonnoaa", sum := "377af462f0f2d329e07718c0f1442afe28eaf7c6970b3e99a4e6b148e403efce", checked := Try.checked }
namespace Rows
def none {H : Type} : Left H := { results := [], args := [] }

/-- 'coppicelaw13.BlobPages': WHATEVER THE INPUT: true; the input reads as it did. -/
def blobPagesSpec : ChangeSpec := { name := "blobPages", fn := fun _ => fun
  | [d] => { results := [.lit (.bool true)], args := [d] }
  | _ => none }
def blobPagesRow : OpenClaim := { program := "ytbobcmimkonnoaa", sum := "377af462f0f2d329e07718c0f1442afe28eaf7c6970b3e99a4e6b148e403efce", func := "coppice/coppicelaw13.BlobPages", spec := "blobPages", inPlace := ["internal/bytealg.Compare"], unfollowed := true, recurses := true, apart := false }
def BlobPagesSaid : Prop := blobPagesRow.holds Try.pinned (OpenSpec.ofChange blobPagesSpec)

/-- ITS FALSE NEIGHBOUR: 'it returns false'. Refute it at one input. -/
def blobPagesWrong : ChangeSpec := { name := "blobPages", fn := fun _ => fun
  | [d] => { results := [.lit (.bool false)], args := [d] }
  | _ => none }
def BlobPagesWrongFalsely : Prop := blobPagesRow.holds Try.pinned (OpenSpec.ofChange blobPagesWrong)

/-- 'coppicelaw13.BlobApart': WHATEVER THE INPUT: true; the input reads as it did. -/
def blobApartSpec : ChangeSpec := { name := "blobApart", fn := fun _ => fun
  | [d1, d2] => { results := [.lit (.bool true)], args := [d1, d2] }
  | _ => none }
def blobApartRow : OpenClaim := { program := "ytbobcmimkonnoaa", sum := "377af462f0f2d329e07718c0f1442afe28eaf7c6970b3e99a4e6b148e403efce", func := "coppice/coppicelaw13.BlobApart", spec := "blobApart", inPlace := ["internal/bytealg.Compare"], unfollowed := true, recurses := true, apart := false }
def BlobApartSaid : Prop := blobApartRow.holds Try.pinned (OpenSpec.ofChange blobApartSpec)

/-- ITS FALSE NEIGHBOUR: 'it returns false'. Refute it at one input. -/
def blobApartWrong : ChangeSpec := { name := "blobApart", fn := fun _ => fun
  | [d1, d2] => { results := [.lit (.bool false)], args := [d1, d2] }
  | _ => none }
def BlobApartWrongFalsely : Prop := blobApartRow.holds Try.pinned (OpenSpec.ofChange blobApartWrong)

/-- 'coppicelaw13.BlobBack': WHATEVER THE INPUT: true; the input reads as it did. -/
def blobBackSpec : ChangeSpec := { name := "blobBack", fn := fun _ => fun
  | [d1, d2, d3, d4] => { results := [.lit (.bool true)], args := [d1, d2, d3, d4] }
  | _ => none }
def blobBackRow : OpenClaim := { program := "ytbobcmimkonnoaa", sum := "377af462f0f2d329e07718c0f1442afe28eaf7c6970b3e99a4e6b148e403efce", func := "coppice/coppicelaw13.BlobBack", spec := "blobBack", inPlace := ["internal/bytealg.Compare"], unfollowed := true, recurses := true, apart := false }
def BlobBackSaid : Prop := blobBackRow.holds Try.pinned (OpenSpec.ofChange blobBackSpec)

/-- ITS FALSE NEIGHBOUR: 'it returns false'. Refute it at one input. -/
def blobBackWrong : ChangeSpec := { name := "blobBack", fn := fun _ => fun
  | [d1, d2, d3, d4] => { results := [.lit (.bool false)], args := [d1, d2, d3, d4] }
  | _ => none }
def BlobBackWrongFalsely : Prop := blobBackRow.holds Try.pinned (OpenSpec.ofChange blobBackWrong)

/-- 'coppicelaw13.BlobLoads': WHATEVER THE INPUT: true; the input reads as it did. -/
def blobLoadsSpec : ChangeSpec := { name := "blobLoads", fn := fun _ => fun
  | [d1, d2] => { results := [.lit (.bool true)], args := [d1, d2] }
  | _ => none }
def blobLoadsRow : OpenClaim := { program := "ytbobcmimkonnoaa", sum := "377af462f0f2d329e07718c0f1442afe28eaf7c6970b3e99a4e6b148e403efce", func := "coppice/coppicelaw13.BlobLoads", spec := "blobLoads", inPlace := ["internal/bytealg.Compare"], unfollowed := true, recurses := true, apart := false }
def BlobLoadsSaid : Prop := blobLoadsRow.holds Try.pinned (OpenSpec.ofChange blobLoadsSpec)

/-- ITS FALSE NEIGHBOUR: 'it returns false'. Refute it at one input. -/
def blobLoadsWrong : ChangeSpec := { name := "blobLoads", fn := fun _ => fun
  | [d1, d2] => { results := [.lit (.bool false)], args := [d1, d2] }
  | _ => none }
def BlobLoadsWrongFalsely : Prop := blobLoadsRow.holds Try.pinned (OpenSpec.ofChange blobLoadsWrong)

/- THE SECOND FORM. 'bulk': how many values and letters a reading holds, each counted each time it is reached (what is shared counts as often as it is met; a slice's spare places count too). A statement '..UptoSaid' is the law's where the arguments, and the package variables that the reading takes, are together of bulk at most 1048576: NARROWER than '..Said'. Prove '..Said' where nothing that the law and all that it calls make is longer than what came in: it says more and counts as full. Else prove '..UptoSaid'. A law counts once. -/
mutual
def uptoBulk {H : Type} : DataW H → Nat
  | .lit (.string bytes) => bytes.length + 1
  | .lit _ => 1
  | .nil => 1
  | .ptr d => uptoBulk d + 1
  | .slice elems spare => uptoBulkAll elems + uptoBulkAll spare + 1
  | .agg parts => uptoBulkAll parts + 1
  | .iface _ d => uptoBulk d + 1
  | .map entries => uptoBulkEntries entries + 1
  | .held _ => 1
def uptoBulkAll {H : Type} : List (DataW H) → Nat
  | [] => 0
  | d :: r => uptoBulk d + uptoBulkAll r
def uptoBulkEntries {H : Type} : List (Lit × DataW H) → Nat
  | [] => 0
  | x :: r => uptoBulkEntry x + uptoBulkEntries r
def uptoBulkEntry {H : Type} : Lit × DataW H → Nat
  | (.string bytes, d) => bytes.length + uptoBulk d + 1
  | (_, d) => uptoBulk d + 1
 end
def uptoSmall : (H : Type) → List (DataW H) → Bool := fun _ ds => decide (uptoBulkAll ds ≤ 1048576)
def OpenSpec.upto (s : _root_.Go.ChangeSpec) : _root_.Go.OpenSpec := { _root_.Go.OpenSpec.ofChange s with cond := some uptoSmall }

/-- 'coppicelaw13.BlobPages', WHERE WHAT IT READS IS OF BULK AT MOST 1048576: true; the input reads as it did. -/
def blobPagesUptoRow : OpenClaim := { program := "ytbobcmimkonnoaa", sum := "377af462f0f2d329e07718c0f1442afe28eaf7c6970b3e99a4e6b148e403efce", func := "coppice/coppicelaw13.BlobPages", spec := "blobPages", inPlace := ["internal/bytealg.Compare"], unfollowed := true, recurses := true, apart := false, narrowed := true }
def BlobPagesUptoSaid : Prop := blobPagesUptoRow.holds Try.pinned (OpenSpec.upto blobPagesSpec)

/-- 'coppicelaw13.BlobApart', WHERE WHAT IT READS IS OF BULK AT MOST 1048576: true; the input reads as it did. -/
def blobApartUptoRow : OpenClaim := { program := "ytbobcmimkonnoaa", sum := "377af462f0f2d329e07718c0f1442afe28eaf7c6970b3e99a4e6b148e403efce", func := "coppice/coppicelaw13.BlobApart", spec := "blobApart", inPlace := ["internal/bytealg.Compare"], unfollowed := true, recurses := true, apart := false, narrowed := true }
def BlobApartUptoSaid : Prop := blobApartUptoRow.holds Try.pinned (OpenSpec.upto blobApartSpec)

/-- 'coppicelaw13.BlobBack', WHERE WHAT IT READS IS OF BULK AT MOST 1048576: true; the input reads as it did. -/
def blobBackUptoRow : OpenClaim := { program := "ytbobcmimkonnoaa", sum := "377af462f0f2d329e07718c0f1442afe28eaf7c6970b3e99a4e6b148e403efce", func := "coppice/coppicelaw13.BlobBack", spec := "blobBack", inPlace := ["internal/bytealg.Compare"], unfollowed := true, recurses := true, apart := false, narrowed := true }
def BlobBackUptoSaid : Prop := blobBackUptoRow.holds Try.pinned (OpenSpec.upto blobBackSpec)

/-- 'coppicelaw13.BlobLoads', WHERE WHAT IT READS IS OF BULK AT MOST 1048576: true; the input reads as it did. -/
def blobLoadsUptoRow : OpenClaim := { program := "ytbobcmimkonnoaa", sum := "377af462f0f2d329e07718c0f1442afe28eaf7c6970b3e99a4e6b148e403efce", func := "coppice/coppicelaw13.BlobLoads", spec := "blobLoads", inPlace := ["internal/bytealg.Compare"], unfollowed := true, recurses := true, apart := false, narrowed := true }
def BlobLoadsUptoSaid : Prop := blobLoadsUptoRow.holds Try.pinned (OpenSpec.upto blobLoadsSpec)

end Rows
end Go.Proofs.Ytbobcmimkonnoaa
