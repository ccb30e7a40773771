/-
  No cell of these rows narrows 'for every input' (looked for: loops, veiled, ifaces, maps, wideKeys, modest, calm, conditions, laid).
  DERIVED. THE GIVEN ROWS OF THIS SEAT. 3 by the template 'for every input the law returns true; each argument reads behind the call as it read before'; 0 by the template 'total and deterministic' (their statements: YtpfafhklppondaaGreatTotals.lean).
  GIVEN WITH THE SEED: the statements are not yours to turn. If you find one false, say at which input.
  Laid BY PROGRAM, IN A SANDBOX (cutbox-rows.mjs): the forced cells as the released guide's own fill.sh prints them over the translation d3df725fff32a09e… (all of the seat's roots in one cut). By AI agents, Wed Nov 11 2026. No macro, syntax, notation, axiom, sorry.
-/
import Derived.Test.YtpfafhklppondaaGreatChecked
import GoSem.Claim
import GoSem.ClaimJoined
import GoSem.ClaimMapViews
import Derived.JoinedTies
import Derived.KernelRfl
namespace Go.Proofs.YtpfafhklppondaaGreat
/- THE CELL 'sum', in the pinned program and in every row, IS THE sha256 OF THE DUMP (.gsa) THAT YtpfafhklppondaaGreatProg.lean LOADS. Nothing in Lean hashes anything: it is a label: what it is worth is what the hold of that sum in a sandbox is worth. -/
noncomputable def Tryz.pinned : Pinned := { name := "ytpfafhklppondaagreat", sum := "d3df725fff32a09e977d8f86a5bc68514e0e2f5da788a6234cbff37f0a8e7f88", checked := Tryz.checked }
namespace Rows
def none {H : Type} : Left H := { results := [], args := [] }

/-- 'coppicelaw11.VaultCounts': WHATEVER THE INPUT: true; the input reads as it did. -/
def vaultCountsSpec : ChangeSpec := { name := "vaultCounts", fn := fun _ => fun
  | [d1, d2] => { results := [.lit (.bool true)], args := [d1, d2] }
  | _ => none }
def vaultCountsRow : OpenClaim := { program := "ytpfafhklppondaagreat", sum := "d3df725fff32a09e977d8f86a5bc68514e0e2f5da788a6234cbff37f0a8e7f88", func := "coppice/coppicelaw11.VaultCounts", spec := "vaultCounts", inPlace := ["internal/bytealg.Compare"], unfollowed := true, recurses := true, apart := false }
def VaultCountsSaid : Prop := vaultCountsRow.holds Tryz.pinned (OpenSpec.ofChange vaultCountsSpec)

/-- ITS FALSE NEIGHBOUR: 'it returns false'. Refute it at one input. -/
def vaultCountsWrong : ChangeSpec := { name := "vaultCounts", fn := fun _ => fun
  | [d1, d2] => { results := [.lit (.bool false)], args := [d1, d2] }
  | _ => none }
def VaultCountsWrongFalsely : Prop := vaultCountsRow.holds Tryz.pinned (OpenSpec.ofChange vaultCountsWrong)

/-- 'coppicelaw13.BlobAnswers': WHATEVER THE INPUT: true; the input reads as it did. -/
def blobAnswersSpec : ChangeSpec := { name := "blobAnswers", fn := fun _ => fun
  | [d1, d2] => { results := [.lit (.bool true)], args := [d1, d2] }
  | _ => none }
def blobAnswersRow : OpenClaim := { program := "ytpfafhklppondaagreat", sum := "d3df725fff32a09e977d8f86a5bc68514e0e2f5da788a6234cbff37f0a8e7f88", func := "coppice/coppicelaw13.BlobAnswers", spec := "blobAnswers", inPlace := ["internal/bytealg.Compare"], unfollowed := true, recurses := true, apart := false }
def BlobAnswersSaid : Prop := blobAnswersRow.holds Tryz.pinned (OpenSpec.ofChange blobAnswersSpec)

/-- ITS FALSE NEIGHBOUR: 'it returns false'. Refute it at one input. -/
def blobAnswersWrong : ChangeSpec := { name := "blobAnswers", fn := fun _ => fun
  | [d1, d2] => { results := [.lit (.bool false)], args := [d1, d2] }
  | _ => none }
def BlobAnswersWrongFalsely : Prop := blobAnswersRow.holds Tryz.pinned (OpenSpec.ofChange blobAnswersWrong)

/-- 'coppicelaw11.VaultLoads': WHATEVER THE INPUT: true; the input reads as it did. -/
def vaultLoadsSpec : ChangeSpec := { name := "vaultLoads", fn := fun _ => fun
  | [d1, d2, d3, d4] => { results := [.lit (.bool true)], args := [d1, d2, d3, d4] }
  | _ => none }
def vaultLoadsRow : OpenClaim := { program := "ytpfafhklppondaagreat", sum := "d3df725fff32a09e977d8f86a5bc68514e0e2f5da788a6234cbff37f0a8e7f88", func := "coppice/coppicelaw11.VaultLoads", spec := "vaultLoads", inPlace := ["internal/bytealg.Compare"], unfollowed := true, recurses := true, apart := false }
def VaultLoadsSaid : Prop := vaultLoadsRow.holds Tryz.pinned (OpenSpec.ofChange vaultLoadsSpec)

/-- ITS FALSE NEIGHBOUR: 'it returns false'. Refute it at one input. -/
def vaultLoadsWrong : ChangeSpec := { name := "vaultLoads", fn := fun _ => fun
  | [d1, d2, d3, d4] => { results := [.lit (.bool false)], args := [d1, d2, d3, d4] }
  | _ => none }
def VaultLoadsWrongFalsely : Prop := vaultLoadsRow.holds Tryz.pinned (OpenSpec.ofChange vaultLoadsWrong)

/- THE SECOND FORM. 'bulk': how many values and letters a reading holds, each counted each time it is reached (what is shared counts as often as it is met; a slice's spare places count too). A statement '..UptoSaid' is the law's where the arguments, and the package variables that the reading takes, are together of bulk at most 1048576: NARROWER than '..Said'. Prove '..Said' where nothing that the law and all that it calls make is longer than what came in: it says more and counts as full. Else prove '..UptoSaid'. A law counts once. -/
mutual
def uptoBulk {H : Type} : DataW H → Nat
  | .lit (.string bytes) => bytes.length + 1
  | .lit _ => 1
  | .nil => 1
  | .ptr d => uptoBulk d + 1
  | .slice elems spare => uptoBulkAll elems + uptoBulkAll spare + 1
  | .agg parts => uptoBulkAll parts + 1
  | .iface _ d => uptoBulk d + 1
  | .map entries => uptoBulkEntries entries + 1
  | .held _ => 1
def uptoBulkAll {H : Type} : List (DataW H) → Nat
  | [] => 0
  | d :: r => uptoBulk d + uptoBulkAll r
def uptoBulkEntries {H : Type} : List (Lit × DataW H) → Nat
  | [] => 0
  | x :: r => uptoBulkEntry x + uptoBulkEntries r
def uptoBulkEntry {H : Type} : Lit × DataW H → Nat
  | (.string bytes, d) => bytes.length + uptoBulk d + 1
  | (_, d) => uptoBulk d + 1
 end
def uptoSmall : (H : Type) → List (DataW H) → Bool := fun _ ds => decide (uptoBulkAll ds ≤ 1048576)
def OpenSpec.upto (s : _root_.Go.ChangeSpec) : _root_.Go.OpenSpec := { _root_.Go.OpenSpec.ofChange s with cond := some uptoSmall }

/-- 'coppicelaw11.VaultCounts', WHERE WHAT IT READS IS OF BULK AT MOST 1048576: true; the input reads as it did. -/
def vaultCountsUptoRow : OpenClaim := { program := "ytpfafhklppondaagreat", sum := "d3df725fff32a09e977d8f86a5bc68514e0e2f5da788a6234cbff37f0a8e7f88", func := "coppice/coppicelaw11.VaultCounts", spec := "vaultCounts", inPlace := ["internal/bytealg.Compare"], unfollowed := true, recurses := true, apart := false, narrowed := true }
def VaultCountsUptoSaid : Prop := vaultCountsUptoRow.holds Tryz.pinned (OpenSpec.upto vaultCountsSpec)

/-- 'coppicelaw13.BlobAnswers', WHERE WHAT IT READS IS OF BULK AT MOST 1048576: true; the input reads as it did. -/
def blobAnswersUptoRow : OpenClaim := { program := "ytpfafhklppondaagreat", sum := "d3df725fff32a09e977d8f86a5bc68514e0e2f5da788a6234cbff37f0a8e7f88", func := "coppice/coppicelaw13.BlobAnswers", spec := "blobAnswers", inPlace := ["internal/bytealg.Compare"], unfollowed := true, recurses := true, apart := false, narrowed := true }
def BlobAnswersUptoSaid : Prop := blobAnswersUptoRow.holds Tryz.pinned (OpenSpec.upto blobAnswersSpec)

/-- 'coppicelaw11.VaultLoads', WHERE WHAT IT READS IS OF BULK AT MOST 1048576: true; the input reads as it did. -/
def vaultLoadsUptoRow : OpenClaim := { program := "ytpfafhklppondaagreat", sum := "d3df725fff32a09e977d8f86a5bc68514e0e2f5da788a6234cbff37f0a8e7f88", func := "coppice/coppicelaw11.VaultLoads", spec := "vaultLoads", inPlace := ["internal/bytealg.Compare"], unfollowed := true, recurses := true, apart := false, narrowed := true }
def VaultLoadsUptoSaid : Prop := vaultLoadsUptoRow.holds Tryz.pinned (OpenSpec.upto vaultLoadsSpec)

end Rows
end Go.Proofs.YtpfafhklppondaaGreat
