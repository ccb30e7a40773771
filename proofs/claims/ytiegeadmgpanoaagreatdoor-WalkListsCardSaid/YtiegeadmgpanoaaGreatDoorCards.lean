/-
  DERIVED. GIVEN WITH THE SEED: THE CARDS: each row of YtiegeadmgpanoaaGreatDoorRows.lean that lists a variable, with what it lists TIED to the program's text (the seventh form; the later family's looks); each row that meets fmt, with fmt's text TOLD by the authors' own Lean function (tested against real Go, not proved from fmt's source: count such statements apart). THE CARD IS WHAT COUNTS. Prove the row's statement (the work); the ties are given (YtiegeadmgpanoaaGreatDoorTie.lean); close each card by the builder's one call (the guide's Derived/Test/ToyasCard.lean, 'card_holds'). Laid BY PROGRAM, IN A SANDBOX (cutbox-door.mjs). By AI agents, Wed Nov 11 2026. No macro, syntax, notation, axiom, sorry.
-/
import Derived.Test.YtiegeadmgpanoaaGreatDoorRows
import GoSem.ClaimSeven
namespace Go.Proofs.YtiegeadmgpanoaaGreatDoor
namespace Rows

/-- THE TIED CARD OF 'coppicelaw14.WalkChecks'. -/
def walkChecksCard : Claim7 := { stood := { row := walkChecksRow, standIns := [], harness := (true, "6c11763ae94a30dc6fb86cd9db1ce635d01dd217546c2d5cb1a41eb3bb4747a3"), looks := false }, kinds := [], alts := [], laidByText := true, laidKinds := [.widerDeep], laidTests := true, laidLooks := .later }
def WalkChecksCardSaid : Prop := Claim7.holds Tryz.pinned (.plain (OpenSpec.ofChange walkChecksSpec)) walkChecksCard

/-- THE TIED CARD OF 'coppicelaw14.WalkGets'. -/
def walkGetsCard : Claim7 := { stood := { row := walkGetsRow, standIns := [], harness := (true, "6c11763ae94a30dc6fb86cd9db1ce635d01dd217546c2d5cb1a41eb3bb4747a3"), looks := false }, kinds := [], alts := [], laidByText := true, laidKinds := [.widerDeep], laidTests := true, laidLooks := .later }
def WalkGetsCardSaid : Prop := Claim7.holds Tryz.pinned (.plain (OpenSpec.ofChange walkGetsSpec)) walkGetsCard

/-- THE TIED CARD OF 'coppicelaw14.WalkAgrees'. -/
def walkAgreesCard : Claim7 := { stood := { row := walkAgreesRow, standIns := [], harness := (true, "6c11763ae94a30dc6fb86cd9db1ce635d01dd217546c2d5cb1a41eb3bb4747a3"), looks := false }, kinds := [], alts := [], laidByText := true, laidKinds := [.widerDeep], laidTests := true, laidLooks := .later }
def WalkAgreesCardSaid : Prop := Claim7.holds Tryz.pinned (.plain (OpenSpec.ofChange walkAgreesSpec)) walkAgreesCard

/-- THE TIED CARD OF 'coppicelaw14.WalkLists'. -/
def walkListsCard : Claim7 := { stood := { row := walkListsRow, standIns := [], harness := (true, "6c11763ae94a30dc6fb86cd9db1ce635d01dd217546c2d5cb1a41eb3bb4747a3"), looks := false }, kinds := [], alts := [], laidByText := true, laidKinds := [.widerDeep], laidTests := true, laidLooks := .later }
def WalkListsCardSaid : Prop := Claim7.holds Tryz.pinned (.plain (OpenSpec.ofChange walkListsSpec)) walkListsCard

/-- THE SECOND FORM's CARD OF 'coppicelaw14.WalkChecks'. -/
def walkChecksUptoCard : Claim7 := { stood := { row := walkChecksUptoRow, standIns := [], harness := (true, "6c11763ae94a30dc6fb86cd9db1ce635d01dd217546c2d5cb1a41eb3bb4747a3"), looks := false }, kinds := [], alts := [], laidByText := true, laidKinds := [.widerDeep], laidTests := true, laidLooks := .later }
def WalkChecksUptoCardSaid : Prop := Claim7.holds Tryz.pinned (.plain (OpenSpec.upto walkChecksSpec)) walkChecksUptoCard

/-- THE SECOND FORM's CARD OF 'coppicelaw14.WalkGets'. -/
def walkGetsUptoCard : Claim7 := { stood := { row := walkGetsUptoRow, standIns := [], harness := (true, "6c11763ae94a30dc6fb86cd9db1ce635d01dd217546c2d5cb1a41eb3bb4747a3"), looks := false }, kinds := [], alts := [], laidByText := true, laidKinds := [.widerDeep], laidTests := true, laidLooks := .later }
def WalkGetsUptoCardSaid : Prop := Claim7.holds Tryz.pinned (.plain (OpenSpec.upto walkGetsSpec)) walkGetsUptoCard

/-- THE SECOND FORM's CARD OF 'coppicelaw14.WalkAgrees'. -/
def walkAgreesUptoCard : Claim7 := { stood := { row := walkAgreesUptoRow, standIns := [], harness := (true, "6c11763ae94a30dc6fb86cd9db1ce635d01dd217546c2d5cb1a41eb3bb4747a3"), looks := false }, kinds := [], alts := [], laidByText := true, laidKinds := [.widerDeep], laidTests := true, laidLooks := .later }
def WalkAgreesUptoCardSaid : Prop := Claim7.holds Tryz.pinned (.plain (OpenSpec.upto walkAgreesSpec)) walkAgreesUptoCard

/-- THE SECOND FORM's CARD OF 'coppicelaw14.WalkLists'. -/
def walkListsUptoCard : Claim7 := { stood := { row := walkListsUptoRow, standIns := [], harness := (true, "6c11763ae94a30dc6fb86cd9db1ce635d01dd217546c2d5cb1a41eb3bb4747a3"), looks := false }, kinds := [], alts := [], laidByText := true, laidKinds := [.widerDeep], laidTests := true, laidLooks := .later }
def WalkListsUptoCardSaid : Prop := Claim7.holds Tryz.pinned (.plain (OpenSpec.upto walkListsSpec)) walkListsUptoCard
end Rows
end Go.Proofs.YtiegeadmgpanoaaGreatDoor
