/-
  DERIVED. GIVEN WITH THE SEED: THE CARDS: each row of YtkbhnkagiaghnaaDoorRows.lean that lists a variable, with what it lists TIED to the program's text (the seventh form; the later family's looks); each row that meets fmt, with fmt's text TOLD by the authors' own Lean function (tested against real Go, not proved from fmt's source: count such statements apart). THE CARD IS WHAT COUNTS. Prove the row's statement (the work); the ties are given (YtkbhnkagiaghnaaDoorTie.lean); close each card by the builder's one call (the guide's Derived/Test/ToyasCard.lean, 'card_holds'). Laid BY PROGRAM, IN A SANDBOX (cutbox-door.mjs). By AI agents, Wed Nov 11 2026. No macro, syntax, notation, axiom, sorry.
-/
import Derived.Test.YtkbhnkagiaghnaaDoorRows
import GoSem.ClaimSeven
namespace Go.Proofs.YtkbhnkagiaghnaaDoor
namespace Rows

/-- THE TIED CARD OF 'styluslaw52.MergePieces'. -/
def mergePiecesCard : Claim7 := { stood := { row := mergePiecesRow, standIns := [], harness := (true, "222db2b385081d93ee51fc1738db282d076320e2a6ed53f9a69e4b3af1a0ce22"), looks := false }, kinds := [], alts := [], laidByText := true, laidKinds := [.data, .pinned], laidTests := true, laidLooks := .later }
def MergePiecesCardSaid : Prop := Claim7.holds Tryd.pinned (.plain (OpenSpec.ofChange mergePiecesSpec)) mergePiecesCard

/-- THE TIED CARD OF 'styluslaw52.MergeTells'. -/
def mergeTellsCard : Claim7 := { stood := { row := mergeTellsRow, standIns := [], harness := (true, "222db2b385081d93ee51fc1738db282d076320e2a6ed53f9a69e4b3af1a0ce22"), looks := false }, kinds := [], alts := [], laidByText := true, laidKinds := [.data, .pinned], laidTests := true, laidLooks := .later }
def MergeTellsCardSaid : Prop := Claim7.holds Tryd.pinned (.plain (OpenSpec.ofChange mergeTellsSpec)) mergeTellsCard

/-- THE TIED CARD OF 'styluslaw52.MergeSides'. -/
def mergeSidesCard : Claim7 := { stood := { row := mergeSidesRow, standIns := [], harness := (true, "222db2b385081d93ee51fc1738db282d076320e2a6ed53f9a69e4b3af1a0ce22"), looks := false }, kinds := [], alts := [], laidByText := true, laidKinds := [.data, .pinned], laidTests := true, laidLooks := .later }
def MergeSidesCardSaid : Prop := Claim7.holds Tryd.pinned (.plain (OpenSpec.ofChange mergeSidesSpec)) mergeSidesCard

/-- THE SECOND FORM's CARD OF 'styluslaw52.MergePieces'. -/
def mergePiecesUptoCard : Claim7 := { stood := { row := mergePiecesUptoRow, standIns := [], harness := (true, "222db2b385081d93ee51fc1738db282d076320e2a6ed53f9a69e4b3af1a0ce22"), looks := false }, kinds := [], alts := [], laidByText := true, laidKinds := [.data, .pinned], laidTests := true, laidLooks := .later }
def MergePiecesUptoCardSaid : Prop := Claim7.holds Tryd.pinned (.plain (OpenSpec.upto mergePiecesSpec)) mergePiecesUptoCard

/-- THE SECOND FORM's CARD OF 'styluslaw52.MergeTells'. -/
def mergeTellsUptoCard : Claim7 := { stood := { row := mergeTellsUptoRow, standIns := [], harness := (true, "222db2b385081d93ee51fc1738db282d076320e2a6ed53f9a69e4b3af1a0ce22"), looks := false }, kinds := [], alts := [], laidByText := true, laidKinds := [.data, .pinned], laidTests := true, laidLooks := .later }
def MergeTellsUptoCardSaid : Prop := Claim7.holds Tryd.pinned (.plain (OpenSpec.upto mergeTellsSpec)) mergeTellsUptoCard

/-- THE SECOND FORM's CARD OF 'styluslaw52.MergeSides'. -/
def mergeSidesUptoCard : Claim7 := { stood := { row := mergeSidesUptoRow, standIns := [], harness := (true, "222db2b385081d93ee51fc1738db282d076320e2a6ed53f9a69e4b3af1a0ce22"), looks := false }, kinds := [], alts := [], laidByText := true, laidKinds := [.data, .pinned], laidTests := true, laidLooks := .later }
def MergeSidesUptoCardSaid : Prop := Claim7.holds Tryd.pinned (.plain (OpenSpec.upto mergeSidesSpec)) mergeSidesUptoCard
end Rows
end Go.Proofs.YtkbhnkagiaghnaaDoor
