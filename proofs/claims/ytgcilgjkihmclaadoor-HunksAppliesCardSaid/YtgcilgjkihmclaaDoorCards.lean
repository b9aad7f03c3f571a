/-
  DERIVED. GIVEN WITH THE SEED: THE CARDS: each row of YtgcilgjkihmclaaDoorRows.lean that lists a variable, with what it lists TIED to the program's text (the seventh form; the later family's looks); each row that meets fmt, with fmt's text TOLD by the authors' own Lean function (tested against real Go, not proved from fmt's source: count such statements apart). THE CARD IS WHAT COUNTS. Prove the row's statement (the work); the ties are given (YtgcilgjkihmclaaDoorTie.lean); close each card by the builder's one call (the guide's Derived/Test/ToyasCard.lean, 'card_holds'). Laid BY PROGRAM, IN A SANDBOX (cutbox-door.mjs). By AI agents, Wed Nov 11 2026. No macro, syntax, notation, axiom, sorry.
-/
import Derived.Test.YtgcilgjkihmclaaDoorRows
import GoSem.ClaimSeven
namespace Go.Proofs.YtgcilgjkihmclaaDoor
namespace Rows

/-- THE TIED CARD OF 'styluslaw51.HunksApplies'. -/
def hunksAppliesCard : Claim7 := { stood := { row := hunksAppliesRow, standIns := [], harness := (true, "3dbd99a7109e43c3b9a1c10f804e8186cddbfba9f5f3c0b61dd3a46f3e5eb5b8"), looks := false }, kinds := [], alts := [], laidByText := true, laidKinds := [.data, .pinned], laidTests := true, laidLooks := .later }
def HunksAppliesCardSaid : Prop := Claim7.holds Tryd.pinned (.plain (OpenSpec.ofChange hunksAppliesSpec)) hunksAppliesCard

/-- THE SECOND FORM's CARD OF 'styluslaw51.HunksApplies'. -/
def hunksAppliesUptoCard : Claim7 := { stood := { row := hunksAppliesUptoRow, standIns := [], harness := (true, "3dbd99a7109e43c3b9a1c10f804e8186cddbfba9f5f3c0b61dd3a46f3e5eb5b8"), looks := false }, kinds := [], alts := [], laidByText := true, laidKinds := [.data, .pinned], laidTests := true, laidLooks := .later }
def HunksAppliesUptoCardSaid : Prop := Claim7.holds Tryd.pinned (.plain (OpenSpec.upto hunksAppliesSpec)) hunksAppliesUptoCard
end Rows
end Go.Proofs.YtgcilgjkihmclaaDoor
