/-
  DERIVED. GIVEN WITH THE SEED: THE CARDS: each row of YtmjmoagmolgacaaGreatDoorRows.lean that lists a variable, with what it lists TIED to the program's text (the seventh form; the later family's looks); each row that meets fmt, with fmt's text TOLD by the authors' own Lean function (tested against real Go, not proved from fmt's source: count such statements apart). THE CARD IS WHAT COUNTS. Prove the row's statement (the work); the ties are given (YtmjmoagmolgacaaGreatDoorTie.lean); close each card by the builder's one call (the guide's Derived/Test/ToyasCard.lean, 'card_holds'). Laid BY PROGRAM, IN A SANDBOX (cutbox-door.mjs). By AI agents, Wed Nov 11 2026. No macro, syntax, notation, axiom, sorry.
-/
import Derived.Test.YtmjmoagmolgacaaGreatDoorRows
import GoSem.ClaimSeven
namespace Go.Proofs.YtmjmoagmolgacaaGreatDoor
namespace Rows

/-- THE TIED CARD OF 'laws.FnConfs'. -/
def fnConfsCard : Claim7 := { stood := { row := fnConfsRow, standIns := [], harness := (true, "58a9b81b242a43b58e191d3220ad142ffcad4be1b3b26a93fba7e69b7741055d"), looks := true }, kinds := [], alts := [], laidByText := true, laidKinds := [.data, .data, .data, .data, .sentinel, .sentinel, .pinned], laidTests := true, laidLooks := .later }
def FnConfsCardSaid : Prop := Claim7.holds Tryz.pinned (.plain (OpenSpec.ofChange fnConfsSpec)) fnConfsCard

/-- THE TIED CARD OF 'laws.FnExactPropose'. -/
def fnExactProposeCard : Claim7 := { stood := { row := fnExactProposeRow, standIns := [], harness := (true, "58a9b81b242a43b58e191d3220ad142ffcad4be1b3b26a93fba7e69b7741055d"), looks := true }, kinds := [], alts := [], laidByText := true, laidKinds := [.data, .data, .data, .data, .sentinel, .sentinel, .pinned], laidTests := true, laidLooks := .later }
def FnExactProposeCardSaid : Prop := Claim7.holds Tryz.pinned (.plain (OpenSpec.ofChange fnExactProposeSpec)) fnExactProposeCard

/-- THE SECOND FORM's CARD OF 'laws.FnConfs'. -/
def fnConfsUptoCard : Claim7 := { stood := { row := fnConfsUptoRow, standIns := [], harness := (true, "58a9b81b242a43b58e191d3220ad142ffcad4be1b3b26a93fba7e69b7741055d"), looks := true }, kinds := [], alts := [], laidByText := true, laidKinds := [.data, .data, .data, .data, .sentinel, .sentinel, .pinned], laidTests := true, laidLooks := .later }
def FnConfsUptoCardSaid : Prop := Claim7.holds Tryz.pinned (.plain (OpenSpec.upto fnConfsSpec)) fnConfsUptoCard

/-- THE SECOND FORM's CARD OF 'laws.FnExactPropose'. -/
def fnExactProposeUptoCard : Claim7 := { stood := { row := fnExactProposeUptoRow, standIns := [], harness := (true, "58a9b81b242a43b58e191d3220ad142ffcad4be1b3b26a93fba7e69b7741055d"), looks := true }, kinds := [], alts := [], laidByText := true, laidKinds := [.data, .data, .data, .data, .sentinel, .sentinel, .pinned], laidTests := true, laidLooks := .later }
def FnExactProposeUptoCardSaid : Prop := Claim7.holds Tryz.pinned (.plain (OpenSpec.upto fnExactProposeSpec)) fnExactProposeUptoCard
end Rows
end Go.Proofs.YtmjmoagmolgacaaGreatDoor
