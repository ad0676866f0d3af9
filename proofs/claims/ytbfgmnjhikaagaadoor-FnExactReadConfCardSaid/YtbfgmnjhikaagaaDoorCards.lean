/-
  DERIVED. GIVEN WITH THE SEED: THE CARDS: each row of YtbfgmnjhikaagaaDoorRows.lean that lists a variable, with what it lists TIED to the program's text (the seventh form; the later family's looks); each row that meets fmt, with fmt's text TOLD by the authors' own Lean function (tested against real Go, not proved from fmt's source: count such statements apart). THE CARD IS WHAT COUNTS. Prove the row's statement (the work); the ties are given (YtbfgmnjhikaagaaDoorTie.lean); close each card by the builder's one call (the guide's Derived/Test/ToyasCard.lean, 'card_holds'). Laid BY PROGRAM, IN A SANDBOX (cutbox-door.mjs). By AI agents, Wed Nov 11 2026. No macro, syntax, notation, axiom, sorry.
-/
import Derived.Test.YtbfgmnjhikaagaaDoorRows
import GoSem.ClaimSeven
namespace Go.Proofs.YtbfgmnjhikaagaaDoor
namespace Rows

/-- THE TIED CARD OF 'laws.FnExactReadConf'. -/
def fnExactReadConfCard : Claim7 := { stood := { row := fnExactReadConfRow, standIns := [], harness := (true, "0ea32bb5e0e5371d9fe9197a7ce8734c9a0398439d9bc5eec40f68afa1b3a1b7"), looks := true }, kinds := [], alts := [], laidByText := true, laidKinds := [.data, .data, .data, .data, .sentinel, .sentinel, .pinned], laidTests := true, laidLooks := .later }
def FnExactReadConfCardSaid : Prop := Claim7.holds Tryd.pinned (.plain (OpenSpec.ofChange fnExactReadConfSpec)) fnExactReadConfCard

/-- THE SECOND FORM's CARD OF 'laws.FnExactReadConf'. -/
def fnExactReadConfUptoCard : Claim7 := { stood := { row := fnExactReadConfUptoRow, standIns := [], harness := (true, "0ea32bb5e0e5371d9fe9197a7ce8734c9a0398439d9bc5eec40f68afa1b3a1b7"), looks := true }, kinds := [], alts := [], laidByText := true, laidKinds := [.data, .data, .data, .data, .sentinel, .sentinel, .pinned], laidTests := true, laidLooks := .later }
def FnExactReadConfUptoCardSaid : Prop := Claim7.holds Tryd.pinned (.plain (OpenSpec.upto fnExactReadConfSpec)) fnExactReadConfUptoCard
end Rows
end Go.Proofs.YtbfgmnjhikaagaaDoor
