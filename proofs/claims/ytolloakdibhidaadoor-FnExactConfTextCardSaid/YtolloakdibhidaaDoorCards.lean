/-
  DERIVED. GIVEN WITH THE SEED: THE CARDS: each row of YtolloakdibhidaaDoorRows.lean that lists a variable, with what it lists TIED to the program's text (the seventh form; the later family's looks); each row that meets fmt, with fmt's text TOLD by the authors' own Lean function (tested against real Go, not proved from fmt's source: count such statements apart). THE CARD IS WHAT COUNTS. Prove the row's statement (the work); the ties are given (YtolloakdibhidaaDoorTie.lean); close each card by the builder's one call (the guide's Derived/Test/ToyasCard.lean, 'card_holds'). Laid BY PROGRAM, IN A SANDBOX (cutbox-door.mjs). By AI agents, Wed Nov 11 2026. No macro, syntax, notation, axiom, sorry.
-/
import Derived.Test.YtolloakdibhidaaDoorRows
import GoSem.ClaimSeven
namespace Go.Proofs.YtolloakdibhidaaDoor
namespace Rows

/-- THE TIED CARD OF 'laws.FnExactConfText'. -/
def fnExactConfTextCard : Claim7 := { stood := { row := fnExactConfTextRow, standIns := [], harness := (true, "cb7a405d659971175e61bb6804c5aee422b8040bd3dd19f3fb3a02b43e27388c"), looks := true }, kinds := [], alts := [], laidByText := true, laidKinds := [.data, .data, .data], laidTests := true, laidLooks := .later }
def FnExactConfTextCardSaid : Prop := Claim7.holds Tryd.pinned (.plain (OpenSpec.ofChange fnExactConfTextSpec)) fnExactConfTextCard

/-- THE TIED CARD OF 'laws.FnExactReadConf'. -/
def fnExactReadConfCard : Claim7 := { stood := { row := fnExactReadConfRow, standIns := [], harness := (true, "cb7a405d659971175e61bb6804c5aee422b8040bd3dd19f3fb3a02b43e27388c"), looks := true }, kinds := [], alts := [], laidByText := true, laidKinds := [.data, .data, .data, .data, .sentinel, .sentinel, .pinned], laidTests := true, laidLooks := .later }
def FnExactReadConfCardSaid : Prop := Claim7.holds Tryd.pinned (.plain (OpenSpec.ofChange fnExactReadConfSpec)) fnExactReadConfCard

/-- THE SECOND FORM's CARD OF 'laws.FnExactConfText'. -/
def fnExactConfTextUptoCard : Claim7 := { stood := { row := fnExactConfTextUptoRow, standIns := [], harness := (true, "cb7a405d659971175e61bb6804c5aee422b8040bd3dd19f3fb3a02b43e27388c"), looks := true }, kinds := [], alts := [], laidByText := true, laidKinds := [.data, .data, .data], laidTests := true, laidLooks := .later }
def FnExactConfTextUptoCardSaid : Prop := Claim7.holds Tryd.pinned (.plain (OpenSpec.upto fnExactConfTextSpec)) fnExactConfTextUptoCard

/-- THE SECOND FORM's CARD OF 'laws.FnExactReadConf'. -/
def fnExactReadConfUptoCard : Claim7 := { stood := { row := fnExactReadConfUptoRow, standIns := [], harness := (true, "cb7a405d659971175e61bb6804c5aee422b8040bd3dd19f3fb3a02b43e27388c"), looks := true }, kinds := [], alts := [], laidByText := true, laidKinds := [.data, .data, .data, .data, .sentinel, .sentinel, .pinned], laidTests := true, laidLooks := .later }
def FnExactReadConfUptoCardSaid : Prop := Claim7.holds Tryd.pinned (.plain (OpenSpec.upto fnExactReadConfSpec)) fnExactReadConfUptoCard
end Rows
end Go.Proofs.YtolloakdibhidaaDoor
