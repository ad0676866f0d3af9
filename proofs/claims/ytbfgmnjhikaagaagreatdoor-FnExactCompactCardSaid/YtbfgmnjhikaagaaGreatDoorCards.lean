/-
  DERIVED. GIVEN WITH THE SEED: THE CARDS: each row of YtbfgmnjhikaagaaGreatDoorRows.lean that lists a variable, with what it lists TIED to the program's text (the seventh form; the later family's looks); each row that meets fmt, with fmt's text TOLD by the authors' own Lean function (tested against real Go, not proved from fmt's source: count such statements apart). THE CARD IS WHAT COUNTS. Prove the row's statement (the work); the ties are given (YtbfgmnjhikaagaaGreatDoorTie.lean); close each card by the builder's one call (the guide's Derived/Test/ToyasCard.lean, 'card_holds'). Laid BY PROGRAM, IN A SANDBOX (cutbox-door.mjs). By AI agents, Wed Nov 11 2026. No macro, syntax, notation, axiom, sorry.
-/
import Derived.Test.YtbfgmnjhikaagaaGreatDoorRows
import GoSem.ClaimSeven
namespace Go.Proofs.YtbfgmnjhikaagaaGreatDoor
namespace Rows

/-- THE TIED CARD OF 'laws.FnExactNodeOk'. -/
def fnExactNodeOkCard : Claim7 := { stood := { row := fnExactNodeOkRow, standIns := [], harness := (true, "a6ba8d38061c69fd48ac94311f6345a740b6093659df377a9e39fa0f645efb89"), looks := true }, kinds := [], alts := [], laidByText := true, laidKinds := [.data, .data, .data, .data, .sentinel, .sentinel, .pinned], laidTests := true, laidLooks := .later }
def FnExactNodeOkCardSaid : Prop := Claim7.holds Tryz.pinned (.plain (OpenSpec.ofChange fnExactNodeOkSpec)) fnExactNodeOkCard

/-- THE TIED CARD OF 'laws.FnExactEntryAt'. -/
def fnExactEntryAtCard : Claim7 := { stood := { row := fnExactEntryAtRow, standIns := [], harness := (true, "a6ba8d38061c69fd48ac94311f6345a740b6093659df377a9e39fa0f645efb89"), looks := true }, kinds := [], alts := [], laidByText := true, laidKinds := [.data, .data, .data, .data, .sentinel, .sentinel, .pinned], laidTests := true, laidLooks := .later }
def FnExactEntryAtCardSaid : Prop := Claim7.holds Tryz.pinned (.plain (OpenSpec.ofChange fnExactEntryAtSpec)) fnExactEntryAtCard

/-- THE TIED CARD OF 'laws.FnExactLastOf'. -/
def fnExactLastOfCard : Claim7 := { stood := { row := fnExactLastOfRow, standIns := [], harness := (true, "a6ba8d38061c69fd48ac94311f6345a740b6093659df377a9e39fa0f645efb89"), looks := true }, kinds := [], alts := [], laidByText := true, laidKinds := [.data, .data, .data, .data, .sentinel, .sentinel, .pinned], laidTests := true, laidLooks := .later }
def FnExactLastOfCardSaid : Prop := Claim7.holds Tryz.pinned (.plain (OpenSpec.ofChange fnExactLastOfSpec)) fnExactLastOfCard

/-- THE TIED CARD OF 'laws.FnExactNodeNew'. -/
def fnExactNodeNewCard : Claim7 := { stood := { row := fnExactNodeNewRow, standIns := [], harness := (true, "a6ba8d38061c69fd48ac94311f6345a740b6093659df377a9e39fa0f645efb89"), looks := true }, kinds := [], alts := [], laidByText := true, laidKinds := [.data, .data, .data, .data, .sentinel, .sentinel, .pinned], laidTests := true, laidLooks := .later }
def FnExactNodeNewCardSaid : Prop := Claim7.holds Tryz.pinned (.plain (OpenSpec.ofChange fnExactNodeNewSpec)) fnExactNodeNewCard

/-- THE TIED CARD OF 'laws.FnExactAgreed'. -/
def fnExactAgreedCard : Claim7 := { stood := { row := fnExactAgreedRow, standIns := [], harness := (true, "a6ba8d38061c69fd48ac94311f6345a740b6093659df377a9e39fa0f645efb89"), looks := true }, kinds := [], alts := [], laidByText := true, laidKinds := [.data, .data, .data, .data, .sentinel, .sentinel, .pinned], laidTests := true, laidLooks := .later }
def FnExactAgreedCardSaid : Prop := Claim7.holds Tryz.pinned (.plain (OpenSpec.ofChange fnExactAgreedSpec)) fnExactAgreedCard

/-- THE TIED CARD OF 'laws.FnExactConfNow'. -/
def fnExactConfNowCard : Claim7 := { stood := { row := fnExactConfNowRow, standIns := [], harness := (true, "a6ba8d38061c69fd48ac94311f6345a740b6093659df377a9e39fa0f645efb89"), looks := true }, kinds := [], alts := [], laidByText := true, laidKinds := [.data, .data, .data, .data, .sentinel, .sentinel, .pinned], laidTests := true, laidLooks := .later }
def FnExactConfNowCardSaid : Prop := Claim7.holds Tryz.pinned (.plain (OpenSpec.ofChange fnExactConfNowSpec)) fnExactConfNowCard

/-- THE TIED CARD OF 'laws.FnExactCompact'. -/
def fnExactCompactCard : Claim7 := { stood := { row := fnExactCompactRow, standIns := [], harness := (true, "a6ba8d38061c69fd48ac94311f6345a740b6093659df377a9e39fa0f645efb89"), looks := true }, kinds := [], alts := [], laidByText := true, laidKinds := [.data, .data, .data, .data, .sentinel, .sentinel, .pinned], laidTests := true, laidLooks := .later }
def FnExactCompactCardSaid : Prop := Claim7.holds Tryz.pinned (.plain (OpenSpec.ofChange fnExactCompactSpec)) fnExactCompactCard

/-- THE SECOND FORM's CARD OF 'laws.FnExactNodeOk'. -/
def fnExactNodeOkUptoCard : Claim7 := { stood := { row := fnExactNodeOkUptoRow, standIns := [], harness := (true, "a6ba8d38061c69fd48ac94311f6345a740b6093659df377a9e39fa0f645efb89"), looks := true }, kinds := [], alts := [], laidByText := true, laidKinds := [.data, .data, .data, .data, .sentinel, .sentinel, .pinned], laidTests := true, laidLooks := .later }
def FnExactNodeOkUptoCardSaid : Prop := Claim7.holds Tryz.pinned (.plain (OpenSpec.upto fnExactNodeOkSpec)) fnExactNodeOkUptoCard

/-- THE SECOND FORM's CARD OF 'laws.FnExactEntryAt'. -/
def fnExactEntryAtUptoCard : Claim7 := { stood := { row := fnExactEntryAtUptoRow, standIns := [], harness := (true, "a6ba8d38061c69fd48ac94311f6345a740b6093659df377a9e39fa0f645efb89"), looks := true }, kinds := [], alts := [], laidByText := true, laidKinds := [.data, .data, .data, .data, .sentinel, .sentinel, .pinned], laidTests := true, laidLooks := .later }
def FnExactEntryAtUptoCardSaid : Prop := Claim7.holds Tryz.pinned (.plain (OpenSpec.upto fnExactEntryAtSpec)) fnExactEntryAtUptoCard

/-- THE SECOND FORM's CARD OF 'laws.FnExactLastOf'. -/
def fnExactLastOfUptoCard : Claim7 := { stood := { row := fnExactLastOfUptoRow, standIns := [], harness := (true, "a6ba8d38061c69fd48ac94311f6345a740b6093659df377a9e39fa0f645efb89"), looks := true }, kinds := [], alts := [], laidByText := true, laidKinds := [.data, .data, .data, .data, .sentinel, .sentinel, .pinned], laidTests := true, laidLooks := .later }
def FnExactLastOfUptoCardSaid : Prop := Claim7.holds Tryz.pinned (.plain (OpenSpec.upto fnExactLastOfSpec)) fnExactLastOfUptoCard

/-- THE SECOND FORM's CARD OF 'laws.FnExactNodeNew'. -/
def fnExactNodeNewUptoCard : Claim7 := { stood := { row := fnExactNodeNewUptoRow, standIns := [], harness := (true, "a6ba8d38061c69fd48ac94311f6345a740b6093659df377a9e39fa0f645efb89"), looks := true }, kinds := [], alts := [], laidByText := true, laidKinds := [.data, .data, .data, .data, .sentinel, .sentinel, .pinned], laidTests := true, laidLooks := .later }
def FnExactNodeNewUptoCardSaid : Prop := Claim7.holds Tryz.pinned (.plain (OpenSpec.upto fnExactNodeNewSpec)) fnExactNodeNewUptoCard

/-- THE SECOND FORM's CARD OF 'laws.FnExactAgreed'. -/
def fnExactAgreedUptoCard : Claim7 := { stood := { row := fnExactAgreedUptoRow, standIns := [], harness := (true, "a6ba8d38061c69fd48ac94311f6345a740b6093659df377a9e39fa0f645efb89"), looks := true }, kinds := [], alts := [], laidByText := true, laidKinds := [.data, .data, .data, .data, .sentinel, .sentinel, .pinned], laidTests := true, laidLooks := .later }
def FnExactAgreedUptoCardSaid : Prop := Claim7.holds Tryz.pinned (.plain (OpenSpec.upto fnExactAgreedSpec)) fnExactAgreedUptoCard

/-- THE SECOND FORM's CARD OF 'laws.FnExactConfNow'. -/
def fnExactConfNowUptoCard : Claim7 := { stood := { row := fnExactConfNowUptoRow, standIns := [], harness := (true, "a6ba8d38061c69fd48ac94311f6345a740b6093659df377a9e39fa0f645efb89"), looks := true }, kinds := [], alts := [], laidByText := true, laidKinds := [.data, .data, .data, .data, .sentinel, .sentinel, .pinned], laidTests := true, laidLooks := .later }
def FnExactConfNowUptoCardSaid : Prop := Claim7.holds Tryz.pinned (.plain (OpenSpec.upto fnExactConfNowSpec)) fnExactConfNowUptoCard

/-- THE SECOND FORM's CARD OF 'laws.FnExactCompact'. -/
def fnExactCompactUptoCard : Claim7 := { stood := { row := fnExactCompactUptoRow, standIns := [], harness := (true, "a6ba8d38061c69fd48ac94311f6345a740b6093659df377a9e39fa0f645efb89"), looks := true }, kinds := [], alts := [], laidByText := true, laidKinds := [.data, .data, .data, .data, .sentinel, .sentinel, .pinned], laidTests := true, laidLooks := .later }
def FnExactCompactUptoCardSaid : Prop := Claim7.holds Tryz.pinned (.plain (OpenSpec.upto fnExactCompactSpec)) fnExactCompactUptoCard
end Rows
end Go.Proofs.YtbfgmnjhikaagaaGreatDoor
