/-
  DERIVED. GIVEN WITH THE SEED: THE CARDS: each row of YtnnbinmomendnaaGreatDoorRows.lean that lists a variable, with what it lists TIED to the program's text (the seventh form; the later family's looks); each row that meets fmt, with fmt's text TOLD by the authors' own Lean function (tested against real Go, not proved from fmt's source: count such statements apart). THE CARD IS WHAT COUNTS. Prove the row's statement (the work); the ties are given (YtnnbinmomendnaaGreatDoorTie.lean); close each card by the builder's one call (the guide's Derived/Test/ToyasCard.lean, 'card_holds'). Laid BY PROGRAM, IN A SANDBOX (cutbox-door.mjs). By AI agents, Wed Nov 11 2026. No macro, syntax, notation, axiom, sorry.
-/
import Derived.Test.YtnnbinmomendnaaGreatDoorRows
import GoSem.ClaimSeven
namespace Go.Proofs.YtnnbinmomendnaaGreatDoor
namespace Rows

/-- THE TIED CARD OF 'verdererlaw12.ParseRules'. -/
def parseRulesCard : Claim7 := { stood := { row := parseRulesRow, standIns := [], harness := (true, "404355969b7fa89c73c0d9206da555916a45d91575d61b1fef8be022cd51a0c3"), looks := true }, kinds := [], alts := [], laidByText := true, laidKinds := [.data, .data, .data, .sentinel, .sentinel], laidTests := true, laidLooks := .later }
def ParseRulesCardSaid : Prop := Claim7.holds Tryz.pinned (.plain (OpenSpec.ofChange parseRulesSpec)) parseRulesCard

/-- THE TIED CARD OF 'verdererlaw12.ParseSame'. -/
def parseSameCard : Claim7 := { stood := { row := parseSameRow, standIns := [], harness := (true, "404355969b7fa89c73c0d9206da555916a45d91575d61b1fef8be022cd51a0c3"), looks := true }, kinds := [], alts := [], laidByText := true, laidKinds := [.data, .data, .data, .sentinel, .sentinel], laidTests := true, laidLooks := .later }
def ParseSameCardSaid : Prop := Claim7.holds Tryz.pinned (.plain (OpenSpec.ofChange parseSameSpec)) parseSameCard

/-- THE TIED CARD OF 'verdererlaw13.PrintBack'. -/
def printBackCard : Claim7 := { stood := { row := printBackRow, standIns := [], harness := (true, "404355969b7fa89c73c0d9206da555916a45d91575d61b1fef8be022cd51a0c3"), looks := true }, kinds := [], alts := [], laidByText := true, laidKinds := [.data, .data, .data, .sentinel, .sentinel], laidTests := true, laidLooks := .later }
def PrintBackCardSaid : Prop := Claim7.holds Tryz.pinned (.plain (OpenSpec.ofChange printBackSpec)) printBackCard

/-- THE SECOND FORM's CARD OF 'verdererlaw12.ParseRules'. -/
def parseRulesUptoCard : Claim7 := { stood := { row := parseRulesUptoRow, standIns := [], harness := (true, "404355969b7fa89c73c0d9206da555916a45d91575d61b1fef8be022cd51a0c3"), looks := true }, kinds := [], alts := [], laidByText := true, laidKinds := [.data, .data, .data, .sentinel, .sentinel], laidTests := true, laidLooks := .later }
def ParseRulesUptoCardSaid : Prop := Claim7.holds Tryz.pinned (.plain (OpenSpec.upto parseRulesSpec)) parseRulesUptoCard

/-- THE SECOND FORM's CARD OF 'verdererlaw12.ParseSame'. -/
def parseSameUptoCard : Claim7 := { stood := { row := parseSameUptoRow, standIns := [], harness := (true, "404355969b7fa89c73c0d9206da555916a45d91575d61b1fef8be022cd51a0c3"), looks := true }, kinds := [], alts := [], laidByText := true, laidKinds := [.data, .data, .data, .sentinel, .sentinel], laidTests := true, laidLooks := .later }
def ParseSameUptoCardSaid : Prop := Claim7.holds Tryz.pinned (.plain (OpenSpec.upto parseSameSpec)) parseSameUptoCard

/-- THE SECOND FORM's CARD OF 'verdererlaw13.PrintBack'. -/
def printBackUptoCard : Claim7 := { stood := { row := printBackUptoRow, standIns := [], harness := (true, "404355969b7fa89c73c0d9206da555916a45d91575d61b1fef8be022cd51a0c3"), looks := true }, kinds := [], alts := [], laidByText := true, laidKinds := [.data, .data, .data, .sentinel, .sentinel], laidTests := true, laidLooks := .later }
def PrintBackUptoCardSaid : Prop := Claim7.holds Tryz.pinned (.plain (OpenSpec.upto printBackSpec)) printBackUptoCard
end Rows
end Go.Proofs.YtnnbinmomendnaaGreatDoor
