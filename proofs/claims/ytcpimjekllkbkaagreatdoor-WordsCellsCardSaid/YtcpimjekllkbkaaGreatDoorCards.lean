/-
  DERIVED. GIVEN WITH THE SEED: THE CARDS: each row of YtcpimjekllkbkaaGreatDoorRows.lean that lists a variable, with what it lists TIED to the program's text (the seventh form; the later family's looks); each row that meets fmt, with fmt's text TOLD by the authors' own Lean function (tested against real Go, not proved from fmt's source: count such statements apart). THE CARD IS WHAT COUNTS. Prove the row's statement (the work); the ties are given (YtcpimjekllkbkaaGreatDoorTie.lean); close each card by the builder's one call (the guide's Derived/Test/ToyasCard.lean, 'card_holds'). Laid BY PROGRAM, IN A SANDBOX (cutbox-door.mjs). By AI agents, Wed Nov 11 2026. No macro, syntax, notation, axiom, sorry.
-/
import Derived.Test.YtcpimjekllkbkaaGreatDoorRows
import GoSem.ClaimSeven
namespace Go.Proofs.YtcpimjekllkbkaaGreatDoor
namespace Rows

/-- THE TIED CARD OF 'verdererlaw32.WordsCells'. -/
def wordsCellsCard : Claim7 := { stood := { row := wordsCellsRow, standIns := [], harness := (true, "41f7606caca48c87020c2ffec96ac34b2071ee17dfd94db9c76469c1f9dc753d"), looks := true }, kinds := [], alts := [], laidByText := true, laidKinds := [.data, .data, .data, .data, .sentinel, .sentinel, .pinned], laidTests := true, laidLooks := .later }
def WordsCellsCardSaid : Prop := Claim7.holds Tryz.pinned (.plain (OpenSpec.ofChange wordsCellsSpec)) wordsCellsCard

/-- THE SECOND FORM's CARD OF 'verdererlaw32.WordsCells'. -/
def wordsCellsUptoCard : Claim7 := { stood := { row := wordsCellsUptoRow, standIns := [], harness := (true, "41f7606caca48c87020c2ffec96ac34b2071ee17dfd94db9c76469c1f9dc753d"), looks := true }, kinds := [], alts := [], laidByText := true, laidKinds := [.data, .data, .data, .data, .sentinel, .sentinel, .pinned], laidTests := true, laidLooks := .later }
def WordsCellsUptoCardSaid : Prop := Claim7.holds Tryz.pinned (.plain (OpenSpec.upto wordsCellsSpec)) wordsCellsUptoCard
end Rows
end Go.Proofs.YtcpimjekllkbkaaGreatDoor
