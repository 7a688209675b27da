/-
  DERIVED. GIVEN WITH THE SEED: THE CARDS: each row of YtegknlkeokfghaaDoorRows.lean that lists a variable, with what it lists TIED to the program's text (the seventh form; the later family's looks); each row that meets fmt, with fmt's text TOLD by the authors' own Lean function (tested against real Go, not proved from fmt's source: count such statements apart). THE CARD IS WHAT COUNTS. Prove the row's statement (the work); the ties are given (YtegknlkeokfghaaDoorTie.lean); close each card by the builder's one call (the guide's Derived/Test/ToyasCard.lean, 'card_holds'). Laid BY PROGRAM, IN A SANDBOX (cutbox-door.mjs). By AI agents, Wed Nov 11 2026. No macro, syntax, notation, axiom, sorry.
-/
import Derived.Test.YtegknlkeokfghaaDoorRows
import GoSem.ClaimSeven
namespace Go.Proofs.YtegknlkeokfghaaDoor
namespace Rows

/-- THE TIED CARD OF 'verdererlaw07.SchemaLines'. -/
def schemaLinesCard : Claim7 := { stood := { row := schemaLinesRow, standIns := [], harness := (true, "8ef8e51665f7baad78e7b9b53b85d4764ff31e915e9ccc6e70b9c671d41044c5"), looks := false }, kinds := [], alts := [], laidByText := true, laidKinds := [.data, .pinned], laidTests := true, laidLooks := .later }
def SchemaLinesCardSaid : Prop := Claim7.holds Tryd.pinned (.plain (OpenSpec.ofChange schemaLinesSpec)) schemaLinesCard

/-- THE TIED CARD OF 'verdererlaw07.SchemaNames'. -/
def schemaNamesCard : Claim7 := { stood := { row := schemaNamesRow, standIns := [], harness := (true, "8ef8e51665f7baad78e7b9b53b85d4764ff31e915e9ccc6e70b9c671d41044c5"), looks := false }, kinds := [], alts := [], laidByText := true, laidKinds := [.data, .pinned], laidTests := true, laidLooks := .later }
def SchemaNamesCardSaid : Prop := Claim7.holds Tryd.pinned (.plain (OpenSpec.ofChange schemaNamesSpec)) schemaNamesCard

/-- THE TIED CARD OF 'verdererlaw07.SchemaMakes'. -/
def schemaMakesCard : Claim7 := { stood := { row := schemaMakesRow, standIns := [], harness := (true, "8ef8e51665f7baad78e7b9b53b85d4764ff31e915e9ccc6e70b9c671d41044c5"), looks := false }, kinds := [], alts := [], laidByText := true, laidKinds := [.data, .pinned], laidTests := true, laidLooks := .later }
def SchemaMakesCardSaid : Prop := Claim7.holds Tryd.pinned (.plain (OpenSpec.ofChange schemaMakesSpec)) schemaMakesCard

/-- THE TIED CARD OF 'verdererlaw07.SchemaFits'. -/
def schemaFitsCard : Claim7 := { stood := { row := schemaFitsRow, standIns := [], harness := (true, "8ef8e51665f7baad78e7b9b53b85d4764ff31e915e9ccc6e70b9c671d41044c5"), looks := false }, kinds := [], alts := [], laidByText := true, laidKinds := [.data, .pinned], laidTests := true, laidLooks := .later }
def SchemaFitsCardSaid : Prop := Claim7.holds Tryd.pinned (.plain (OpenSpec.ofChange schemaFitsSpec)) schemaFitsCard

/-- THE TIED CARD OF 'verdererlaw07.SchemaNil'. -/
def schemaNilCard : Claim7 := { stood := { row := schemaNilRow, standIns := [], harness := (true, "8ef8e51665f7baad78e7b9b53b85d4764ff31e915e9ccc6e70b9c671d41044c5"), looks := false }, kinds := [], alts := [], laidByText := true, laidKinds := [.data, .pinned], laidTests := true, laidLooks := .later }
def SchemaNilCardSaid : Prop := Claim7.holds Tryd.pinned (.plain (OpenSpec.ofChange schemaNilSpec)) schemaNilCard

/-- THE SECOND FORM's CARD OF 'verdererlaw07.SchemaLines'. -/
def schemaLinesUptoCard : Claim7 := { stood := { row := schemaLinesUptoRow, standIns := [], harness := (true, "8ef8e51665f7baad78e7b9b53b85d4764ff31e915e9ccc6e70b9c671d41044c5"), looks := false }, kinds := [], alts := [], laidByText := true, laidKinds := [.data, .pinned], laidTests := true, laidLooks := .later }
def SchemaLinesUptoCardSaid : Prop := Claim7.holds Tryd.pinned (.plain (OpenSpec.upto schemaLinesSpec)) schemaLinesUptoCard

/-- THE SECOND FORM's CARD OF 'verdererlaw07.SchemaNames'. -/
def schemaNamesUptoCard : Claim7 := { stood := { row := schemaNamesUptoRow, standIns := [], harness := (true, "8ef8e51665f7baad78e7b9b53b85d4764ff31e915e9ccc6e70b9c671d41044c5"), looks := false }, kinds := [], alts := [], laidByText := true, laidKinds := [.data, .pinned], laidTests := true, laidLooks := .later }
def SchemaNamesUptoCardSaid : Prop := Claim7.holds Tryd.pinned (.plain (OpenSpec.upto schemaNamesSpec)) schemaNamesUptoCard

/-- THE SECOND FORM's CARD OF 'verdererlaw07.SchemaMakes'. -/
def schemaMakesUptoCard : Claim7 := { stood := { row := schemaMakesUptoRow, standIns := [], harness := (true, "8ef8e51665f7baad78e7b9b53b85d4764ff31e915e9ccc6e70b9c671d41044c5"), looks := false }, kinds := [], alts := [], laidByText := true, laidKinds := [.data, .pinned], laidTests := true, laidLooks := .later }
def SchemaMakesUptoCardSaid : Prop := Claim7.holds Tryd.pinned (.plain (OpenSpec.upto schemaMakesSpec)) schemaMakesUptoCard

/-- THE SECOND FORM's CARD OF 'verdererlaw07.SchemaFits'. -/
def schemaFitsUptoCard : Claim7 := { stood := { row := schemaFitsUptoRow, standIns := [], harness := (true, "8ef8e51665f7baad78e7b9b53b85d4764ff31e915e9ccc6e70b9c671d41044c5"), looks := false }, kinds := [], alts := [], laidByText := true, laidKinds := [.data, .pinned], laidTests := true, laidLooks := .later }
def SchemaFitsUptoCardSaid : Prop := Claim7.holds Tryd.pinned (.plain (OpenSpec.upto schemaFitsSpec)) schemaFitsUptoCard

/-- THE SECOND FORM's CARD OF 'verdererlaw07.SchemaNil'. -/
def schemaNilUptoCard : Claim7 := { stood := { row := schemaNilUptoRow, standIns := [], harness := (true, "8ef8e51665f7baad78e7b9b53b85d4764ff31e915e9ccc6e70b9c671d41044c5"), looks := false }, kinds := [], alts := [], laidByText := true, laidKinds := [.data, .pinned], laidTests := true, laidLooks := .later }
def SchemaNilUptoCardSaid : Prop := Claim7.holds Tryd.pinned (.plain (OpenSpec.upto schemaNilSpec)) schemaNilUptoCard
end Rows
end Go.Proofs.YtegknlkeokfghaaDoor
