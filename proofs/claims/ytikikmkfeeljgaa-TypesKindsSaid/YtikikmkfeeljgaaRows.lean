/-
  No cell of these rows narrows 'for every input' (looked for: loops, veiled, ifaces, maps, wideKeys, modest, calm, conditions, laid).
  DERIVED. THE GIVEN ROWS OF THIS SEAT. 5 by the template 'for every input the law returns true; each argument reads behind the call as it read before'; 0 by the template 'total and deterministic' (their statements: YtikikmkfeeljgaaTotals.lean).
  GIVEN WITH THE SEED: the statements are not yours to turn. If you find one false, say at which input.
  Laid BY PROGRAM, IN A SANDBOX (cutbox-rows.mjs): the forced cells as the released guide's own fill.sh prints them over the translation 7a38fffed3174ae0… (all of the seat's roots in one cut). By AI agents, Wed Nov 11 2026. No macro, syntax, notation, axiom, sorry.
-/
import Derived.Test.YtikikmkfeeljgaaChecked
import GoSem.Claim
import GoSem.ClaimJoined
import GoSem.ClaimMapViews
import Derived.JoinedTies
import Derived.KernelRfl
namespace Go.Proofs.Ytikikmkfeeljgaa
/- THE CELL 'sum', in the pinned program and in every row, IS THE sha256 OF THE DUMP (.gsa) THAT YtikikmkfeeljgaaProg.lean LOADS. Nothing in Lean hashes anything: it is a label: what it is worth is what the hold of that sum in a sandbox is worth. -/
noncomputable def Try.pinned : Pinned := { name := "ytikikmkfeeljgaa", sum := "7a38fffed3174ae029221edc048803820a2a1bc5dba94ed7bc87b83572cbd282", checked := Try.checked }
namespace Rows
def none {H : Type} : Left H := { results := [], args := [] }

/-- 'verdererlaw15.GuardTells': WHATEVER THE INPUT: true; the input reads as it did. -/
def guardTellsSpec : ChangeSpec := { name := "guardTells", fn := fun _ => fun
  | [d] => { results := [.lit (.bool true)], args := [d] }
  | _ => none }
def guardTellsRow : OpenClaim := { program := "ytikikmkfeeljgaa", sum := "7a38fffed3174ae029221edc048803820a2a1bc5dba94ed7bc87b83572cbd282", func := "verderer/verdererlaw15.GuardTells", spec := "guardTells", unfollowed := true, recurses := true, apart := false }
def GuardTellsSaid : Prop := guardTellsRow.holds Try.pinned (OpenSpec.ofChange guardTellsSpec)

/-- ITS FALSE NEIGHBOUR: 'it returns false'. Refute it at one input. -/
def guardTellsWrong : ChangeSpec := { name := "guardTells", fn := fun _ => fun
  | [d] => { results := [.lit (.bool false)], args := [d] }
  | _ => none }
def GuardTellsWrongFalsely : Prop := guardTellsRow.holds Try.pinned (OpenSpec.ofChange guardTellsWrong)

/-- 'verdererlaw15.GuardAll': WHATEVER THE INPUT: true; the input reads as it did. -/
def guardAllSpec : ChangeSpec := { name := "guardAll", fn := fun _ => fun
  | [d] => { results := [.lit (.bool true)], args := [d] }
  | _ => none }
def guardAllRow : OpenClaim := { program := "ytikikmkfeeljgaa", sum := "7a38fffed3174ae029221edc048803820a2a1bc5dba94ed7bc87b83572cbd282", func := "verderer/verdererlaw15.GuardAll", spec := "guardAll", unfollowed := true, recurses := true, apart := false }
def GuardAllSaid : Prop := guardAllRow.holds Try.pinned (OpenSpec.ofChange guardAllSpec)

/-- ITS FALSE NEIGHBOUR: 'it returns false'. Refute it at one input. -/
def guardAllWrong : ChangeSpec := { name := "guardAll", fn := fun _ => fun
  | [d] => { results := [.lit (.bool false)], args := [d] }
  | _ => none }
def GuardAllWrongFalsely : Prop := guardAllRow.holds Try.pinned (OpenSpec.ofChange guardAllWrong)

/-- 'verdererlaw14.TypesKinds': WHATEVER THE INPUT: true; the input reads as it did. -/
def typesKindsSpec : ChangeSpec := { name := "typesKinds", fn := fun _ => fun
  | [d1, d2] => { results := [.lit (.bool true)], args := [d1, d2] }
  | _ => none }
def typesKindsRow : OpenClaim := { program := "ytikikmkfeeljgaa", sum := "7a38fffed3174ae029221edc048803820a2a1bc5dba94ed7bc87b83572cbd282", func := "verderer/verdererlaw14.TypesKinds", spec := "typesKinds", unfollowed := true, recurses := true, apart := false }
def TypesKindsSaid : Prop := typesKindsRow.holds Try.pinned (OpenSpec.ofChange typesKindsSpec)

/-- ITS FALSE NEIGHBOUR: 'it returns false'. Refute it at one input. -/
def typesKindsWrong : ChangeSpec := { name := "typesKinds", fn := fun _ => fun
  | [d1, d2] => { results := [.lit (.bool false)], args := [d1, d2] }
  | _ => none }
def TypesKindsWrongFalsely : Prop := typesKindsRow.holds Try.pinned (OpenSpec.ofChange typesKindsWrong)

/-- 'verdererlaw14.TypesOrder': WHATEVER THE INPUT: true; the input reads as it did. -/
def typesOrderSpec : ChangeSpec := { name := "typesOrder", fn := fun _ => fun
  | [d1, d2] => { results := [.lit (.bool true)], args := [d1, d2] }
  | _ => none }
def typesOrderRow : OpenClaim := { program := "ytikikmkfeeljgaa", sum := "7a38fffed3174ae029221edc048803820a2a1bc5dba94ed7bc87b83572cbd282", func := "verderer/verdererlaw14.TypesOrder", spec := "typesOrder", unfollowed := true, recurses := true, apart := false }
def TypesOrderSaid : Prop := typesOrderRow.holds Try.pinned (OpenSpec.ofChange typesOrderSpec)

/-- ITS FALSE NEIGHBOUR: 'it returns false'. Refute it at one input. -/
def typesOrderWrong : ChangeSpec := { name := "typesOrder", fn := fun _ => fun
  | [d1, d2] => { results := [.lit (.bool false)], args := [d1, d2] }
  | _ => none }
def TypesOrderWrongFalsely : Prop := typesOrderRow.holds Try.pinned (OpenSpec.ofChange typesOrderWrong)

/-- 'verdererlaw14.TypesNil': WHATEVER THE INPUT: true; the input reads as it did. -/
def typesNilSpec : ChangeSpec := { name := "typesNil", fn := fun _ => fun
  | [d] => { results := [.lit (.bool true)], args := [d] }
  | _ => none }
def typesNilRow : OpenClaim := { program := "ytikikmkfeeljgaa", sum := "7a38fffed3174ae029221edc048803820a2a1bc5dba94ed7bc87b83572cbd282", func := "verderer/verdererlaw14.TypesNil", spec := "typesNil", unfollowed := true, recurses := true, apart := false }
def TypesNilSaid : Prop := typesNilRow.holds Try.pinned (OpenSpec.ofChange typesNilSpec)

/-- ITS FALSE NEIGHBOUR: 'it returns false'. Refute it at one input. -/
def typesNilWrong : ChangeSpec := { name := "typesNil", fn := fun _ => fun
  | [d] => { results := [.lit (.bool false)], args := [d] }
  | _ => none }
def TypesNilWrongFalsely : Prop := typesNilRow.holds Try.pinned (OpenSpec.ofChange typesNilWrong)

/- THE SECOND FORM. 'bulk': how many values and letters a reading holds, each counted each time it is reached (what is shared counts as often as it is met; a slice's spare places count too). A statement '..UptoSaid' is the law's where the arguments, and the package variables that the reading takes, are together of bulk at most 1048576: NARROWER than '..Said'. Prove '..Said' where nothing that the law and all that it calls make is longer than what came in: it says more and counts as full. Else prove '..UptoSaid'. A law counts once. -/
mutual
def uptoBulk {H : Type} : DataW H → Nat
  | .lit (.string bytes) => bytes.length + 1
  | .lit _ => 1
  | .nil => 1
  | .ptr d => uptoBulk d + 1
  | .slice elems spare => uptoBulkAll elems + uptoBulkAll spare + 1
  | .agg parts => uptoBulkAll parts + 1
  | .iface _ d => uptoBulk d + 1
  | .map entries => uptoBulkEntries entries + 1
  | .held _ => 1
def uptoBulkAll {H : Type} : List (DataW H) → Nat
  | [] => 0
  | d :: r => uptoBulk d + uptoBulkAll r
def uptoBulkEntries {H : Type} : List (Lit × DataW H) → Nat
  | [] => 0
  | x :: r => uptoBulkEntry x + uptoBulkEntries r
def uptoBulkEntry {H : Type} : Lit × DataW H → Nat
  | (.string bytes, d) => bytes.length + uptoBulk d + 1
  | (_, d) => uptoBulk d + 1
 end
def uptoSmall : (H : Type) → List (DataW H) → Bool := fun _ ds => decide (uptoBulkAll ds ≤ 1048576)
def OpenSpec.upto (s : _root_.Go.ChangeSpec) : _root_.Go.OpenSpec := { _root_.Go.OpenSpec.ofChange s with cond := some uptoSmall }

/-- 'verdererlaw15.GuardTells', WHERE WHAT IT READS IS OF BULK AT MOST 1048576: true; the input reads as it did. -/
def guardTellsUptoRow : OpenClaim := { program := "ytikikmkfeeljgaa", sum := "7a38fffed3174ae029221edc048803820a2a1bc5dba94ed7bc87b83572cbd282", func := "verderer/verdererlaw15.GuardTells", spec := "guardTells", unfollowed := true, recurses := true, apart := false, narrowed := true }
def GuardTellsUptoSaid : Prop := guardTellsUptoRow.holds Try.pinned (OpenSpec.upto guardTellsSpec)

/-- 'verdererlaw15.GuardAll', WHERE WHAT IT READS IS OF BULK AT MOST 1048576: true; the input reads as it did. -/
def guardAllUptoRow : OpenClaim := { program := "ytikikmkfeeljgaa", sum := "7a38fffed3174ae029221edc048803820a2a1bc5dba94ed7bc87b83572cbd282", func := "verderer/verdererlaw15.GuardAll", spec := "guardAll", unfollowed := true, recurses := true, apart := false, narrowed := true }
def GuardAllUptoSaid : Prop := guardAllUptoRow.holds Try.pinned (OpenSpec.upto guardAllSpec)

/-- 'verdererlaw14.TypesKinds', WHERE WHAT IT READS IS OF BULK AT MOST 1048576: true; the input reads as it did. -/
def typesKindsUptoRow : OpenClaim := { program := "ytikikmkfeeljgaa", sum := "7a38fffed3174ae029221edc048803820a2a1bc5dba94ed7bc87b83572cbd282", func := "verderer/verdererlaw14.TypesKinds", spec := "typesKinds", unfollowed := true, recurses := true, apart := false, narrowed := true }
def TypesKindsUptoSaid : Prop := typesKindsUptoRow.holds Try.pinned (OpenSpec.upto typesKindsSpec)

/-- 'verdererlaw14.TypesOrder', WHERE WHAT IT READS IS OF BULK AT MOST 1048576: true; the input reads as it did. -/
def typesOrderUptoRow : OpenClaim := { program := "ytikikmkfeeljgaa", sum := "7a38fffed3174ae029221edc048803820a2a1bc5dba94ed7bc87b83572cbd282", func := "verderer/verdererlaw14.TypesOrder", spec := "typesOrder", unfollowed := true, recurses := true, apart := false, narrowed := true }
def TypesOrderUptoSaid : Prop := typesOrderUptoRow.holds Try.pinned (OpenSpec.upto typesOrderSpec)

/-- 'verdererlaw14.TypesNil', WHERE WHAT IT READS IS OF BULK AT MOST 1048576: true; the input reads as it did. -/
def typesNilUptoRow : OpenClaim := { program := "ytikikmkfeeljgaa", sum := "7a38fffed3174ae029221edc048803820a2a1bc5dba94ed7bc87b83572cbd282", func := "verderer/verdererlaw14.TypesNil", spec := "typesNil", unfollowed := true, recurses := true, apart := false, narrowed := true }
def TypesNilUptoSaid : Prop := typesNilUptoRow.holds Try.pinned (OpenSpec.upto typesNilSpec)

end Rows
end Go.Proofs.Ytikikmkfeeljgaa
