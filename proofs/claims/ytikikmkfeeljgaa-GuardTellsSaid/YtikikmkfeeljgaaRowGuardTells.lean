/- GuardTells: for every argument the law returns true, and the argument reads as it did. Out of the printed contract, the pure statement, and what the row lists. -/
import Derived.Test.YtikikmkfeeljgaaRows
import Derived.Test.YtikikmkfeeljgaaGx
import Derived.Test.YtikikmkfeeljgaaPureGuardTells
import Derived.Test.YtikikmkfeeljgaaOpen
import Derived.WalkKit
import Derived.ProofKit
import Derived.OpenShut
import Derived.ShutString
import Derived.ChangeOld
import Derived.Below
import Derived.SizedLaws
import Derived.KernelRfl
import Derived.Lib.SmallJoins
namespace Go.Proofs.Ytikikmkfeeljgaa.rowGuardTells
open Go.ChangeShapes Go.WideShapes Go.ChangeAt Go.RowKit Go.Joins Go.Proofs.Ytikikmkfeeljgaa.G Go.Proofs.YtikikmkfeeljgaaW.PrintWords
open Go.ChangeMaps (open_string shut_string)
set_option linter.unusedVariables false
set_option linter.unusedSimpArgs false
theorem own : ownKnob Try.prog.godebug = none := by kernel_rfl
theorem laidOut : laidOutB Try.prog = true := by kernel_rfl
set_option maxRecDepth 100000 in
/-- what every call comes to -/
theorem contract (H : Type) (enc : TypeId × Value → H) (W : World) (base : Nat) (args : Array Value) (ds gs : List (DataW H)) (before : List MemPlace)
  (hval : ∀ (j : Nat) t v, Try.f3.params[j]? = some t → args[j]? = some v → Value.okWide Try.prog W .any base t v)
  (hW : DataW.Whole enc Try.prog Try.f3.params.toList Rows.guardTellsSpec.vars false W args.toList ds gs before)
  (hsz : (DataW.weightsEach Try.prog (Try.f3.params.toList ++ Rows.guardTellsSpec.plain.varTypes Try.prog) (ds ++ gs)).all (· ≤ reachBytes) = true)
  : Calls Try.prog 3 args W fun e W' => ∃ v, e = .returned v ∧ Rows.guardTellsSpec.post enc Try.prog Try.f3 false true false false W args v W' := by
 have hW' := hW
 obtain ⟨p, q, hA0, hV, rfl, hfz, hnd⟩ := hW
 have hA : DataW.TrodAll enc Try.prog W 0 (fun _ => true) true Try.f3.params.toList args.toList ds p := hA0
 rw [Try.params3] at hA hval hsz
 obtain ⟨v0, vs0, d0, ds0, p0, q0, hargs, rfl, rfl, h0, r0⟩ := trodAll_cons hA
 obtain ⟨rfl, rfl, rfl⟩ := trodAll_nil r0
 obtain rfl : args = #[v0] := by cases args; simp_all
 obtain ⟨rfl, rfl⟩ := trodVars_none hV
 obtain ⟨cs0, rfl, _⟩ := okWide_struct Try.underlying25 (hval 0 25 v0 rfl rfl)
 have k0 := h0
 have lt0 : ∀ x ∈ p0, x.block < W.heap.size := by obtain ⟨m, hm⟩ := k0; exact DataW.trod_lt m _ _ _ hm
 obtain ⟨fu0, hf0⟩ := h0
 obtain ⟨a0, hK0, w0⟩ := (Opn.struct Try.underlying25 (by kernel_rfl) (OpnF.cons (Opn.int Try.underlying3) rfl (by kernel_rfl) (OpnF.cons (Opn.string Try.underlying9) rfl (by kernel_rfl) (OpnF.cons (Opn.slice Try.underlying22 (by kernel_rfl) (Opn.string Try.underlying9)) rfl (by kernel_rfl) (OpnF.cons (Opn.int Try.underlying3) rfl (by kernel_rfl) (OpnF.cons (Opn.string Try.underlying9) rfl (by kernel_rfl) (OpnF.cons (Opn.int Try.underlying2) rfl (by kernel_rfl) (OpnF.last (Opn.slice Try.underlying23 (by kernel_rfl) (Opn.iso (f := fun x : S41 => (x.f0, x.f1, x.f2, x.f3)) (fun p => ⟨p.1, p.2.1, p.2.2.1, p.2.2.2⟩) (fun _ => rfl) (Opn.struct Try.underlying41 (by kernel_rfl) (OpnF.cons (Opn.bool Try.underlying4) rfl (by kernel_rfl) (OpnF.cons (Opn.string Try.underlying9) rfl (by kernel_rfl) (OpnF.cons (Opn.slice Try.underlying39 (by kernel_rfl) (Opn.iso (f := fun x : S38 => (x.f0, x.f1, x.f2)) (fun p => ⟨p.1, p.2.1, p.2.2⟩) (fun _ => rfl) (Opn.struct Try.underlying38 (by kernel_rfl) (OpnF.cons (Opn.string Try.underlying9) rfl (by kernel_rfl) (OpnF.cons (Opn.bool Try.underlying4) rfl (by kernel_rfl) (OpnF.last (Opn.iso (f := fun x : S36 => (x.f0, x.f1, x.f2, x.f3)) (fun p => ⟨p.1, p.2.1, p.2.2.1, p.2.2.2⟩) (fun _ => rfl) (Opn.struct Try.underlying36 (by kernel_rfl) (OpnF.cons (Opn.int Try.underlying3) rfl (by kernel_rfl) (OpnF.cons (Opn.bool Try.underlying4) rfl (by kernel_rfl) (OpnF.cons (Opn.int Try.underlying2) rfl (by kernel_rfl) (OpnF.last (Opn.string Try.underlying9) rfl (by kernel_rfl))))))) rfl (by kernel_rfl))))))) rfl (by kernel_rfl) (OpnF.last (Opn.int Try.underlying3) rfl (by kernel_rfl)))))))) rfl (by kernel_rfl))))))))) H enc W (fun _ => true) fu0 _ _ hf0
 obtain ⟨_, _, e0, rfl, ⟨_, _, rfl, rfl, ⟨_, _, rfl, ⟨Aa0_2_2_1, ca0_2_2_1, rfl, ma0_2_2_1, ga0_2_2_1⟩, ⟨_, _, rfl, rfl, ⟨_, _, rfl, rfl, ⟨_, _, rfl, rfl, ⟨Aa0_2_2_2_2_2_2, ca0_2_2_2_2_2_2, rfl, ma0_2_2_2_2_2_2, ga0_2_2_2_2_2_2⟩⟩⟩⟩⟩⟩⟩ := hK0
 obtain rfl : cs0 = #[.int .i64 a0.1, .string a0.2.1, .slice Aa0_2_2_1 a0.2.2.1.length ca0_2_2_1, .int .i64 a0.2.2.2.1, .string a0.2.2.2.2.1, .int .i64 a0.2.2.2.2.2.1, .slice Aa0_2_2_2_2_2_2 a0.2.2.2.2.2.2.length ca0_2_2_2_2_2_2] := by
  have z : cs0.toList = _ := e0
  rw [← Array.toArray_toList (xs := cs0), z]
  rfl
 clear hf0 e0
 clear hA0 hval
 obtain ⟨k, hk⟩ := Pure.GuardTells a0.1 a0.2.1 a0.2.2.1 a0.2.2.2.1 a0.2.2.2.2.1 a0.2.2.2.2.2.1 a0.2.2.2.2.2.2 w0
 refine (verdererlaw15_GuardTells.calls k a0.1 a0.2.1 Aa0_2_2_1 ca0_2_2_1 a0.2.2.1 a0.2.2.2.1 a0.2.2.2.2.1 a0.2.2.2.2.2.1 Aa0_2_2_2_2_2_2 ca0_2_2_2_2_2_2 a0.2.2.2.2.2.2 true W ga0_2_2_1 ma0_2_2_1 ga0_2_2_2_2_2_2 ma0_2_2_2_2_2_2 hk).mono fun e W' ⟨he, bel0⟩ => ?_
 subst he
 have bel : Below W.heap.size W W' := bel0
 exact ⟨_, rfl, _, _, _, [], _, [], hW', trodAll_mk1 (shut_bool Try.underlying4 _), (trodAll_cons_mk (Below.trod laidOut (by kernel_rfl) (of_decide_eq_true (by kernel_rfl)) k0 bel lt0) trodAll_mk0), rfl, bel.frame _, fun h => by cases h⟩
set_option maxRecDepth 100000 in
theorem lifted (os : Os) (started : os.Started) (H : Type) (enc : TypeId × Value → H) :
  ReturnsInHanded {} Try.checked os 3 .any (Rows.guardTellsSpec.pre6 enc Try.prog Try.f3 Rows.guardTellsRow.domain false) (Rows.guardTellsSpec.post enc Try.prog Try.f3 false true false false) := by
 refine returnsInHanded_of_change_sized (C := Try.checked) own started (by kernel_rfl) Try.func3
  (ChangeSpec.witness6 (enc := enc) (C := Try.checked) false ⟨#[], #[.agg #[.int .i64 0, .string ByteArray.empty, .slice none 0 0, .int .i64 0, .string ByteArray.empty, .int .i64 0, .slice none 0 0]], []⟩ 8 (by kernel_rfl) (by kernel_rfl) (by kernel_rfl) (by kernel_rfl)) ?_
 intro W base args ds gs before hval hW _ hsz _
 exact contract H enc W base args ds gs before hval hW hsz
theorem said : Rows.GuardTellsSaid :=
 OpenClaim.holds_of_wide 3 Try.f3 rfl rfl rfl rfl rfl rfl rfl ⟨rfl, rfl, rfl, rfl, rfl⟩ rfl rfl rfl rfl rfl (by kernel_rfl) Try.func3 (by kernel_rfl)
  (of_decide_eq_true (by kernel_rfl)) (by unfold Func.isWrapper; first | (rw [if_pos (by decide +kernel)]; kernel_rfl) | (rw [if_neg (by decide +kernel)]; exact ⟨rfl, rfl⟩))
  (fun os started H enc _ => lifted os started H enc)
#print axioms said
end Go.Proofs.Ytikikmkfeeljgaa.rowGuardTells
