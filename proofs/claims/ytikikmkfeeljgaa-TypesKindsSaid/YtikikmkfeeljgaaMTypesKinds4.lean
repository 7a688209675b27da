/- A text of the proof that the law TypesKinds returns true: nothing is assumed in it. -/
import Derived.Test.YtikikmkfeeljgaaMTypesKinds3
import Derived.Test.YtikikmkfeeljgaaProg
import Derived.KernelRfl
set_option linter.unusedVariables false
set_option linter.unusedSimpArgs false
set_option linter.unusedVariables false
set_option maxRecDepth 100000
namespace Go.Proofs.Ytikikmkfeeljgaa.E
open Go.Proofs
noncomputable section
variable {R : Type}
@[reducible] def ty36 : Ty := (.pr (.int .i64) (.pr .bool (.pr (.int .i64) (.pr .str .un))))
@[reducible] def ty38 : Ty := (.pr .str (.pr .bool (.pr ty36 .un)))
@[reducible] def ty41 : Ty := (.pr .bool (.pr .str (.pr (.sl ty38) (.pr (.int .i64) .un))))
@[reducible] def ty25 : Ty := (.pr (.int .i64) (.pr .str (.pr (.sl .str) (.pr (.int .i64) (.pr .str (.pr (.int .i64) (.pr (.sl ty41) .un)))))))
@[reducible] def ty63 : Ty := (.pr .str (.pr (.int .i64) (.pr .bool .un)))
@[reducible] def ty73 : Ty := (.pr (.int .i64) (.pr .str (.pr ty36 (.pr (.int .i64) .un))))
@[reducible] def ty82 : Ty := (.pr .str (.pr (.sl ty63) .un))
end
end Go.Proofs.Ytikikmkfeeljgaa.E
set_option linter.unusedVariables false
set_option maxRecDepth 100000
namespace Go.Proofs.Ytikikmkfeeljgaa.E
open Go.Proofs
noncomputable section
variable {R : Type}
/-! verderer/verdererlaw08.Kinds: function 25 -/
@[reducible] def verdererlaw08_Kinds_d : Desc := ⟨[], []⟩
def verdererlaw08_Kinds_Fi (n : Nat) (k0 : (List ty82.D) → Option R) : Option R :=
  k0 [((⟨#[112, 111, 100]⟩ : ByteArray), [((⟨#[105, 109, 97, 103, 101]⟩ : ByteArray), 3, false, ()), ((⟨#[99, 112, 117]⟩ : ByteArray), 2, false, ()), ((⟨#[110, 111, 100, 101]⟩ : ByteArray), 3, true, ())], ()), ((⟨#[104, 111, 115, 116]⟩ : ByteArray), [((⟨#[117, 112]⟩ : ByteArray), 1, false, ())], ())]
def verdererlaw08_Kinds_F {R : Type} := lazyN (@verdererlaw08_Kinds_Fi R)
theorem verdererlaw08_Kinds_e : @verdererlaw08_Kinds_F R = @verdererlaw08_Kinds_Fi R := lazyN_eq _
def verdererlaw08_Kinds_g (n : Nat) : Gx R := typed 0 verdererlaw08_Kinds_d fun x k => verdererlaw08_Kinds_F n (fun y0 => k (.a (.c (.ow 0))) [(.arr 82 ty82 y0)])
def verdererlaw08_Kinds_cs (R : Type) (n : Nat) : List (Nat × Gx R) := []
def verdererlaw08_Kinds_cx (R : Type) (n : Nat) : Cx R := ⟨Try.prog, Gof (verdererlaw08_Kinds_cs R n), noDs, noDx, noLp, drawP Try.prog (Gof (verdererlaw08_Kinds_cs R n)), false, noJn, noFz⟩
theorem verdererlaw08_Kinds_ok (n : Nat) : Good Try.prog 25 (verdererlaw08_Kinds_g (R := R) n) := by
  unfold verdererlaw08_Kinds_g
  rw [verdererlaw08_Kinds_e]
  exact Good.fn (cx := verdererlaw08_Kinds_cx R n) (by kernel_rfl) (AllGood.nil) rfl Try.func25 (by kernel_rfl) rfl trivial 0 verdererlaw08_Kinds_d (by kernel_rfl) (fun x k => by kernel_rfl)
end
end Go.Proofs.Ytikikmkfeeljgaa.E
set_option linter.unusedVariables false
set_option maxRecDepth 100000
namespace Go.Proofs.Ytikikmkfeeljgaa.E
open Go.Proofs
noncomputable section
variable {R : Type}
/-! (*verderer/schema.Set).find$1: function 62 -/
@[reducible] def schema_Set_find_1_d : Desc := ⟨[(0, .d ty82), (1, .pt 0 0)], [.box true 9 [.d .str]]⟩
def schema_Set_find_1_Fi (n : Nat) (a0 : ty82.D) (a1 : ByteArray) (k0 : Bool → ByteArray → Option R) : Option R :=
  k0 (a0.1.toList == a1.toList) a1
def schema_Set_find_1_F {R : Type} := lazyN (@schema_Set_find_1_Fi R)
theorem schema_Set_find_1_e : @schema_Set_find_1_F R = @schema_Set_find_1_Fi R := lazyN_eq _
def schema_Set_find_1_g (n : Nat) : Gx R := typed 2 schema_Set_find_1_d fun x k => schema_Set_find_1_F n x.1 x.2.1 (fun y0 y1 => k (.a (.c (.b y0))) [(.box true 9 [(.s y1)])])
def schema_Set_find_1_cs (R : Type) (n : Nat) : List (Nat × Gx R) := []
def schema_Set_find_1_cx (R : Type) (n : Nat) : Cx R := ⟨Try.prog, Gof (schema_Set_find_1_cs R n), noDs, noDx, noLp, drawP Try.prog (Gof (schema_Set_find_1_cs R n)), false, noJn, noFz⟩
theorem schema_Set_find_1_ok (n : Nat) : Good Try.prog 62 (schema_Set_find_1_g (R := R) n) := by
  unfold schema_Set_find_1_g
  rw [schema_Set_find_1_e]
  exact Good.fn (cx := schema_Set_find_1_cx R n) (by kernel_rfl) (AllGood.nil) rfl Try.func62 (by kernel_rfl) rfl trivial 2 schema_Set_find_1_d (by kernel_rfl) (fun x k => by kernel_rfl)
end
end Go.Proofs.Ytikikmkfeeljgaa.E
set_option linter.unusedVariables false
set_option maxRecDepth 100000
namespace Go.Proofs.Ytikikmkfeeljgaa.E
open Go.Proofs
noncomputable section
variable {R : Type}
/-! slices.IndexFunc[[]verderer/api.Schema,verderer/api.Schema]: function 61 -/
def slices_IndexFunc_61_ds : Nat → Desc
  | 2 => ⟨[(0, .d (.sl ty82)), (1, .fn 62 [0]), (7, .d (.int .i64)), (8, .d (.int .i64))], [.box true 9 [.d .str]]⟩
  | _ => ⟨[], []⟩
def slices_IndexFunc_61_dx : Nat → List (X × Desc)
  | 2 => [(.r, ⟨[(4, .d (.int .i64))], [.box true 9 [.d .str]]⟩), (.e 0, ⟨[], [.box true 9 [.d .str]]⟩)]
  | _ => []
def slices_IndexFunc_61_s2 (n : Nat) (x0 : (List ty82.D)) (x1 : Int) (x2 : Int) (x3 : ByteArray) (k1 : (List ty82.D) → Int → Int → ByteArray → Option R) (qr : Int → ByteArray → Option R) (qe0 : ByteArray → Option R) : Option R :=
  if (decide (x2 < x1)) = true then (if (0 : Int) ≤ x2 ∧ x2 < (x0.length : Int) then (schema_Set_find_1_F n (x0.getD (Int.toNat x2) (Ty.z ty82)) x3 (fun y1 y2 => if y1 = true then (qr x2 y2) else (k1 x0 x1 (IntKind.i64.wrap (x2 + 1)) y2))) else none) else (qe0 x3)
def slices_IndexFunc_61_l2 (n : Nat) (a : (slices_IndexFunc_61_ds 2).D) (k1 : (slices_IndexFunc_61_ds 2).D → Option R) (k2 : exK R (slices_IndexFunc_61_dx 2)) : Option R :=
  slices_IndexFunc_61_s2 n a.1 a.2.1 a.2.2.1 a.2.2.2.1 (fun x0 x1 x2 x3 => k1 (x0, x1, x2, x3, ())) (fun x0 x1 => k2.1 (x0, x1, ())) (fun x0 => k2.2.1 (x0, ()))
@[reducible] def slices_IndexFunc_61_d : Desc := ⟨[(0, .d (.sl ty82)), (1, .fn 62 [0])], [.box true 9 [.d .str]]⟩
def slices_IndexFunc_61_Fi (n : Nat) (a0 : (List ty82.D)) (a1 : ByteArray) (k0 : Int → ByteArray → Option R) : Option R :=
  runC (slices_IndexFunc_61_l2 n) n (a0, (a0.length : Int), 0, a1, ()) (fun b4 => k0 b4.1 b4.2.1, fun b5 => k0 (-1) b5.1, ())
def slices_IndexFunc_61_F {R : Type} := lazyN (@slices_IndexFunc_61_Fi R)
theorem slices_IndexFunc_61_e : @slices_IndexFunc_61_F R = @slices_IndexFunc_61_Fi R := lazyN_eq _
def slices_IndexFunc_61_g (n : Nat) : Gx R := typed 2 slices_IndexFunc_61_d fun x k => slices_IndexFunc_61_F n x.1 x.2.1 (fun y0 y1 => k (.a (.c (.i .i64 y0))) [(.box true 9 [(.s y1)])])
def slices_IndexFunc_61_cs (R : Type) (n : Nat) : List (Nat × Gx R) := [(62, schema_Set_find_1_g n)]
def slices_IndexFunc_61_lp (n : Nat) : (i : Nat) → (slices_IndexFunc_61_ds i).D → exK R (slices_IndexFunc_61_dx i) → Option R
  | 2, a, k => runC (slices_IndexFunc_61_l2 n) n a k
  | _, _, _ => none
def slices_IndexFunc_61_cx (R : Type) (n : Nat) : Cx R := ⟨Try.prog, Gof (slices_IndexFunc_61_cs R n), slices_IndexFunc_61_ds, slices_IndexFunc_61_dx, slices_IndexFunc_61_lp n, drawP Try.prog (Gof (slices_IndexFunc_61_cs R n)), false, noJn, noFz⟩
theorem slices_IndexFunc_61_ok (n : Nat) : Good Try.prog 61 (slices_IndexFunc_61_g (R := R) n) := by
  unfold slices_IndexFunc_61_g
  rw [slices_IndexFunc_61_e]
  exact Good.fn (cx := slices_IndexFunc_61_cx R n) (by kernel_rfl) (AllGood.cons (schema_Set_find_1_ok n) (AllGood.nil)) rfl Try.func61 (by kernel_rfl) rfl (by
    have e : fnLoops noJn Try.f61 = [((fnLoops noJn Try.f61)[0]?).getD (false, .skip)] := by kernel_rfl
    show LoopRuns _ _ (fnLoops noJn _)
    rw [e]
    exact ⟨LoopRun.loop (by kernel_rfl) (i := 2) (m := n) (step := slices_IndexFunc_61_l2 n) (by kernel_rfl) (fun a k1 k2 => by kernel_rfl) (fun _ _ => rfl), trivial⟩) 2 slices_IndexFunc_61_d (by kernel_rfl) (fun x k => by kernel_rfl)
end
end Go.Proofs.Ytikikmkfeeljgaa.E
set_option linter.unusedVariables false
set_option maxRecDepth 100000
namespace Go.Proofs.Ytikikmkfeeljgaa.E
open Go.Proofs
noncomputable section
variable {R : Type}
/-! slices.Clone[[]verderer/api.Column,verderer/api.Column]: function 64 -/
@[reducible] def slices_Clone_64_d : Desc := ⟨[(0, .d (.sl ty63))], []⟩
def slices_Clone_64_Fi (n : Nat) (a0 : (List ty63.D)) (k0 : (List ty63.D) → Option R) : Option R :=
  if (List.length ([] : List ty63.D) + List.length a0) * 32 ≤ 140737488355328 then (k0 (([] : List ty63.D) ++ a0)) else none
def slices_Clone_64_F {R : Type} := lazyN (@slices_Clone_64_Fi R)
theorem slices_Clone_64_e : @slices_Clone_64_F R = @slices_Clone_64_Fi R := lazyN_eq _
def slices_Clone_64_g (n : Nat) : Gx R := typed 1 slices_Clone_64_d fun x k => slices_Clone_64_F n x.1 (fun y0 => k (.a (.c (.ow 0))) [(.arr 63 ty63 y0)])
def slices_Clone_64_cs (R : Type) (n : Nat) : List (Nat × Gx R) := []
def slices_Clone_64_cx (R : Type) (n : Nat) : Cx R := ⟨Try.prog, Gof (slices_Clone_64_cs R n), noDs, noDx, noLp, drawP Try.prog (Gof (slices_Clone_64_cs R n)), false, noJn, noFz⟩
theorem slices_Clone_64_ok (n : Nat) : Good Try.prog 64 (slices_Clone_64_g (R := R) n) := by
  unfold slices_Clone_64_g
  rw [slices_Clone_64_e]
  exact Good.nilOr (cx := slices_Clone_64_cx R n) (by kernel_rfl) (AllGood.nil) rfl Try.func64 (by kernel_rfl) rfl trivial ty63 (by kernel_rfl) (fun k => by kernel_rfl) (fun x k => by kernel_rfl)
end
end Go.Proofs.Ytikikmkfeeljgaa.E
set_option linter.unusedVariables false
set_option maxRecDepth 100000
namespace Go.Proofs.Ytikikmkfeeljgaa.E
open Go.Proofs
noncomputable section
variable {R : Type}
/-! verderer/schema.clone: function 45 -/
@[reducible] def schema_clone_d : Desc := ⟨[(0, .d ty82)], []⟩
def schema_clone_Fi (n : Nat) (a0 : ty82.D) (k0 : ByteArray → (List ty63.D) → Option R) : Option R :=
  slices_Clone_64_F n a0.2.1 (fun y1 => k0 a0.1 y1)
def schema_clone_F {R : Type} := lazyN (@schema_clone_Fi R)
theorem schema_clone_e : @schema_clone_F R = @schema_clone_Fi R := lazyN_eq _
def schema_clone_g (n : Nat) : Gx R := typed 1 schema_clone_d fun x k => schema_clone_F n x.1 (fun y0 y1 => k (.a (.ag [(.s y0), (.ow 0)])) [(.arr 63 ty63 y1)])
def schema_clone_cs (R : Type) (n : Nat) : List (Nat × Gx R) := [(64, slices_Clone_64_g n)]
def schema_clone_cx (R : Type) (n : Nat) : Cx R := ⟨Try.prog, Gof (schema_clone_cs R n), noDs, noDx, noLp, drawP Try.prog (Gof (schema_clone_cs R n)), false, noJn, noFz⟩
theorem schema_clone_ok (n : Nat) : Good Try.prog 45 (schema_clone_g (R := R) n) := by
  unfold schema_clone_g
  rw [schema_clone_e]
  exact Good.fn (cx := schema_clone_cx R n) (by kernel_rfl) (AllGood.cons (slices_Clone_64_ok n) (AllGood.nil)) rfl Try.func45 (by kernel_rfl) rfl trivial 1 schema_clone_d (by kernel_rfl) (fun x k => by kernel_rfl)
end
end Go.Proofs.Ytikikmkfeeljgaa.E
set_option linter.unusedVariables false
set_option maxRecDepth 100000
namespace Go.Proofs.Ytikikmkfeeljgaa.E
open Go.Proofs
noncomputable section
variable {R : Type}
/-! (*verderer/schema.Set).find: function 43 -/
@[reducible] def schema_Set_find_d : Desc := ⟨[(0, .pt 0 0), (1, .d .str)], [.box true 80 [.ow 1], .arr 82 ty82]⟩
def schema_Set_find_Fi (n : Nat) (a0 : ByteArray) (a1 : (List ty82.D)) (k0 : ty82.D → Bool → (List ty82.D) → Option R) : Option R :=
  slices_IndexFunc_61_F n a1 a0 (fun y1 y2 => if (decide (y1 < 0)) = true then (k0 ((⟨#[]⟩ : ByteArray), ([] : List ty63.D), ()) false a1) else (if (0 : Int) ≤ y1 ∧ y1 < (a1.length : Int) then (if (Int.toNat y1) < a1.length then (schema_clone_F n (a1.getD (Int.toNat y1) (Ty.z ty82)) (fun y3 y4 => k0 (y3, y4, ()) true a1)) else none) else none))
def schema_Set_find_F {R : Type} := lazyN (@schema_Set_find_Fi R)
theorem schema_Set_find_e : @schema_Set_find_F R = @schema_Set_find_Fi R := lazyN_eq _
def schema_Set_find_g (n : Nat) : Gx R := typed 2 schema_Set_find_d fun x k => schema_Set_find_F n x.1 x.2.1 (fun y0 y1 y2 => k (.tu [(encA ty82 y0), (.c (.b y1))]) [(.box true 80 [(.ow 1)]), (.arr 82 ty82 y2)])
def schema_Set_find_cs (R : Type) (n : Nat) : List (Nat × Gx R) := [(45, schema_clone_g n), (61, slices_IndexFunc_61_g n)]
def schema_Set_find_cx (R : Type) (n : Nat) : Cx R := ⟨Try.prog, Gof (schema_Set_find_cs R n), noDs, noDx, noLp, drawP Try.prog (Gof (schema_Set_find_cs R n)), true, noJn, noFz⟩
theorem schema_Set_find_ok (n : Nat) : Good Try.prog 43 (schema_Set_find_g (R := R) n) := by
  unfold schema_Set_find_g
  rw [schema_Set_find_e]
  exact Good.fn (cx := schema_Set_find_cx R n) (by kernel_rfl) (AllGood.cons (schema_clone_ok n) (AllGood.cons (slices_IndexFunc_61_ok n) (AllGood.nil))) rfl Try.func43 (by kernel_rfl) rfl trivial 2 schema_Set_find_d (by kernel_rfl) (fun x k => by kernel_rfl)
end
end Go.Proofs.Ytikikmkfeeljgaa.E
set_option linter.unusedVariables false
set_option maxRecDepth 100000
namespace Go.Proofs.Ytikikmkfeeljgaa.E
open Go.Proofs
noncomputable section
variable {R : Type}
/-! verderer/schema.letter: function 63 -/
@[reducible] def schema_letter_d : Desc := ⟨[(0, .d (.int .u8))], []⟩
def schema_letter_Fi (n : Nat) (a0 : Int) (k0 : Bool → Option R) : Option R :=
  if (decide (a0 ≥ 97)) = true then (k0 (decide (a0 ≤ 122))) else (k0 false)
def schema_letter_F {R : Type} := lazyN (@schema_letter_Fi R)
theorem schema_letter_e : @schema_letter_F R = @schema_letter_Fi R := lazyN_eq _
def schema_letter_g (n : Nat) : Gx R := typed 1 schema_letter_d fun x k => schema_letter_F n x.1 (fun y0 => k (.a (.c (.b y0))) [])
def schema_letter_cs (R : Type) (n : Nat) : List (Nat × Gx R) := []
def schema_letter_cx (R : Type) (n : Nat) : Cx R := ⟨Try.prog, Gof (schema_letter_cs R n), noDs, noDx, noLp, drawP Try.prog (Gof (schema_letter_cs R n)), false, noJn, noFz⟩
theorem schema_letter_ok (n : Nat) : Good Try.prog 63 (schema_letter_g (R := R) n) := by
  unfold schema_letter_g
  rw [schema_letter_e]
  exact Good.fn (cx := schema_letter_cx R n) (by kernel_rfl) (AllGood.nil) rfl Try.func63 (by kernel_rfl) rfl trivial 1 schema_letter_d (by kernel_rfl) (fun x k => by kernel_rfl)
end
end Go.Proofs.Ytikikmkfeeljgaa.E
set_option linter.unusedVariables false
set_option maxRecDepth 100000
namespace Go.Proofs.Ytikikmkfeeljgaa.E
open Go.Proofs
noncomputable section
variable {R : Type}
/-! verderer/schema.Name: function 44 -/
def schema_Name_ds : Nat → Desc
  | 4 => ⟨[(0, .d .str), (19, .d (.int .i64)), (20, .d (.int .i64))], []⟩
  | _ => ⟨[], []⟩
def schema_Name_dx : Nat → List (X × Desc)
  | 4 => [(.r, ⟨[(2, .d .bool)], []⟩), (.e 0, ⟨[], []⟩)]
  | _ => []
def schema_Name_s4 (n : Nat) (x0 : ByteArray) (x1 : Int) (x2 : Int) (k1 : ByteArray → Int → Int → Option R) (qr : Bool → Option R) (qe0 : Option R) : Option R :=
  if (decide (x2 < x1)) = true then (if (0 : Int) ≤ x2 then if x2 < (x0.size : Int) then (schema_letter_F n (byteAt x0 x2) (fun y2 => if (!y2) = true then (if (decide ((byteAt x0 x2) < 48)) = true then (if ((byteAt x0 x2) != 95) = true then (qr false) else (k1 x0 x1 (IntKind.i64.wrap (x2 + 1)))) else (if (decide ((byteAt x0 x2) > 57)) = true then (if ((byteAt x0 x2) != 95) = true then (qr false) else (k1 x0 x1 (IntKind.i64.wrap (x2 + 1)))) else (k1 x0 x1 (IntKind.i64.wrap (x2 + 1))))) else (k1 x0 x1 (IntKind.i64.wrap (x2 + 1))))) else none else none) else qe0
def schema_Name_l4 (n : Nat) (a : (schema_Name_ds 4).D) (k1 : (schema_Name_ds 4).D → Option R) (k2 : exK R (schema_Name_dx 4)) : Option R :=
  schema_Name_s4 n a.1 a.2.1 a.2.2.1 (fun x0 x1 x2 => k1 (x0, x1, x2, ())) (fun x0 => k2.1 (x0, ())) (k2.2.1 (()))
@[reducible] def schema_Name_d : Desc := ⟨[(0, .d .str)], []⟩
def schema_Name_Fi (n : Nat) (a0 : ByteArray) (k0 : Bool → Option R) : Option R :=
  if (a0.toList == (⟨#[]⟩ : ByteArray).toList) = true then (k0 false) else (if (decide ((a0.size : Int) > 16)) = true then (k0 false) else (if (0 : Int) ≤ 0 then if 0 < (a0.size : Int) then (schema_letter_F n (byteAt a0 0) (fun y1 => if (!y1) = true then (k0 false) else (runC (schema_Name_l4 n) n (a0, (a0.size : Int), 0, ()) (fun b3 => k0 b3.1, fun b3 => k0 true, ())))) else none else none))
def schema_Name_F {R : Type} := lazyN (@schema_Name_Fi R)
theorem schema_Name_e : @schema_Name_F R = @schema_Name_Fi R := lazyN_eq _
def schema_Name_g (n : Nat) : Gx R := typed 1 schema_Name_d fun x k => schema_Name_F n x.1 (fun y0 => k (.a (.c (.b y0))) [])
def schema_Name_cs (R : Type) (n : Nat) : List (Nat × Gx R) := [(63, schema_letter_g n)]
def schema_Name_lp (n : Nat) : (i : Nat) → (schema_Name_ds i).D → exK R (schema_Name_dx i) → Option R
  | 4, a, k => runC (schema_Name_l4 n) n a k
  | _, _, _ => none
def schema_Name_cx (R : Type) (n : Nat) : Cx R := ⟨Try.prog, Gof (schema_Name_cs R n), schema_Name_ds, schema_Name_dx, schema_Name_lp n, drawP Try.prog (Gof (schema_Name_cs R n)), false, noJn, noFz⟩
theorem schema_Name_ok (n : Nat) : Good Try.prog 44 (schema_Name_g (R := R) n) := by
  unfold schema_Name_g
  rw [schema_Name_e]
  exact Good.fn (cx := schema_Name_cx R n) (by kernel_rfl) (AllGood.cons (schema_letter_ok n) (AllGood.nil)) rfl Try.func44 (by kernel_rfl) rfl (by
    have e : fnLoops noJn Try.f44 = [((fnLoops noJn Try.f44)[0]?).getD (false, .skip)] := by kernel_rfl
    show LoopRuns _ _ (fnLoops noJn _)
    rw [e]
    exact ⟨LoopRun.loop (by kernel_rfl) (i := 4) (m := n) (step := schema_Name_l4 n) (by kernel_rfl) (fun a k1 k2 => by kernel_rfl) (fun _ _ => rfl), trivial⟩) 1 schema_Name_d (by kernel_rfl) (fun x k => by kernel_rfl)
end
end Go.Proofs.Ytikikmkfeeljgaa.E
set_option linter.unusedVariables false
set_option maxRecDepth 100000
namespace Go.Proofs.Ytikikmkfeeljgaa.E
open Go.Proofs
noncomputable section
variable {R : Type}
/-! verderer/schema.New: function 19 -/
def schema_New_ds : Nat → Desc
  | 17 => ⟨[(4, .pt 1 0), (6, .pt 3 0), (9, .mp 6), (17, .d (.sl ty82)), (18, .d (.int .i64)), (19, .d (.int .i64)), (36, .pt 3 0), (37, .d .str), (38, .d .bool), (60, .d (.sl ty63)), (61, .d (.int .i64)), (62, .d (.int .i64))], [.arr 82 ty82, .box false 80 [.ow 0], .no, .box false 82 [.d .str, .d (.sl ty63)], .no, .no, .mp .str .bool]⟩
  | 5 => ⟨[(4, .pt 1 0), (17, .d (.sl ty82)), (18, .d (.int .i64)), (19, .d (.int .i64))], [.arr 82 ty82, .box false 80 [.ow 0]]⟩
  | _ => ⟨[], []⟩
def schema_New_dx : Nat → List (X × Desc)
  | 17 => [(.r, ⟨[(2, .np), (3, .d (.int .i64))], []⟩), (.e 1, ⟨[(4, .pt 1 0), (17, .d (.sl ty82)), (18, .d (.int .i64)), (19, .d (.int .i64)), (36, .pt 3 0), (37, .d .str), (38, .d .bool), (77, .pt 7 1), (78, .d (.int .i64)), (79, .d .bool)], [.arr 82 ty82, .box false 80 [.ow 0], .no, .box false 82 [.d .str, .d (.sl ty63)], .no, .no, .no, .box false 63 [.d .str, .d (.int .i64), .d .bool]]⟩), (.e 3, ⟨[(4, .pt 1 0), (17, .d (.sl ty82)), (18, .d (.int .i64)), (19, .d (.int .i64)), (36, .pt 3 0), (37, .d .str), (38, .d .bool)], [.arr 82 ty82, .box false 80 [.ow 0], .no, .box false 82 [.d .str, .d (.sl ty63)]]⟩)]
  | 5 => [(.r, ⟨[(2, .np), (3, .d (.int .i64))], []⟩), (.e 0, ⟨[(4, .pt 1 0)], [.arr 82 ty82, .box false 80 [.ow 0]]⟩)]
  | _ => []
def schema_New_s17 (n : Nat) (x0 : (List ty82.D)) (x1 : Int) (x2 : Int) (x3 : ByteArray) (x4 : Bool) (x5 : (List ty63.D)) (x6 : Int) (x7 : Int) (x8 : (List ty82.D)) (x9 : ByteArray) (x10 : (List ty63.D)) (x11 : (List (ByteArray × Bool))) (k1 : (List ty82.D) → Int → Int → ByteArray → Bool → (List ty63.D) → Int → Int → (List ty82.D) → ByteArray → (List ty63.D) → (List (ByteArray × Bool)) → Option R) (qr : Int → Option R) (qe1 : (List ty82.D) → Int → Int → ByteArray → Bool → Int → Bool → (List ty82.D) → ByteArray → (List ty63.D) → ByteArray → Int → Bool → Option R) (qe3 : (List ty82.D) → Int → Int → ByteArray → Bool → (List ty82.D) → ByteArray → (List ty63.D) → Option R) : Option R :=
  if (decide (x7 < x6)) = true then (if (0 : Int) ≤ x7 ∧ x7 < (x5.length : Int) then (schema_Name_F n ((x5.getD (Int.toNat x7) (Ty.z ty63)).1) (fun y7 => if (!y7) = true then (qr 3) else (if (decide ((x5.getD (Int.toNat x7) (Ty.z ty63)).2.1 < 1)) = true then (qr 11) else (if (decide ((x5.getD (Int.toNat x7) (Ty.z ty63)).2.1 > 3)) = true then (qr 11) else (if (mval (kt := .str) (vt := .bool) x11 ((x5.getD (Int.toNat x7) (Ty.z ty63)).1) false) = true then (qr 4) else (if (x7 == (IntKind.i64.wrap ((x10.length : Int) - 1))) = true then (qe1 x0 x1 x2 x3 x4 ((x5.getD (Int.toNat x7) (Ty.z ty63)).2.1) (decide ((x5.getD (Int.toNat x7) (Ty.z ty63)).2.1 > 3)) x8 x9 x10 ((x5.getD (Int.toNat x7) (Ty.z ty63)).1) ((x5.getD (Int.toNat x7) (Ty.z ty63)).2.1) ((x5.getD (Int.toNat x7) (Ty.z ty63)).2.2.1)) else (k1 x0 x1 x2 x3 x4 x5 x6 (IntKind.i64.wrap (x7 + 1)) x8 x9 x10 (mput (kt := .str) (vt := .bool) x11 ((x5.getD (Int.toNat x7) (Ty.z ty63)).1) true)))))))) else none) else (qe3 x0 x1 x2 x3 x4 x8 x9 x10)
def schema_New_l17 (n : Nat) (a : (schema_New_ds 17).D) (k1 : (schema_New_ds 17).D → Option R) (k2 : exK R (schema_New_dx 17)) : Option R :=
  schema_New_s17 n a.1 a.2.1 a.2.2.1 a.2.2.2.1 a.2.2.2.2.1 a.2.2.2.2.2.1 a.2.2.2.2.2.2.1 a.2.2.2.2.2.2.2.1 a.2.2.2.2.2.2.2.2.1 a.2.2.2.2.2.2.2.2.2.1 a.2.2.2.2.2.2.2.2.2.2.1 a.2.2.2.2.2.2.2.2.2.2.2.1 (fun x0 x1 x2 x3 x4 x5 x6 x7 x8 x9 x10 x11 => k1 (x0, x1, x2, x3, x4, x5, x6, x7, x8, x9, x10, x11, ())) (fun x0 => k2.1 (x0, ())) (fun x0 x1 x2 x3 x4 x5 x6 x7 x8 x9 x10 x11 x12 => k2.2.1 (x0, x1, x2, x3, x4, x5, x6, x7, x8, x9, x10, x11, x12, ())) (fun x0 x1 x2 x3 x4 x5 x6 x7 => k2.2.2.1 (x0, x1, x2, x3, x4, x5, x6, x7, ()))
def schema_New_s5 (n : Nat) (x0 : (List ty82.D)) (x1 : Int) (x2 : Int) (x3 : (List ty82.D)) (k1 : (List ty82.D) → Int → Int → (List ty82.D) → Option R) (qr : Int → Option R) (qe0 : (List ty82.D) → Option R) : Option R :=
  if (decide (x2 < x1)) = true then (if (0 : Int) ≤ x2 ∧ x2 < (x0.length : Int) then (schema_Set_find_F n ((x0.getD (Int.toNat x2) (Ty.z ty82)).1) x3 (fun y1 y2 y3 => schema_Name_F n ((x0.getD (Int.toNat x2) (Ty.z ty82)).1) (fun y4 => if (!y4) = true then (qr 3) else (if (((x0.getD (Int.toNat x2) (Ty.z ty82)).1).toList == (⟨#[116, 101, 110, 97, 110, 116]⟩ : ByteArray).toList) = true then (qr 3) else (if y2 = true then (qr 4) else (if (decide ((((x0.getD (Int.toNat x2) (Ty.z ty82)).2.1).length : Int) > 6)) = true then (qr 9) else (schema_clone_F n (x0.getD (Int.toNat x2) (Ty.z ty82)) (fun y5 y6 => if (List.length y3 + List.length [(y5, y6, ())]) * 40 ≤ 140737488355328 then (runC (schema_New_l17 n) n (x0, x1, x2, (x0.getD (Int.toNat x2) (Ty.z ty82)).1, (((x0.getD (Int.toNat x2) (Ty.z ty82)).1).toList == (⟨#[116, 101, 110, 97, 110, 116]⟩ : ByteArray).toList), (x0.getD (Int.toNat x2) (Ty.z ty82)).2.1, (((x0.getD (Int.toNat x2) (Ty.z ty82)).2.1).length : Int), 0, (y3 ++ [(y5, y6, ())]), (x0.getD (Int.toNat x2) (Ty.z ty82)).1, (x0.getD (Int.toNat x2) (Ty.z ty82)).2.1, [], ()) (fun b8 => qr b8.1, fun b21 => k1 b21.1 b21.2.1 (IntKind.i64.wrap (b21.2.2.1 + 1)) b21.2.2.2.2.2.2.2.1, fun b29 => k1 b29.1 b29.2.1 (IntKind.i64.wrap (b29.2.2.1 + 1)) b29.2.2.2.2.2.1, ())) else none)))))))) else none) else (qe0 x3)
def schema_New_l5 (n : Nat) (a : (schema_New_ds 5).D) (k1 : (schema_New_ds 5).D → Option R) (k2 : exK R (schema_New_dx 5)) : Option R :=
  schema_New_s5 n a.1 a.2.1 a.2.2.1 a.2.2.2.1 (fun x0 x1 x2 x3 => k1 (x0, x1, x2, x3, ())) (fun x0 => k2.1 (x0, ())) (fun x0 => k2.2.1 (x0, ()))
@[reducible] def schema_New_d : Desc := ⟨[(0, .d (.sl ty82))], []⟩
def schema_New_Fi (n : Nat) (a0 : (List ty82.D)) (k0 : Int → Option R) (k1 : Int → (List ty82.D) → Option R) : Option R :=
  if (decide ((a0.length : Int) > 8)) = true then (k0 9) else (runC (schema_New_l5 n) n (a0, (a0.length : Int), 0, ([] : List ty82.D), ()) (fun b30 => k0 b30.1, fun b31 => k1 0 b31.1, ()))
def schema_New_F {R : Type} := lazyN (@schema_New_Fi R)
theorem schema_New_e : @schema_New_F R = @schema_New_Fi R := lazyN_eq _
def schema_New_g (n : Nat) : Gx R := typed 1 schema_New_d fun x k => schema_New_F n x.1 (fun y0 => k (.tu [(.c (.np)), (.c (.i .i64 y0))]) []) (fun y0 y1 => k (.tu [(.c (.pt 0 0)), (.c (.i .i64 y0))]) [(.box false 80 [(.ow 1)]), (.arr 82 ty82 y1)])
def schema_New_cs (R : Type) (n : Nat) : List (Nat × Gx R) := [(43, schema_Set_find_g n), (44, schema_Name_g n), (45, schema_clone_g n)]
def schema_New_lp (n : Nat) : (i : Nat) → (schema_New_ds i).D → exK R (schema_New_dx i) → Option R
  | 17, a, k => runC (schema_New_l17 n) n a k
  | 5, a, k => runC (schema_New_l5 n) n a k
  | _, _, _ => none
def schema_New_cx (R : Type) (n : Nat) : Cx R := ⟨Try.prog, Gof (schema_New_cs R n), schema_New_ds, schema_New_dx, schema_New_lp n, drawP Try.prog (Gof (schema_New_cs R n)), false, noJn, noFz⟩
theorem schema_New_ok (n : Nat) : Good Try.prog 19 (schema_New_g (R := R) n) := by
  unfold schema_New_g
  rw [schema_New_e]
  exact Good.fn (cx := schema_New_cx R n) (by kernel_rfl) (AllGood.cons (schema_Set_find_ok n) (AllGood.cons (schema_Name_ok n) (AllGood.cons (schema_clone_ok n) (AllGood.nil)))) rfl Try.func19 (by kernel_rfl) rfl (by
    have e : fnLoops noJn Try.f19 = [((fnLoops noJn Try.f19)[0]?).getD (false, .skip), ((fnLoops noJn Try.f19)[1]?).getD (false, .skip)] := by kernel_rfl
    show LoopRuns _ _ (fnLoops noJn _)
    rw [e]
    exact ⟨LoopRun.loop (by kernel_rfl) (i := 5) (m := n) (step := schema_New_l5 n) (by kernel_rfl) (fun a k1 k2 => by kernel_rfl) (fun _ _ => rfl), ⟨LoopRun.loop (by kernel_rfl) (i := 17) (m := n) (step := schema_New_l17 n) (by kernel_rfl) (fun a k1 k2 => by kernel_rfl) (fun _ _ => rfl), trivial⟩⟩) 1 schema_New_d (by kernel_rfl) (fun x k => by kernel_rfl)
end
end Go.Proofs.Ytikikmkfeeljgaa.E
set_option linter.unusedVariables false
set_option maxRecDepth 100000
namespace Go.Proofs.Ytikikmkfeeljgaa.E
open Go.Proofs
noncomputable section
variable {R : Type}
/-! verderer/verdererref11.letter: function 68 -/
@[reducible] def verdererref11_letter_d : Desc := ⟨[(0, .d (.int .u8))], []⟩
def verdererref11_letter_Fi (n : Nat) (a0 : Int) (k0 : Bool → Option R) : Option R :=
  if (decide (a0 ≥ 97)) = true then (k0 (decide (a0 ≤ 122))) else (k0 false)
def verdererref11_letter_F {R : Type} := lazyN (@verdererref11_letter_Fi R)
theorem verdererref11_letter_e : @verdererref11_letter_F R = @verdererref11_letter_Fi R := lazyN_eq _
def verdererref11_letter_g (n : Nat) : Gx R := typed 1 verdererref11_letter_d fun x k => verdererref11_letter_F n x.1 (fun y0 => k (.a (.c (.b y0))) [])
def verdererref11_letter_cs (R : Type) (n : Nat) : List (Nat × Gx R) := []
def verdererref11_letter_cx (R : Type) (n : Nat) : Cx R := ⟨Try.prog, Gof (verdererref11_letter_cs R n), noDs, noDx, noLp, drawP Try.prog (Gof (verdererref11_letter_cs R n)), false, noJn, noFz⟩
theorem verdererref11_letter_ok (n : Nat) : Good Try.prog 68 (verdererref11_letter_g (R := R) n) := by
  unfold verdererref11_letter_g
  rw [verdererref11_letter_e]
  exact Good.fn (cx := verdererref11_letter_cx R n) (by kernel_rfl) (AllGood.nil) rfl Try.func68 (by kernel_rfl) rfl trivial 1 verdererref11_letter_d (by kernel_rfl) (fun x k => by kernel_rfl)
end
end Go.Proofs.Ytikikmkfeeljgaa.E
set_option linter.unusedVariables false
set_option maxRecDepth 100000
namespace Go.Proofs.Ytikikmkfeeljgaa.E
open Go.Proofs
noncomputable section
variable {R : Type}
/-! verderer/verdererref11.digit: function 71 -/
@[reducible] def verdererref11_digit_d : Desc := ⟨[(0, .d (.int .u8))], []⟩
def verdererref11_digit_Fi (n : Nat) (a0 : Int) (k0 : Bool → Option R) : Option R :=
  if (decide (a0 ≥ 48)) = true then (k0 (decide (a0 ≤ 57))) else (k0 false)
def verdererref11_digit_F {R : Type} := lazyN (@verdererref11_digit_Fi R)
theorem verdererref11_digit_e : @verdererref11_digit_F R = @verdererref11_digit_Fi R := lazyN_eq _
def verdererref11_digit_g (n : Nat) : Gx R := typed 1 verdererref11_digit_d fun x k => verdererref11_digit_F n x.1 (fun y0 => k (.a (.c (.b y0))) [])
def verdererref11_digit_cs (R : Type) (n : Nat) : List (Nat × Gx R) := []
def verdererref11_digit_cx (R : Type) (n : Nat) : Cx R := ⟨Try.prog, Gof (verdererref11_digit_cs R n), noDs, noDx, noLp, drawP Try.prog (Gof (verdererref11_digit_cs R n)), false, noJn, noFz⟩
theorem verdererref11_digit_ok (n : Nat) : Good Try.prog 71 (verdererref11_digit_g (R := R) n) := by
  unfold verdererref11_digit_g
  rw [verdererref11_digit_e]
  exact Good.fn (cx := verdererref11_digit_cx R n) (by kernel_rfl) (AllGood.nil) rfl Try.func71 (by kernel_rfl) rfl trivial 1 verdererref11_digit_d (by kernel_rfl) (fun x k => by kernel_rfl)
end
end Go.Proofs.Ytikikmkfeeljgaa.E
set_option linter.unusedVariables false
set_option maxRecDepth 100000
namespace Go.Proofs.Ytikikmkfeeljgaa.E
open Go.Proofs
noncomputable section
variable {R : Type}
/-! verderer/verdererref11.word: function 69 -/
def verdererref11_word_ds : Nat → Desc
  | 2 => ⟨[(0, .d .str), (3, .d (.int .i64))], []⟩
  | _ => ⟨[], []⟩
def verdererref11_word_dx : Nat → List (X × Desc)
  | 2 => [(.e 0, ⟨[(3, .d (.int .i64))], []⟩)]
  | _ => []
def verdererref11_word_s2 (n : Nat) (x0 : ByteArray) (x1 : Int) (k1 : ByteArray → Int → Option R) (qe0 : Int → Option R) : Option R :=
  if (decide (x1 < (x0.size : Int))) = true then (if (0 : Int) ≤ x1 then if x1 < (x0.size : Int) then (verdererref11_letter_F n (byteAt x0 x1) (fun y1 => if y1 = true then (k1 x0 (IntKind.i64.wrap (x1 + 1))) else (if (decide (x1 > 0)) = true then (if (0 : Int) ≤ x1 then if x1 < (x0.size : Int) then (verdererref11_digit_F n (byteAt x0 x1) (fun y2 => if y2 = true then (k1 x0 (IntKind.i64.wrap (x1 + 1))) else (if (0 : Int) ≤ x1 then if x1 < (x0.size : Int) then (if ((byteAt x0 x1) == 95) = true then (k1 x0 (IntKind.i64.wrap (x1 + 1))) else (qe0 x1)) else none else none))) else none else none) else (qe0 x1)))) else none else none) else (qe0 x1)
def verdererref11_word_l2 (n : Nat) (a : (verdererref11_word_ds 2).D) (k1 : (verdererref11_word_ds 2).D → Option R) (k2 : exK R (verdererref11_word_dx 2)) : Option R :=
  verdererref11_word_s2 n a.1 a.2.1 (fun x0 x1 => k1 (x0, x1, ())) (fun x0 => k2.1 (x0, ()))
@[reducible] def verdererref11_word_d : Desc := ⟨[(0, .d .str)], []⟩
def verdererref11_word_Fi (n : Nat) (a0 : ByteArray) (k0 : Int → Option R) : Option R :=
  runC (verdererref11_word_l2 n) n (a0, 0, ()) (fun b3 => k0 b3.1, ())
def verdererref11_word_F {R : Type} := lazyN (@verdererref11_word_Fi R)
theorem verdererref11_word_e : @verdererref11_word_F R = @verdererref11_word_Fi R := lazyN_eq _
def verdererref11_word_g (n : Nat) : Gx R := typed 1 verdererref11_word_d fun x k => verdererref11_word_F n x.1 (fun y0 => k (.a (.c (.i .i64 y0))) [])
def verdererref11_word_cs (R : Type) (n : Nat) : List (Nat × Gx R) := [(68, verdererref11_letter_g n), (71, verdererref11_digit_g n)]
def verdererref11_word_lp (n : Nat) : (i : Nat) → (verdererref11_word_ds i).D → exK R (verdererref11_word_dx i) → Option R
  | 2, a, k => runC (verdererref11_word_l2 n) n a k
  | _, _, _ => none
def verdererref11_word_cx (R : Type) (n : Nat) : Cx R := ⟨Try.prog, Gof (verdererref11_word_cs R n), verdererref11_word_ds, verdererref11_word_dx, verdererref11_word_lp n, drawP Try.prog (Gof (verdererref11_word_cs R n)), false, noJn, noFz⟩
theorem verdererref11_word_ok (n : Nat) : Good Try.prog 69 (verdererref11_word_g (R := R) n) := by
  unfold verdererref11_word_g
  rw [verdererref11_word_e]
  exact Good.fn (cx := verdererref11_word_cx R n) (by kernel_rfl) (AllGood.cons (verdererref11_letter_ok n) (AllGood.cons (verdererref11_digit_ok n) (AllGood.nil))) rfl Try.func69 (by kernel_rfl) rfl (by
    have e : fnLoops noJn Try.f69 = [((fnLoops noJn Try.f69)[0]?).getD (false, .skip)] := by kernel_rfl
    show LoopRuns _ _ (fnLoops noJn _)
    rw [e]
    exact ⟨LoopRun.loop (by kernel_rfl) (i := 2) (m := n) (step := verdererref11_word_l2 n) (by kernel_rfl) (fun a k1 k2 => by kernel_rfl) (fun _ _ => rfl), trivial⟩) 1 verdererref11_word_d (by kernel_rfl) (fun x k => by kernel_rfl)
end
end Go.Proofs.Ytikikmkfeeljgaa.E
set_option linter.unusedVariables false
set_option maxRecDepth 100000
namespace Go.Proofs.Ytikikmkfeeljgaa.E
open Go.Proofs
noncomputable section
variable {R : Type}
/-! verderer/verdererref01.digits: function 100 -/
def verdererref01_digits_ds : Nat → Desc
  | 3 => ⟨[(0, .d (.int .u64)), (3, .d .str), (4, .d (.int .i64))], []⟩
  | _ => ⟨[], []⟩
def verdererref01_digits_dx : Nat → List (X × Desc)
  | 3 => [(.e 0, ⟨[(3, .d .str)], []⟩)]
  | _ => []
def verdererref01_digits_s3 (n : Nat) (x0 : Int) (x1 : ByteArray) (x2 : Int) (k1 : Int → ByteArray → Int → Option R) (qe0 : ByteArray → Option R) : Option R :=
  if (decide (x2 < 20)) = true then (if (x2 == 0) = true then (if (0 : Int) ≤ (IntKind.u64.wrap ((Int.tmod x0 10) + 1)) ∧ (IntKind.u64.wrap ((Int.tmod x0 10) + 1)) ≤ ((⟨#[48, 49, 50, 51, 52, 53, 54, 55, 56, 57]⟩ : ByteArray).size : Int) then (if (0 : Int) ≤ (Int.tmod x0 10) ∧ (Int.tmod x0 10) ≤ ((Int.toNat (IntKind.u64.wrap ((Int.tmod x0 10) + 1))) : Int) then (if ((⟨#[48, 49, 50, 51, 52, 53, 54, 55, 56, 57]⟩ : ByteArray).extract (Int.toNat (Int.tmod x0 10)) (Int.toNat (IntKind.u64.wrap ((Int.tmod x0 10) + 1)))).size + x1.size ≤ 9223372036854775807 then (k1 (IntKind.u64.wrap (Int.tdiv x0 10)) (((⟨#[48, 49, 50, 51, 52, 53, 54, 55, 56, 57]⟩ : ByteArray).extract (Int.toNat (Int.tmod x0 10)) (Int.toNat (IntKind.u64.wrap ((Int.tmod x0 10) + 1)))) ++ x1) (IntKind.i64.wrap (x2 + 1))) else none) else none) else none) else (if (decide (x0 > 0)) = true then (if (0 : Int) ≤ (IntKind.u64.wrap ((Int.tmod x0 10) + 1)) ∧ (IntKind.u64.wrap ((Int.tmod x0 10) + 1)) ≤ ((⟨#[48, 49, 50, 51, 52, 53, 54, 55, 56, 57]⟩ : ByteArray).size : Int) then (if (0 : Int) ≤ (Int.tmod x0 10) ∧ (Int.tmod x0 10) ≤ ((Int.toNat (IntKind.u64.wrap ((Int.tmod x0 10) + 1))) : Int) then (if ((⟨#[48, 49, 50, 51, 52, 53, 54, 55, 56, 57]⟩ : ByteArray).extract (Int.toNat (Int.tmod x0 10)) (Int.toNat (IntKind.u64.wrap ((Int.tmod x0 10) + 1)))).size + x1.size ≤ 9223372036854775807 then (k1 (IntKind.u64.wrap (Int.tdiv x0 10)) (((⟨#[48, 49, 50, 51, 52, 53, 54, 55, 56, 57]⟩ : ByteArray).extract (Int.toNat (Int.tmod x0 10)) (Int.toNat (IntKind.u64.wrap ((Int.tmod x0 10) + 1)))) ++ x1) (IntKind.i64.wrap (x2 + 1))) else none) else none) else none) else (qe0 x1))) else (qe0 x1)
def verdererref01_digits_l3 (n : Nat) (a : (verdererref01_digits_ds 3).D) (k1 : (verdererref01_digits_ds 3).D → Option R) (k2 : exK R (verdererref01_digits_dx 3)) : Option R :=
  verdererref01_digits_s3 n a.1 a.2.1 a.2.2.1 (fun x0 x1 x2 => k1 (x0, x1, x2, ())) (fun x0 => k2.1 (x0, ()))
@[reducible] def verdererref01_digits_d : Desc := ⟨[(0, .d (.int .u64))], []⟩
def verdererref01_digits_Fi (n : Nat) (a0 : Int) (k0 : ByteArray → Option R) : Option R :=
  runC (verdererref01_digits_l3 n) n (a0, (⟨#[]⟩ : ByteArray), 0, ()) (fun b1 => k0 b1.1, ())
def verdererref01_digits_F {R : Type} := lazyN (@verdererref01_digits_Fi R)
theorem verdererref01_digits_e : @verdererref01_digits_F R = @verdererref01_digits_Fi R := lazyN_eq _
def verdererref01_digits_g (n : Nat) : Gx R := typed 1 verdererref01_digits_d fun x k => verdererref01_digits_F n x.1 (fun y0 => k (.a (.c (.s y0))) [])
def verdererref01_digits_cs (R : Type) (n : Nat) : List (Nat × Gx R) := []
def verdererref01_digits_lp (n : Nat) : (i : Nat) → (verdererref01_digits_ds i).D → exK R (verdererref01_digits_dx i) → Option R
  | 3, a, k => runC (verdererref01_digits_l3 n) n a k
  | _, _, _ => none
def verdererref01_digits_cx (R : Type) (n : Nat) : Cx R := ⟨Try.prog, Gof (verdererref01_digits_cs R n), verdererref01_digits_ds, verdererref01_digits_dx, verdererref01_digits_lp n, drawP Try.prog (Gof (verdererref01_digits_cs R n)), false, noJn, noFz⟩
theorem verdererref01_digits_ok (n : Nat) : Good Try.prog 100 (verdererref01_digits_g (R := R) n) := by
  unfold verdererref01_digits_g
  rw [verdererref01_digits_e]
  exact Good.fn (cx := verdererref01_digits_cx R n) (by kernel_rfl) (AllGood.nil) rfl Try.func100 (by kernel_rfl) rfl (by
    have e : fnLoops noJn Try.f100 = [((fnLoops noJn Try.f100)[0]?).getD (false, .skip)] := by kernel_rfl
    show LoopRuns _ _ (fnLoops noJn _)
    rw [e]
    exact ⟨LoopRun.loop (by kernel_rfl) (i := 3) (m := n) (step := verdererref01_digits_l3 n) (by kernel_rfl) (fun a k1 k2 => by kernel_rfl) (fun _ _ => rfl), trivial⟩) 1 verdererref01_digits_d (by kernel_rfl) (fun x k => by kernel_rfl)
end
end Go.Proofs.Ytikikmkfeeljgaa.E
set_option linter.unusedVariables false
set_option maxRecDepth 100000
namespace Go.Proofs.Ytikikmkfeeljgaa.E
open Go.Proofs
noncomputable section
variable {R : Type}
/-! verderer/verdererref01.Num: function 92 -/
@[reducible] def verdererref01_Num_d : Desc := ⟨[(0, .d (.int .i64))], []⟩
def verdererref01_Num_Fi (n : Nat) (a0 : Int) (k0 : ByteArray → Option R) : Option R :=
  if (decide (a0 < 0)) = true then (verdererref01_digits_F n (IntKind.u64.wrap (0 - (IntKind.u64.wrap a0))) (fun y1 => if (⟨#[45]⟩ : ByteArray).size + y1.size ≤ 9223372036854775807 then (k0 ((⟨#[45]⟩ : ByteArray) ++ y1)) else none)) else (verdererref01_digits_F n (IntKind.u64.wrap a0) (fun y2 => k0 y2))
def verdererref01_Num_F {R : Type} := lazyN (@verdererref01_Num_Fi R)
theorem verdererref01_Num_e : @verdererref01_Num_F R = @verdererref01_Num_Fi R := lazyN_eq _
def verdererref01_Num_g (n : Nat) : Gx R := typed 1 verdererref01_Num_d fun x k => verdererref01_Num_F n x.1 (fun y0 => k (.a (.c (.s y0))) [])
def verdererref01_Num_cs (R : Type) (n : Nat) : List (Nat × Gx R) := [(100, verdererref01_digits_g n)]
def verdererref01_Num_cx (R : Type) (n : Nat) : Cx R := ⟨Try.prog, Gof (verdererref01_Num_cs R n), noDs, noDx, noLp, drawP Try.prog (Gof (verdererref01_Num_cs R n)), false, noJn, noFz⟩
theorem verdererref01_Num_ok (n : Nat) : Good Try.prog 92 (verdererref01_Num_g (R := R) n) := by
  unfold verdererref01_Num_g
  rw [verdererref01_Num_e]
  exact Good.fn (cx := verdererref01_Num_cx R n) (by kernel_rfl) (AllGood.cons (verdererref01_digits_ok n) (AllGood.nil)) rfl Try.func92 (by kernel_rfl) rfl trivial 1 verdererref01_Num_d (by kernel_rfl) (fun x k => by kernel_rfl)
end
end Go.Proofs.Ytikikmkfeeljgaa.E
set_option linter.unusedVariables false
set_option maxRecDepth 100000
namespace Go.Proofs.Ytikikmkfeeljgaa.E
open Go.Proofs
noncomputable section
variable {R : Type}
/-! verderer/verdererref01.Number: function 84 -/
def verdererref01_Number_ds : Nat → Desc
  | 8 => ⟨[(0, .d .str), (4, .d (.int .u64)), (5, .d (.int .i64)), (6, .d (.int .i64))], []⟩
  | 1000005 => ⟨[(0, .d .str), (4, .d (.int .u64)), (5, .d (.int .i64))], []⟩
  | _ => ⟨[], []⟩
def verdererref01_Number_dx : Nat → List (X × Desc)
  | 8 => [(.r, ⟨[(2, .d (.int .i64)), (3, .d .bool)], []⟩), (.e 0, ⟨[(0, .d .str), (4, .d (.int .u64)), (5, .d (.int .i64))], []⟩)]
  | 1000005 => [(.r, ⟨[(2, .d (.int .i64)), (3, .d .bool)], []⟩)]
  | _ => []
def verdererref01_Number_s8 (n : Nat) (x0 : ByteArray) (x1 : Int) (x2 : Int) (x3 : Int) (k1 : ByteArray → Int → Int → Int → Option R) (qr : Int → Bool → Option R) (qe0 : ByteArray → Int → Int → Option R) : Option R :=
  if (decide (x3 < (x0.size : Int))) = true then (if (0 : Int) ≤ x3 then if x3 < (x0.size : Int) then (if (decide ((byteAt x0 x3) < 48)) = true then (qr 0 false) else (if (0 : Int) ≤ x3 then if x3 < (x0.size : Int) then (if (decide ((byteAt x0 x3) > 57)) = true then (qr 0 false) else (if (0 : Int) ≤ x3 then if x3 < (x0.size : Int) then (k1 x0 (IntKind.u64.wrap ((IntKind.u64.wrap (x1 * 10)) + (IntKind.u64.wrap (IntKind.u8.wrap ((byteAt x0 x3) - 48))))) x2 (IntKind.i64.wrap (x3 + 1))) else none else none)) else none else none)) else none else none) else (qe0 x0 x1 x2)
def verdererref01_Number_l8 (n : Nat) (a : (verdererref01_Number_ds 8).D) (k1 : (verdererref01_Number_ds 8).D → Option R) (k2 : exK R (verdererref01_Number_dx 8)) : Option R :=
  verdererref01_Number_s8 n a.1 a.2.1 a.2.2.1 a.2.2.2.1 (fun x0 x1 x2 x3 => k1 (x0, x1, x2, x3, ())) (fun x0 x1 => k2.1 (x0, x1, ())) (fun x0 x1 x2 => k2.2.1 (x0, x1, x2, ()))
def verdererref01_Number_s1000005 (n : Nat) (x0 : ByteArray) (x1 : Int) (x2 : Int) (qr : Int → Bool → Option R) : Option R :=
  if ((x0.size : Int) == x2) = true then (qr 0 false) else (if (decide ((IntKind.i64.wrap ((x0.size : Int) - x2)) > 19)) = true then (qr 0 false) else (runC (verdererref01_Number_l8 n) n (x0, x1, x2, x2, ()) (fun b2 => qr b2.1 b2.2.1, fun b5 => if (b5.2.2.1 == 1) = true then (verdererref01_Num_F n (IntKind.i64.wrap (IntKind.u64.wrap (0 - b5.2.1))) (fun y6 => qr (IntKind.i64.wrap (IntKind.u64.wrap (0 - b5.2.1))) (y6.toList == b5.1.toList))) else (verdererref01_Num_F n (IntKind.i64.wrap b5.2.1) (fun y7 => qr (IntKind.i64.wrap b5.2.1) (y7.toList == b5.1.toList))), ())))
def verdererref01_Number_li1000005 (n : Nat) (a : (verdererref01_Number_ds 1000005).D) (k2 : exK R (verdererref01_Number_dx 1000005)) : Option R :=
  verdererref01_Number_s1000005 n a.1 a.2.1 a.2.2.1 (fun x0 x1 => k2.1 (x0, x1, ()))
def verdererref01_Number_l1000005 {R : Type} := lazyN (@verdererref01_Number_li1000005 R)
theorem verdererref01_Number_e1000005 : @verdererref01_Number_l1000005 R = @verdererref01_Number_li1000005 R := lazyN_eq _
@[reducible] def verdererref01_Number_d : Desc := ⟨[(0, .d .str)], []⟩
def verdererref01_Number_Fi (n : Nat) (a0 : ByteArray) (k0 : Int → Bool → Option R) : Option R :=
  if (decide ((a0.size : Int) > 0)) = true then (if (0 : Int) ≤ 0 then if 0 < (a0.size : Int) then (if ((byteAt a0 0) == 45) = true then (verdererref01_Number_l1000005 n (a0, 0, 1, ()) (fun b9 => k0 b9.1 b9.2.1, ())) else (verdererref01_Number_l1000005 n (a0, 0, 0, ()) (fun b11 => k0 b11.1 b11.2.1, ()))) else none else none) else (verdererref01_Number_l1000005 n (a0, 0, 0, ()) (fun b13 => k0 b13.1 b13.2.1, ()))
def verdererref01_Number_F {R : Type} := lazyN (@verdererref01_Number_Fi R)
theorem verdererref01_Number_e : @verdererref01_Number_F R = @verdererref01_Number_Fi R := lazyN_eq _
def verdererref01_Number_g (n : Nat) : Gx R := typed 1 verdererref01_Number_d fun x k => verdererref01_Number_F n x.1 (fun y0 y1 => k (.tu [(.c (.i .i64 y0)), (.c (.b y1))]) [])
def verdererref01_Number_cs (R : Type) (n : Nat) : List (Nat × Gx R) := [(92, verdererref01_Num_g n)]
def verdererref01_Number_lp (n : Nat) : (i : Nat) → (verdererref01_Number_ds i).D → exK R (verdererref01_Number_dx i) → Option R
  | 8, a, k => runC (verdererref01_Number_l8 n) n a k
  | 1000005, a, k => verdererref01_Number_l1000005 n a k
  | _, _, _ => none
def verdererref01_Number_cx (R : Type) (n : Nat) : Cx R := ⟨Try.prog, Gof (verdererref01_Number_cs R n), verdererref01_Number_ds, verdererref01_Number_dx, verdererref01_Number_lp n, drawP Try.prog (Gof (verdererref01_Number_cs R n)), false, (memN [5]), noFz⟩
theorem verdererref01_Number_ok (n : Nat) : Good Try.prog 84 (verdererref01_Number_g (R := R) n) := by
  unfold verdererref01_Number_g
  rw [verdererref01_Number_e]
  exact Good.fn (cx := verdererref01_Number_cx R n) (by kernel_rfl) (AllGood.cons (verdererref01_Num_ok n) (AllGood.nil)) rfl Try.func84 (by kernel_rfl) rfl (by
    have e : fnLoops (memN [5]) Try.f84 = [((fnLoops (memN [5]) Try.f84)[0]?).getD (false, .skip), ((fnLoops (memN [5]) Try.f84)[1]?).getD (false, .skip)] := by kernel_rfl
    show LoopRuns _ _ (fnLoops (memN [5]) _)
    rw [e]
    exact ⟨LoopRun.joinS (by kernel_rfl) (i := 5) (L := verdererref01_Number_l1000005 n) (Li := verdererref01_Number_li1000005 n) (by rw [verdererref01_Number_e1000005]) (by kernel_rfl) (fun a k => by kernel_rfl) (fun a k => by kernel_rfl), ⟨LoopRun.loop (by kernel_rfl) (i := 8) (m := n) (step := verdererref01_Number_l8 n) (by kernel_rfl) (fun a k1 k2 => by kernel_rfl) (fun _ _ => rfl), trivial⟩⟩) 1 verdererref01_Number_d (by kernel_rfl) (fun x k => by kernel_rfl)
end
end Go.Proofs.Ytikikmkfeeljgaa.E
set_option linter.unusedVariables false
set_option maxRecDepth 100000
namespace Go.Proofs.Ytikikmkfeeljgaa.E
open Go.Proofs
noncomputable section
variable {R : Type}
/-! verderer/verdererref01.Right: function 94 -/
@[reducible] def verdererref01_Right_d : Desc := ⟨[(0, .d ty36)], []⟩
def verdererref01_Right_Fi (n : Nat) (a0 : ty36.D) (k0 : Bool → Option R) : Option R :=
  if (decide (a0.1 < 0)) = true then (k0 false) else (if (decide (a0.1 > 3)) = true then (k0 false) else (if (a0.1 != 1) = true then (if a0.2.1 = true then (k0 false) else (if (a0.1 != 2) = true then (if (a0.2.2.1 != 0) = true then (k0 false) else (if (a0.1 != 3) = true then (if (!(a0.2.2.2.1.toList == (⟨#[]⟩ : ByteArray).toList)) = true then (k0 false) else (k0 (decide ((a0.2.2.2.1.size : Int) ≤ 60)))) else (k0 (decide ((a0.2.2.2.1.size : Int) ≤ 60))))) else (if (a0.1 != 3) = true then (if (!(a0.2.2.2.1.toList == (⟨#[]⟩ : ByteArray).toList)) = true then (k0 false) else (k0 (decide ((a0.2.2.2.1.size : Int) ≤ 60)))) else (k0 (decide ((a0.2.2.2.1.size : Int) ≤ 60)))))) else (if (a0.1 != 2) = true then (if (a0.2.2.1 != 0) = true then (k0 false) else (if (a0.1 != 3) = true then (if (!(a0.2.2.2.1.toList == (⟨#[]⟩ : ByteArray).toList)) = true then (k0 false) else (k0 (decide ((a0.2.2.2.1.size : Int) ≤ 60)))) else (k0 (decide ((a0.2.2.2.1.size : Int) ≤ 60))))) else (if (a0.1 != 3) = true then (if (!(a0.2.2.2.1.toList == (⟨#[]⟩ : ByteArray).toList)) = true then (k0 false) else (k0 (decide ((a0.2.2.2.1.size : Int) ≤ 60)))) else (k0 (decide ((a0.2.2.2.1.size : Int) ≤ 60)))))))
def verdererref01_Right_F {R : Type} := lazyN (@verdererref01_Right_Fi R)
theorem verdererref01_Right_e : @verdererref01_Right_F R = @verdererref01_Right_Fi R := lazyN_eq _
def verdererref01_Right_g (n : Nat) : Gx R := typed 1 verdererref01_Right_d fun x k => verdererref01_Right_F n x.1 (fun y0 => k (.a (.c (.b y0))) [])
def verdererref01_Right_cs (R : Type) (n : Nat) : List (Nat × Gx R) := []
def verdererref01_Right_cx (R : Type) (n : Nat) : Cx R := ⟨Try.prog, Gof (verdererref01_Right_cs R n), noDs, noDx, noLp, drawP Try.prog (Gof (verdererref01_Right_cs R n)), false, noJn, noFz⟩
theorem verdererref01_Right_ok (n : Nat) : Good Try.prog 94 (verdererref01_Right_g (R := R) n) := by
  unfold verdererref01_Right_g
  rw [verdererref01_Right_e]
  exact Good.fn (cx := verdererref01_Right_cx R n) (by kernel_rfl) (AllGood.nil) rfl Try.func94 (by kernel_rfl) rfl trivial 1 verdererref01_Right_d (by kernel_rfl) (fun x k => by kernel_rfl)
end
end Go.Proofs.Ytikikmkfeeljgaa.E
set_option linter.unusedVariables false
set_option maxRecDepth 100000
namespace Go.Proofs.Ytikikmkfeeljgaa.E
open Go.Proofs
noncomputable section
variable {R : Type}
/-! verderer/verdererref01.quoted: function 95 -/
def verdererref01_quoted_ds : Nat → Desc
  | 1000009 => ⟨[(0, .d .str), (3, .d .str), (4, .d (.int .i64)), (5, .d (.int .u8)), (35, .d .bool)], []⟩
  | 1000007 => ⟨[(0, .d .str), (3, .d .str), (4, .d (.int .i64)), (5, .d (.int .u8)), (21, .d .bool)], []⟩
  | 3 => ⟨[(0, .d .str), (3, .d .str), (4, .d (.int .i64))], []⟩
  | _ => ⟨[], []⟩
def verdererref01_quoted_dx : Nat → List (X × Desc)
  | 1000009 => [(.n, ⟨[(0, .d .str), (3, .d .str), (4, .d (.int .i64))], []⟩)]
  | 1000007 => [(.n, ⟨[(0, .d .str), (3, .d .str), (4, .d (.int .i64))], []⟩)]
  | 3 => [(.e 0, ⟨[(3, .d .str)], []⟩)]
  | _ => []
def verdererref01_quoted_s1000009 (n : Nat) (x0 : ByteArray) (x1 : ByteArray) (x2 : Int) (x3 : Int) (x4 : Bool) (qn : ByteArray → ByteArray → Int → Option R) : Option R :=
  if x4 = true then (if x1.size + (⟨#[92, 120]⟩ : ByteArray).size ≤ 9223372036854775807 then (if (0 : Int) ≤ (IntKind.u8.wrap ((IntKind.u8.wrap (Int.tdiv x3 16)) + 1)) ∧ (IntKind.u8.wrap ((IntKind.u8.wrap (Int.tdiv x3 16)) + 1)) ≤ ((⟨#[48, 49, 50, 51, 52, 53, 54, 55, 56, 57, 97, 98, 99, 100, 101, 102]⟩ : ByteArray).size : Int) then (if (0 : Int) ≤ (IntKind.u8.wrap (Int.tdiv x3 16)) ∧ (IntKind.u8.wrap (Int.tdiv x3 16)) ≤ ((Int.toNat (IntKind.u8.wrap ((IntKind.u8.wrap (Int.tdiv x3 16)) + 1))) : Int) then (if (x1 ++ (⟨#[92, 120]⟩ : ByteArray)).size + ((⟨#[48, 49, 50, 51, 52, 53, 54, 55, 56, 57, 97, 98, 99, 100, 101, 102]⟩ : ByteArray).extract (Int.toNat (IntKind.u8.wrap (Int.tdiv x3 16))) (Int.toNat (IntKind.u8.wrap ((IntKind.u8.wrap (Int.tdiv x3 16)) + 1)))).size ≤ 9223372036854775807 then (if (0 : Int) ≤ (IntKind.u8.wrap ((Int.tmod x3 16) + 1)) ∧ (IntKind.u8.wrap ((Int.tmod x3 16) + 1)) ≤ ((⟨#[48, 49, 50, 51, 52, 53, 54, 55, 56, 57, 97, 98, 99, 100, 101, 102]⟩ : ByteArray).size : Int) then (if (0 : Int) ≤ (Int.tmod x3 16) ∧ (Int.tmod x3 16) ≤ ((Int.toNat (IntKind.u8.wrap ((Int.tmod x3 16) + 1))) : Int) then (if ((x1 ++ (⟨#[92, 120]⟩ : ByteArray)) ++ ((⟨#[48, 49, 50, 51, 52, 53, 54, 55, 56, 57, 97, 98, 99, 100, 101, 102]⟩ : ByteArray).extract (Int.toNat (IntKind.u8.wrap (Int.tdiv x3 16))) (Int.toNat (IntKind.u8.wrap ((IntKind.u8.wrap (Int.tdiv x3 16)) + 1))))).size + ((⟨#[48, 49, 50, 51, 52, 53, 54, 55, 56, 57, 97, 98, 99, 100, 101, 102]⟩ : ByteArray).extract (Int.toNat (Int.tmod x3 16)) (Int.toNat (IntKind.u8.wrap ((Int.tmod x3 16) + 1)))).size ≤ 9223372036854775807 then (qn x0 (((x1 ++ (⟨#[92, 120]⟩ : ByteArray)) ++ ((⟨#[48, 49, 50, 51, 52, 53, 54, 55, 56, 57, 97, 98, 99, 100, 101, 102]⟩ : ByteArray).extract (Int.toNat (IntKind.u8.wrap (Int.tdiv x3 16))) (Int.toNat (IntKind.u8.wrap ((IntKind.u8.wrap (Int.tdiv x3 16)) + 1))))) ++ ((⟨#[48, 49, 50, 51, 52, 53, 54, 55, 56, 57, 97, 98, 99, 100, 101, 102]⟩ : ByteArray).extract (Int.toNat (Int.tmod x3 16)) (Int.toNat (IntKind.u8.wrap ((Int.tmod x3 16) + 1))))) x2) else none) else none) else none) else none) else none) else none) else none) else (if (0 : Int) ≤ (IntKind.i64.wrap (x2 + 1)) ∧ (IntKind.i64.wrap (x2 + 1)) ≤ (x0.size : Int) then (if (0 : Int) ≤ x2 ∧ x2 ≤ ((Int.toNat (IntKind.i64.wrap (x2 + 1))) : Int) then (if x1.size + (x0.extract (Int.toNat x2) (Int.toNat (IntKind.i64.wrap (x2 + 1)))).size ≤ 9223372036854775807 then (qn x0 (x1 ++ (x0.extract (Int.toNat x2) (Int.toNat (IntKind.i64.wrap (x2 + 1))))) x2) else none) else none) else none)
def verdererref01_quoted_li1000009 (n : Nat) (a : (verdererref01_quoted_ds 1000009).D) (k2 : exK R (verdererref01_quoted_dx 1000009)) : Option R :=
  verdererref01_quoted_s1000009 n a.1 a.2.1 a.2.2.1 a.2.2.2.1 a.2.2.2.2.1 (fun x0 x1 x2 => k2.1 (x0, x1, x2, ()))
def verdererref01_quoted_l1000009 {R : Type} := lazyN (@verdererref01_quoted_li1000009 R)
theorem verdererref01_quoted_e1000009 : @verdererref01_quoted_l1000009 R = @verdererref01_quoted_li1000009 R := lazyN_eq _
def verdererref01_quoted_s1000007 (n : Nat) (x0 : ByteArray) (x1 : ByteArray) (x2 : Int) (x3 : Int) (x4 : Bool) (qn : ByteArray → ByteArray → Int → Option R) : Option R :=
  if x4 = true then (if x1.size + (⟨#[92]⟩ : ByteArray).size ≤ 9223372036854775807 then (if (0 : Int) ≤ (IntKind.i64.wrap (x2 + 1)) ∧ (IntKind.i64.wrap (x2 + 1)) ≤ (x0.size : Int) then (if (0 : Int) ≤ x2 ∧ x2 ≤ ((Int.toNat (IntKind.i64.wrap (x2 + 1))) : Int) then (if (x1 ++ (⟨#[92]⟩ : ByteArray)).size + (x0.extract (Int.toNat x2) (Int.toNat (IntKind.i64.wrap (x2 + 1)))).size ≤ 9223372036854775807 then (qn x0 ((x1 ++ (⟨#[92]⟩ : ByteArray)) ++ (x0.extract (Int.toNat x2) (Int.toNat (IntKind.i64.wrap (x2 + 1))))) x2) else none) else none) else none) else none) else (if (decide (x3 < 32)) = true then (verdererref01_quoted_l1000009 n (x0, x1, x2, x3, true, ()) (fun b3 => qn b3.1 b3.2.1 b3.2.2.1, ())) else (verdererref01_quoted_l1000009 n (x0, x1, x2, x3, (decide (x3 > 126)), ()) (fun b6 => qn b6.1 b6.2.1 b6.2.2.1, ())))
def verdererref01_quoted_li1000007 (n : Nat) (a : (verdererref01_quoted_ds 1000007).D) (k2 : exK R (verdererref01_quoted_dx 1000007)) : Option R :=
  verdererref01_quoted_s1000007 n a.1 a.2.1 a.2.2.1 a.2.2.2.1 a.2.2.2.2.1 (fun x0 x1 x2 => k2.1 (x0, x1, x2, ()))
def verdererref01_quoted_l1000007 {R : Type} := lazyN (@verdererref01_quoted_li1000007 R)
theorem verdererref01_quoted_e1000007 : @verdererref01_quoted_l1000007 R = @verdererref01_quoted_li1000007 R := lazyN_eq _
def verdererref01_quoted_s3 (n : Nat) (x0 : ByteArray) (x1 : ByteArray) (x2 : Int) (k1 : ByteArray → ByteArray → Int → Option R) (qe0 : ByteArray → Option R) : Option R :=
  if (decide (x2 < (x0.size : Int))) = true then (if (0 : Int) ≤ x2 then if x2 < (x0.size : Int) then (if ((byteAt x0 x2) == 34) = true then (verdererref01_quoted_l1000007 n (x0, x1, x2, (byteAt x0 x2), true, ()) (fun b9 => k1 b9.1 b9.2.1 (IntKind.i64.wrap (b9.2.2.1 + 1)), ())) else (verdererref01_quoted_l1000007 n (x0, x1, x2, (byteAt x0 x2), ((byteAt x0 x2) == 92), ()) (fun b12 => k1 b12.1 b12.2.1 (IntKind.i64.wrap (b12.2.2.1 + 1)), ()))) else none else none) else (qe0 x1)
def verdererref01_quoted_l3 (n : Nat) (a : (verdererref01_quoted_ds 3).D) (k1 : (verdererref01_quoted_ds 3).D → Option R) (k2 : exK R (verdererref01_quoted_dx 3)) : Option R :=
  verdererref01_quoted_s3 n a.1 a.2.1 a.2.2.1 (fun x0 x1 x2 => k1 (x0, x1, x2, ())) (fun x0 => k2.1 (x0, ()))
@[reducible] def verdererref01_quoted_d : Desc := ⟨[(0, .d .str)], []⟩
def verdererref01_quoted_Fi (n : Nat) (a0 : ByteArray) (k0 : ByteArray → Option R) : Option R :=
  runC (verdererref01_quoted_l3 n) n (a0, (⟨#[34]⟩ : ByteArray), 0, ()) (fun b13 => if b13.1.size + (⟨#[34]⟩ : ByteArray).size ≤ 9223372036854775807 then (k0 (b13.1 ++ (⟨#[34]⟩ : ByteArray))) else none, ())
def verdererref01_quoted_F {R : Type} := lazyN (@verdererref01_quoted_Fi R)
theorem verdererref01_quoted_e : @verdererref01_quoted_F R = @verdererref01_quoted_Fi R := lazyN_eq _
def verdererref01_quoted_g (n : Nat) : Gx R := typed 1 verdererref01_quoted_d fun x k => verdererref01_quoted_F n x.1 (fun y0 => k (.a (.c (.s y0))) [])
def verdererref01_quoted_cs (R : Type) (n : Nat) : List (Nat × Gx R) := []
def verdererref01_quoted_lp (n : Nat) : (i : Nat) → (verdererref01_quoted_ds i).D → exK R (verdererref01_quoted_dx i) → Option R
  | 1000009, a, k => verdererref01_quoted_l1000009 n a k
  | 1000007, a, k => verdererref01_quoted_l1000007 n a k
  | 3, a, k => runC (verdererref01_quoted_l3 n) n a k
  | _, _, _ => none
def verdererref01_quoted_cx (R : Type) (n : Nat) : Cx R := ⟨Try.prog, Gof (verdererref01_quoted_cs R n), verdererref01_quoted_ds, verdererref01_quoted_dx, verdererref01_quoted_lp n, drawP Try.prog (Gof (verdererref01_quoted_cs R n)), false, (memN [9, 7]), noFz⟩
theorem verdererref01_quoted_ok (n : Nat) : Good Try.prog 95 (verdererref01_quoted_g (R := R) n) := by
  unfold verdererref01_quoted_g
  rw [verdererref01_quoted_e]
  exact Good.fn (cx := verdererref01_quoted_cx R n) (by kernel_rfl) (AllGood.nil) rfl Try.func95 (by kernel_rfl) rfl (by
    have e : fnLoops (memN [9, 7]) Try.f95 = [((fnLoops (memN [9, 7]) Try.f95)[0]?).getD (false, .skip), ((fnLoops (memN [9, 7]) Try.f95)[1]?).getD (false, .skip), ((fnLoops (memN [9, 7]) Try.f95)[2]?).getD (false, .skip)] := by kernel_rfl
    show LoopRuns _ _ (fnLoops (memN [9, 7]) _)
    rw [e]
    exact ⟨LoopRun.loop (by kernel_rfl) (i := 3) (m := n) (step := verdererref01_quoted_l3 n) (by kernel_rfl) (fun a k1 k2 => by kernel_rfl) (fun _ _ => rfl), ⟨LoopRun.joinS (by kernel_rfl) (i := 7) (L := verdererref01_quoted_l1000007 n) (Li := verdererref01_quoted_li1000007 n) (by rw [verdererref01_quoted_e1000007]) (by kernel_rfl) (fun a k => by kernel_rfl) (fun a k => by kernel_rfl), ⟨LoopRun.joinS (by kernel_rfl) (i := 9) (L := verdererref01_quoted_l1000009 n) (Li := verdererref01_quoted_li1000009 n) (by rw [verdererref01_quoted_e1000009]) (by kernel_rfl) (fun a k => by kernel_rfl) (fun a k => by kernel_rfl), trivial⟩⟩⟩) 1 verdererref01_quoted_d (by kernel_rfl) (fun x k => by kernel_rfl)
end
end Go.Proofs.Ytikikmkfeeljgaa.E
set_option linter.unusedVariables false
set_option maxRecDepth 100000
namespace Go.Proofs.Ytikikmkfeeljgaa.E
open Go.Proofs
noncomputable section
variable {R : Type}
/-! verderer/verdererref01.Show: function 86 -/
@[reducible] def verdererref01_Show_d : Desc := ⟨[(0, .d ty36)], []⟩
def verdererref01_Show_Fi (n : Nat) (a0 : ty36.D) (k0 : ByteArray → Option R) : Option R :=
  verdererref01_Right_F n a0 (fun y1 => if (!y1) = true then (k0 (⟨#[]⟩ : ByteArray)) else (if (a0.1 == 0) = true then (k0 (⟨#[110, 117, 108, 108]⟩ : ByteArray)) else (if (a0.1 == 1) = true then (if a0.2.1 = true then (k0 (⟨#[116, 114, 117, 101]⟩ : ByteArray)) else (k0 (⟨#[102, 97, 108, 115, 101]⟩ : ByteArray))) else (if (a0.1 == 2) = true then (verdererref01_Num_F n a0.2.2.1 (fun y2 => k0 y2)) else (verdererref01_quoted_F n a0.2.2.2.1 (fun y3 => k0 y3))))))
def verdererref01_Show_F {R : Type} := lazyN (@verdererref01_Show_Fi R)
theorem verdererref01_Show_e : @verdererref01_Show_F R = @verdererref01_Show_Fi R := lazyN_eq _
def verdererref01_Show_g (n : Nat) : Gx R := typed 1 verdererref01_Show_d fun x k => verdererref01_Show_F n x.1 (fun y0 => k (.a (.c (.s y0))) [])
def verdererref01_Show_cs (R : Type) (n : Nat) : List (Nat × Gx R) := [(92, verdererref01_Num_g n), (94, verdererref01_Right_g n), (95, verdererref01_quoted_g n)]
def verdererref01_Show_cx (R : Type) (n : Nat) : Cx R := ⟨Try.prog, Gof (verdererref01_Show_cs R n), noDs, noDx, noLp, drawP Try.prog (Gof (verdererref01_Show_cs R n)), false, noJn, noFz⟩
theorem verdererref01_Show_ok (n : Nat) : Good Try.prog 86 (verdererref01_Show_g (R := R) n) := by
  unfold verdererref01_Show_g
  rw [verdererref01_Show_e]
  exact Good.fn (cx := verdererref01_Show_cx R n) (by kernel_rfl) (AllGood.cons (verdererref01_Num_ok n) (AllGood.cons (verdererref01_Right_ok n) (AllGood.cons (verdererref01_quoted_ok n) (AllGood.nil)))) rfl Try.func86 (by kernel_rfl) rfl trivial 1 verdererref01_Show_d (by kernel_rfl) (fun x k => by kernel_rfl)
end
end Go.Proofs.Ytikikmkfeeljgaa.E
set_option linter.unusedVariables false
set_option maxRecDepth 100000
namespace Go.Proofs.Ytikikmkfeeljgaa.E
open Go.Proofs
noncomputable section
variable {R : Type}
/-! verderer/verdererref01.hex: function 93 -/
@[reducible] def verdererref01_hex_d : Desc := ⟨[(0, .d (.int .u8))], []⟩
def verdererref01_hex_Fi (n : Nat) (a0 : Int) (k0 : Int → Option R) : Option R :=
  if (decide (a0 ≥ 48)) = true then (if (decide (a0 ≤ 57)) = true then (k0 (IntKind.i64.wrap (IntKind.u8.wrap (a0 - 48)))) else (if (decide (a0 ≥ 97)) = true then (if (decide (a0 ≤ 102)) = true then (k0 (IntKind.i64.wrap ((IntKind.i64.wrap (IntKind.u8.wrap (a0 - 97))) + 10))) else (k0 (-1))) else (k0 (-1)))) else (if (decide (a0 ≥ 97)) = true then (if (decide (a0 ≤ 102)) = true then (k0 (IntKind.i64.wrap ((IntKind.i64.wrap (IntKind.u8.wrap (a0 - 97))) + 10))) else (k0 (-1))) else (k0 (-1)))
def verdererref01_hex_F {R : Type} := lazyN (@verdererref01_hex_Fi R)
theorem verdererref01_hex_e : @verdererref01_hex_F R = @verdererref01_hex_Fi R := lazyN_eq _
def verdererref01_hex_g (n : Nat) : Gx R := typed 1 verdererref01_hex_d fun x k => verdererref01_hex_F n x.1 (fun y0 => k (.a (.c (.i .i64 y0))) [])
def verdererref01_hex_cs (R : Type) (n : Nat) : List (Nat × Gx R) := []
def verdererref01_hex_cx (R : Type) (n : Nat) : Cx R := ⟨Try.prog, Gof (verdererref01_hex_cs R n), noDs, noDx, noLp, drawP Try.prog (Gof (verdererref01_hex_cs R n)), false, noJn, noFz⟩
theorem verdererref01_hex_ok (n : Nat) : Good Try.prog 93 (verdererref01_hex_g (R := R) n) := by
  unfold verdererref01_hex_g
  rw [verdererref01_hex_e]
  exact Good.fn (cx := verdererref01_hex_cx R n) (by kernel_rfl) (AllGood.nil) rfl Try.func93 (by kernel_rfl) rfl trivial 1 verdererref01_hex_d (by kernel_rfl) (fun x k => by kernel_rfl)
end
end Go.Proofs.Ytikikmkfeeljgaa.E
set_option linter.unusedVariables false
set_option maxRecDepth 100000
namespace Go.Proofs.Ytikikmkfeeljgaa.E
open Go.Proofs
noncomputable section
variable {R : Type}
/-! verderer/verdererref01.unquoted: function 85 -/
def verdererref01_unquoted_ds : Nat → Desc
  | 3 => ⟨[(0, .d .str), (3, .ow 0), (4, .d (.int .i64))], [.arr 5 (.int .u8)]⟩
  | _ => ⟨[], []⟩
def verdererref01_unquoted_dx : Nat → List (X × Desc)
  | 3 => [(.r, ⟨[(2, .d .str)], []⟩), (.e 0, ⟨[(3, .ow 0)], [.arr 5 (.int .u8)]⟩)]
  | _ => []
def verdererref01_unquoted_s3 (n : Nat) (x0 : ByteArray) (x1 : Int) (x2 : (List Int)) (k1 : ByteArray → Int → (List Int) → Option R) (qr : ByteArray → Option R) (qe0 : (List Int) → Option R) : Option R :=
  if (decide (x1 < (IntKind.i64.wrap ((x0.size : Int) - 1)))) = true then (if (0 : Int) ≤ x1 then if x1 < (x0.size : Int) then (if ((byteAt x0 x1) != 92) = true then (if (0 : Int) ≤ x1 then if x1 < (x0.size : Int) then (if (List.length x2 + List.length [(byteAt x0 x1)]) * 1 ≤ 140737488355328 then (k1 x0 (IntKind.i64.wrap (x1 + 1)) (x2 ++ [(byteAt x0 x1)])) else none) else none else none) else (if (0 : Int) ≤ (IntKind.i64.wrap (x1 + 1)) then if (IntKind.i64.wrap (x1 + 1)) < (x0.size : Int) then (if ((byteAt x0 (IntKind.i64.wrap (x1 + 1))) != 120) = true then (if (0 : Int) ≤ (IntKind.i64.wrap (x1 + 1)) then if (IntKind.i64.wrap (x1 + 1)) < (x0.size : Int) then (if (List.length x2 + List.length [(byteAt x0 (IntKind.i64.wrap (x1 + 1)))]) * 1 ≤ 140737488355328 then (k1 x0 (IntKind.i64.wrap ((IntKind.i64.wrap (x1 + 1)) + 1)) (x2 ++ [(byteAt x0 (IntKind.i64.wrap (x1 + 1)))])) else none) else none else none) else (if (decide ((IntKind.i64.wrap (x1 + 3)) ≥ (IntKind.i64.wrap ((x0.size : Int) - 1)))) = true then (qr (strOfNums x2)) else (if (0 : Int) ≤ (IntKind.i64.wrap (x1 + 2)) then if (IntKind.i64.wrap (x1 + 2)) < (x0.size : Int) then (verdererref01_hex_F n (byteAt x0 (IntKind.i64.wrap (x1 + 2))) (fun y1 => if (0 : Int) ≤ (IntKind.i64.wrap (x1 + 3)) then if (IntKind.i64.wrap (x1 + 3)) < (x0.size : Int) then (verdererref01_hex_F n (byteAt x0 (IntKind.i64.wrap (x1 + 3))) (fun y2 => if (List.length x2 + List.length [(IntKind.u8.wrap (IntKind.i64.wrap ((IntKind.i64.wrap (16 * y1)) + y2)))]) * 1 ≤ 140737488355328 then (k1 x0 (IntKind.i64.wrap ((IntKind.i64.wrap (x1 + 3)) + 1)) (x2 ++ [(IntKind.u8.wrap (IntKind.i64.wrap ((IntKind.i64.wrap (16 * y1)) + y2)))])) else none)) else none else none)) else none else none))) else none else none)) else none else none) else (qe0 x2)
def verdererref01_unquoted_l3 (n : Nat) (a : (verdererref01_unquoted_ds 3).D) (k1 : (verdererref01_unquoted_ds 3).D → Option R) (k2 : exK R (verdererref01_unquoted_dx 3)) : Option R :=
  verdererref01_unquoted_s3 n a.1 a.2.1 a.2.2.1 (fun x0 x1 x2 => k1 (x0, x1, x2, ())) (fun x0 => k2.1 (x0, ())) (fun x0 => k2.2.1 (x0, ()))
@[reducible] def verdererref01_unquoted_d : Desc := ⟨[(0, .d .str)], []⟩
def verdererref01_unquoted_Fi (n : Nat) (a0 : ByteArray) (k0 : ByteArray → Option R) : Option R :=
  runC (verdererref01_unquoted_l3 n) n (a0, 1, ([] : List Int), ()) (fun b3 => k0 b3.1, fun b4 => k0 (strOfNums b4.1), ())
def verdererref01_unquoted_F {R : Type} := lazyN (@verdererref01_unquoted_Fi R)
theorem verdererref01_unquoted_e : @verdererref01_unquoted_F R = @verdererref01_unquoted_Fi R := lazyN_eq _
def verdererref01_unquoted_g (n : Nat) : Gx R := typed 1 verdererref01_unquoted_d fun x k => verdererref01_unquoted_F n x.1 (fun y0 => k (.a (.c (.s y0))) [])
def verdererref01_unquoted_cs (R : Type) (n : Nat) : List (Nat × Gx R) := [(93, verdererref01_hex_g n)]
def verdererref01_unquoted_lp (n : Nat) : (i : Nat) → (verdererref01_unquoted_ds i).D → exK R (verdererref01_unquoted_dx i) → Option R
  | 3, a, k => runC (verdererref01_unquoted_l3 n) n a k
  | _, _, _ => none
def verdererref01_unquoted_cx (R : Type) (n : Nat) : Cx R := ⟨Try.prog, Gof (verdererref01_unquoted_cs R n), verdererref01_unquoted_ds, verdererref01_unquoted_dx, verdererref01_unquoted_lp n, drawP Try.prog (Gof (verdererref01_unquoted_cs R n)), false, noJn, noFz⟩
theorem verdererref01_unquoted_ok (n : Nat) : Good Try.prog 85 (verdererref01_unquoted_g (R := R) n) := by
  unfold verdererref01_unquoted_g
  rw [verdererref01_unquoted_e]
  exact Good.fn (cx := verdererref01_unquoted_cx R n) (by kernel_rfl) (AllGood.cons (verdererref01_hex_ok n) (AllGood.nil)) rfl Try.func85 (by kernel_rfl) rfl (by
    have e : fnLoops noJn Try.f85 = [((fnLoops noJn Try.f85)[0]?).getD (false, .skip)] := by kernel_rfl
    show LoopRuns _ _ (fnLoops noJn _)
    rw [e]
    exact ⟨LoopRun.loop (by kernel_rfl) (i := 3) (m := n) (step := verdererref01_unquoted_l3 n) (by kernel_rfl) (fun a k1 k2 => by kernel_rfl) (fun _ _ => rfl), trivial⟩) 1 verdererref01_unquoted_d (by kernel_rfl) (fun x k => by kernel_rfl)
end
end Go.Proofs.Ytikikmkfeeljgaa.E
set_option linter.unusedVariables false
set_option maxRecDepth 100000
namespace Go.Proofs.Ytikikmkfeeljgaa.E
open Go.Proofs
noncomputable section
variable {R : Type}
/-! verderer/verdererref01.Read: function 70 -/
def verdererref01_Read_ds : Nat → Desc
  | 1000009 => ⟨[(0, .d .str), (2, .pt 0 0), (4, .pt 1 0)], [.box false 36 [.d (.int .i64), .d .bool, .d (.int .i64), .d .str], .box false 36 [.d (.int .i64), .d .bool, .d (.int .i64), .d .str]]⟩
  | _ => ⟨[], []⟩
def verdererref01_Read_dx : Nat → List (X × Desc)
  | 1000009 => [(.r, ⟨[(2, .pt 0 0), (3, .d (.int .i64))], [.box false 36 [.d (.int .i64), .d .bool, .d (.int .i64), .d .str]]⟩)]
  | _ => []
def verdererref01_Read_s1000009 (n : Nat) (x0 : ByteArray) (x1 : Int) (x2 : Bool) (x3 : Int) (x4 : ByteArray) (x5 : Int) (x6 : Bool) (x7 : Int) (x8 : ByteArray) (qr : Int → Int → Bool → Int → ByteArray → Option R) : Option R :=
  if (x0.toList == (⟨#[]⟩ : ByteArray).toList) = true then (qr 7 0 false 0 (⟨#[]⟩ : ByteArray)) else (verdererref01_Show_F n (x5, x6, x7, x8, ()) (fun y3 => if (!(y3.toList == x0.toList)) = true then (qr 7 0 false 0 (⟨#[]⟩ : ByteArray)) else (qr 0 x5 x6 x7 x8)))
def verdererref01_Read_li1000009 (n : Nat) (a : (verdererref01_Read_ds 1000009).D) (k2 : exK R (verdererref01_Read_dx 1000009)) : Option R :=
  verdererref01_Read_s1000009 n a.1 a.2.1 a.2.2.1 a.2.2.2.1 a.2.2.2.2.1 a.2.2.2.2.2.1 a.2.2.2.2.2.2.1 a.2.2.2.2.2.2.2.1 a.2.2.2.2.2.2.2.2.1 (fun x0 x1 x2 x3 x4 => k2.1 (x0, x1, x2, x3, x4, ()))
def verdererref01_Read_l1000009 {R : Type} := lazyN (@verdererref01_Read_li1000009 R)
theorem verdererref01_Read_e1000009 : @verdererref01_Read_l1000009 R = @verdererref01_Read_li1000009 R := lazyN_eq _
@[reducible] def verdererref01_Read_d : Desc := ⟨[(0, .d .str)], []⟩
def verdererref01_Read_Fi (n : Nat) (a0 : ByteArray) (k0 : ty36.D → Int → Option R) : Option R :=
  verdererref01_Number_F n a0 (fun y1 y2 => if (a0.toList == (⟨#[116, 114, 117, 101]⟩ : ByteArray).toList) = true then (verdererref01_Read_l1000009 n (a0, 0, false, 0, (⟨#[]⟩ : ByteArray), 1, (a0.toList == (⟨#[116, 114, 117, 101]⟩ : ByteArray).toList), 0, (⟨#[]⟩ : ByteArray), ()) (fun b8 => k0 (b8.2.1, b8.2.2.1, b8.2.2.2.1, b8.2.2.2.2.1, ()) b8.1, ())) else (if (a0.toList == (⟨#[102, 97, 108, 115, 101]⟩ : ByteArray).toList) = true then (verdererref01_Read_l1000009 n (a0, 0, false, 0, (⟨#[]⟩ : ByteArray), 1, (a0.toList == (⟨#[116, 114, 117, 101]⟩ : ByteArray).toList), 0, (⟨#[]⟩ : ByteArray), ()) (fun b13 => k0 (b13.2.1, b13.2.2.1, b13.2.2.2.1, b13.2.2.2.2.1, ()) b13.1, ())) else (if y2 = true then (verdererref01_Read_l1000009 n (a0, 0, false, 0, (⟨#[]⟩ : ByteArray), 2, false, y1, (⟨#[]⟩ : ByteArray), ()) (fun b18 => k0 (b18.2.1, b18.2.2.1, b18.2.2.2.1, b18.2.2.2.2.1, ()) b18.1, ())) else (if (decide ((a0.size : Int) ≥ 2)) = true then (if (0 : Int) ≤ 0 then if 0 < (a0.size : Int) then (if ((byteAt a0 0) == 34) = true then (if (decide ((a0.size : Int) ≤ 300)) = true then (verdererref01_unquoted_F n a0 (fun y19 => verdererref01_Read_l1000009 n (a0, 0, false, 0, (⟨#[]⟩ : ByteArray), 3, false, 0, y19, ()) (fun b24 => k0 (b24.2.1, b24.2.2.1, b24.2.2.2.1, b24.2.2.2.2.1, ()) b24.1, ()))) else (verdererref01_Read_l1000009 n (a0, 0, false, 0, (⟨#[]⟩ : ByteArray), 0, false, 0, (⟨#[]⟩ : ByteArray), ()) (fun b29 => k0 (b29.2.1, b29.2.2.1, b29.2.2.2.1, b29.2.2.2.2.1, ()) b29.1, ()))) else (verdererref01_Read_l1000009 n (a0, 0, false, 0, (⟨#[]⟩ : ByteArray), 0, false, 0, (⟨#[]⟩ : ByteArray), ()) (fun b34 => k0 (b34.2.1, b34.2.2.1, b34.2.2.2.1, b34.2.2.2.2.1, ()) b34.1, ()))) else none else none) else (verdererref01_Read_l1000009 n (a0, 0, false, 0, (⟨#[]⟩ : ByteArray), 0, false, 0, (⟨#[]⟩ : ByteArray), ()) (fun b39 => k0 (b39.2.1, b39.2.2.1, b39.2.2.2.1, b39.2.2.2.2.1, ()) b39.1, ()))))))
def verdererref01_Read_F {R : Type} := lazyN (@verdererref01_Read_Fi R)
theorem verdererref01_Read_e : @verdererref01_Read_F R = @verdererref01_Read_Fi R := lazyN_eq _
def verdererref01_Read_g (n : Nat) : Gx R := typed 1 verdererref01_Read_d fun x k => verdererref01_Read_F n x.1 (fun y0 y1 => k (.tu [(encA ty36 y0), (.c (.i .i64 y1))]) [])
def verdererref01_Read_cs (R : Type) (n : Nat) : List (Nat × Gx R) := [(84, verdererref01_Number_g n), (85, verdererref01_unquoted_g n), (86, verdererref01_Show_g n)]
def verdererref01_Read_lp (n : Nat) : (i : Nat) → (verdererref01_Read_ds i).D → exK R (verdererref01_Read_dx i) → Option R
  | 1000009, a, k => verdererref01_Read_l1000009 n a k
  | _, _, _ => none
def verdererref01_Read_cx (R : Type) (n : Nat) : Cx R := ⟨Try.prog, Gof (verdererref01_Read_cs R n), verdererref01_Read_ds, verdererref01_Read_dx, verdererref01_Read_lp n, drawP Try.prog (Gof (verdererref01_Read_cs R n)), false, (memN [9]), noFz⟩
theorem verdererref01_Read_ok (n : Nat) : Good Try.prog 70 (verdererref01_Read_g (R := R) n) := by
  unfold verdererref01_Read_g
  rw [verdererref01_Read_e]
  exact Good.fn (cx := verdererref01_Read_cx R n) (by kernel_rfl) (AllGood.cons (verdererref01_Number_ok n) (AllGood.cons (verdererref01_unquoted_ok n) (AllGood.cons (verdererref01_Show_ok n) (AllGood.nil)))) rfl Try.func70 (by kernel_rfl) rfl (by
    have e : fnLoops (memN [9]) Try.f70 = [((fnLoops (memN [9]) Try.f70)[0]?).getD (false, .skip)] := by kernel_rfl
    show LoopRuns _ _ (fnLoops (memN [9]) _)
    rw [e]
    exact ⟨LoopRun.joinS (by kernel_rfl) (i := 9) (L := verdererref01_Read_l1000009 n) (Li := verdererref01_Read_li1000009 n) (by rw [verdererref01_Read_e1000009]) (by kernel_rfl) (fun a k => by kernel_rfl) (fun a k => by kernel_rfl), trivial⟩) 1 verdererref01_Read_d (by kernel_rfl) (fun x k => by kernel_rfl)
end
end Go.Proofs.Ytikikmkfeeljgaa.E
set_option linter.unusedVariables false
set_option maxRecDepth 100000
namespace Go.Proofs.Ytikikmkfeeljgaa.E
open Go.Proofs
noncomputable section
variable {R : Type}
/-! verderer/verdererref11.number: function 72 -/
def verdererref11_number_ds : Nat → Desc
  | 4 => ⟨[(0, .d .str), (3, .d (.int .i64))], []⟩
  | _ => ⟨[], []⟩
def verdererref11_number_dx : Nat → List (X × Desc)
  | 4 => [(.e 0, ⟨[(3, .d (.int .i64))], []⟩)]
  | _ => []
def verdererref11_number_s4 (n : Nat) (x0 : ByteArray) (x1 : Int) (k1 : ByteArray → Int → Option R) (qe0 : Int → Option R) : Option R :=
  if (decide (x1 < (x0.size : Int))) = true then (if (0 : Int) ≤ x1 then if x1 < (x0.size : Int) then (verdererref11_digit_F n (byteAt x0 x1) (fun y1 => if y1 = true then (k1 x0 (IntKind.i64.wrap (x1 + 1))) else (qe0 x1))) else none else none) else (qe0 x1)
def verdererref11_number_l4 (n : Nat) (a : (verdererref11_number_ds 4).D) (k1 : (verdererref11_number_ds 4).D → Option R) (k2 : exK R (verdererref11_number_dx 4)) : Option R :=
  verdererref11_number_s4 n a.1 a.2.1 (fun x0 x1 => k1 (x0, x1, ())) (fun x0 => k2.1 (x0, ()))
@[reducible] def verdererref11_number_d : Desc := ⟨[(0, .d .str)], []⟩
def verdererref11_number_Fi (n : Nat) (a0 : ByteArray) (k0 : Int → Option R) : Option R :=
  if (decide ((a0.size : Int) > 0)) = true then (if (0 : Int) ≤ 0 then if 0 < (a0.size : Int) then (if ((byteAt a0 0) == 45) = true then (runC (verdererref11_number_l4 n) n (a0, 1, ()) (fun b2 => k0 b2.1, ())) else (runC (verdererref11_number_l4 n) n (a0, 0, ()) (fun b3 => k0 b3.1, ()))) else none else none) else (runC (verdererref11_number_l4 n) n (a0, 0, ()) (fun b4 => k0 b4.1, ()))
def verdererref11_number_F {R : Type} := lazyN (@verdererref11_number_Fi R)
theorem verdererref11_number_e : @verdererref11_number_F R = @verdererref11_number_Fi R := lazyN_eq _
def verdererref11_number_g (n : Nat) : Gx R := typed 1 verdererref11_number_d fun x k => verdererref11_number_F n x.1 (fun y0 => k (.a (.c (.i .i64 y0))) [])
def verdererref11_number_cs (R : Type) (n : Nat) : List (Nat × Gx R) := [(71, verdererref11_digit_g n)]
def verdererref11_number_lp (n : Nat) : (i : Nat) → (verdererref11_number_ds i).D → exK R (verdererref11_number_dx i) → Option R
  | 4, a, k => runC (verdererref11_number_l4 n) n a k
  | _, _, _ => none
def verdererref11_number_cx (R : Type) (n : Nat) : Cx R := ⟨Try.prog, Gof (verdererref11_number_cs R n), verdererref11_number_ds, verdererref11_number_dx, verdererref11_number_lp n, drawP Try.prog (Gof (verdererref11_number_cs R n)), false, noJn, noFz⟩
theorem verdererref11_number_ok (n : Nat) : Good Try.prog 72 (verdererref11_number_g (R := R) n) := by
  unfold verdererref11_number_g
  rw [verdererref11_number_e]
  exact Good.fn (cx := verdererref11_number_cx R n) (by kernel_rfl) (AllGood.cons (verdererref11_digit_ok n) (AllGood.nil)) rfl Try.func72 (by kernel_rfl) rfl (by
    have e : fnLoops noJn Try.f72 = [((fnLoops noJn Try.f72)[0]?).getD (false, .skip)] := by kernel_rfl
    show LoopRuns _ _ (fnLoops noJn _)
    rw [e]
    exact ⟨LoopRun.loop (by kernel_rfl) (i := 4) (m := n) (step := verdererref11_number_l4 n) (by kernel_rfl) (fun a k1 k2 => by kernel_rfl) (fun _ _ => rfl), trivial⟩) 1 verdererref11_number_d (by kernel_rfl) (fun x k => by kernel_rfl)
end
end Go.Proofs.Ytikikmkfeeljgaa.E
set_option linter.unusedVariables false
set_option maxRecDepth 100000
namespace Go.Proofs.Ytikikmkfeeljgaa.E
open Go.Proofs
noncomputable section
variable {R : Type}
/-! verderer/verdererref11.sign: function 74 -/
@[reducible] def verdererref11_sign_d : Desc := ⟨[(0, .d .str)], []⟩
def verdererref11_sign_Fi (n : Nat) (a0 : ByteArray) (k0 : Int → Option R) : Option R :=
  if (decide ((a0.size : Int) ≥ 2)) = true then (if (0 : Int) ≤ 1 then if 1 < (a0.size : Int) then (if ((byteAt a0 1) == 61) = true then (if (0 : Int) ≤ 0 then if 0 < (a0.size : Int) then (if ((byteAt a0 0) == 61) = true then (k0 2) else (if (0 : Int) ≤ 0 then if 0 < (a0.size : Int) then (if ((byteAt a0 0) == 33) = true then (k0 2) else (if (0 : Int) ≤ 0 then if 0 < (a0.size : Int) then (if ((byteAt a0 0) == 60) = true then (k0 2) else (if (0 : Int) ≤ 0 then if 0 < (a0.size : Int) then (if ((byteAt a0 0) == 62) = true then (k0 2) else (if (0 : Int) ≤ 0 then if 0 < (a0.size : Int) then (if ((byteAt a0 0) == 40) = true then (k0 1) else (if ((byteAt a0 0) == 41) = true then (k0 1) else (if ((byteAt a0 0) == 44) = true then (k0 1) else (if ((byteAt a0 0) == 95) = true then (k0 1) else (if ((byteAt a0 0) == 60) = true then (k0 1) else (if ((byteAt a0 0) == 62) = true then (k0 1) else (k0 0))))))) else none else none)) else none else none)) else none else none)) else none else none)) else none else none) else (if (0 : Int) ≤ 0 then if 0 < (a0.size : Int) then (if ((byteAt a0 0) == 40) = true then (k0 1) else (if ((byteAt a0 0) == 41) = true then (k0 1) else (if ((byteAt a0 0) == 44) = true then (k0 1) else (if ((byteAt a0 0) == 95) = true then (k0 1) else (if ((byteAt a0 0) == 60) = true then (k0 1) else (if ((byteAt a0 0) == 62) = true then (k0 1) else (k0 0))))))) else none else none)) else none else none) else (if (0 : Int) ≤ 0 then if 0 < (a0.size : Int) then (if ((byteAt a0 0) == 40) = true then (k0 1) else (if ((byteAt a0 0) == 41) = true then (k0 1) else (if ((byteAt a0 0) == 44) = true then (k0 1) else (if ((byteAt a0 0) == 95) = true then (k0 1) else (if ((byteAt a0 0) == 60) = true then (k0 1) else (if ((byteAt a0 0) == 62) = true then (k0 1) else (k0 0))))))) else none else none)
def verdererref11_sign_F {R : Type} := lazyN (@verdererref11_sign_Fi R)
theorem verdererref11_sign_e : @verdererref11_sign_F R = @verdererref11_sign_Fi R := lazyN_eq _
def verdererref11_sign_g (n : Nat) : Gx R := typed 1 verdererref11_sign_d fun x k => verdererref11_sign_F n x.1 (fun y0 => k (.a (.c (.i .i64 y0))) [])
def verdererref11_sign_cs (R : Type) (n : Nat) : List (Nat × Gx R) := []
def verdererref11_sign_cx (R : Type) (n : Nat) : Cx R := ⟨Try.prog, Gof (verdererref11_sign_cs R n), noDs, noDx, noLp, drawP Try.prog (Gof (verdererref11_sign_cs R n)), false, noJn, noFz⟩
theorem verdererref11_sign_ok (n : Nat) : Good Try.prog 74 (verdererref11_sign_g (R := R) n) := by
  unfold verdererref11_sign_g
  rw [verdererref11_sign_e]
  exact Good.fn (cx := verdererref11_sign_cx R n) (by kernel_rfl) (AllGood.nil) rfl Try.func74 (by kernel_rfl) rfl trivial 1 verdererref11_sign_d (by kernel_rfl) (fun x k => by kernel_rfl)
end
end Go.Proofs.Ytikikmkfeeljgaa.E
set_option linter.unusedVariables false
set_option maxRecDepth 100000
namespace Go.Proofs.Ytikikmkfeeljgaa.E
open Go.Proofs
noncomputable section
variable {R : Type}
/-! verderer/verdererref11.text: function 73 -/
def verdererref11_text_ds : Nat → Desc
  | 2 => ⟨[(0, .d .str), (3, .d (.int .i64))], []⟩
  | _ => ⟨[], []⟩
def verdererref11_text_dx : Nat → List (X × Desc)
  | 2 => [(.r, ⟨[(2, .d (.int .i64))], []⟩), (.e 0, ⟨[], []⟩)]
  | _ => []
def verdererref11_text_s2 (n : Nat) (x0 : ByteArray) (x1 : Int) (k1 : ByteArray → Int → Option R) (qr : Int → Option R) (qe0 : Option R) : Option R :=
  if (decide (x1 < (x0.size : Int))) = true then (if (0 : Int) ≤ x1 then if x1 < (x0.size : Int) then (if ((byteAt x0 x1) == 92) = true then (k1 x0 (IntKind.i64.wrap ((IntKind.i64.wrap (x1 + 1)) + 1))) else (if (0 : Int) ≤ x1 then if x1 < (x0.size : Int) then (if ((byteAt x0 x1) == 34) = true then (qr (IntKind.i64.wrap (x1 + 1))) else (k1 x0 (IntKind.i64.wrap (x1 + 1)))) else none else none)) else none else none) else qe0
def verdererref11_text_l2 (n : Nat) (a : (verdererref11_text_ds 2).D) (k1 : (verdererref11_text_ds 2).D → Option R) (k2 : exK R (verdererref11_text_dx 2)) : Option R :=
  verdererref11_text_s2 n a.1 a.2.1 (fun x0 x1 => k1 (x0, x1, ())) (fun x0 => k2.1 (x0, ())) (k2.2.1 (()))
@[reducible] def verdererref11_text_d : Desc := ⟨[(0, .d .str)], []⟩
def verdererref11_text_Fi (n : Nat) (a0 : ByteArray) (k0 : Int → Option R) : Option R :=
  runC (verdererref11_text_l2 n) n (a0, 1, ()) (fun b1 => k0 b1.1, fun b1 => k0 0, ())
def verdererref11_text_F {R : Type} := lazyN (@verdererref11_text_Fi R)
theorem verdererref11_text_e : @verdererref11_text_F R = @verdererref11_text_Fi R := lazyN_eq _
def verdererref11_text_g (n : Nat) : Gx R := typed 1 verdererref11_text_d fun x k => verdererref11_text_F n x.1 (fun y0 => k (.a (.c (.i .i64 y0))) [])
def verdererref11_text_cs (R : Type) (n : Nat) : List (Nat × Gx R) := []
def verdererref11_text_lp (n : Nat) : (i : Nat) → (verdererref11_text_ds i).D → exK R (verdererref11_text_dx i) → Option R
  | 2, a, k => runC (verdererref11_text_l2 n) n a k
  | _, _, _ => none
def verdererref11_text_cx (R : Type) (n : Nat) : Cx R := ⟨Try.prog, Gof (verdererref11_text_cs R n), verdererref11_text_ds, verdererref11_text_dx, verdererref11_text_lp n, drawP Try.prog (Gof (verdererref11_text_cs R n)), false, noJn, noFz⟩
theorem verdererref11_text_ok (n : Nat) : Good Try.prog 73 (verdererref11_text_g (R := R) n) := by
  unfold verdererref11_text_g
  rw [verdererref11_text_e]
  exact Good.fn (cx := verdererref11_text_cx R n) (by kernel_rfl) (AllGood.nil) rfl Try.func73 (by kernel_rfl) rfl (by
    have e : fnLoops noJn Try.f73 = [((fnLoops noJn Try.f73)[0]?).getD (false, .skip)] := by kernel_rfl
    show LoopRuns _ _ (fnLoops noJn _)
    rw [e]
    exact ⟨LoopRun.loop (by kernel_rfl) (i := 2) (m := n) (step := verdererref11_text_l2 n) (by kernel_rfl) (fun a k1 k2 => by kernel_rfl) (fun _ _ => rfl), trivial⟩) 1 verdererref11_text_d (by kernel_rfl) (fun x k => by kernel_rfl)
end
end Go.Proofs.Ytikikmkfeeljgaa.E
set_option linter.unusedVariables false
set_option maxRecDepth 100000
namespace Go.Proofs.Ytikikmkfeeljgaa.E
open Go.Proofs
noncomputable section
variable {R : Type}
/-! verderer/verdererref11.one: function 55 -/
def verdererref11_one_ds : Nat → Desc
  | 1000015 => ⟨[(0, .d .str), (2, .pt 0 0), (7, .d (.int .i64))], [.box false 73 [.d (.int .i64), .d .str, .d (.int .i64), .d .bool, .d (.int .i64), .d .str, .d (.int .i64)]]⟩
  | _ => ⟨[], []⟩
def verdererref11_one_dx : Nat → List (X × Desc)
  | 1000015 => [(.r, ⟨[(2, .pt 0 0), (3, .d .bool)], [.box false 73 [.d (.int .i64), .d .str, .d (.int .i64), .d .bool, .d (.int .i64), .d .str, .d (.int .i64)]]⟩)]
  | _ => []
def verdererref11_one_s1000015 (n : Nat) (x0 : ByteArray) (x1 : Int) (x2 : Int) (x3 : ByteArray) (x4 : Int) (x5 : Bool) (x6 : Int) (x7 : ByteArray) (x8 : Int) (qr : Bool → Int → ByteArray → Int → Bool → Int → ByteArray → Int → Option R) : Option R :=
  if (decide (x1 > 0)) = true then (if (0 : Int) ≤ x1 ∧ x1 ≤ (x0.size : Int) then (verdererref01_Read_F n (x0.extract 0 (Int.toNat x1)) (fun y8 y9 => if (0 : Int) ≤ x1 ∧ x1 ≤ (x0.size : Int) then (qr (y9 == 0) 2 (x0.extract 0 (Int.toNat x1)) y8.1 y8.2.1 y8.2.2.1 y8.2.2.2.1 0) else none)) else none) else (if (0 : Int) ≤ 0 then if 0 < (x0.size : Int) then (if ((byteAt x0 0) == 34) = true then (qr false 0 (⟨#[]⟩ : ByteArray) 0 false 0 (⟨#[]⟩ : ByteArray) 0) else (verdererref11_sign_F n x0 (fun y10 => if (0 : Int) ≤ y10 ∧ y10 ≤ (x0.size : Int) then (qr (decide (y10 > 0)) 3 (x0.extract 0 (Int.toNat y10)) 0 false 0 (⟨#[]⟩ : ByteArray) 0) else none))) else none else none)
def verdererref11_one_li1000015 (n : Nat) (a : (verdererref11_one_ds 1000015).D) (k2 : exK R (verdererref11_one_dx 1000015)) : Option R :=
  verdererref11_one_s1000015 n a.1 a.2.1 a.2.2.1 a.2.2.2.1 a.2.2.2.2.1 a.2.2.2.2.2.1 a.2.2.2.2.2.2.1 a.2.2.2.2.2.2.2.1 a.2.2.2.2.2.2.2.2.1 (fun x0 x1 x2 x3 x4 x5 x6 x7 => k2.1 (x0, x1, x2, x3, x4, x5, x6, x7, ()))
def verdererref11_one_l1000015 {R : Type} := lazyN (@verdererref11_one_li1000015 R)
theorem verdererref11_one_e1000015 : @verdererref11_one_l1000015 R = @verdererref11_one_li1000015 R := lazyN_eq _
@[reducible] def verdererref11_one_d : Desc := ⟨[(0, .d .str)], []⟩
def verdererref11_one_Fi (n : Nat) (a0 : ByteArray) (k0 : ty73.D → Bool → Option R) : Option R :=
  if (0 : Int) ≤ 0 then if 0 < (a0.size : Int) then (verdererref11_letter_F n (byteAt a0 0) (fun y1 => if y1 = true then (verdererref11_word_F n a0 (fun y2 => if (0 : Int) ≤ y2 ∧ y2 ≤ (a0.size : Int) then (verdererref01_Read_F n (a0.extract 0 (Int.toNat y2)) (fun y3 y4 => if ((a0.extract 0 (Int.toNat y2)).toList == (⟨#[110, 117, 108, 108]⟩ : ByteArray).toList) = true then (k0 (2, (a0.extract 0 (Int.toNat y2)), y3, 0, ()) true) else (if (y4 == 0) = true then (k0 (2, (a0.extract 0 (Int.toNat y2)), y3, 0, ()) true) else (k0 (1, (a0.extract 0 (Int.toNat y2)), (0, false, 0, (⟨#[]⟩ : ByteArray), ()), 0, ()) true)))) else none)) else (if (0 : Int) ≤ 0 then if 0 < (a0.size : Int) then (verdererref11_digit_F n (byteAt a0 0) (fun y5 => if y5 = true then (verdererref11_number_F n a0 (fun y6 => if (decide (y6 < (a0.size : Int))) = true then (if (0 : Int) ≤ y6 then if y6 < (a0.size : Int) then (verdererref11_letter_F n (byteAt a0 y6) (fun y7 => if y7 = true then (k0 (0, (⟨#[]⟩ : ByteArray), (0, false, 0, (⟨#[]⟩ : ByteArray), ()), 0, ()) false) else (if (0 : Int) ≤ y6 then if y6 < (a0.size : Int) then (if ((byteAt a0 y6) == 95) = true then (k0 (0, (⟨#[]⟩ : ByteArray), (0, false, 0, (⟨#[]⟩ : ByteArray), ()), 0, ()) false) else (verdererref11_one_l1000015 n (a0, y6, 0, (⟨#[]⟩ : ByteArray), 0, false, 0, (⟨#[]⟩ : ByteArray), 0, ()) (fun b18 => k0 (b18.2.1, b18.2.2.1, (b18.2.2.2.1, b18.2.2.2.2.1, b18.2.2.2.2.2.1, b18.2.2.2.2.2.2.1, ()), b18.2.2.2.2.2.2.2.1, ()) b18.1, ()))) else none else none))) else none else none) else (verdererref11_one_l1000015 n (a0, y6, 0, (⟨#[]⟩ : ByteArray), 0, false, 0, (⟨#[]⟩ : ByteArray), 0, ()) (fun b26 => k0 (b26.2.1, b26.2.2.1, (b26.2.2.2.1, b26.2.2.2.2.1, b26.2.2.2.2.2.1, b26.2.2.2.2.2.2.1, ()), b26.2.2.2.2.2.2.2.1, ()) b26.1, ())))) else (if (0 : Int) ≤ 0 then if 0 < (a0.size : Int) then (if ((byteAt a0 0) == 45) = true then (verdererref11_number_F n a0 (fun y27 => if (decide (y27 < (a0.size : Int))) = true then (if (0 : Int) ≤ y27 then if y27 < (a0.size : Int) then (verdererref11_letter_F n (byteAt a0 y27) (fun y28 => if y28 = true then (k0 (0, (⟨#[]⟩ : ByteArray), (0, false, 0, (⟨#[]⟩ : ByteArray), ()), 0, ()) false) else (if (0 : Int) ≤ y27 then if y27 < (a0.size : Int) then (if ((byteAt a0 y27) == 95) = true then (k0 (0, (⟨#[]⟩ : ByteArray), (0, false, 0, (⟨#[]⟩ : ByteArray), ()), 0, ()) false) else (verdererref11_one_l1000015 n (a0, y27, 0, (⟨#[]⟩ : ByteArray), 0, false, 0, (⟨#[]⟩ : ByteArray), 0, ()) (fun b36 => k0 (b36.2.1, b36.2.2.1, (b36.2.2.2.1, b36.2.2.2.2.1, b36.2.2.2.2.2.1, b36.2.2.2.2.2.2.1, ()), b36.2.2.2.2.2.2.2.1, ()) b36.1, ()))) else none else none))) else none else none) else (verdererref11_one_l1000015 n (a0, y27, 0, (⟨#[]⟩ : ByteArray), 0, false, 0, (⟨#[]⟩ : ByteArray), 0, ()) (fun b44 => k0 (b44.2.1, b44.2.2.1, (b44.2.2.2.1, b44.2.2.2.2.1, b44.2.2.2.2.2.1, b44.2.2.2.2.2.2.1, ()), b44.2.2.2.2.2.2.2.1, ()) b44.1, ())))) else (if (0 : Int) ≤ 0 then if 0 < (a0.size : Int) then (if ((byteAt a0 0) == 34) = true then (verdererref11_text_F n a0 (fun y45 => verdererref11_one_l1000015 n (a0, y45, 0, (⟨#[]⟩ : ByteArray), 0, false, 0, (⟨#[]⟩ : ByteArray), 0, ()) (fun b53 => k0 (b53.2.1, b53.2.2.1, (b53.2.2.2.1, b53.2.2.2.2.1, b53.2.2.2.2.2.1, b53.2.2.2.2.2.2.1, ()), b53.2.2.2.2.2.2.2.1, ()) b53.1, ()))) else (verdererref11_one_l1000015 n (a0, 0, 0, (⟨#[]⟩ : ByteArray), 0, false, 0, (⟨#[]⟩ : ByteArray), 0, ()) (fun b61 => k0 (b61.2.1, b61.2.2.1, (b61.2.2.2.1, b61.2.2.2.2.1, b61.2.2.2.2.2.1, b61.2.2.2.2.2.2.1, ()), b61.2.2.2.2.2.2.2.1, ()) b61.1, ()))) else none else none)) else none else none))) else none else none))) else none else none
def verdererref11_one_F {R : Type} := lazyN (@verdererref11_one_Fi R)
theorem verdererref11_one_e : @verdererref11_one_F R = @verdererref11_one_Fi R := lazyN_eq _
def verdererref11_one_g (n : Nat) : Gx R := typed 1 verdererref11_one_d fun x k => verdererref11_one_F n x.1 (fun y0 y1 => k (.tu [(encA ty73 y0), (.c (.b y1))]) [])
def verdererref11_one_cs (R : Type) (n : Nat) : List (Nat × Gx R) := [(68, verdererref11_letter_g n), (69, verdererref11_word_g n), (70, verdererref01_Read_g n), (71, verdererref11_digit_g n), (72, verdererref11_number_g n), (73, verdererref11_text_g n), (74, verdererref11_sign_g n)]
def verdererref11_one_lp (n : Nat) : (i : Nat) → (verdererref11_one_ds i).D → exK R (verdererref11_one_dx i) → Option R
  | 1000015, a, k => verdererref11_one_l1000015 n a k
  | _, _, _ => none
def verdererref11_one_cx (R : Type) (n : Nat) : Cx R := ⟨Try.prog, Gof (verdererref11_one_cs R n), verdererref11_one_ds, verdererref11_one_dx, verdererref11_one_lp n, drawP Try.prog (Gof (verdererref11_one_cs R n)), false, (memN [15]), noFz⟩
theorem verdererref11_one_ok (n : Nat) : Good Try.prog 55 (verdererref11_one_g (R := R) n) := by
  unfold verdererref11_one_g
  rw [verdererref11_one_e]
  exact Good.fn (cx := verdererref11_one_cx R n) (by kernel_rfl) (AllGood.cons (verdererref11_letter_ok n) (AllGood.cons (verdererref11_word_ok n) (AllGood.cons (verdererref01_Read_ok n) (AllGood.cons (verdererref11_digit_ok n) (AllGood.cons (verdererref11_number_ok n) (AllGood.cons (verdererref11_text_ok n) (AllGood.cons (verdererref11_sign_ok n) (AllGood.nil)))))))) rfl Try.func55 (by kernel_rfl) rfl (by
    have e : fnLoops (memN [15]) Try.f55 = [((fnLoops (memN [15]) Try.f55)[0]?).getD (false, .skip)] := by kernel_rfl
    show LoopRuns _ _ (fnLoops (memN [15]) _)
    rw [e]
    exact ⟨LoopRun.joinS (by kernel_rfl) (i := 15) (L := verdererref11_one_l1000015 n) (Li := verdererref11_one_li1000015 n) (by rw [verdererref11_one_e1000015]) (by kernel_rfl) (fun a k => by kernel_rfl) (fun a k => by kernel_rfl), trivial⟩) 1 verdererref11_one_d (by kernel_rfl) (fun x k => by kernel_rfl)
end
end Go.Proofs.Ytikikmkfeeljgaa.E
set_option linter.unusedVariables false
set_option maxRecDepth 100000
namespace Go.Proofs.Ytikikmkfeeljgaa.E
open Go.Proofs
noncomputable section
variable {R : Type}
/-! verderer/verdererref11.Read: function 34 -/
def verdererref11_Read_ds : Nat → Desc
  | 5 => ⟨[(0, .d .str), (5, .ow 1), (6, .d (.int .i64))], [.no, .arr 73 ty73]⟩
  | _ => ⟨[], []⟩
def verdererref11_Read_dx : Nat → List (X × Desc)
  | 5 => [(.r, ⟨[(2, .ow 3), (3, .d (.int .i64)), (4, .d (.int .i64))], [.no, .no, .no, .arr 73 ty73]⟩), (.e 0, ⟨[(0, .d .str), (5, .ow 1)], [.no, .arr 73 ty73]⟩)]
  | _ => []
def verdererref11_Read_s5 (n : Nat) (x0 : ByteArray) (x1 : Int) (x2 : (List ty73.D)) (k1 : ByteArray → Int → (List ty73.D) → Option R) (qr : Int → Int → (List ty73.D) → Option R) (qe0 : ByteArray → (List ty73.D) → Option R) : Option R :=
  if (decide (x1 < (x0.size : Int))) = true then (if (0 : Int) ≤ x1 then if x1 < (x0.size : Int) then (if ((byteAt x0 x1) == 32) = true then (k1 x0 (IntKind.i64.wrap (x1 + 1)) x2) else (if (0 : Int) ≤ x1 then if x1 < (x0.size : Int) then (if ((byteAt x0 x1) == 10) = true then (k1 x0 (IntKind.i64.wrap (x1 + 1)) x2) else (if (0 : Int) ≤ x1 ∧ x1 ≤ (x0.size : Int) then (verdererref11_one_F n (x0.extract (Int.toNat x1) x0.size) (fun y1 y2 => if (!y2) = true then (qr x1 7 ([] : List ty73.D)) else (if (List.length x2 + List.length [(y1.1, y1.2.1, y1.2.2.1, x1, ())]) * 72 ≤ 140737488355328 then (k1 x0 (IntKind.i64.wrap (x1 + (y1.2.1.size : Int))) (x2 ++ [(y1.1, y1.2.1, y1.2.2.1, x1, ())])) else none))) else none)) else none else none)) else none else none) else (qe0 x0 x2)
def verdererref11_Read_l5 (n : Nat) (a : (verdererref11_Read_ds 5).D) (k1 : (verdererref11_Read_ds 5).D → Option R) (k2 : exK R (verdererref11_Read_dx 5)) : Option R :=
  verdererref11_Read_s5 n a.1 a.2.1 a.2.2.1 (fun x0 x1 x2 => k1 (x0, x1, x2, ())) (fun x0 x1 x2 => k2.1 (x0, x1, x2, ())) (fun x0 x1 => k2.2.1 (x0, x1, ()))
@[reducible] def verdererref11_Read_d : Desc := ⟨[(0, .d .str)], []⟩
def verdererref11_Read_Fi (n : Nat) (a0 : ByteArray) (k0 : Int → Int → (List ty73.D) → Option R) : Option R :=
  if (decide ((a0.size : Int) > 300)) = true then (k0 0 9 ([] : List ty73.D)) else (runC (verdererref11_Read_l5 n) n (a0, 0, ([] : List ty73.D), ()) (fun b5 => k0 b5.1 b5.2.1 b5.2.2.1, fun b7 => if (List.length b7.2.1 + List.length [(4, (⟨#[]⟩ : ByteArray), (0, false, 0, (⟨#[]⟩ : ByteArray), ()), (b7.1.size : Int), ())]) * 72 ≤ 140737488355328 then (k0 0 0 (b7.2.1 ++ [(4, (⟨#[]⟩ : ByteArray), (0, false, 0, (⟨#[]⟩ : ByteArray), ()), (b7.1.size : Int), ())])) else none, ()))
def verdererref11_Read_F {R : Type} := lazyN (@verdererref11_Read_Fi R)
theorem verdererref11_Read_e : @verdererref11_Read_F R = @verdererref11_Read_Fi R := lazyN_eq _
def verdererref11_Read_g (n : Nat) : Gx R := typed 1 verdererref11_Read_d fun x k => verdererref11_Read_F n x.1 (fun y0 y1 y2 => k (.tu [(.c (.ow 0)), (.c (.i .i64 y0)), (.c (.i .i64 y1))]) [(.arr 73 ty73 y2)])
def verdererref11_Read_cs (R : Type) (n : Nat) : List (Nat × Gx R) := [(55, verdererref11_one_g n)]
def verdererref11_Read_lp (n : Nat) : (i : Nat) → (verdererref11_Read_ds i).D → exK R (verdererref11_Read_dx i) → Option R
  | 5, a, k => runC (verdererref11_Read_l5 n) n a k
  | _, _, _ => none
def verdererref11_Read_cx (R : Type) (n : Nat) : Cx R := ⟨Try.prog, Gof (verdererref11_Read_cs R n), verdererref11_Read_ds, verdererref11_Read_dx, verdererref11_Read_lp n, drawP Try.prog (Gof (verdererref11_Read_cs R n)), false, noJn, noFz⟩
theorem verdererref11_Read_ok (n : Nat) : Good Try.prog 34 (verdererref11_Read_g (R := R) n) := by
  unfold verdererref11_Read_g
  rw [verdererref11_Read_e]
  exact Good.fn (cx := verdererref11_Read_cx R n) (by kernel_rfl) (AllGood.cons (verdererref11_one_ok n) (AllGood.nil)) rfl Try.func34 (by kernel_rfl) rfl (by
    have e : fnLoops noJn Try.f34 = [((fnLoops noJn Try.f34)[0]?).getD (false, .skip)] := by kernel_rfl
    show LoopRuns _ _ (fnLoops noJn _)
    rw [e]
    exact ⟨LoopRun.loop (by kernel_rfl) (i := 5) (m := n) (step := verdererref11_Read_l5 n) (by kernel_rfl) (fun a k1 k2 => by kernel_rfl) (fun _ _ => rfl), trivial⟩) 1 verdererref11_Read_d (by kernel_rfl) (fun x k => by kernel_rfl)
end
end Go.Proofs.Ytikikmkfeeljgaa.E
set_option linter.unusedVariables false
set_option maxRecDepth 100000
namespace Go.Proofs.Ytikikmkfeeljgaa.E
open Go.Proofs
noncomputable section
variable {R : Type}
/-! (*verderer/verdererref12.reader).now: function 37 -/
@[reducible] def verdererref12_reader_now_d : Desc := ⟨[(0, .pt 0 0)], [.box true 69 [.ow 1, .d (.int .i64), .d (.int .i64), .d (.int .i64)], .arr 73 ty73]⟩
def verdererref12_reader_now_Fi (n : Nat) (a0 : Int) (a1 : Int) (a2 : Int) (a3 : (List ty73.D)) (k0 : ty73.D → Int → Int → Int → (List ty73.D) → Option R) : Option R :=
  if (0 : Int) ≤ a0 ∧ a0 < (a3.length : Int) then (if (Int.toNat a0) < a3.length then (k0 ((a3.getD (Int.toNat a0) (Ty.z ty73)).1, (a3.getD (Int.toNat a0) (Ty.z ty73)).2.1, ((a3.getD (Int.toNat a0) (Ty.z ty73)).2.2.1), (a3.getD (Int.toNat a0) (Ty.z ty73)).2.2.2.1, ()) a0 a1 a2 a3) else none) else none
def verdererref12_reader_now_F {R : Type} := lazyN (@verdererref12_reader_now_Fi R)
theorem verdererref12_reader_now_e : @verdererref12_reader_now_F R = @verdererref12_reader_now_Fi R := lazyN_eq _
def verdererref12_reader_now_g (n : Nat) : Gx R := typed 1 verdererref12_reader_now_d fun x k => verdererref12_reader_now_F n x.1 x.2.1 x.2.2.1 x.2.2.2.1 (fun y0 y1 y2 y3 y4 => k (.a (encA ty73 y0)) [(.box true 69 [(.ow 1), (.i .i64 y1), (.i .i64 y2), (.i .i64 y3)]), (.arr 73 ty73 y4)])
def verdererref12_reader_now_cs (R : Type) (n : Nat) : List (Nat × Gx R) := []
def verdererref12_reader_now_cx (R : Type) (n : Nat) : Cx R := ⟨Try.prog, Gof (verdererref12_reader_now_cs R n), noDs, noDx, noLp, drawP Try.prog (Gof (verdererref12_reader_now_cs R n)), false, noJn, noFz⟩
theorem verdererref12_reader_now_ok (n : Nat) : Good Try.prog 37 (verdererref12_reader_now_g (R := R) n) := by
  unfold verdererref12_reader_now_g
  rw [verdererref12_reader_now_e]
  exact Good.fn (cx := verdererref12_reader_now_cx R n) (by kernel_rfl) (AllGood.nil) rfl Try.func37 (by kernel_rfl) rfl trivial 1 verdererref12_reader_now_d (by kernel_rfl) (fun x k => by kernel_rfl)
end
end Go.Proofs.Ytikikmkfeeljgaa.E
set_option linter.unusedVariables false
set_option maxRecDepth 100000
namespace Go.Proofs.Ytikikmkfeeljgaa.E
open Go.Proofs
noncomputable section
variable {R : Type}
/-! (*verderer/verdererref12.reader).is: function 56 -/
@[reducible] def verdererref12_reader_is_d : Desc := ⟨[(0, .pt 0 0), (1, .d .str)], [.box true 69 [.ow 1, .d (.int .i64), .d (.int .i64), .d (.int .i64)], .arr 73 ty73]⟩
def verdererref12_reader_is_Fi (n : Nat) (a0 : ByteArray) (a1 : Int) (a2 : Int) (a3 : Int) (a4 : (List ty73.D)) (k0 : Bool → Int → Int → Int → (List ty73.D) → Option R) : Option R :=
  verdererref12_reader_now_F n a1 a2 a3 a4 (fun y1 y2 y3 y4 y5 => if (y3 == 0) = true then (if (y1.1 == 1) = true then (k0 (y1.2.1.toList == a0.toList) y2 y3 y4 y5) else (if (y1.1 == 3) = true then (k0 (y1.2.1.toList == a0.toList) y2 y3 y4 y5) else (k0 false y2 y3 y4 y5))) else (k0 false y2 y3 y4 y5))
def verdererref12_reader_is_F {R : Type} := lazyN (@verdererref12_reader_is_Fi R)
theorem verdererref12_reader_is_e : @verdererref12_reader_is_F R = @verdererref12_reader_is_Fi R := lazyN_eq _
def verdererref12_reader_is_g (n : Nat) : Gx R := typed 2 verdererref12_reader_is_d fun x k => verdererref12_reader_is_F n x.1 x.2.1 x.2.2.1 x.2.2.2.1 x.2.2.2.2.1 (fun y0 y1 y2 y3 y4 => k (.a (.c (.b y0))) [(.box true 69 [(.ow 1), (.i .i64 y1), (.i .i64 y2), (.i .i64 y3)]), (.arr 73 ty73 y4)])
def verdererref12_reader_is_cs (R : Type) (n : Nat) : List (Nat × Gx R) := [(37, verdererref12_reader_now_g n)]
def verdererref12_reader_is_cx (R : Type) (n : Nat) : Cx R := ⟨Try.prog, Gof (verdererref12_reader_is_cs R n), noDs, noDx, noLp, drawP Try.prog (Gof (verdererref12_reader_is_cs R n)), false, noJn, noFz⟩
theorem verdererref12_reader_is_ok (n : Nat) : Good Try.prog 56 (verdererref12_reader_is_g (R := R) n) := by
  unfold verdererref12_reader_is_g
  rw [verdererref12_reader_is_e]
  exact Good.fn (cx := verdererref12_reader_is_cx R n) (by kernel_rfl) (AllGood.cons (verdererref12_reader_now_ok n) (AllGood.nil)) rfl Try.func56 (by kernel_rfl) rfl trivial 2 verdererref12_reader_is_d (by kernel_rfl) (fun x k => by kernel_rfl)
end
end Go.Proofs.Ytikikmkfeeljgaa.E
set_option linter.unusedVariables false
set_option maxRecDepth 100000
namespace Go.Proofs.Ytikikmkfeeljgaa.E
open Go.Proofs
noncomputable section
variable {R : Type}
/-! (*verderer/verdererref12.reader).step: function 41 -/
@[reducible] def verdererref12_reader_step_d : Desc := ⟨[(0, .pt 0 0)], [.box true 69 [.ow 1, .d (.int .i64), .d (.int .i64), .d (.int .i64)], .arr 73 ty73]⟩
def verdererref12_reader_step_Fi (n : Nat) (a0 : Int) (a1 : Int) (a2 : Int) (a3 : (List ty73.D)) (k0 : Int → Int → Int → (List ty73.D) → Option R) : Option R :=
  if (decide ((IntKind.i64.wrap (a0 + 1)) < (a3.length : Int))) = true then (k0 (IntKind.i64.wrap (a0 + 1)) a1 a2 a3) else (k0 a0 a1 a2 a3)
def verdererref12_reader_step_F {R : Type} := lazyN (@verdererref12_reader_step_Fi R)
theorem verdererref12_reader_step_e : @verdererref12_reader_step_F R = @verdererref12_reader_step_Fi R := lazyN_eq _
def verdererref12_reader_step_g (n : Nat) : Gx R := typed 1 verdererref12_reader_step_d fun x k => verdererref12_reader_step_F n x.1 x.2.1 x.2.2.1 x.2.2.2.1 (fun y0 y1 y2 y3 => k (.tu []) [(.box true 69 [(.ow 1), (.i .i64 y0), (.i .i64 y1), (.i .i64 y2)]), (.arr 73 ty73 y3)])
def verdererref12_reader_step_cs (R : Type) (n : Nat) : List (Nat × Gx R) := []
def verdererref12_reader_step_cx (R : Type) (n : Nat) : Cx R := ⟨Try.prog, Gof (verdererref12_reader_step_cs R n), noDs, noDx, noLp, drawP Try.prog (Gof (verdererref12_reader_step_cs R n)), false, noJn, noFz⟩
theorem verdererref12_reader_step_ok (n : Nat) : Good Try.prog 41 (verdererref12_reader_step_g (R := R) n) := by
  unfold verdererref12_reader_step_g
  rw [verdererref12_reader_step_e]
  exact Good.fn (cx := verdererref12_reader_step_cx R n) (by kernel_rfl) (AllGood.nil) rfl Try.func41 (by kernel_rfl) rfl trivial 1 verdererref12_reader_step_d (by kernel_rfl) (fun x k => by kernel_rfl)
end
end Go.Proofs.Ytikikmkfeeljgaa.E
set_option linter.unusedVariables false
set_option maxRecDepth 100000
namespace Go.Proofs.Ytikikmkfeeljgaa.E
open Go.Proofs
noncomputable section
variable {R : Type}
/-! (*verderer/verdererref12.reader).take: function 35 -/
@[reducible] def verdererref12_reader_take_d : Desc := ⟨[(0, .pt 0 0), (1, .d .str)], [.box true 69 [.ow 1, .d (.int .i64), .d (.int .i64), .d (.int .i64)], .arr 73 ty73]⟩
def verdererref12_reader_take_Fi (n : Nat) (a0 : ByteArray) (a1 : Int) (a2 : Int) (a3 : Int) (a4 : (List ty73.D)) (k0 : Bool → Int → Int → Int → (List ty73.D) → Option R) : Option R :=
  verdererref12_reader_is_F n a0 a1 a2 a3 a4 (fun y1 y2 y3 y4 y5 => if (!y1) = true then (k0 false y2 y3 y4 y5) else (verdererref12_reader_step_F n y2 y3 y4 y5 (fun y6 y7 y8 y9 => k0 true y6 y7 y8 y9)))
def verdererref12_reader_take_F {R : Type} := lazyN (@verdererref12_reader_take_Fi R)
theorem verdererref12_reader_take_e : @verdererref12_reader_take_F R = @verdererref12_reader_take_Fi R := lazyN_eq _
def verdererref12_reader_take_g (n : Nat) : Gx R := typed 2 verdererref12_reader_take_d fun x k => verdererref12_reader_take_F n x.1 x.2.1 x.2.2.1 x.2.2.2.1 x.2.2.2.2.1 (fun y0 y1 y2 y3 y4 => k (.a (.c (.b y0))) [(.box true 69 [(.ow 1), (.i .i64 y1), (.i .i64 y2), (.i .i64 y3)]), (.arr 73 ty73 y4)])
def verdererref12_reader_take_cs (R : Type) (n : Nat) : List (Nat × Gx R) := [(41, verdererref12_reader_step_g n), (56, verdererref12_reader_is_g n)]
def verdererref12_reader_take_cx (R : Type) (n : Nat) : Cx R := ⟨Try.prog, Gof (verdererref12_reader_take_cs R n), noDs, noDx, noLp, drawP Try.prog (Gof (verdererref12_reader_take_cs R n)), false, noJn, noFz⟩
theorem verdererref12_reader_take_ok (n : Nat) : Good Try.prog 35 (verdererref12_reader_take_g (R := R) n) := by
  unfold verdererref12_reader_take_g
  rw [verdererref12_reader_take_e]
  exact Good.fn (cx := verdererref12_reader_take_cx R n) (by kernel_rfl) (AllGood.cons (verdererref12_reader_step_ok n) (AllGood.cons (verdererref12_reader_is_ok n) (AllGood.nil))) rfl Try.func35 (by kernel_rfl) rfl trivial 2 verdererref12_reader_take_d (by kernel_rfl) (fun x k => by kernel_rfl)
end
end Go.Proofs.Ytikikmkfeeljgaa.E
set_option linter.unusedVariables false
set_option maxRecDepth 100000
namespace Go.Proofs.Ytikikmkfeeljgaa.E
open Go.Proofs
noncomputable section
variable {R : Type}
/-! verderer/verdererref07.Name: function 46 -/
def verdererref07_Name_ds : Nat → Desc
  | 4 => ⟨[(0, .d .str), (3, .d (.int .i64))], []⟩
  | _ => ⟨[], []⟩
def verdererref07_Name_dx : Nat → List (X × Desc)
  | 4 => [(.r, ⟨[(2, .d .bool)], []⟩), (.e 0, ⟨[], []⟩)]
  | _ => []
def verdererref07_Name_s4 (n : Nat) (x0 : ByteArray) (x1 : Int) (k1 : ByteArray → Int → Option R) (qr : Bool → Option R) (qe0 : Option R) : Option R :=
  if (decide (x1 < (x0.size : Int))) = true then (if (0 : Int) ≤ x1 then if x1 < (x0.size : Int) then (if (decide ((byteAt x0 x1) ≥ 97)) = true then (if (!(decide ((byteAt x0 x1) ≤ 122))) = true then (if (x1 == 0) = true then (qr false) else (if ((byteAt x0 x1) != 95) = true then (if (decide ((byteAt x0 x1) < 48)) = true then (qr false) else (if (decide ((byteAt x0 x1) > 57)) = true then (qr false) else (k1 x0 (IntKind.i64.wrap (x1 + 1))))) else (k1 x0 (IntKind.i64.wrap (x1 + 1))))) else (k1 x0 (IntKind.i64.wrap (x1 + 1)))) else (if (x1 == 0) = true then (qr false) else (if ((byteAt x0 x1) != 95) = true then (if (decide ((byteAt x0 x1) < 48)) = true then (qr false) else (if (decide ((byteAt x0 x1) > 57)) = true then (qr false) else (k1 x0 (IntKind.i64.wrap (x1 + 1))))) else (k1 x0 (IntKind.i64.wrap (x1 + 1)))))) else none else none) else qe0
def verdererref07_Name_l4 (n : Nat) (a : (verdererref07_Name_ds 4).D) (k1 : (verdererref07_Name_ds 4).D → Option R) (k2 : exK R (verdererref07_Name_dx 4)) : Option R :=
  verdererref07_Name_s4 n a.1 a.2.1 (fun x0 x1 => k1 (x0, x1, ())) (fun x0 => k2.1 (x0, ())) (k2.2.1 (()))
@[reducible] def verdererref07_Name_d : Desc := ⟨[(0, .d .str)], []⟩
def verdererref07_Name_Fi (n : Nat) (a0 : ByteArray) (k0 : Bool → Option R) : Option R :=
  if (decide ((a0.size : Int) < 1)) = true then (k0 false) else (if (decide ((a0.size : Int) > 16)) = true then (k0 false) else (runC (verdererref07_Name_l4 n) n (a0, 0, ()) (fun b1 => k0 b1.1, fun b1 => k0 true, ())))
def verdererref07_Name_F {R : Type} := lazyN (@verdererref07_Name_Fi R)
theorem verdererref07_Name_e : @verdererref07_Name_F R = @verdererref07_Name_Fi R := lazyN_eq _
def verdererref07_Name_g (n : Nat) : Gx R := typed 1 verdererref07_Name_d fun x k => verdererref07_Name_F n x.1 (fun y0 => k (.a (.c (.b y0))) [])
def verdererref07_Name_cs (R : Type) (n : Nat) : List (Nat × Gx R) := []
def verdererref07_Name_lp (n : Nat) : (i : Nat) → (verdererref07_Name_ds i).D → exK R (verdererref07_Name_dx i) → Option R
  | 4, a, k => runC (verdererref07_Name_l4 n) n a k
  | _, _, _ => none
def verdererref07_Name_cx (R : Type) (n : Nat) : Cx R := ⟨Try.prog, Gof (verdererref07_Name_cs R n), verdererref07_Name_ds, verdererref07_Name_dx, verdererref07_Name_lp n, drawP Try.prog (Gof (verdererref07_Name_cs R n)), false, noJn, noFz⟩
theorem verdererref07_Name_ok (n : Nat) : Good Try.prog 46 (verdererref07_Name_g (R := R) n) := by
  unfold verdererref07_Name_g
  rw [verdererref07_Name_e]
  exact Good.fn (cx := verdererref07_Name_cx R n) (by kernel_rfl) (AllGood.nil) rfl Try.func46 (by kernel_rfl) rfl (by
    have e : fnLoops noJn Try.f46 = [((fnLoops noJn Try.f46)[0]?).getD (false, .skip)] := by kernel_rfl
    show LoopRuns _ _ (fnLoops noJn _)
    rw [e]
    exact ⟨LoopRun.loop (by kernel_rfl) (i := 4) (m := n) (step := verdererref07_Name_l4 n) (by kernel_rfl) (fun a k1 k2 => by kernel_rfl) (fun _ _ => rfl), trivial⟩) 1 verdererref07_Name_d (by kernel_rfl) (fun x k => by kernel_rfl)
end
end Go.Proofs.Ytikikmkfeeljgaa.E
set_option linter.unusedVariables false
set_option maxRecDepth 100000
namespace Go.Proofs.Ytikikmkfeeljgaa.E
open Go.Proofs
noncomputable section
variable {R : Type}
/-! verderer/verdererref11.Reserved: function 75 -/
def verdererref11_Reserved_ds : Nat → Desc
  | 3 => ⟨[(0, .d .str), (3, .ow 0), (4, .d (.int .i64))], [.arr 9 .str]⟩
  | _ => ⟨[], []⟩
def verdererref11_Reserved_dx : Nat → List (X × Desc)
  | 3 => [(.r, ⟨[(2, .d .bool)], []⟩), (.e 0, ⟨[], []⟩)]
  | _ => []
def verdererref11_Reserved_s3 (n : Nat) (x0 : ByteArray) (x1 : Int) (x2 : (List ByteArray)) (k1 : ByteArray → Int → (List ByteArray) → Option R) (qr : Bool → Option R) (qe0 : Option R) : Option R :=
  if (decide (x1 < (x2.length : Int))) = true then (if (0 : Int) ≤ x1 ∧ x1 < (x2.length : Int) then (if (Int.toNat x1) < x2.length then (if ((x2.getD (Int.toNat x1) (Ty.z .str)).toList == x0.toList) = true then (qr true) else (k1 x0 (IntKind.i64.wrap (x1 + 1)) x2)) else none) else none) else qe0
def verdererref11_Reserved_l3 (n : Nat) (a : (verdererref11_Reserved_ds 3).D) (k1 : (verdererref11_Reserved_ds 3).D → Option R) (k2 : exK R (verdererref11_Reserved_dx 3)) : Option R :=
  verdererref11_Reserved_s3 n a.1 a.2.1 a.2.2.1 (fun x0 x1 x2 => k1 (x0, x1, x2, ())) (fun x0 => k2.1 (x0, ())) (k2.2.1 (()))
@[reducible] def verdererref11_Reserved_d : Desc := ⟨[(0, .d .str)], []⟩
def verdererref11_Reserved_Fi (n : Nat) (a0 : ByteArray) (k0 : Bool → Option R) : Option R :=
  runC (verdererref11_Reserved_l3 n) n (a0, 0, [(⟨#[100, 101, 110, 121]⟩ : ByteArray), (⟨#[118, 105, 101, 119]⟩ : ByteArray), (⟨#[113, 117, 111, 116, 97]⟩ : ByteArray), (⟨#[108, 105, 109, 105, 116]⟩ : ByteArray), (⟨#[105, 102]⟩ : ByteArray), (⟨#[110, 111, 116]⟩ : ByteArray), (⟨#[99, 111, 117, 110, 116]⟩ : ByteArray), (⟨#[115, 117, 109]⟩ : ByteArray), (⟨#[108, 101, 97, 115, 116]⟩ : ByteArray), (⟨#[109, 111, 115, 116]⟩ : ByteArray)], ()) (fun b1 => k0 b1.1, fun b1 => k0 false, ())
def verdererref11_Reserved_F {R : Type} := lazyN (@verdererref11_Reserved_Fi R)
theorem verdererref11_Reserved_e : @verdererref11_Reserved_F R = @verdererref11_Reserved_Fi R := lazyN_eq _
def verdererref11_Reserved_g (n : Nat) : Gx R := typed 1 verdererref11_Reserved_d fun x k => verdererref11_Reserved_F n x.1 (fun y0 => k (.a (.c (.b y0))) [])
def verdererref11_Reserved_cs (R : Type) (n : Nat) : List (Nat × Gx R) := []
def verdererref11_Reserved_lp (n : Nat) : (i : Nat) → (verdererref11_Reserved_ds i).D → exK R (verdererref11_Reserved_dx i) → Option R
  | 3, a, k => runC (verdererref11_Reserved_l3 n) n a k
  | _, _, _ => none
def verdererref11_Reserved_cx (R : Type) (n : Nat) : Cx R := ⟨Try.prog, Gof (verdererref11_Reserved_cs R n), verdererref11_Reserved_ds, verdererref11_Reserved_dx, verdererref11_Reserved_lp n, drawP Try.prog (Gof (verdererref11_Reserved_cs R n)), false, noJn, noFz⟩
theorem verdererref11_Reserved_ok (n : Nat) : Good Try.prog 75 (verdererref11_Reserved_g (R := R) n) := by
  unfold verdererref11_Reserved_g
  rw [verdererref11_Reserved_e]
  exact Good.fn (cx := verdererref11_Reserved_cx R n) (by kernel_rfl) (AllGood.nil) rfl Try.func75 (by kernel_rfl) rfl (by
    have e : fnLoops noJn Try.f75 = [((fnLoops noJn Try.f75)[0]?).getD (false, .skip)] := by kernel_rfl
    show LoopRuns _ _ (fnLoops noJn _)
    rw [e]
    exact ⟨LoopRun.loop (by kernel_rfl) (i := 3) (m := n) (step := verdererref11_Reserved_l3 n) (by kernel_rfl) (fun a k1 k2 => by kernel_rfl) (fun _ _ => rfl), trivial⟩) 1 verdererref11_Reserved_d (by kernel_rfl) (fun x k => by kernel_rfl)
end
end Go.Proofs.Ytikikmkfeeljgaa.E
set_option linter.unusedVariables false
set_option maxRecDepth 100000
namespace Go.Proofs.Ytikikmkfeeljgaa.E
open Go.Proofs
noncomputable section
variable {R : Type}
/-! (*verderer/verdererref12.reader).named: function 57 -/
@[reducible] def verdererref12_reader_named_d : Desc := ⟨[(0, .pt 0 0)], [.box true 69 [.ow 1, .d (.int .i64), .d (.int .i64), .d (.int .i64)], .arr 73 ty73]⟩
def verdererref12_reader_named_Fi (n : Nat) (a0 : Int) (a1 : Int) (a2 : Int) (a3 : (List ty73.D)) (k0 : Bool → Int → Int → Int → (List ty73.D) → Option R) : Option R :=
  verdererref12_reader_now_F n a0 a1 a2 a3 (fun y1 y2 y3 y4 y5 => if (y3 == 0) = true then (if (y1.1 == 1) = true then (verdererref07_Name_F n y1.2.1 (fun y6 => if y6 = true then (verdererref11_Reserved_F n y1.2.1 (fun y7 => k0 (!y7) y2 y3 y4 y5)) else (k0 false y2 y3 y4 y5))) else (k0 false y2 y3 y4 y5)) else (k0 false y2 y3 y4 y5))
def verdererref12_reader_named_F {R : Type} := lazyN (@verdererref12_reader_named_Fi R)
theorem verdererref12_reader_named_e : @verdererref12_reader_named_F R = @verdererref12_reader_named_Fi R := lazyN_eq _
def verdererref12_reader_named_g (n : Nat) : Gx R := typed 1 verdererref12_reader_named_d fun x k => verdererref12_reader_named_F n x.1 x.2.1 x.2.2.1 x.2.2.2.1 (fun y0 y1 y2 y3 y4 => k (.a (.c (.b y0))) [(.box true 69 [(.ow 1), (.i .i64 y1), (.i .i64 y2), (.i .i64 y3)]), (.arr 73 ty73 y4)])
def verdererref12_reader_named_cs (R : Type) (n : Nat) : List (Nat × Gx R) := [(37, verdererref12_reader_now_g n), (46, verdererref07_Name_g n), (75, verdererref11_Reserved_g n)]
def verdererref12_reader_named_cx (R : Type) (n : Nat) : Cx R := ⟨Try.prog, Gof (verdererref12_reader_named_cs R n), noDs, noDx, noLp, drawP Try.prog (Gof (verdererref12_reader_named_cs R n)), false, noJn, noFz⟩
theorem verdererref12_reader_named_ok (n : Nat) : Good Try.prog 57 (verdererref12_reader_named_g (R := R) n) := by
  unfold verdererref12_reader_named_g
  rw [verdererref12_reader_named_e]
  exact Good.fn (cx := verdererref12_reader_named_cx R n) (by kernel_rfl) (AllGood.cons (verdererref12_reader_now_ok n) (AllGood.cons (verdererref07_Name_ok n) (AllGood.cons (verdererref11_Reserved_ok n) (AllGood.nil)))) rfl Try.func57 (by kernel_rfl) rfl trivial 1 verdererref12_reader_named_d (by kernel_rfl) (fun x k => by kernel_rfl)
end
end Go.Proofs.Ytikikmkfeeljgaa.E
set_option linter.unusedVariables false
set_option maxRecDepth 100000
namespace Go.Proofs.Ytikikmkfeeljgaa.E
open Go.Proofs
noncomputable section
variable {R : Type}
/-! (*verderer/verdererref12.reader).fail: function 36 -/
@[reducible] def verdererref12_reader_fail_d : Desc := ⟨[(0, .pt 0 0), (1, .d (.int .i64)), (2, .d (.int .i64))], [.box true 69 [.ow 1, .d (.int .i64), .d (.int .i64), .d (.int .i64)], .arr 73 ty73]⟩
def verdererref12_reader_fail_Fi (n : Nat) (a0 : Int) (a1 : Int) (a2 : Int) (a3 : Int) (a4 : Int) (a5 : (List ty73.D)) (k0 : Int → Int → Int → (List ty73.D) → Option R) : Option R :=
  if (a3 == 0) = true then (k0 a2 a0 a1 a5) else (k0 a2 a3 a4 a5)
def verdererref12_reader_fail_F {R : Type} := lazyN (@verdererref12_reader_fail_Fi R)
theorem verdererref12_reader_fail_e : @verdererref12_reader_fail_F R = @verdererref12_reader_fail_Fi R := lazyN_eq _
def verdererref12_reader_fail_g (n : Nat) : Gx R := typed 3 verdererref12_reader_fail_d fun x k => verdererref12_reader_fail_F n x.1 x.2.1 x.2.2.1 x.2.2.2.1 x.2.2.2.2.1 x.2.2.2.2.2.1 (fun y0 y1 y2 y3 => k (.tu []) [(.box true 69 [(.ow 1), (.i .i64 y0), (.i .i64 y1), (.i .i64 y2)]), (.arr 73 ty73 y3)])
def verdererref12_reader_fail_cs (R : Type) (n : Nat) : List (Nat × Gx R) := []
def verdererref12_reader_fail_cx (R : Type) (n : Nat) : Cx R := ⟨Try.prog, Gof (verdererref12_reader_fail_cs R n), noDs, noDx, noLp, drawP Try.prog (Gof (verdererref12_reader_fail_cs R n)), false, noJn, noFz⟩
theorem verdererref12_reader_fail_ok (n : Nat) : Good Try.prog 36 (verdererref12_reader_fail_g (R := R) n) := by
  unfold verdererref12_reader_fail_g
  rw [verdererref12_reader_fail_e]
  exact Good.fn (cx := verdererref12_reader_fail_cx R n) (by kernel_rfl) (AllGood.nil) rfl Try.func36 (by kernel_rfl) rfl trivial 3 verdererref12_reader_fail_d (by kernel_rfl) (fun x k => by kernel_rfl)
end
end Go.Proofs.Ytikikmkfeeljgaa.E
set_option linter.unusedVariables false
set_option maxRecDepth 100000
namespace Go.Proofs.Ytikikmkfeeljgaa.E
open Go.Proofs
noncomputable section
variable {R : Type}
/-! (*verderer/verdererref12.reader).name: function 38 -/
@[reducible] def verdererref12_reader_name_d : Desc := ⟨[(0, .pt 0 0)], [.box true 69 [.ow 1, .d (.int .i64), .d (.int .i64), .d (.int .i64)], .arr 73 ty73]⟩
def verdererref12_reader_name_Fi (n : Nat) (a0 : Int) (a1 : Int) (a2 : Int) (a3 : (List ty73.D)) (k0 : ByteArray → Int → Int → Int → (List ty73.D) → Option R) : Option R :=
  verdererref12_reader_named_F n a0 a1 a2 a3 (fun y1 y2 y3 y4 y5 => if (!y1) = true then (verdererref12_reader_now_F n y2 y3 y4 y5 (fun y6 y7 y8 y9 y10 => verdererref12_reader_fail_F n 7 y6.2.2.2.1 y7 y8 y9 y10 (fun y11 y12 y13 y14 => k0 (⟨#[]⟩ : ByteArray) y11 y12 y13 y14))) else (verdererref12_reader_now_F n y2 y3 y4 y5 (fun y15 y16 y17 y18 y19 => verdererref12_reader_step_F n y16 y17 y18 y19 (fun y20 y21 y22 y23 => k0 y15.2.1 y20 y21 y22 y23))))
def verdererref12_reader_name_F {R : Type} := lazyN (@verdererref12_reader_name_Fi R)
theorem verdererref12_reader_name_e : @verdererref12_reader_name_F R = @verdererref12_reader_name_Fi R := lazyN_eq _
def verdererref12_reader_name_g (n : Nat) : Gx R := typed 1 verdererref12_reader_name_d fun x k => verdererref12_reader_name_F n x.1 x.2.1 x.2.2.1 x.2.2.2.1 (fun y0 y1 y2 y3 y4 => k (.a (.c (.s y0))) [(.box true 69 [(.ow 1), (.i .i64 y1), (.i .i64 y2), (.i .i64 y3)]), (.arr 73 ty73 y4)])
def verdererref12_reader_name_cs (R : Type) (n : Nat) : List (Nat × Gx R) := [(36, verdererref12_reader_fail_g n), (37, verdererref12_reader_now_g n), (41, verdererref12_reader_step_g n), (57, verdererref12_reader_named_g n)]
def verdererref12_reader_name_cx (R : Type) (n : Nat) : Cx R := ⟨Try.prog, Gof (verdererref12_reader_name_cs R n), noDs, noDx, noLp, drawP Try.prog (Gof (verdererref12_reader_name_cs R n)), false, noJn, noFz⟩
theorem verdererref12_reader_name_ok (n : Nat) : Good Try.prog 38 (verdererref12_reader_name_g (R := R) n) := by
  unfold verdererref12_reader_name_g
  rw [verdererref12_reader_name_e]
  exact Good.fn (cx := verdererref12_reader_name_cx R n) (by kernel_rfl) (AllGood.cons (verdererref12_reader_fail_ok n) (AllGood.cons (verdererref12_reader_now_ok n) (AllGood.cons (verdererref12_reader_step_ok n) (AllGood.cons (verdererref12_reader_named_ok n) (AllGood.nil))))) rfl Try.func38 (by kernel_rfl) rfl trivial 1 verdererref12_reader_name_d (by kernel_rfl) (fun x k => by kernel_rfl)
end
end Go.Proofs.Ytikikmkfeeljgaa.E
set_option linter.unusedVariables false
set_option maxRecDepth 100000
namespace Go.Proofs.Ytikikmkfeeljgaa.E
open Go.Proofs
noncomputable section
variable {R : Type}
/-! (*verderer/verdererref12.reader).must: function 39 -/
@[reducible] def verdererref12_reader_must_d : Desc := ⟨[(0, .pt 0 0), (1, .d .str)], [.box true 69 [.ow 1, .d (.int .i64), .d (.int .i64), .d (.int .i64)], .arr 73 ty73]⟩
def verdererref12_reader_must_Fi (n : Nat) (a0 : ByteArray) (a1 : Int) (a2 : Int) (a3 : Int) (a4 : (List ty73.D)) (k0 : Int → Int → Int → (List ty73.D) → Option R) : Option R :=
  verdererref12_reader_take_F n a0 a1 a2 a3 a4 (fun y1 y2 y3 y4 y5 => if (!y1) = true then (verdererref12_reader_now_F n y2 y3 y4 y5 (fun y6 y7 y8 y9 y10 => verdererref12_reader_fail_F n 7 y6.2.2.2.1 y7 y8 y9 y10 (fun y11 y12 y13 y14 => k0 y11 y12 y13 y14))) else (k0 y2 y3 y4 y5))
def verdererref12_reader_must_F {R : Type} := lazyN (@verdererref12_reader_must_Fi R)
theorem verdererref12_reader_must_e : @verdererref12_reader_must_F R = @verdererref12_reader_must_Fi R := lazyN_eq _
def verdererref12_reader_must_g (n : Nat) : Gx R := typed 2 verdererref12_reader_must_d fun x k => verdererref12_reader_must_F n x.1 x.2.1 x.2.2.1 x.2.2.2.1 x.2.2.2.2.1 (fun y0 y1 y2 y3 => k (.tu []) [(.box true 69 [(.ow 1), (.i .i64 y0), (.i .i64 y1), (.i .i64 y2)]), (.arr 73 ty73 y3)])
def verdererref12_reader_must_cs (R : Type) (n : Nat) : List (Nat × Gx R) := [(35, verdererref12_reader_take_g n), (36, verdererref12_reader_fail_g n), (37, verdererref12_reader_now_g n)]
def verdererref12_reader_must_cx (R : Type) (n : Nat) : Cx R := ⟨Try.prog, Gof (verdererref12_reader_must_cs R n), noDs, noDx, noLp, drawP Try.prog (Gof (verdererref12_reader_must_cs R n)), false, noJn, noFz⟩
theorem verdererref12_reader_must_ok (n : Nat) : Good Try.prog 39 (verdererref12_reader_must_g (R := R) n) := by
  unfold verdererref12_reader_must_g
  rw [verdererref12_reader_must_e]
  exact Good.fn (cx := verdererref12_reader_must_cx R n) (by kernel_rfl) (AllGood.cons (verdererref12_reader_take_ok n) (AllGood.cons (verdererref12_reader_fail_ok n) (AllGood.cons (verdererref12_reader_now_ok n) (AllGood.nil)))) rfl Try.func39 (by kernel_rfl) rfl trivial 2 verdererref12_reader_must_d (by kernel_rfl) (fun x k => by kernel_rfl)
end
end Go.Proofs.Ytikikmkfeeljgaa.E
set_option linter.unusedVariables false
set_option maxRecDepth 100000
namespace Go.Proofs.Ytikikmkfeeljgaa.E
open Go.Proofs
noncomputable section
variable {R : Type}
/-! (*verderer/verdererref12.reader).agg: function 58 -/
def verdererref12_reader_agg_ds : Nat → Desc
  | 3 => ⟨[(0, .pt 0 0), (1, .pt 2 0), (5, .ow 5), (6, .d (.int .i64))], [.box true 69 [.ow 1, .d (.int .i64), .d (.int .i64), .d (.int .i64)], .arr 73 ty73, .box true 25 [.d (.int .i64), .d .str, .ow 3, .d (.int .i64), .d .str, .d (.int .i64), .ow 4], .arr 9 .str, .arr 41 ty41, .arr 9 .str]⟩
  | _ => ⟨[], []⟩
def verdererref12_reader_agg_dx : Nat → List (X × Desc)
  | 3 => [(.r, ⟨[(4, .d .bool)], [.box true 69 [.ow 1, .d (.int .i64), .d (.int .i64), .d (.int .i64)], .arr 73 ty73, .box true 25 [.d (.int .i64), .d .str, .ow 3, .d (.int .i64), .d .str, .d (.int .i64), .ow 4], .arr 9 .str, .arr 41 ty41]⟩), (.e 0, ⟨[], [.box true 69 [.ow 1, .d (.int .i64), .d (.int .i64), .d (.int .i64)], .arr 73 ty73, .box true 25 [.d (.int .i64), .d .str, .ow 3, .d (.int .i64), .d .str, .d (.int .i64), .ow 4], .arr 9 .str, .arr 41 ty41]⟩)]
  | _ => []
def verdererref12_reader_agg_s3 (n : Nat) (x0 : Int) (x1 : Int) (x2 : Int) (x3 : Int) (x4 : (List ty73.D)) (x5 : Int) (x6 : ByteArray) (x7 : Int) (x8 : ByteArray) (x9 : Int) (x10 : (List ByteArray)) (x11 : (List ty41.D)) (x12 : (List ByteArray)) (k1 : Int → Int → Int → Int → (List ty73.D) → Int → ByteArray → Int → ByteArray → Int → (List ByteArray) → (List ty41.D) → (List ByteArray) → Option R) (qr : Bool → Int → Int → Int → (List ty73.D) → Int → ByteArray → Int → ByteArray → Int → (List ByteArray) → (List ty41.D) → Option R) (qe0 : Int → Int → Int → (List ty73.D) → Int → ByteArray → Int → ByteArray → Int → (List ByteArray) → (List ty41.D) → Option R) : Option R :=
  if (decide (x0 < (x12.length : Int))) = true then (if (0 : Int) ≤ x0 ∧ x0 < (x12.length : Int) then (if (Int.toNat x0) < x12.length then (verdererref12_reader_is_F n (x12.getD (Int.toNat x0) (Ty.z .str)) x1 x2 x3 x4 (fun y1 y2 y3 y4 y5 => if (!y1) = true then (k1 (IntKind.i64.wrap (x0 + 1)) y2 y3 y4 y5 x5 x6 x7 x8 x9 x10 x11 x12) else (if (x5 == 1) = true then (verdererref12_reader_now_F n y2 y3 y4 y5 (fun y6 y7 y8 y9 y10 => verdererref12_reader_fail_F n 7 y6.2.2.2.1 y7 y8 y9 y10 (fun y11 y12 y13 y14 => qr true y11 y12 y13 y14 x5 x6 x7 x8 x9 x10 x11))) else (if (x5 == 3) = true then (if (decide (x0 > 2)) = true then (verdererref12_reader_now_F n y2 y3 y4 y5 (fun y15 y16 y17 y18 y19 => verdererref12_reader_fail_F n 7 y15.2.2.2.1 y16 y17 y18 y19 (fun y20 y21 y22 y23 => qr true y20 y21 y22 y23 x5 x6 x7 x8 x9 x10 x11))) else (verdererref12_reader_step_F n y2 y3 y4 y5 (fun y24 y25 y26 y27 => if (decide (x0 > 1)) = true then (verdererref12_reader_name_F n y24 y25 y26 y27 (fun y28 y29 y30 y31 y32 => qr true y29 y30 y31 y32 x5 x6 x0 y28 x9 x10 x11)) else (qr true y24 y25 y26 y27 x5 x6 x0 x8 x9 x10 x11)))) else (verdererref12_reader_step_F n y2 y3 y4 y5 (fun y33 y34 y35 y36 => if (decide (x0 > 1)) = true then (verdererref12_reader_name_F n y33 y34 y35 y36 (fun y37 y38 y39 y40 y41 => qr true y38 y39 y40 y41 x5 x6 x0 y37 x9 x10 x11)) else (qr true y33 y34 y35 y36 x5 x6 x0 x8 x9 x10 x11))))))) else none) else none) else (qe0 x1 x2 x3 x4 x5 x6 x7 x8 x9 x10 x11)
def verdererref12_reader_agg_l3 (n : Nat) (a : (verdererref12_reader_agg_ds 3).D) (k1 : (verdererref12_reader_agg_ds 3).D → Option R) (k2 : exK R (verdererref12_reader_agg_dx 3)) : Option R :=
  verdererref12_reader_agg_s3 n a.1 a.2.1 a.2.2.1 a.2.2.2.1 a.2.2.2.2.1 a.2.2.2.2.2.1 a.2.2.2.2.2.2.1 a.2.2.2.2.2.2.2.1 a.2.2.2.2.2.2.2.2.1 a.2.2.2.2.2.2.2.2.2.1 a.2.2.2.2.2.2.2.2.2.2.1 a.2.2.2.2.2.2.2.2.2.2.2.1 a.2.2.2.2.2.2.2.2.2.2.2.2.1 (fun x0 x1 x2 x3 x4 x5 x6 x7 x8 x9 x10 x11 x12 => k1 (x0, x1, x2, x3, x4, x5, x6, x7, x8, x9, x10, x11, x12, ())) (fun x0 x1 x2 x3 x4 x5 x6 x7 x8 x9 x10 x11 => k2.1 (x0, x1, x2, x3, x4, x5, x6, x7, x8, x9, x10, x11, ())) (fun x0 x1 x2 x3 x4 x5 x6 x7 x8 x9 x10 => k2.2.1 (x0, x1, x2, x3, x4, x5, x6, x7, x8, x9, x10, ()))
@[reducible] def verdererref12_reader_agg_d : Desc := ⟨[(0, .pt 0 0), (1, .pt 2 0)], [.box true 69 [.ow 1, .d (.int .i64), .d (.int .i64), .d (.int .i64)], .arr 73 ty73, .box true 25 [.d (.int .i64), .d .str, .ow 3, .d (.int .i64), .d .str, .d (.int .i64), .ow 4], .arr 9 .str, .arr 41 ty41]⟩
def verdererref12_reader_agg_Fi (n : Nat) (a0 : Int) (a1 : Int) (a2 : Int) (a3 : (List ty73.D)) (a4 : Int) (a5 : ByteArray) (a6 : Int) (a7 : ByteArray) (a8 : Int) (a9 : (List ByteArray)) (a10 : (List ty41.D)) (k0 : Bool → Int → Int → Int → (List ty73.D) → Int → ByteArray → Int → ByteArray → Int → (List ByteArray) → (List ty41.D) → Option R) : Option R :=
  runC (verdererref12_reader_agg_l3 n) n (1, a0, a1, a2, a3, a4, a5, a6, a7, a8, a9, a10, [(⟨#[]⟩ : ByteArray), (⟨#[99, 111, 117, 110, 116]⟩ : ByteArray), (⟨#[115, 117, 109]⟩ : ByteArray), (⟨#[108, 101, 97, 115, 116]⟩ : ByteArray), (⟨#[109, 111, 115, 116]⟩ : ByteArray)], ()) (fun b53 => k0 b53.1 b53.2.1 b53.2.2.1 b53.2.2.2.1 b53.2.2.2.2.1 b53.2.2.2.2.2.1 b53.2.2.2.2.2.2.1 b53.2.2.2.2.2.2.2.1 b53.2.2.2.2.2.2.2.2.1 b53.2.2.2.2.2.2.2.2.2.1 b53.2.2.2.2.2.2.2.2.2.2.1 b53.2.2.2.2.2.2.2.2.2.2.2.1, fun b64 => k0 false b64.1 b64.2.1 b64.2.2.1 b64.2.2.2.1 b64.2.2.2.2.1 b64.2.2.2.2.2.1 b64.2.2.2.2.2.2.1 b64.2.2.2.2.2.2.2.1 b64.2.2.2.2.2.2.2.2.1 b64.2.2.2.2.2.2.2.2.2.1 b64.2.2.2.2.2.2.2.2.2.2.1, ())
def verdererref12_reader_agg_F {R : Type} := lazyN (@verdererref12_reader_agg_Fi R)
theorem verdererref12_reader_agg_e : @verdererref12_reader_agg_F R = @verdererref12_reader_agg_Fi R := lazyN_eq _
def verdererref12_reader_agg_g (n : Nat) : Gx R := typed 2 verdererref12_reader_agg_d fun x k => verdererref12_reader_agg_F n x.1 x.2.1 x.2.2.1 x.2.2.2.1 x.2.2.2.2.1 x.2.2.2.2.2.1 x.2.2.2.2.2.2.1 x.2.2.2.2.2.2.2.1 x.2.2.2.2.2.2.2.2.1 x.2.2.2.2.2.2.2.2.2.1 x.2.2.2.2.2.2.2.2.2.2.1 (fun y0 y1 y2 y3 y4 y5 y6 y7 y8 y9 y10 y11 => k (.a (.c (.b y0))) [(.box true 69 [(.ow 1), (.i .i64 y1), (.i .i64 y2), (.i .i64 y3)]), (.arr 73 ty73 y4), (.box true 25 [(.i .i64 y5), (.s y6), (.ow 3), (.i .i64 y7), (.s y8), (.i .i64 y9), (.ow 4)]), (.arr 9 .str y10), (.arr 41 ty41 y11)])
def verdererref12_reader_agg_cs (R : Type) (n : Nat) : List (Nat × Gx R) := [(36, verdererref12_reader_fail_g n), (37, verdererref12_reader_now_g n), (38, verdererref12_reader_name_g n), (41, verdererref12_reader_step_g n), (56, verdererref12_reader_is_g n)]
def verdererref12_reader_agg_lp (n : Nat) : (i : Nat) → (verdererref12_reader_agg_ds i).D → exK R (verdererref12_reader_agg_dx i) → Option R
  | 3, a, k => runC (verdererref12_reader_agg_l3 n) n a k
  | _, _, _ => none
def verdererref12_reader_agg_cx (R : Type) (n : Nat) : Cx R := ⟨Try.prog, Gof (verdererref12_reader_agg_cs R n), verdererref12_reader_agg_ds, verdererref12_reader_agg_dx, verdererref12_reader_agg_lp n, drawP Try.prog (Gof (verdererref12_reader_agg_cs R n)), false, noJn, noFz⟩
theorem verdererref12_reader_agg_ok (n : Nat) : Good Try.prog 58 (verdererref12_reader_agg_g (R := R) n) := by
  unfold verdererref12_reader_agg_g
  rw [verdererref12_reader_agg_e]
  exact Good.fn (cx := verdererref12_reader_agg_cx R n) (by kernel_rfl) (AllGood.cons (verdererref12_reader_fail_ok n) (AllGood.cons (verdererref12_reader_now_ok n) (AllGood.cons (verdererref12_reader_name_ok n) (AllGood.cons (verdererref12_reader_step_ok n) (AllGood.cons (verdererref12_reader_is_ok n) (AllGood.nil)))))) rfl Try.func58 (by kernel_rfl) rfl (by
    have e : fnLoops noJn Try.f58 = [((fnLoops noJn Try.f58)[0]?).getD (false, .skip)] := by kernel_rfl
    show LoopRuns _ _ (fnLoops noJn _)
    rw [e]
    exact ⟨LoopRun.loop (by kernel_rfl) (i := 3) (m := n) (step := verdererref12_reader_agg_l3 n) (by kernel_rfl) (fun a k1 k2 => by kernel_rfl) (fun _ _ => rfl), trivial⟩) 2 verdererref12_reader_agg_d (by kernel_rfl) (fun x k => by kernel_rfl)
end
end Go.Proofs.Ytikikmkfeeljgaa.E
set_option linter.unusedVariables false
set_option maxRecDepth 100000
namespace Go.Proofs.Ytikikmkfeeljgaa.E
open Go.Proofs
noncomputable section
variable {R : Type}
/-! (*verderer/verdererref12.reader).head: function 40 -/
def verdererref12_reader_head_ds : Nat → Desc
  | 6 => ⟨[(0, .pt 0 0), (1, .pt 2 0), (4, .d (.int .i64))], [.box true 69 [.ow 1, .d (.int .i64), .d (.int .i64), .d (.int .i64)], .arr 73 ty73, .box true 25 [.d (.int .i64), .d .str, .ow 3, .d (.int .i64), .d .str, .d (.int .i64), .ow 4], .arr 9 .str, .arr 41 ty41]⟩
  | _ => ⟨[], []⟩
def verdererref12_reader_head_dx : Nat → List (X × Desc)
  | 6 => [(.r, ⟨[], [.box true 69 [.ow 1, .d (.int .i64), .d (.int .i64), .d (.int .i64)], .arr 73 ty73, .box true 25 [.d (.int .i64), .d .str, .ow 3, .d (.int .i64), .d .str, .d (.int .i64), .ow 4], .arr 9 .str, .arr 41 ty41]⟩), (.e 0, ⟨[], [.box true 69 [.ow 1, .d (.int .i64), .d (.int .i64), .d (.int .i64)], .arr 73 ty73, .box true 25 [.d (.int .i64), .d .str, .ow 3, .d (.int .i64), .d .str, .d (.int .i64), .ow 4], .arr 9 .str, .arr 41 ty41]⟩)]
  | _ => []
def verdererref12_reader_head_s6 (n : Nat) (x0 : Int) (x1 : Int) (x2 : Int) (x3 : Int) (x4 : (List ty73.D)) (x5 : Int) (x6 : ByteArray) (x7 : Int) (x8 : ByteArray) (x9 : Int) (x10 : (List ByteArray)) (x11 : (List ty41.D)) (k1 : Int → Int → Int → Int → (List ty73.D) → Int → ByteArray → Int → ByteArray → Int → (List ByteArray) → (List ty41.D) → Option R) (qr : Int → Int → Int → (List ty73.D) → Int → ByteArray → Int → ByteArray → Int → (List ByteArray) → (List ty41.D) → Option R) (qe0 : Int → Int → Int → (List ty73.D) → Int → ByteArray → Int → ByteArray → Int → (List ByteArray) → (List ty41.D) → Option R) : Option R :=
  if (decide (x0 < 400)) = true then (if (x2 == 0) = true then (verdererref12_reader_agg_F n x1 x2 x3 x4 x5 x6 x7 x8 x9 x10 x11 (fun y31 y32 y33 y34 y35 y36 y37 y38 y39 y40 y41 y42 => if y31 = true then (qr y32 y33 y34 y35 y36 y37 y38 y39 y40 y41 y42) else (verdererref12_reader_now_F n y32 y33 y34 y35 (fun y43 y44 y45 y46 y47 => verdererref12_reader_name_F n y44 y45 y46 y47 (fun y48 y49 y50 y51 y52 => if (decide ((y41.length : Int) ≥ 40)) = true then (verdererref12_reader_fail_F n 9 y43.2.2.2.1 y49 y50 y51 y52 (fun y53 y54 y55 y56 => if (List.length y41 + List.length [y48]) * 16 ≤ 140737488355328 then (verdererref12_reader_take_F n (⟨#[44]⟩ : ByteArray) y53 y54 y55 y56 (fun y57 y58 y59 y60 y61 => if (!y57) = true then (qr y58 y59 y60 y61 y36 y37 y38 y39 y40 (y41 ++ [y48]) y42) else (k1 (IntKind.i64.wrap (x0 + 1)) y58 y59 y60 y61 y36 y37 y38 y39 y40 (y41 ++ [y48]) y42))) else none)) else (if (List.length y41 + List.length [y48]) * 16 ≤ 140737488355328 then (verdererref12_reader_take_F n (⟨#[44]⟩ : ByteArray) y49 y50 y51 y52 (fun y62 y63 y64 y65 y66 => if (!y62) = true then (qr y63 y64 y65 y66 y36 y37 y38 y39 y40 (y41 ++ [y48]) y42) else (k1 (IntKind.i64.wrap (x0 + 1)) y63 y64 y65 y66 y36 y37 y38 y39 y40 (y41 ++ [y48]) y42))) else none)))))) else (qe0 x1 x2 x3 x4 x5 x6 x7 x8 x9 x10 x11)) else (qe0 x1 x2 x3 x4 x5 x6 x7 x8 x9 x10 x11)
def verdererref12_reader_head_l6 (n : Nat) (a : (verdererref12_reader_head_ds 6).D) (k1 : (verdererref12_reader_head_ds 6).D → Option R) (k2 : exK R (verdererref12_reader_head_dx 6)) : Option R :=
  verdererref12_reader_head_s6 n a.1 a.2.1 a.2.2.1 a.2.2.2.1 a.2.2.2.2.1 a.2.2.2.2.2.1 a.2.2.2.2.2.2.1 a.2.2.2.2.2.2.2.1 a.2.2.2.2.2.2.2.2.1 a.2.2.2.2.2.2.2.2.2.1 a.2.2.2.2.2.2.2.2.2.2.1 a.2.2.2.2.2.2.2.2.2.2.2.1 (fun x0 x1 x2 x3 x4 x5 x6 x7 x8 x9 x10 x11 => k1 (x0, x1, x2, x3, x4, x5, x6, x7, x8, x9, x10, x11, ())) (fun x0 x1 x2 x3 x4 x5 x6 x7 x8 x9 x10 => k2.1 (x0, x1, x2, x3, x4, x5, x6, x7, x8, x9, x10, ())) (fun x0 x1 x2 x3 x4 x5 x6 x7 x8 x9 x10 => k2.2.1 (x0, x1, x2, x3, x4, x5, x6, x7, x8, x9, x10, ()))
@[reducible] def verdererref12_reader_head_d : Desc := ⟨[(0, .pt 0 0), (1, .pt 2 0)], [.box true 69 [.ow 1, .d (.int .i64), .d (.int .i64), .d (.int .i64)], .arr 73 ty73, .box true 25 [.d (.int .i64), .d .str, .ow 3, .d (.int .i64), .d .str, .d (.int .i64), .ow 4], .arr 9 .str, .arr 41 ty41]⟩
def verdererref12_reader_head_Fi (n : Nat) (a0 : Int) (a1 : Int) (a2 : Int) (a3 : (List ty73.D)) (a4 : Int) (a5 : ByteArray) (a6 : Int) (a7 : ByteArray) (a8 : Int) (a9 : (List ByteArray)) (a10 : (List ty41.D)) (k0 : Int → Int → Int → (List ty73.D) → Int → ByteArray → Int → ByteArray → Int → (List ByteArray) → (List ty41.D) → Option R) : Option R :=
  if (a4 == 3) = true then (verdererref12_reader_name_F n a0 a1 a2 a3 (fun y1 y2 y3 y4 y5 => if (List.length a9 + List.length [y1]) * 16 ≤ 140737488355328 then (verdererref12_reader_must_F n (⟨#[44]⟩ : ByteArray) y2 y3 y4 y5 (fun y6 y7 y8 y9 => verdererref12_reader_agg_F n y6 y7 y8 y9 a4 a5 a6 a7 a8 (a9 ++ [y1]) a10 (fun y10 y11 y12 y13 y14 y15 y16 y17 y18 y19 y20 y21 => if (!y10) = true then (verdererref12_reader_now_F n y11 y12 y13 y14 (fun y22 y23 y24 y25 y26 => verdererref12_reader_fail_F n 7 y22.2.2.2.1 y23 y24 y25 y26 (fun y27 y28 y29 y30 => k0 y27 y28 y29 y30 y15 y16 y17 y18 y19 y20 y21))) else (k0 y11 y12 y13 y14 y15 y16 y17 y18 y19 y20 y21)))) else none)) else (runC (verdererref12_reader_head_l6 n) n (0, a0, a1, a2, a3, a4, a5, a6, a7, a8, a9, a10, ()) (fun b77 => k0 b77.1 b77.2.1 b77.2.2.1 b77.2.2.2.1 b77.2.2.2.2.1 b77.2.2.2.2.2.1 b77.2.2.2.2.2.2.1 b77.2.2.2.2.2.2.2.1 b77.2.2.2.2.2.2.2.2.1 b77.2.2.2.2.2.2.2.2.2.1 b77.2.2.2.2.2.2.2.2.2.2.1, fun b88 => k0 b88.1 b88.2.1 b88.2.2.1 b88.2.2.2.1 b88.2.2.2.2.1 b88.2.2.2.2.2.1 b88.2.2.2.2.2.2.1 b88.2.2.2.2.2.2.2.1 b88.2.2.2.2.2.2.2.2.1 b88.2.2.2.2.2.2.2.2.2.1 b88.2.2.2.2.2.2.2.2.2.2.1, ()))
def verdererref12_reader_head_F {R : Type} := lazyN (@verdererref12_reader_head_Fi R)
theorem verdererref12_reader_head_e : @verdererref12_reader_head_F R = @verdererref12_reader_head_Fi R := lazyN_eq _
def verdererref12_reader_head_g (n : Nat) : Gx R := typed 2 verdererref12_reader_head_d fun x k => verdererref12_reader_head_F n x.1 x.2.1 x.2.2.1 x.2.2.2.1 x.2.2.2.2.1 x.2.2.2.2.2.1 x.2.2.2.2.2.2.1 x.2.2.2.2.2.2.2.1 x.2.2.2.2.2.2.2.2.1 x.2.2.2.2.2.2.2.2.2.1 x.2.2.2.2.2.2.2.2.2.2.1 (fun y0 y1 y2 y3 y4 y5 y6 y7 y8 y9 y10 => k (.tu []) [(.box true 69 [(.ow 1), (.i .i64 y0), (.i .i64 y1), (.i .i64 y2)]), (.arr 73 ty73 y3), (.box true 25 [(.i .i64 y4), (.s y5), (.ow 3), (.i .i64 y6), (.s y7), (.i .i64 y8), (.ow 4)]), (.arr 9 .str y9), (.arr 41 ty41 y10)])
def verdererref12_reader_head_cs (R : Type) (n : Nat) : List (Nat × Gx R) := [(35, verdererref12_reader_take_g n), (36, verdererref12_reader_fail_g n), (37, verdererref12_reader_now_g n), (38, verdererref12_reader_name_g n), (39, verdererref12_reader_must_g n), (58, verdererref12_reader_agg_g n)]
def verdererref12_reader_head_lp (n : Nat) : (i : Nat) → (verdererref12_reader_head_ds i).D → exK R (verdererref12_reader_head_dx i) → Option R
  | 6, a, k => runC (verdererref12_reader_head_l6 n) n a k
  | _, _, _ => none
def verdererref12_reader_head_cx (R : Type) (n : Nat) : Cx R := ⟨Try.prog, Gof (verdererref12_reader_head_cs R n), verdererref12_reader_head_ds, verdererref12_reader_head_dx, verdererref12_reader_head_lp n, drawP Try.prog (Gof (verdererref12_reader_head_cs R n)), false, noJn, noFz⟩
theorem verdererref12_reader_head_ok (n : Nat) : Good Try.prog 40 (verdererref12_reader_head_g (R := R) n) := by
  unfold verdererref12_reader_head_g
  rw [verdererref12_reader_head_e]
  exact Good.fn (cx := verdererref12_reader_head_cx R n) (by kernel_rfl) (AllGood.cons (verdererref12_reader_take_ok n) (AllGood.cons (verdererref12_reader_fail_ok n) (AllGood.cons (verdererref12_reader_now_ok n) (AllGood.cons (verdererref12_reader_name_ok n) (AllGood.cons (verdererref12_reader_must_ok n) (AllGood.cons (verdererref12_reader_agg_ok n) (AllGood.nil))))))) rfl Try.func40 (by kernel_rfl) rfl (by
    have e : fnLoops noJn Try.f40 = [((fnLoops noJn Try.f40)[0]?).getD (false, .skip)] := by kernel_rfl
    show LoopRuns _ _ (fnLoops noJn _)
    rw [e]
    exact ⟨LoopRun.loop (by kernel_rfl) (i := 6) (m := n) (step := verdererref12_reader_head_l6 n) (by kernel_rfl) (fun a k1 k2 => by kernel_rfl) (fun _ _ => rfl), trivial⟩) 2 verdererref12_reader_head_d (by kernel_rfl) (fun x k => by kernel_rfl)
end
end Go.Proofs.Ytikikmkfeeljgaa.E
set_option linter.unusedVariables false
set_option maxRecDepth 100000
namespace Go.Proofs.Ytikikmkfeeljgaa.E
open Go.Proofs
noncomputable section
variable {R : Type}
/-! (*verderer/verdererref12.reader).lone: function 59 -/
@[reducible] def verdererref12_reader_lone_d : Desc := ⟨[(0, .pt 0 0), (1, .d (.int .i64))], [.box true 69 [.ow 1, .d (.int .i64), .d (.int .i64), .d (.int .i64)], .arr 73 ty73]⟩
def verdererref12_reader_lone_Fi (n : Nat) (a0 : Int) (a1 : Int) (a2 : Int) (a3 : Int) (a4 : (List ty73.D)) (k0 : Int → Int → Int → (List ty73.D) → Option R) : Option R :=
  verdererref12_reader_now_F n a1 a2 a3 a4 (fun y1 y2 y3 y4 y5 => verdererref12_reader_is_F n (⟨#[110, 111, 116]⟩ : ByteArray) y2 y3 y4 y5 (fun y6 y7 y8 y9 y10 => if y6 = true then (verdererref12_reader_fail_F n 9 a0 y7 y8 y9 y10 (fun y11 y12 y13 y14 => verdererref12_reader_fail_F n 7 a0 y11 y12 y13 y14 (fun y15 y16 y17 y18 => k0 y15 y16 y17 y18))) else (verdererref12_reader_named_F n y7 y8 y9 y10 (fun y19 y20 y21 y22 y23 => if y19 = true then (verdererref12_reader_fail_F n 9 a0 y20 y21 y22 y23 (fun y24 y25 y26 y27 => verdererref12_reader_fail_F n 7 a0 y24 y25 y26 y27 (fun y28 y29 y30 y31 => k0 y28 y29 y30 y31))) else (if (y1.1 == 2) = true then (verdererref12_reader_fail_F n 9 a0 y20 y21 y22 y23 (fun y32 y33 y34 y35 => verdererref12_reader_fail_F n 7 a0 y32 y33 y34 y35 (fun y36 y37 y38 y39 => k0 y36 y37 y38 y39))) else (verdererref12_reader_fail_F n 7 a0 y20 y21 y22 y23 (fun y40 y41 y42 y43 => k0 y40 y41 y42 y43)))))))
def verdererref12_reader_lone_F {R : Type} := lazyN (@verdererref12_reader_lone_Fi R)
theorem verdererref12_reader_lone_e : @verdererref12_reader_lone_F R = @verdererref12_reader_lone_Fi R := lazyN_eq _
def verdererref12_reader_lone_g (n : Nat) : Gx R := typed 2 verdererref12_reader_lone_d fun x k => verdererref12_reader_lone_F n x.1 x.2.1 x.2.2.1 x.2.2.2.1 x.2.2.2.2.1 (fun y0 y1 y2 y3 => k (.tu []) [(.box true 69 [(.ow 1), (.i .i64 y0), (.i .i64 y1), (.i .i64 y2)]), (.arr 73 ty73 y3)])
def verdererref12_reader_lone_cs (R : Type) (n : Nat) : List (Nat × Gx R) := [(36, verdererref12_reader_fail_g n), (37, verdererref12_reader_now_g n), (56, verdererref12_reader_is_g n), (57, verdererref12_reader_named_g n)]
def verdererref12_reader_lone_cx (R : Type) (n : Nat) : Cx R := ⟨Try.prog, Gof (verdererref12_reader_lone_cs R n), noDs, noDx, noLp, drawP Try.prog (Gof (verdererref12_reader_lone_cs R n)), false, noJn, noFz⟩
theorem verdererref12_reader_lone_ok (n : Nat) : Good Try.prog 59 (verdererref12_reader_lone_g (R := R) n) := by
  unfold verdererref12_reader_lone_g
  rw [verdererref12_reader_lone_e]
  exact Good.fn (cx := verdererref12_reader_lone_cx R n) (by kernel_rfl) (AllGood.cons (verdererref12_reader_fail_ok n) (AllGood.cons (verdererref12_reader_now_ok n) (AllGood.cons (verdererref12_reader_is_ok n) (AllGood.cons (verdererref12_reader_named_ok n) (AllGood.nil))))) rfl Try.func59 (by kernel_rfl) rfl trivial 2 verdererref12_reader_lone_d (by kernel_rfl) (fun x k => by kernel_rfl)
end
end Go.Proofs.Ytikikmkfeeljgaa.E
set_option linter.unusedVariables false
set_option maxRecDepth 100000
namespace Go.Proofs.Ytikikmkfeeljgaa.E
open Go.Proofs
noncomputable section
variable {R : Type}
/-! (*verderer/verdererref12.reader).term: function 77 -/
@[reducible] def verdererref12_reader_term_d : Desc := ⟨[(0, .pt 0 0)], [.box true 69 [.ow 1, .d (.int .i64), .d (.int .i64), .d (.int .i64)], .arr 73 ty73]⟩
def verdererref12_reader_term_Fi (n : Nat) (a0 : Int) (a1 : Int) (a2 : Int) (a3 : (List ty73.D)) (k0 : ty38.D → Int → Int → Int → (List ty73.D) → Option R) : Option R :=
  verdererref12_reader_now_F n a0 a1 a2 a3 (fun y1 y2 y3 y4 y5 => if (y3 == 0) = true then (if (y1.1 == 2) = true then (verdererref12_reader_step_F n y2 y3 y4 y5 (fun y6 y7 y8 y9 => k0 ((⟨#[]⟩ : ByteArray), false, y1.2.2.1, ()) y6 y7 y8 y9)) else (verdererref12_reader_name_F n y2 y3 y4 y5 (fun y10 y11 y12 y13 y14 => k0 (y10, false, (0, false, 0, (⟨#[]⟩ : ByteArray), ()), ()) y11 y12 y13 y14))) else (verdererref12_reader_name_F n y2 y3 y4 y5 (fun y15 y16 y17 y18 y19 => k0 (y15, false, (0, false, 0, (⟨#[]⟩ : ByteArray), ()), ()) y16 y17 y18 y19)))
def verdererref12_reader_term_F {R : Type} := lazyN (@verdererref12_reader_term_Fi R)
theorem verdererref12_reader_term_e : @verdererref12_reader_term_F R = @verdererref12_reader_term_Fi R := lazyN_eq _
def verdererref12_reader_term_g (n : Nat) : Gx R := typed 1 verdererref12_reader_term_d fun x k => verdererref12_reader_term_F n x.1 x.2.1 x.2.2.1 x.2.2.2.1 (fun y0 y1 y2 y3 y4 => k (.a (encA ty38 y0)) [(.box true 69 [(.ow 1), (.i .i64 y1), (.i .i64 y2), (.i .i64 y3)]), (.arr 73 ty73 y4)])
def verdererref12_reader_term_cs (R : Type) (n : Nat) : List (Nat × Gx R) := [(37, verdererref12_reader_now_g n), (38, verdererref12_reader_name_g n), (41, verdererref12_reader_step_g n)]
def verdererref12_reader_term_cx (R : Type) (n : Nat) : Cx R := ⟨Try.prog, Gof (verdererref12_reader_term_cs R n), noDs, noDx, noLp, drawP Try.prog (Gof (verdererref12_reader_term_cs R n)), false, noJn, noFz⟩
theorem verdererref12_reader_term_ok (n : Nat) : Good Try.prog 77 (verdererref12_reader_term_g (R := R) n) := by
  unfold verdererref12_reader_term_g
  rw [verdererref12_reader_term_e]
  exact Good.fn (cx := verdererref12_reader_term_cx R n) (by kernel_rfl) (AllGood.cons (verdererref12_reader_now_ok n) (AllGood.cons (verdererref12_reader_name_ok n) (AllGood.cons (verdererref12_reader_step_ok n) (AllGood.nil)))) rfl Try.func77 (by kernel_rfl) rfl trivial 1 verdererref12_reader_term_d (by kernel_rfl) (fun x k => by kernel_rfl)
end
end Go.Proofs.Ytikikmkfeeljgaa.E
set_option linter.unusedVariables false
set_option maxRecDepth 100000
namespace Go.Proofs.Ytikikmkfeeljgaa.E
open Go.Proofs
noncomputable section
variable {R : Type}
/-! (*verderer/verdererref12.reader).args: function 76 -/
def verdererref12_reader_args_ds : Nat → Desc
  | 5 => ⟨[(0, .pt 0 0), (3, .ow 3), (4, .d (.int .i64))], [.box true 69 [.ow 1, .d (.int .i64), .d (.int .i64), .d (.int .i64)], .arr 73 ty73, .no, .arr 38 ty38]⟩
  | _ => ⟨[], []⟩
def verdererref12_reader_args_dx : Nat → List (X × Desc)
  | 5 => [(.r, ⟨[(2, .ow 3)], [.box true 69 [.ow 1, .d (.int .i64), .d (.int .i64), .d (.int .i64)], .arr 73 ty73, .no, .arr 38 ty38]⟩), (.e 0, ⟨[(3, .ow 3)], [.box true 69 [.ow 1, .d (.int .i64), .d (.int .i64), .d (.int .i64)], .arr 73 ty73, .no, .arr 38 ty38]⟩)]
  | _ => []
def verdererref12_reader_args_s5 (n : Nat) (x0 : Int) (x1 : Int) (x2 : Int) (x3 : Int) (x4 : (List ty73.D)) (x5 : (List ty38.D)) (k1 : Int → Int → Int → Int → (List ty73.D) → (List ty38.D) → Option R) (qr : Int → Int → Int → (List ty73.D) → (List ty38.D) → Option R) (qe0 : Int → Int → Int → (List ty73.D) → (List ty38.D) → Option R) : Option R :=
  if (decide (x0 < 400)) = true then (if (x2 == 0) = true then (verdererref12_reader_now_F n x1 x2 x3 x4 (fun y6 y7 y8 y9 y10 => verdererref12_reader_is_F n (⟨#[95]⟩ : ByteArray) y7 y8 y9 y10 (fun y11 y12 y13 y14 y15 => if y11 = true then (verdererref12_reader_step_F n y12 y13 y14 y15 (fun y16 y17 y18 y19 => if (List.length x5 + List.length [((⟨#[]⟩ : ByteArray), true, (0, false, 0, (⟨#[]⟩ : ByteArray), ()), ())]) * 64 ≤ 140737488355328 then (if (decide (((x5 ++ [((⟨#[]⟩ : ByteArray), true, (0, false, 0, (⟨#[]⟩ : ByteArray), ()), ())]).length : Int) > 40)) = true then (verdererref12_reader_fail_F n 9 y6.2.2.2.1 y16 y17 y18 y19 (fun y20 y21 y22 y23 => verdererref12_reader_take_F n (⟨#[44]⟩ : ByteArray) y20 y21 y22 y23 (fun y24 y25 y26 y27 y28 => if (!y24) = true then (verdererref12_reader_must_F n (⟨#[41]⟩ : ByteArray) y25 y26 y27 y28 (fun y29 y30 y31 y32 => qr y29 y30 y31 y32 (x5 ++ [((⟨#[]⟩ : ByteArray), true, (0, false, 0, (⟨#[]⟩ : ByteArray), ()), ())]))) else (k1 (IntKind.i64.wrap (x0 + 1)) y25 y26 y27 y28 (x5 ++ [((⟨#[]⟩ : ByteArray), true, (0, false, 0, (⟨#[]⟩ : ByteArray), ()), ())]))))) else (verdererref12_reader_take_F n (⟨#[44]⟩ : ByteArray) y16 y17 y18 y19 (fun y33 y34 y35 y36 y37 => if (!y33) = true then (verdererref12_reader_must_F n (⟨#[41]⟩ : ByteArray) y34 y35 y36 y37 (fun y38 y39 y40 y41 => qr y38 y39 y40 y41 (x5 ++ [((⟨#[]⟩ : ByteArray), true, (0, false, 0, (⟨#[]⟩ : ByteArray), ()), ())]))) else (k1 (IntKind.i64.wrap (x0 + 1)) y34 y35 y36 y37 (x5 ++ [((⟨#[]⟩ : ByteArray), true, (0, false, 0, (⟨#[]⟩ : ByteArray), ()), ())]))))) else none)) else (verdererref12_reader_term_F n y12 y13 y14 y15 (fun y42 y43 y44 y45 y46 => if (List.length x5 + List.length [y42]) * 64 ≤ 140737488355328 then (if (decide (((x5 ++ [y42]).length : Int) > 40)) = true then (verdererref12_reader_fail_F n 9 y6.2.2.2.1 y43 y44 y45 y46 (fun y47 y48 y49 y50 => verdererref12_reader_take_F n (⟨#[44]⟩ : ByteArray) y47 y48 y49 y50 (fun y51 y52 y53 y54 y55 => if (!y51) = true then (verdererref12_reader_must_F n (⟨#[41]⟩ : ByteArray) y52 y53 y54 y55 (fun y56 y57 y58 y59 => qr y56 y57 y58 y59 (x5 ++ [y42]))) else (k1 (IntKind.i64.wrap (x0 + 1)) y52 y53 y54 y55 (x5 ++ [y42]))))) else (verdererref12_reader_take_F n (⟨#[44]⟩ : ByteArray) y43 y44 y45 y46 (fun y60 y61 y62 y63 y64 => if (!y60) = true then (verdererref12_reader_must_F n (⟨#[41]⟩ : ByteArray) y61 y62 y63 y64 (fun y65 y66 y67 y68 => qr y65 y66 y67 y68 (x5 ++ [y42]))) else (k1 (IntKind.i64.wrap (x0 + 1)) y61 y62 y63 y64 (x5 ++ [y42]))))) else none))))) else (qe0 x1 x2 x3 x4 x5)) else (qe0 x1 x2 x3 x4 x5)
def verdererref12_reader_args_l5 (n : Nat) (a : (verdererref12_reader_args_ds 5).D) (k1 : (verdererref12_reader_args_ds 5).D → Option R) (k2 : exK R (verdererref12_reader_args_dx 5)) : Option R :=
  verdererref12_reader_args_s5 n a.1 a.2.1 a.2.2.1 a.2.2.2.1 a.2.2.2.2.1 a.2.2.2.2.2.1 (fun x0 x1 x2 x3 x4 x5 => k1 (x0, x1, x2, x3, x4, x5, ())) (fun x0 x1 x2 x3 x4 => k2.1 (x0, x1, x2, x3, x4, ())) (fun x0 x1 x2 x3 x4 => k2.2.1 (x0, x1, x2, x3, x4, ()))
@[reducible] def verdererref12_reader_args_d : Desc := ⟨[(0, .pt 0 0)], [.box true 69 [.ow 1, .d (.int .i64), .d (.int .i64), .d (.int .i64)], .arr 73 ty73]⟩
def verdererref12_reader_args_Fi (n : Nat) (a0 : Int) (a1 : Int) (a2 : Int) (a3 : (List ty73.D)) (k0 : Int → Int → Int → (List ty73.D) → (List ty38.D) → Option R) : Option R :=
  verdererref12_reader_take_F n (⟨#[41]⟩ : ByteArray) a0 a1 a2 a3 (fun y1 y2 y3 y4 y5 => if y1 = true then (k0 y2 y3 y4 y5 ([] : List ty38.D)) else (runC (verdererref12_reader_args_l5 n) n (0, y2, y3, y4, y5, ([] : List ty38.D), ()) (fun b73 => k0 b73.1 b73.2.1 b73.2.2.1 b73.2.2.2.1 b73.2.2.2.2.1, fun b78 => k0 b78.1 b78.2.1 b78.2.2.1 b78.2.2.2.1 b78.2.2.2.2.1, ())))
def verdererref12_reader_args_F {R : Type} := lazyN (@verdererref12_reader_args_Fi R)
theorem verdererref12_reader_args_e : @verdererref12_reader_args_F R = @verdererref12_reader_args_Fi R := lazyN_eq _
def verdererref12_reader_args_g (n : Nat) : Gx R := typed 1 verdererref12_reader_args_d fun x k => verdererref12_reader_args_F n x.1 x.2.1 x.2.2.1 x.2.2.2.1 (fun y0 y1 y2 y3 y4 => k (.a (.c (.ow 2))) [(.box true 69 [(.ow 1), (.i .i64 y0), (.i .i64 y1), (.i .i64 y2)]), (.arr 73 ty73 y3), (.arr 38 ty38 y4)])
def verdererref12_reader_args_cs (R : Type) (n : Nat) : List (Nat × Gx R) := [(35, verdererref12_reader_take_g n), (36, verdererref12_reader_fail_g n), (37, verdererref12_reader_now_g n), (39, verdererref12_reader_must_g n), (41, verdererref12_reader_step_g n), (56, verdererref12_reader_is_g n), (77, verdererref12_reader_term_g n)]
def verdererref12_reader_args_lp (n : Nat) : (i : Nat) → (verdererref12_reader_args_ds i).D → exK R (verdererref12_reader_args_dx i) → Option R
  | 5, a, k => runC (verdererref12_reader_args_l5 n) n a k
  | _, _, _ => none
def verdererref12_reader_args_cx (R : Type) (n : Nat) : Cx R := ⟨Try.prog, Gof (verdererref12_reader_args_cs R n), verdererref12_reader_args_ds, verdererref12_reader_args_dx, verdererref12_reader_args_lp n, drawP Try.prog (Gof (verdererref12_reader_args_cs R n)), false, noJn, noFz⟩
theorem verdererref12_reader_args_ok (n : Nat) : Good Try.prog 76 (verdererref12_reader_args_g (R := R) n) := by
  unfold verdererref12_reader_args_g
  rw [verdererref12_reader_args_e]
  exact Good.fn (cx := verdererref12_reader_args_cx R n) (by kernel_rfl) (AllGood.cons (verdererref12_reader_take_ok n) (AllGood.cons (verdererref12_reader_fail_ok n) (AllGood.cons (verdererref12_reader_now_ok n) (AllGood.cons (verdererref12_reader_must_ok n) (AllGood.cons (verdererref12_reader_step_ok n) (AllGood.cons (verdererref12_reader_is_ok n) (AllGood.cons (verdererref12_reader_term_ok n) (AllGood.nil)))))))) rfl Try.func76 (by kernel_rfl) rfl (by
    have e : fnLoops noJn Try.f76 = [((fnLoops noJn Try.f76)[0]?).getD (false, .skip)] := by kernel_rfl
    show LoopRuns _ _ (fnLoops noJn _)
    rw [e]
    exact ⟨LoopRun.loop (by kernel_rfl) (i := 5) (m := n) (step := verdererref12_reader_args_l5 n) (by kernel_rfl) (fun a k1 k2 => by kernel_rfl) (fun _ _ => rfl), trivial⟩) 1 verdererref12_reader_args_d (by kernel_rfl) (fun x k => by kernel_rfl)
end
end Go.Proofs.Ytikikmkfeeljgaa.E
set_option linter.unusedVariables false
set_option maxRecDepth 100000
namespace Go.Proofs.Ytikikmkfeeljgaa.E
open Go.Proofs
noncomputable section
variable {R : Type}
/-! verderer/verdererref11.Sgn: function 87 -/
@[reducible] def verdererref11_Sgn_d : Desc := ⟨[(0, .d (.int .i64))], []⟩
def verdererref11_Sgn_Fi (n : Nat) (a0 : Int) (k0 : ByteArray → Option R) : Option R :=
  if (decide (a0 < 1)) = true then (k0 (⟨#[]⟩ : ByteArray)) else (if (decide (a0 ≥ ([(⟨#[]⟩ : ByteArray), (⟨#[61, 61]⟩ : ByteArray), (⟨#[33, 61]⟩ : ByteArray), (⟨#[60]⟩ : ByteArray), (⟨#[60, 61]⟩ : ByteArray), (⟨#[62]⟩ : ByteArray), (⟨#[62, 61]⟩ : ByteArray)].length : Int))) = true then (k0 (⟨#[]⟩ : ByteArray)) else (if (0 : Int) ≤ a0 ∧ a0 < ([(⟨#[]⟩ : ByteArray), (⟨#[61, 61]⟩ : ByteArray), (⟨#[33, 61]⟩ : ByteArray), (⟨#[60]⟩ : ByteArray), (⟨#[60, 61]⟩ : ByteArray), (⟨#[62]⟩ : ByteArray), (⟨#[62, 61]⟩ : ByteArray)].length : Int) then (if (Int.toNat a0) < [(⟨#[]⟩ : ByteArray), (⟨#[61, 61]⟩ : ByteArray), (⟨#[33, 61]⟩ : ByteArray), (⟨#[60]⟩ : ByteArray), (⟨#[60, 61]⟩ : ByteArray), (⟨#[62]⟩ : ByteArray), (⟨#[62, 61]⟩ : ByteArray)].length then (k0 ([(⟨#[]⟩ : ByteArray), (⟨#[61, 61]⟩ : ByteArray), (⟨#[33, 61]⟩ : ByteArray), (⟨#[60]⟩ : ByteArray), (⟨#[60, 61]⟩ : ByteArray), (⟨#[62]⟩ : ByteArray), (⟨#[62, 61]⟩ : ByteArray)].getD (Int.toNat a0) (Ty.z .str))) else none) else none))
def verdererref11_Sgn_F {R : Type} := lazyN (@verdererref11_Sgn_Fi R)
theorem verdererref11_Sgn_e : @verdererref11_Sgn_F R = @verdererref11_Sgn_Fi R := lazyN_eq _
def verdererref11_Sgn_g (n : Nat) : Gx R := typed 1 verdererref11_Sgn_d fun x k => verdererref11_Sgn_F n x.1 (fun y0 => k (.a (.c (.s y0))) [])
def verdererref11_Sgn_cs (R : Type) (n : Nat) : List (Nat × Gx R) := []
def verdererref11_Sgn_cx (R : Type) (n : Nat) : Cx R := ⟨Try.prog, Gof (verdererref11_Sgn_cs R n), noDs, noDx, noLp, drawP Try.prog (Gof (verdererref11_Sgn_cs R n)), false, noJn, noFz⟩
theorem verdererref11_Sgn_ok (n : Nat) : Good Try.prog 87 (verdererref11_Sgn_g (R := R) n) := by
  unfold verdererref11_Sgn_g
  rw [verdererref11_Sgn_e]
  exact Good.fn (cx := verdererref11_Sgn_cx R n) (by kernel_rfl) (AllGood.nil) rfl Try.func87 (by kernel_rfl) rfl trivial 1 verdererref11_Sgn_d (by kernel_rfl) (fun x k => by kernel_rfl)
end
end Go.Proofs.Ytikikmkfeeljgaa.E
set_option linter.unusedVariables false
set_option maxRecDepth 100000
namespace Go.Proofs.Ytikikmkfeeljgaa.E
open Go.Proofs
noncomputable section
variable {R : Type}
/-! verderer/verdererref11.Op: function 78 -/
def verdererref11_Op_ds : Nat → Desc
  | 2 => ⟨[(0, .d .str), (3, .d (.int .i64))], []⟩
  | _ => ⟨[], []⟩
def verdererref11_Op_dx : Nat → List (X × Desc)
  | 2 => [(.r, ⟨[(2, .d (.int .i64))], []⟩), (.e 0, ⟨[], []⟩)]
  | _ => []
def verdererref11_Op_s2 (n : Nat) (x0 : ByteArray) (x1 : Int) (k1 : ByteArray → Int → Option R) (qr : Int → Option R) (qe0 : Option R) : Option R :=
  if (decide (x1 ≤ 6)) = true then (verdererref11_Sgn_F n x1 (fun y1 => if (y1.toList == x0.toList) = true then (qr x1) else (k1 x0 (IntKind.i64.wrap (x1 + 1))))) else qe0
def verdererref11_Op_l2 (n : Nat) (a : (verdererref11_Op_ds 2).D) (k1 : (verdererref11_Op_ds 2).D → Option R) (k2 : exK R (verdererref11_Op_dx 2)) : Option R :=
  verdererref11_Op_s2 n a.1 a.2.1 (fun x0 x1 => k1 (x0, x1, ())) (fun x0 => k2.1 (x0, ())) (k2.2.1 (()))
@[reducible] def verdererref11_Op_d : Desc := ⟨[(0, .d .str)], []⟩
def verdererref11_Op_Fi (n : Nat) (a0 : ByteArray) (k0 : Int → Option R) : Option R :=
  runC (verdererref11_Op_l2 n) n (a0, 1, ()) (fun b2 => k0 b2.1, fun b2 => k0 0, ())
def verdererref11_Op_F {R : Type} := lazyN (@verdererref11_Op_Fi R)
theorem verdererref11_Op_e : @verdererref11_Op_F R = @verdererref11_Op_Fi R := lazyN_eq _
def verdererref11_Op_g (n : Nat) : Gx R := typed 1 verdererref11_Op_d fun x k => verdererref11_Op_F n x.1 (fun y0 => k (.a (.c (.i .i64 y0))) [])
def verdererref11_Op_cs (R : Type) (n : Nat) : List (Nat × Gx R) := [(87, verdererref11_Sgn_g n)]
def verdererref11_Op_lp (n : Nat) : (i : Nat) → (verdererref11_Op_ds i).D → exK R (verdererref11_Op_dx i) → Option R
  | 2, a, k => runC (verdererref11_Op_l2 n) n a k
  | _, _, _ => none
def verdererref11_Op_cx (R : Type) (n : Nat) : Cx R := ⟨Try.prog, Gof (verdererref11_Op_cs R n), verdererref11_Op_ds, verdererref11_Op_dx, verdererref11_Op_lp n, drawP Try.prog (Gof (verdererref11_Op_cs R n)), false, noJn, noFz⟩
theorem verdererref11_Op_ok (n : Nat) : Good Try.prog 78 (verdererref11_Op_g (R := R) n) := by
  unfold verdererref11_Op_g
  rw [verdererref11_Op_e]
  exact Good.fn (cx := verdererref11_Op_cx R n) (by kernel_rfl) (AllGood.cons (verdererref11_Sgn_ok n) (AllGood.nil)) rfl Try.func78 (by kernel_rfl) rfl (by
    have e : fnLoops noJn Try.f78 = [((fnLoops noJn Try.f78)[0]?).getD (false, .skip)] := by kernel_rfl
    show LoopRuns _ _ (fnLoops noJn _)
    rw [e]
    exact ⟨LoopRun.loop (by kernel_rfl) (i := 2) (m := n) (step := verdererref11_Op_l2 n) (by kernel_rfl) (fun a k1 k2 => by kernel_rfl) (fun _ _ => rfl), trivial⟩) 1 verdererref11_Op_d (by kernel_rfl) (fun x k => by kernel_rfl)
end
end Go.Proofs.Ytikikmkfeeljgaa.E
set_option linter.unusedVariables false
set_option maxRecDepth 100000
namespace Go.Proofs.Ytikikmkfeeljgaa.E
open Go.Proofs
noncomputable section
variable {R : Type}
/-! (*verderer/verdererref12.reader).lit: function 60 -/
def verdererref12_reader_lit_ds : Nat → Desc
  | 1000016 => ⟨[(0, .pt 0 0), (4, .pt 3 0), (5, .pt 5 0), (7, .pt 7 0)], [.box true 69 [.ow 1, .d (.int .i64), .d (.int .i64), .d (.int .i64)], .arr 73 ty73, .arr 38 ty38, .box false 41 [.d .bool, .d .str, .ow 2, .d (.int .i64)], .no, .box false 41 [.d .bool, .d .str, .ow 6, .d (.int .i64)], .arr 38 ty38, .box false 38 [.d .str, .d .bool, .d (.int .i64), .d .bool, .d (.int .i64), .d .str]]⟩
  | 1000012 => ⟨[(0, .pt 0 0), (4, .pt 3 0), (5, .pt 5 0)], [.box true 69 [.ow 1, .d (.int .i64), .d (.int .i64), .d (.int .i64)], .arr 73 ty73, .arr 38 ty38, .box false 41 [.d .bool, .d .str, .ow 2, .d (.int .i64)], .no, .box false 41 [.d .bool, .d .str, .ow 6, .d (.int .i64)], .arr 38 ty38]⟩
  | 1000010 => ⟨[(0, .pt 0 0), (4, .pt 3 0), (5, .pt 5 0), (6, .d (.int .i64))], [.box true 69 [.ow 1, .d (.int .i64), .d (.int .i64), .d (.int .i64)], .arr 73 ty73, .arr 38 ty38, .box false 41 [.d .bool, .d .str, .ow 2, .d (.int .i64)], .no, .box false 41 [.d .bool, .d .str, .ow 6, .d (.int .i64)], .arr 38 ty38]⟩
  | _ => ⟨[], []⟩
def verdererref12_reader_lit_dx : Nat → List (X × Desc)
  | 1000016 => [(.r, ⟨[(4, .pt 3 0)], [.box true 69 [.ow 1, .d (.int .i64), .d (.int .i64), .d (.int .i64)], .arr 73 ty73, .no, .box false 41 [.d .bool, .d .str, .d (.sl ty38), .d (.int .i64)]]⟩)]
  | 1000012 => [(.r, ⟨[(4, .pt 3 0)], [.box true 69 [.ow 1, .d (.int .i64), .d (.int .i64), .d (.int .i64)], .arr 73 ty73, .no, .box false 41 [.d .bool, .d .str, .d (.sl ty38), .d (.int .i64)]]⟩)]
  | 1000010 => [(.r, ⟨[(4, .pt 3 0)], [.box true 69 [.ow 1, .d (.int .i64), .d (.int .i64), .d (.int .i64)], .arr 73 ty73, .no, .box false 41 [.d .bool, .d .str, .d (.sl ty38), .d (.int .i64)]]⟩)]
  | _ => []
def verdererref12_reader_lit_s1000016 (n : Nat) (x0 : Int) (x1 : Int) (x2 : Int) (x3 : (List ty73.D)) (x4 : (List ty38.D)) (x5 : Bool) (x6 : ByteArray) (x7 : Int) (x8 : Bool) (x9 : ByteArray) (x10 : Int) (x11 : (List ty38.D)) (x12 : ByteArray) (x13 : Bool) (x14 : Int) (x15 : Bool) (x16 : Int) (x17 : ByteArray) (qr : Int → Int → Int → (List ty73.D) → Bool → ByteArray → (List ty38.D) → Int → Option R) : Option R :=
  verdererref12_reader_step_F n x0 x1 x2 x3 (fun y101 y102 y103 y104 => verdererref12_reader_term_F n y101 y102 y103 y104 (fun y105 y106 y107 y108 y109 => qr y106 y107 y108 y109 x8 x9 [(x12, x13, (x14, x15, x16, x17, ()), ()), y105] x10))
def verdererref12_reader_lit_li1000016 (n : Nat) (a : (verdererref12_reader_lit_ds 1000016).D) (k2 : exK R (verdererref12_reader_lit_dx 1000016)) : Option R :=
  verdererref12_reader_lit_s1000016 n a.1 a.2.1 a.2.2.1 a.2.2.2.1 a.2.2.2.2.1 a.2.2.2.2.2.1 a.2.2.2.2.2.2.1 a.2.2.2.2.2.2.2.1 a.2.2.2.2.2.2.2.2.1 a.2.2.2.2.2.2.2.2.2.1 a.2.2.2.2.2.2.2.2.2.2.1 a.2.2.2.2.2.2.2.2.2.2.2.1 a.2.2.2.2.2.2.2.2.2.2.2.2.1 a.2.2.2.2.2.2.2.2.2.2.2.2.2.1 a.2.2.2.2.2.2.2.2.2.2.2.2.2.2.1 a.2.2.2.2.2.2.2.2.2.2.2.2.2.2.2.1 a.2.2.2.2.2.2.2.2.2.2.2.2.2.2.2.2.1 a.2.2.2.2.2.2.2.2.2.2.2.2.2.2.2.2.2.1 (fun x0 x1 x2 x3 x4 x5 x6 x7 => k2.1 (x0, x1, x2, x3, x4, x5, x6, x7, ()))
def verdererref12_reader_lit_l1000016 {R : Type} := lazyN (@verdererref12_reader_lit_li1000016 R)
theorem verdererref12_reader_lit_e1000016 : @verdererref12_reader_lit_l1000016 R = @verdererref12_reader_lit_li1000016 R := lazyN_eq _
def verdererref12_reader_lit_s1000012 (n : Nat) (x0 : Int) (x1 : Int) (x2 : Int) (x3 : (List ty73.D)) (x4 : (List ty38.D)) (x5 : Bool) (x6 : ByteArray) (x7 : Int) (x8 : Bool) (x9 : ByteArray) (x10 : Int) (x11 : (List ty38.D)) (qr : Int → Int → Int → (List ty73.D) → Bool → ByteArray → (List ty38.D) → Int → Option R) : Option R :=
  verdererref12_reader_term_F n x0 x1 x2 x3 (fun y76 y77 y78 y79 y80 => verdererref12_reader_now_F n y77 y78 y79 y80 (fun y81 y82 y83 y84 y85 => verdererref11_Op_F n y81.2.1 (fun y86 => verdererref12_reader_now_F n y82 y83 y84 y85 (fun y87 y88 y89 y90 y91 => if (y87.1 != 3) = true then (verdererref12_reader_now_F n y88 y89 y90 y91 (fun y92 y93 y94 y95 y96 => verdererref12_reader_fail_F n 7 y92.2.2.2.1 y93 y94 y95 y96 (fun y97 y98 y99 y100 => verdererref12_reader_lit_l1000016 n (y97, y98, y99, y100, x4, x5, x6, x7, x8, x9, y86, x11, y76.1, y76.2.1, y76.2.2.1.1, y76.2.2.1.2.1, y76.2.2.1.2.2.1, y76.2.2.1.2.2.2.1, ()) (fun b117 => qr b117.1 b117.2.1 b117.2.2.1 b117.2.2.2.1 b117.2.2.2.2.1 b117.2.2.2.2.2.1 b117.2.2.2.2.2.2.1 b117.2.2.2.2.2.2.2.1, ())))) else (if (y86 == 0) = true then (verdererref12_reader_now_F n y88 y89 y90 y91 (fun y118 y119 y120 y121 y122 => verdererref12_reader_fail_F n 7 y118.2.2.2.1 y119 y120 y121 y122 (fun y123 y124 y125 y126 => verdererref12_reader_lit_l1000016 n (y123, y124, y125, y126, x4, x5, x6, x7, x8, x9, y86, x11, y76.1, y76.2.1, y76.2.2.1.1, y76.2.2.1.2.1, y76.2.2.1.2.2.1, y76.2.2.1.2.2.2.1, ()) (fun b134 => qr b134.1 b134.2.1 b134.2.2.1 b134.2.2.2.1 b134.2.2.2.2.1 b134.2.2.2.2.2.1 b134.2.2.2.2.2.2.1 b134.2.2.2.2.2.2.2.1, ())))) else (verdererref12_reader_lit_l1000016 n (y88, y89, y90, y91, x4, x5, x6, x7, x8, x9, y86, x11, y76.1, y76.2.1, y76.2.2.1.1, y76.2.2.1.2.1, y76.2.2.1.2.2.1, y76.2.2.1.2.2.2.1, ()) (fun b142 => qr b142.1 b142.2.1 b142.2.2.1 b142.2.2.2.1 b142.2.2.2.2.1 b142.2.2.2.2.2.1 b142.2.2.2.2.2.2.1 b142.2.2.2.2.2.2.2.1, ())))))))
def verdererref12_reader_lit_li1000012 (n : Nat) (a : (verdererref12_reader_lit_ds 1000012).D) (k2 : exK R (verdererref12_reader_lit_dx 1000012)) : Option R :=
  verdererref12_reader_lit_s1000012 n a.1 a.2.1 a.2.2.1 a.2.2.2.1 a.2.2.2.2.1 a.2.2.2.2.2.1 a.2.2.2.2.2.2.1 a.2.2.2.2.2.2.2.1 a.2.2.2.2.2.2.2.2.1 a.2.2.2.2.2.2.2.2.2.1 a.2.2.2.2.2.2.2.2.2.2.1 a.2.2.2.2.2.2.2.2.2.2.2.1 (fun x0 x1 x2 x3 x4 x5 x6 x7 => k2.1 (x0, x1, x2, x3, x4, x5, x6, x7, ()))
def verdererref12_reader_lit_l1000012 {R : Type} := lazyN (@verdererref12_reader_lit_li1000012 R)
theorem verdererref12_reader_lit_e1000012 : @verdererref12_reader_lit_l1000012 R = @verdererref12_reader_lit_li1000012 R := lazyN_eq _
def verdererref12_reader_lit_s1000010 (n : Nat) (x0 : Int) (x1 : Int) (x2 : Int) (x3 : Int) (x4 : (List ty73.D)) (x5 : (List ty38.D)) (x6 : Bool) (x7 : ByteArray) (x8 : Int) (x9 : Bool) (x10 : ByteArray) (x11 : Int) (x12 : (List ty38.D)) (qr : Int → Int → Int → (List ty73.D) → Bool → ByteArray → (List ty38.D) → Int → Option R) : Option R :=
  if x9 = true then (verdererref12_reader_fail_F n 7 x0 x1 x2 x3 x4 (fun y72 y73 y74 y75 => verdererref12_reader_lit_l1000012 n (y72, y73, y74, y75, x5, x6, x7, x8, x9, x10, x11, x12, ()) (fun b150 => qr b150.1 b150.2.1 b150.2.2.1 b150.2.2.2.1 b150.2.2.2.2.1 b150.2.2.2.2.2.1 b150.2.2.2.2.2.2.1 b150.2.2.2.2.2.2.2.1, ()))) else (verdererref12_reader_lit_l1000012 n (x1, x2, x3, x4, x5, x6, x7, x8, x9, x10, x11, x12, ()) (fun b158 => qr b158.1 b158.2.1 b158.2.2.1 b158.2.2.2.1 b158.2.2.2.2.1 b158.2.2.2.2.2.1 b158.2.2.2.2.2.2.1 b158.2.2.2.2.2.2.2.1, ()))
def verdererref12_reader_lit_li1000010 (n : Nat) (a : (verdererref12_reader_lit_ds 1000010).D) (k2 : exK R (verdererref12_reader_lit_dx 1000010)) : Option R :=
  verdererref12_reader_lit_s1000010 n a.1 a.2.1 a.2.2.1 a.2.2.2.1 a.2.2.2.2.1 a.2.2.2.2.2.1 a.2.2.2.2.2.2.1 a.2.2.2.2.2.2.2.1 a.2.2.2.2.2.2.2.2.1 a.2.2.2.2.2.2.2.2.2.1 a.2.2.2.2.2.2.2.2.2.2.1 a.2.2.2.2.2.2.2.2.2.2.2.1 a.2.2.2.2.2.2.2.2.2.2.2.2.1 (fun x0 x1 x2 x3 x4 x5 x6 x7 => k2.1 (x0, x1, x2, x3, x4, x5, x6, x7, ()))
def verdererref12_reader_lit_l1000010 {R : Type} := lazyN (@verdererref12_reader_lit_li1000010 R)
theorem verdererref12_reader_lit_e1000010 : @verdererref12_reader_lit_l1000010 R = @verdererref12_reader_lit_li1000010 R := lazyN_eq _
@[reducible] def verdererref12_reader_lit_d : Desc := ⟨[(0, .pt 0 0), (1, .d (.int .i64))], [.box true 69 [.ow 1, .d (.int .i64), .d (.int .i64), .d (.int .i64)], .arr 73 ty73]⟩
def verdererref12_reader_lit_Fi (n : Nat) (a0 : Int) (a1 : Int) (a2 : Int) (a3 : Int) (a4 : (List ty73.D)) (k0 : ty41.D → Int → Int → Int → (List ty73.D) → Option R) : Option R :=
  verdererref12_reader_take_F n (⟨#[110, 111, 116]⟩ : ByteArray) a1 a2 a3 a4 (fun y1 y2 y3 y4 y5 => verdererref12_reader_now_F n y2 y3 y4 y5 (fun y6 y7 y8 y9 y10 => verdererref12_reader_named_F n y7 y8 y9 y10 (fun y11 y12 y13 y14 y15 => if y11 = true then (if y1 = true then (verdererref12_reader_name_F n y12 y13 y14 y15 (fun y16 y17 y18 y19 y20 => verdererref12_reader_must_F n (⟨#[40]⟩ : ByteArray) y17 y18 y19 y20 (fun y21 y22 y23 y24 => if (!y1) = true then (if (decide (a0 ≥ 6)) = true then (verdererref12_reader_fail_F n 9 y6.2.2.2.1 y21 y22 y23 y24 (fun y25 y26 y27 y28 => verdererref12_reader_args_F n y25 y26 y27 y28 (fun y29 y30 y31 y32 y33 => k0 (y1, y16, y33, 0, ()) y29 y30 y31 y32))) else (verdererref12_reader_args_F n y21 y22 y23 y24 (fun y34 y35 y36 y37 y38 => k0 (y1, y16, y38, 0, ()) y34 y35 y36 y37))) else (verdererref12_reader_args_F n y21 y22 y23 y24 (fun y39 y40 y41 y42 y43 => k0 (y1, y16, y43, 0, ()) y39 y40 y41 y42))))) else (if (decide ((IntKind.i64.wrap (y12 + 1)) < (y15.length : Int))) = true then (if (0 : Int) ≤ (IntKind.i64.wrap (y12 + 1)) ∧ (IntKind.i64.wrap (y12 + 1)) < (y15.length : Int) then (if (Int.toNat (IntKind.i64.wrap (y12 + 1))) < y15.length then (if ((y15.getD (Int.toNat (IntKind.i64.wrap (y12 + 1))) (Ty.z ty73)).1 == 3) = true then (if (0 : Int) ≤ (IntKind.i64.wrap (y12 + 1)) ∧ (IntKind.i64.wrap (y12 + 1)) < (y15.length : Int) then (if (Int.toNat (IntKind.i64.wrap (y12 + 1))) < y15.length then (if (((y15.getD (Int.toNat (IntKind.i64.wrap (y12 + 1))) (Ty.z ty73)).2.1).toList == (⟨#[40]⟩ : ByteArray).toList) = true then (verdererref12_reader_name_F n y12 y13 y14 y15 (fun y44 y45 y46 y47 y48 => verdererref12_reader_must_F n (⟨#[40]⟩ : ByteArray) y45 y46 y47 y48 (fun y49 y50 y51 y52 => if (!y1) = true then (if (decide (a0 ≥ 6)) = true then (verdererref12_reader_fail_F n 9 y6.2.2.2.1 y49 y50 y51 y52 (fun y53 y54 y55 y56 => verdererref12_reader_args_F n y53 y54 y55 y56 (fun y57 y58 y59 y60 y61 => k0 (y1, y44, y61, 0, ()) y57 y58 y59 y60))) else (verdererref12_reader_args_F n y49 y50 y51 y52 (fun y62 y63 y64 y65 y66 => k0 (y1, y44, y66, 0, ()) y62 y63 y64 y65))) else (verdererref12_reader_args_F n y49 y50 y51 y52 (fun y67 y68 y69 y70 y71 => k0 (y1, y44, y71, 0, ()) y67 y68 y69 y70))))) else (verdererref12_reader_lit_l1000010 n (y6.2.2.2.1, y12, y13, y14, y15, ([] : List ty38.D), false, (⟨#[]⟩ : ByteArray), 0, y1, (⟨#[]⟩ : ByteArray), 0, ([] : List ty38.D), ()) (fun b166 => k0 (b166.2.2.2.2.1, b166.2.2.2.2.2.1, b166.2.2.2.2.2.2.1, b166.2.2.2.2.2.2.2.1, ()) b166.1 b166.2.1 b166.2.2.1 b166.2.2.2.1, ()))) else none) else none) else (verdererref12_reader_lit_l1000010 n (y6.2.2.2.1, y12, y13, y14, y15, ([] : List ty38.D), false, (⟨#[]⟩ : ByteArray), 0, y1, (⟨#[]⟩ : ByteArray), 0, ([] : List ty38.D), ()) (fun b174 => k0 (b174.2.2.2.2.1, b174.2.2.2.2.2.1, b174.2.2.2.2.2.2.1, b174.2.2.2.2.2.2.2.1, ()) b174.1 b174.2.1 b174.2.2.1 b174.2.2.2.1, ()))) else none) else none) else (verdererref12_reader_lit_l1000010 n (y6.2.2.2.1, y12, y13, y14, y15, ([] : List ty38.D), false, (⟨#[]⟩ : ByteArray), 0, y1, (⟨#[]⟩ : ByteArray), 0, ([] : List ty38.D), ()) (fun b182 => k0 (b182.2.2.2.2.1, b182.2.2.2.2.2.1, b182.2.2.2.2.2.2.1, b182.2.2.2.2.2.2.2.1, ()) b182.1 b182.2.1 b182.2.2.1 b182.2.2.2.1, ())))) else (verdererref12_reader_lit_l1000010 n (y6.2.2.2.1, y12, y13, y14, y15, ([] : List ty38.D), false, (⟨#[]⟩ : ByteArray), 0, y1, (⟨#[]⟩ : ByteArray), 0, ([] : List ty38.D), ()) (fun b190 => k0 (b190.2.2.2.2.1, b190.2.2.2.2.2.1, b190.2.2.2.2.2.2.1, b190.2.2.2.2.2.2.2.1, ()) b190.1 b190.2.1 b190.2.2.1 b190.2.2.2.1, ())))))
def verdererref12_reader_lit_F {R : Type} := lazyN (@verdererref12_reader_lit_Fi R)
theorem verdererref12_reader_lit_e : @verdererref12_reader_lit_F R = @verdererref12_reader_lit_Fi R := lazyN_eq _
def verdererref12_reader_lit_g (n : Nat) : Gx R := typed 2 verdererref12_reader_lit_d fun x k => verdererref12_reader_lit_F n x.1 x.2.1 x.2.2.1 x.2.2.2.1 x.2.2.2.2.1 (fun y0 y1 y2 y3 y4 => k (.a (encA ty41 y0)) [(.box true 69 [(.ow 1), (.i .i64 y1), (.i .i64 y2), (.i .i64 y3)]), (.arr 73 ty73 y4)])
def verdererref12_reader_lit_cs (R : Type) (n : Nat) : List (Nat × Gx R) := [(35, verdererref12_reader_take_g n), (36, verdererref12_reader_fail_g n), (37, verdererref12_reader_now_g n), (38, verdererref12_reader_name_g n), (39, verdererref12_reader_must_g n), (41, verdererref12_reader_step_g n), (57, verdererref12_reader_named_g n), (76, verdererref12_reader_args_g n), (77, verdererref12_reader_term_g n), (78, verdererref11_Op_g n)]
def verdererref12_reader_lit_lp (n : Nat) : (i : Nat) → (verdererref12_reader_lit_ds i).D → exK R (verdererref12_reader_lit_dx i) → Option R
  | 1000016, a, k => verdererref12_reader_lit_l1000016 n a k
  | 1000012, a, k => verdererref12_reader_lit_l1000012 n a k
  | 1000010, a, k => verdererref12_reader_lit_l1000010 n a k
  | _, _, _ => none
def verdererref12_reader_lit_cx (R : Type) (n : Nat) : Cx R := ⟨Try.prog, Gof (verdererref12_reader_lit_cs R n), verdererref12_reader_lit_ds, verdererref12_reader_lit_dx, verdererref12_reader_lit_lp n, drawP Try.prog (Gof (verdererref12_reader_lit_cs R n)), true, (memN [16, 12, 10]), noFz⟩
theorem verdererref12_reader_lit_ok (n : Nat) : Good Try.prog 60 (verdererref12_reader_lit_g (R := R) n) := by
  unfold verdererref12_reader_lit_g
  rw [verdererref12_reader_lit_e]
  exact Good.fn (cx := verdererref12_reader_lit_cx R n) (by kernel_rfl) (AllGood.cons (verdererref12_reader_take_ok n) (AllGood.cons (verdererref12_reader_fail_ok n) (AllGood.cons (verdererref12_reader_now_ok n) (AllGood.cons (verdererref12_reader_name_ok n) (AllGood.cons (verdererref12_reader_must_ok n) (AllGood.cons (verdererref12_reader_step_ok n) (AllGood.cons (verdererref12_reader_named_ok n) (AllGood.cons (verdererref12_reader_args_ok n) (AllGood.cons (verdererref12_reader_term_ok n) (AllGood.cons (verdererref11_Op_ok n) (AllGood.nil))))))))))) rfl Try.func60 (by kernel_rfl) rfl (by
    have e : fnLoops (memN [16, 12, 10]) Try.f60 = [((fnLoops (memN [16, 12, 10]) Try.f60)[0]?).getD (false, .skip), ((fnLoops (memN [16, 12, 10]) Try.f60)[1]?).getD (false, .skip), ((fnLoops (memN [16, 12, 10]) Try.f60)[2]?).getD (false, .skip)] := by kernel_rfl
    show LoopRuns _ _ (fnLoops (memN [16, 12, 10]) _)
    rw [e]
    exact ⟨LoopRun.joinS (by kernel_rfl) (i := 10) (L := verdererref12_reader_lit_l1000010 n) (Li := verdererref12_reader_lit_li1000010 n) (by rw [verdererref12_reader_lit_e1000010]) (by kernel_rfl) (fun a k => by kernel_rfl) (fun a k => by kernel_rfl), ⟨LoopRun.joinS (by kernel_rfl) (i := 12) (L := verdererref12_reader_lit_l1000012 n) (Li := verdererref12_reader_lit_li1000012 n) (by rw [verdererref12_reader_lit_e1000012]) (by kernel_rfl) (fun a k => by kernel_rfl) (fun a k => by kernel_rfl), ⟨LoopRun.joinS (by kernel_rfl) (i := 16) (L := verdererref12_reader_lit_l1000016 n) (Li := verdererref12_reader_lit_li1000016 n) (by rw [verdererref12_reader_lit_e1000016]) (by kernel_rfl) (fun a k => by kernel_rfl) (fun a k => by kernel_rfl), trivial⟩⟩⟩) 2 verdererref12_reader_lit_d (by kernel_rfl) (fun x k => by kernel_rfl)
end
end Go.Proofs.Ytikikmkfeeljgaa.E
set_option linter.unusedVariables false
set_option maxRecDepth 100000
namespace Go.Proofs.Ytikikmkfeeljgaa.E
open Go.Proofs
noncomputable section
variable {R : Type}
/-! (*verderer/verdererref12.reader).body: function 42 -/
def verdererref12_reader_body_ds : Nat → Desc
  | 2 => ⟨[(0, .pt 0 0), (1, .pt 2 0), (4, .d (.int .i64)), (5, .d (.int .i64))], [.box true 69 [.ow 1, .d (.int .i64), .d (.int .i64), .d (.int .i64)], .arr 73 ty73, .box true 25 [.d (.int .i64), .d .str, .ow 3, .d (.int .i64), .d .str, .d (.int .i64), .ow 4], .arr 9 .str, .arr 41 ty41]⟩
  | _ => ⟨[], []⟩
def verdererref12_reader_body_dx : Nat → List (X × Desc)
  | 2 => [(.r, ⟨[], [.box true 69 [.ow 1, .d (.int .i64), .d (.int .i64), .d (.int .i64)], .arr 73 ty73, .box true 25 [.d (.int .i64), .d .str, .ow 3, .d (.int .i64), .d .str, .d (.int .i64), .ow 4], .arr 9 .str, .arr 41 ty41]⟩), (.e 0, ⟨[], [.box true 69 [.ow 1, .d (.int .i64), .d (.int .i64), .d (.int .i64)], .arr 73 ty73, .box true 25 [.d (.int .i64), .d .str, .ow 3, .d (.int .i64), .d .str, .d (.int .i64), .ow 4], .arr 9 .str, .arr 41 ty41]⟩)]
  | _ => []
def verdererref12_reader_body_s2 (n : Nat) (x0 : Int) (x1 : Int) (x2 : Int) (x3 : Int) (x4 : Int) (x5 : (List ty73.D)) (x6 : Int) (x7 : ByteArray) (x8 : Int) (x9 : ByteArray) (x10 : Int) (x11 : (List ByteArray)) (x12 : (List ty41.D)) (k1 : Int → Int → Int → Int → Int → (List ty73.D) → Int → ByteArray → Int → ByteArray → Int → (List ByteArray) → (List ty41.D) → Option R) (qr : Int → Int → Int → (List ty73.D) → Int → ByteArray → Int → ByteArray → Int → (List ByteArray) → (List ty41.D) → Option R) (qe0 : Int → Int → Int → (List ty73.D) → Int → ByteArray → Int → ByteArray → Int → (List ByteArray) → (List ty41.D) → Option R) : Option R :=
  if (decide (x1 < 400)) = true then (if (x3 == 0) = true then (verdererref12_reader_now_F n x2 x3 x4 x5 (fun y1 y2 y3 y4 y5 => if (decide ((x12.length : Int) ≥ 10)) = true then (verdererref12_reader_lone_F n y1.2.2.2.1 y2 y3 y4 y5 (fun y6 y7 y8 y9 => verdererref12_reader_lit_F n x0 y6 y7 y8 y9 (fun y10 y11 y12 y13 y14 => if (y10.2.2.2.1 == 0) = true then (if (!y10.1) = true then (if (List.length x12 + List.length [y10]) * 56 ≤ 140737488355328 then (verdererref12_reader_take_F n (⟨#[44]⟩ : ByteArray) y11 y12 y13 y14 (fun y15 y16 y17 y18 y19 => if (!y15) = true then (qr y16 y17 y18 y19 x6 x7 x8 x9 x10 x11 (x12 ++ [y10])) else (k1 (IntKind.i64.wrap (x0 + 1)) (IntKind.i64.wrap (x1 + 1)) y16 y17 y18 y19 x6 x7 x8 x9 x10 x11 (x12 ++ [y10])))) else none) else (if (List.length x12 + List.length [y10]) * 56 ≤ 140737488355328 then (verdererref12_reader_take_F n (⟨#[44]⟩ : ByteArray) y11 y12 y13 y14 (fun y20 y21 y22 y23 y24 => if (!y20) = true then (qr y21 y22 y23 y24 x6 x7 x8 x9 x10 x11 (x12 ++ [y10])) else (k1 x0 (IntKind.i64.wrap (x1 + 1)) y21 y22 y23 y24 x6 x7 x8 x9 x10 x11 (x12 ++ [y10])))) else none)) else (if (List.length x12 + List.length [y10]) * 56 ≤ 140737488355328 then (verdererref12_reader_take_F n (⟨#[44]⟩ : ByteArray) y11 y12 y13 y14 (fun y25 y26 y27 y28 y29 => if (!y25) = true then (qr y26 y27 y28 y29 x6 x7 x8 x9 x10 x11 (x12 ++ [y10])) else (k1 x0 (IntKind.i64.wrap (x1 + 1)) y26 y27 y28 y29 x6 x7 x8 x9 x10 x11 (x12 ++ [y10])))) else none)))) else (verdererref12_reader_lit_F n x0 y2 y3 y4 y5 (fun y30 y31 y32 y33 y34 => if (y30.2.2.2.1 == 0) = true then (if (!y30.1) = true then (if (List.length x12 + List.length [y30]) * 56 ≤ 140737488355328 then (verdererref12_reader_take_F n (⟨#[44]⟩ : ByteArray) y31 y32 y33 y34 (fun y35 y36 y37 y38 y39 => if (!y35) = true then (qr y36 y37 y38 y39 x6 x7 x8 x9 x10 x11 (x12 ++ [y30])) else (k1 (IntKind.i64.wrap (x0 + 1)) (IntKind.i64.wrap (x1 + 1)) y36 y37 y38 y39 x6 x7 x8 x9 x10 x11 (x12 ++ [y30])))) else none) else (if (List.length x12 + List.length [y30]) * 56 ≤ 140737488355328 then (verdererref12_reader_take_F n (⟨#[44]⟩ : ByteArray) y31 y32 y33 y34 (fun y40 y41 y42 y43 y44 => if (!y40) = true then (qr y41 y42 y43 y44 x6 x7 x8 x9 x10 x11 (x12 ++ [y30])) else (k1 x0 (IntKind.i64.wrap (x1 + 1)) y41 y42 y43 y44 x6 x7 x8 x9 x10 x11 (x12 ++ [y30])))) else none)) else (if (List.length x12 + List.length [y30]) * 56 ≤ 140737488355328 then (verdererref12_reader_take_F n (⟨#[44]⟩ : ByteArray) y31 y32 y33 y34 (fun y45 y46 y47 y48 y49 => if (!y45) = true then (qr y46 y47 y48 y49 x6 x7 x8 x9 x10 x11 (x12 ++ [y30])) else (k1 x0 (IntKind.i64.wrap (x1 + 1)) y46 y47 y48 y49 x6 x7 x8 x9 x10 x11 (x12 ++ [y30])))) else none))))) else (qe0 x2 x3 x4 x5 x6 x7 x8 x9 x10 x11 x12)) else (qe0 x2 x3 x4 x5 x6 x7 x8 x9 x10 x11 x12)
def verdererref12_reader_body_l2 (n : Nat) (a : (verdererref12_reader_body_ds 2).D) (k1 : (verdererref12_reader_body_ds 2).D → Option R) (k2 : exK R (verdererref12_reader_body_dx 2)) : Option R :=
  verdererref12_reader_body_s2 n a.1 a.2.1 a.2.2.1 a.2.2.2.1 a.2.2.2.2.1 a.2.2.2.2.2.1 a.2.2.2.2.2.2.1 a.2.2.2.2.2.2.2.1 a.2.2.2.2.2.2.2.2.1 a.2.2.2.2.2.2.2.2.2.1 a.2.2.2.2.2.2.2.2.2.2.1 a.2.2.2.2.2.2.2.2.2.2.2.1 a.2.2.2.2.2.2.2.2.2.2.2.2.1 (fun x0 x1 x2 x3 x4 x5 x6 x7 x8 x9 x10 x11 x12 => k1 (x0, x1, x2, x3, x4, x5, x6, x7, x8, x9, x10, x11, x12, ())) (fun x0 x1 x2 x3 x4 x5 x6 x7 x8 x9 x10 => k2.1 (x0, x1, x2, x3, x4, x5, x6, x7, x8, x9, x10, ())) (fun x0 x1 x2 x3 x4 x5 x6 x7 x8 x9 x10 => k2.2.1 (x0, x1, x2, x3, x4, x5, x6, x7, x8, x9, x10, ()))
@[reducible] def verdererref12_reader_body_d : Desc := ⟨[(0, .pt 0 0), (1, .pt 2 0)], [.box true 69 [.ow 1, .d (.int .i64), .d (.int .i64), .d (.int .i64)], .arr 73 ty73, .box true 25 [.d (.int .i64), .d .str, .ow 3, .d (.int .i64), .d .str, .d (.int .i64), .ow 4], .arr 9 .str, .arr 41 ty41]⟩
def verdererref12_reader_body_Fi (n : Nat) (a0 : Int) (a1 : Int) (a2 : Int) (a3 : (List ty73.D)) (a4 : Int) (a5 : ByteArray) (a6 : Int) (a7 : ByteArray) (a8 : Int) (a9 : (List ByteArray)) (a10 : (List ty41.D)) (k0 : Int → Int → Int → (List ty73.D) → Int → ByteArray → Int → ByteArray → Int → (List ByteArray) → (List ty41.D) → Option R) : Option R :=
  runC (verdererref12_reader_body_l2 n) n (0, 0, a0, a1, a2, a3, a4, a5, a6, a7, a8, a9, a10, ()) (fun b60 => k0 b60.1 b60.2.1 b60.2.2.1 b60.2.2.2.1 b60.2.2.2.2.1 b60.2.2.2.2.2.1 b60.2.2.2.2.2.2.1 b60.2.2.2.2.2.2.2.1 b60.2.2.2.2.2.2.2.2.1 b60.2.2.2.2.2.2.2.2.2.1 b60.2.2.2.2.2.2.2.2.2.2.1, fun b71 => k0 b71.1 b71.2.1 b71.2.2.1 b71.2.2.2.1 b71.2.2.2.2.1 b71.2.2.2.2.2.1 b71.2.2.2.2.2.2.1 b71.2.2.2.2.2.2.2.1 b71.2.2.2.2.2.2.2.2.1 b71.2.2.2.2.2.2.2.2.2.1 b71.2.2.2.2.2.2.2.2.2.2.1, ())
def verdererref12_reader_body_F {R : Type} := lazyN (@verdererref12_reader_body_Fi R)
theorem verdererref12_reader_body_e : @verdererref12_reader_body_F R = @verdererref12_reader_body_Fi R := lazyN_eq _
def verdererref12_reader_body_g (n : Nat) : Gx R := typed 2 verdererref12_reader_body_d fun x k => verdererref12_reader_body_F n x.1 x.2.1 x.2.2.1 x.2.2.2.1 x.2.2.2.2.1 x.2.2.2.2.2.1 x.2.2.2.2.2.2.1 x.2.2.2.2.2.2.2.1 x.2.2.2.2.2.2.2.2.1 x.2.2.2.2.2.2.2.2.2.1 x.2.2.2.2.2.2.2.2.2.2.1 (fun y0 y1 y2 y3 y4 y5 y6 y7 y8 y9 y10 => k (.tu []) [(.box true 69 [(.ow 1), (.i .i64 y0), (.i .i64 y1), (.i .i64 y2)]), (.arr 73 ty73 y3), (.box true 25 [(.i .i64 y4), (.s y5), (.ow 3), (.i .i64 y6), (.s y7), (.i .i64 y8), (.ow 4)]), (.arr 9 .str y9), (.arr 41 ty41 y10)])
def verdererref12_reader_body_cs (R : Type) (n : Nat) : List (Nat × Gx R) := [(35, verdererref12_reader_take_g n), (37, verdererref12_reader_now_g n), (59, verdererref12_reader_lone_g n), (60, verdererref12_reader_lit_g n)]
def verdererref12_reader_body_lp (n : Nat) : (i : Nat) → (verdererref12_reader_body_ds i).D → exK R (verdererref12_reader_body_dx i) → Option R
  | 2, a, k => runC (verdererref12_reader_body_l2 n) n a k
  | _, _, _ => none
def verdererref12_reader_body_cx (R : Type) (n : Nat) : Cx R := ⟨Try.prog, Gof (verdererref12_reader_body_cs R n), verdererref12_reader_body_ds, verdererref12_reader_body_dx, verdererref12_reader_body_lp n, drawP Try.prog (Gof (verdererref12_reader_body_cs R n)), false, noJn, noFz⟩
theorem verdererref12_reader_body_ok (n : Nat) : Good Try.prog 42 (verdererref12_reader_body_g (R := R) n) := by
  unfold verdererref12_reader_body_g
  rw [verdererref12_reader_body_e]
  exact Good.fn (cx := verdererref12_reader_body_cx R n) (by kernel_rfl) (AllGood.cons (verdererref12_reader_take_ok n) (AllGood.cons (verdererref12_reader_now_ok n) (AllGood.cons (verdererref12_reader_lone_ok n) (AllGood.cons (verdererref12_reader_lit_ok n) (AllGood.nil))))) rfl Try.func42 (by kernel_rfl) rfl (by
    have e : fnLoops noJn Try.f42 = [((fnLoops noJn Try.f42)[0]?).getD (false, .skip)] := by kernel_rfl
    show LoopRuns _ _ (fnLoops noJn _)
    rw [e]
    exact ⟨LoopRun.loop (by kernel_rfl) (i := 2) (m := n) (step := verdererref12_reader_body_l2 n) (by kernel_rfl) (fun a k1 k2 => by kernel_rfl) (fun _ _ => rfl), trivial⟩) 2 verdererref12_reader_body_d (by kernel_rfl) (fun x k => by kernel_rfl)
end
end Go.Proofs.Ytikikmkfeeljgaa.E
set_option linter.unusedVariables false
set_option maxRecDepth 100000
namespace Go.Proofs.Ytikikmkfeeljgaa.E
open Go.Proofs
noncomputable section
variable {R : Type}
/-! verderer/verdererref12.Rule: function 18 -/
def verdererref12_Rule_ds : Nat → Desc
  | 1000023 => ⟨[(2, .pt 2 0), (8, .pt 4 0), (9, .pt 7 0)], [.arr 9 .str, .arr 41 ty41, .box false 25 [.d (.int .i64), .d .str, .ow 0, .d (.int .i64), .d .str, .d (.int .i64), .ow 1], .arr 73 ty73, .box false 69 [.ow 3, .d (.int .i64), .d (.int .i64), .d (.int .i64)], .no, .no, .box false 25 [.d (.int .i64), .d .str, .ow 8, .d (.int .i64), .d .str, .d (.int .i64), .ow 9], .arr 9 .str, .arr 41 ty41]⟩
  | 1000013 => ⟨[(2, .pt 2 0), (8, .pt 4 0), (9, .pt 7 0)], [.arr 9 .str, .arr 41 ty41, .box false 25 [.d (.int .i64), .d .str, .ow 0, .d (.int .i64), .d .str, .d (.int .i64), .ow 1], .arr 73 ty73, .box false 69 [.ow 3, .d (.int .i64), .d (.int .i64), .d (.int .i64)], .no, .no, .box false 25 [.d (.int .i64), .d .str, .ow 8, .d (.int .i64), .d .str, .d (.int .i64), .ow 9], .arr 9 .str, .arr 41 ty41]⟩
  | _ => ⟨[], []⟩
def verdererref12_Rule_dx : Nat → List (X × Desc)
  | 1000023 => [(.r, ⟨[(2, .pt 2 0), (3, .d (.int .i64)), (4, .d (.int .i64))], [.no, .no, .box false 25 [.d (.int .i64), .d .str, .ow 10, .d (.int .i64), .d .str, .d (.int .i64), .ow 11], .no, .no, .no, .no, .no, .no, .no, .arr 9 .str, .arr 41 ty41]⟩), (.r, ⟨[(2, .pt 2 0), (3, .d (.int .i64)), (4, .d (.int .i64))], [.no, .no, .box false 25 [.d (.int .i64), .d .str, .ow 8, .d (.int .i64), .d .str, .d (.int .i64), .ow 9], .no, .no, .no, .no, .no, .arr 9 .str, .arr 41 ty41]⟩)]
  | 1000013 => [(.r, ⟨[(2, .pt 2 0), (3, .d (.int .i64)), (4, .d (.int .i64))], [.no, .no, .box false 25 [.d (.int .i64), .d .str, .ow 10, .d (.int .i64), .d .str, .d (.int .i64), .ow 11], .no, .no, .no, .no, .no, .no, .no, .arr 9 .str, .arr 41 ty41]⟩), (.r, ⟨[(2, .pt 2 0), (3, .d (.int .i64)), (4, .d (.int .i64))], [.no, .no, .box false 25 [.d (.int .i64), .d .str, .ow 8, .d (.int .i64), .d .str, .d (.int .i64), .ow 9], .no, .no, .no, .no, .no, .arr 9 .str, .arr 41 ty41]⟩)]
  | _ => []
def verdererref12_Rule_s1000023 (n : Nat) (x0 : (List ByteArray)) (x1 : (List ty41.D)) (x2 : Int) (x3 : ByteArray) (x4 : Int) (x5 : ByteArray) (x6 : Int) (x7 : (List ty73.D)) (x8 : Int) (x9 : Int) (x10 : Int) (x11 : Int) (x12 : ByteArray) (x13 : Int) (x14 : ByteArray) (x15 : Int) (x16 : (List ByteArray)) (x17 : (List ty41.D)) (qr : Int → Int → Int → ByteArray → Int → ByteArray → Int → (List ByteArray) → (List ty41.D) → Option R) (qr_1 : Int → Int → Int → ByteArray → Int → ByteArray → Int → (List ByteArray) → (List ty41.D) → Option R) : Option R :=
  verdererref12_reader_must_F n (⟨#[105, 102]⟩ : ByteArray) x8 x9 x10 x7 (fun y60 y61 y62 y63 => verdererref12_reader_body_F n y60 y61 y62 y63 x11 x12 x13 x14 x15 x16 x17 (fun y64 y65 y66 y67 y68 y69 y70 y71 y72 y73 y74 => verdererref12_reader_now_F n y64 y65 y66 y67 (fun y75 y76 y77 y78 y79 => if (y75.1 != 4) = true then (verdererref12_reader_now_F n y76 y77 y78 y79 (fun y80 y81 y82 y83 y84 => verdererref12_reader_fail_F n 7 y80.2.2.2.1 y81 y82 y83 y84 (fun y85 y86 y87 y88 => if (y86 != 0) = true then (qr y87 y86 0 (⟨#[]⟩ : ByteArray) 0 (⟨#[]⟩ : ByteArray) 0 ([] : List ByteArray) ([] : List ty41.D)) else (qr_1 0 0 y68 y69 y70 y71 y72 y73 y74)))) else (if (y77 != 0) = true then (qr y78 y77 0 (⟨#[]⟩ : ByteArray) 0 (⟨#[]⟩ : ByteArray) 0 ([] : List ByteArray) ([] : List ty41.D)) else (qr_1 0 0 y68 y69 y70 y71 y72 y73 y74)))))
def verdererref12_Rule_li1000023 (n : Nat) (a : (verdererref12_Rule_ds 1000023).D) (k2 : exK R (verdererref12_Rule_dx 1000023)) : Option R :=
  verdererref12_Rule_s1000023 n a.1 a.2.1 a.2.2.1 a.2.2.2.1 a.2.2.2.2.1 a.2.2.2.2.2.1 a.2.2.2.2.2.2.1 a.2.2.2.2.2.2.2.1 a.2.2.2.2.2.2.2.2.1 a.2.2.2.2.2.2.2.2.2.1 a.2.2.2.2.2.2.2.2.2.2.1 a.2.2.2.2.2.2.2.2.2.2.2.1 a.2.2.2.2.2.2.2.2.2.2.2.2.1 a.2.2.2.2.2.2.2.2.2.2.2.2.2.1 a.2.2.2.2.2.2.2.2.2.2.2.2.2.2.1 a.2.2.2.2.2.2.2.2.2.2.2.2.2.2.2.1 a.2.2.2.2.2.2.2.2.2.2.2.2.2.2.2.2.1 a.2.2.2.2.2.2.2.2.2.2.2.2.2.2.2.2.2.1 (fun x0 x1 x2 x3 x4 x5 x6 x7 x8 => k2.1 (x0, x1, x2, x3, x4, x5, x6, x7, x8, ())) (fun x0 x1 x2 x3 x4 x5 x6 x7 x8 => k2.2.1 (x0, x1, x2, x3, x4, x5, x6, x7, x8, ()))
def verdererref12_Rule_l1000023 {R : Type} := lazyN (@verdererref12_Rule_li1000023 R)
theorem verdererref12_Rule_e1000023 : @verdererref12_Rule_l1000023 R = @verdererref12_Rule_li1000023 R := lazyN_eq _
def verdererref12_Rule_s1000013 (n : Nat) (x0 : (List ByteArray)) (x1 : (List ty41.D)) (x2 : Int) (x3 : ByteArray) (x4 : Int) (x5 : ByteArray) (x6 : Int) (x7 : (List ty73.D)) (x8 : Int) (x9 : Int) (x10 : Int) (x11 : Int) (x12 : ByteArray) (x13 : Int) (x14 : ByteArray) (x15 : Int) (x16 : (List ByteArray)) (x17 : (List ty41.D)) (qr : Int → Int → Int → ByteArray → Int → ByteArray → Int → (List ByteArray) → (List ty41.D) → Option R) (qr_1 : Int → Int → Int → ByteArray → Int → ByteArray → Int → (List ByteArray) → (List ty41.D) → Option R) : Option R :=
  verdererref12_reader_name_F n x8 x9 x10 x7 (fun y9 y10 y11 y12 y13 => verdererref12_reader_must_F n (⟨#[40]⟩ : ByteArray) y10 y11 y12 y13 (fun y14 y15 y16 y17 => verdererref12_reader_head_F n y14 y15 y16 y17 x11 y9 x13 x14 x15 x16 x17 (fun y18 y19 y20 y21 y22 y23 y24 y25 y26 y27 y28 => verdererref12_reader_must_F n (⟨#[41]⟩ : ByteArray) y18 y19 y20 y21 (fun y29 y30 y31 y32 => if (y22 == 3) = true then (verdererref12_reader_must_F n (⟨#[108, 105, 109, 105, 116]⟩ : ByteArray) y29 y30 y31 y32 (fun y33 y34 y35 y36 => if (y34 == 0) = true then (verdererref12_reader_now_F n y33 y34 y35 y36 (fun y37 y38 y39 y40 y41 => if (y37.1 != 2) = true then (verdererref12_reader_now_F n y38 y39 y40 y41 (fun y42 y43 y44 y45 y46 => verdererref12_reader_fail_F n 7 y42.2.2.2.1 y43 y44 y45 y46 (fun y47 y48 y49 y50 => verdererref12_reader_now_F n y47 y48 y49 y50 (fun y51 y52 y53 y54 y55 => verdererref12_reader_step_F n y52 y53 y54 y55 (fun y56 y57 y58 y59 => verdererref12_Rule_l1000023 n (x0, x1, x2, x3, x4, x5, x6, y59, y56, y57, y58, y22, y23, y24, y25, y51.2.2.1.2.2.1, y27, y28, ()) (fun b97 => qr b97.1 b97.2.1 b97.2.2.1 b97.2.2.2.1 b97.2.2.2.2.1 b97.2.2.2.2.2.1 b97.2.2.2.2.2.2.1 b97.2.2.2.2.2.2.2.1 b97.2.2.2.2.2.2.2.2.1, fun b106 => qr_1 b106.1 b106.2.1 b106.2.2.1 b106.2.2.2.1 b106.2.2.2.2.1 b106.2.2.2.2.2.1 b106.2.2.2.2.2.2.1 b106.2.2.2.2.2.2.2.1 b106.2.2.2.2.2.2.2.2.1, ())))))) else (verdererref12_reader_now_F n y38 y39 y40 y41 (fun y107 y108 y109 y110 y111 => if (y107.2.2.1.1 != 2) = true then (verdererref12_reader_now_F n y108 y109 y110 y111 (fun y112 y113 y114 y115 y116 => verdererref12_reader_fail_F n 7 y112.2.2.2.1 y113 y114 y115 y116 (fun y117 y118 y119 y120 => verdererref12_reader_now_F n y117 y118 y119 y120 (fun y121 y122 y123 y124 y125 => verdererref12_reader_step_F n y122 y123 y124 y125 (fun y126 y127 y128 y129 => verdererref12_Rule_l1000023 n (x0, x1, x2, x3, x4, x5, x6, y129, y126, y127, y128, y22, y23, y24, y25, y121.2.2.1.2.2.1, y27, y28, ()) (fun b138 => qr b138.1 b138.2.1 b138.2.2.1 b138.2.2.2.1 b138.2.2.2.2.1 b138.2.2.2.2.2.1 b138.2.2.2.2.2.2.1 b138.2.2.2.2.2.2.2.1 b138.2.2.2.2.2.2.2.2.1, fun b147 => qr_1 b147.1 b147.2.1 b147.2.2.1 b147.2.2.2.1 b147.2.2.2.2.1 b147.2.2.2.2.2.1 b147.2.2.2.2.2.2.1 b147.2.2.2.2.2.2.2.1 b147.2.2.2.2.2.2.2.2.1, ())))))) else (verdererref12_reader_now_F n y108 y109 y110 y111 (fun y148 y149 y150 y151 y152 => verdererref12_reader_step_F n y149 y150 y151 y152 (fun y153 y154 y155 y156 => verdererref12_Rule_l1000023 n (x0, x1, x2, x3, x4, x5, x6, y156, y153, y154, y155, y22, y23, y24, y25, y148.2.2.1.2.2.1, y27, y28, ()) (fun b165 => qr b165.1 b165.2.1 b165.2.2.1 b165.2.2.2.1 b165.2.2.2.2.1 b165.2.2.2.2.2.1 b165.2.2.2.2.2.2.1 b165.2.2.2.2.2.2.2.1 b165.2.2.2.2.2.2.2.2.1, fun b174 => qr_1 b174.1 b174.2.1 b174.2.2.1 b174.2.2.2.1 b174.2.2.2.2.1 b174.2.2.2.2.2.1 b174.2.2.2.2.2.2.1 b174.2.2.2.2.2.2.2.1 b174.2.2.2.2.2.2.2.2.1, ())))))))) else (verdererref12_reader_now_F n y33 y34 y35 y36 (fun y175 y176 y177 y178 y179 => verdererref12_reader_step_F n y176 y177 y178 y179 (fun y180 y181 y182 y183 => verdererref12_Rule_l1000023 n (x0, x1, x2, x3, x4, x5, x6, y183, y180, y181, y182, y22, y23, y24, y25, y175.2.2.1.2.2.1, y27, y28, ()) (fun b192 => qr b192.1 b192.2.1 b192.2.2.1 b192.2.2.2.1 b192.2.2.2.2.1 b192.2.2.2.2.2.1 b192.2.2.2.2.2.2.1 b192.2.2.2.2.2.2.2.1 b192.2.2.2.2.2.2.2.2.1, fun b201 => qr_1 b201.1 b201.2.1 b201.2.2.1 b201.2.2.2.1 b201.2.2.2.2.1 b201.2.2.2.2.2.1 b201.2.2.2.2.2.2.1 b201.2.2.2.2.2.2.2.1 b201.2.2.2.2.2.2.2.2.1, ())))))) else (verdererref12_Rule_l1000023 n (x0, x1, x2, x3, x4, x5, x6, y32, y29, y30, y31, y22, y23, y24, y25, y26, y27, y28, ()) (fun b210 => qr b210.1 b210.2.1 b210.2.2.1 b210.2.2.2.1 b210.2.2.2.2.1 b210.2.2.2.2.2.1 b210.2.2.2.2.2.2.1 b210.2.2.2.2.2.2.2.1 b210.2.2.2.2.2.2.2.2.1, fun b219 => qr_1 b219.1 b219.2.1 b219.2.2.1 b219.2.2.2.1 b219.2.2.2.2.1 b219.2.2.2.2.2.1 b219.2.2.2.2.2.2.1 b219.2.2.2.2.2.2.2.1 b219.2.2.2.2.2.2.2.2.1, ()))))))
def verdererref12_Rule_li1000013 (n : Nat) (a : (verdererref12_Rule_ds 1000013).D) (k2 : exK R (verdererref12_Rule_dx 1000013)) : Option R :=
  verdererref12_Rule_s1000013 n a.1 a.2.1 a.2.2.1 a.2.2.2.1 a.2.2.2.2.1 a.2.2.2.2.2.1 a.2.2.2.2.2.2.1 a.2.2.2.2.2.2.2.1 a.2.2.2.2.2.2.2.2.1 a.2.2.2.2.2.2.2.2.2.1 a.2.2.2.2.2.2.2.2.2.2.1 a.2.2.2.2.2.2.2.2.2.2.2.1 a.2.2.2.2.2.2.2.2.2.2.2.2.1 a.2.2.2.2.2.2.2.2.2.2.2.2.2.1 a.2.2.2.2.2.2.2.2.2.2.2.2.2.2.1 a.2.2.2.2.2.2.2.2.2.2.2.2.2.2.2.1 a.2.2.2.2.2.2.2.2.2.2.2.2.2.2.2.2.1 a.2.2.2.2.2.2.2.2.2.2.2.2.2.2.2.2.2.1 (fun x0 x1 x2 x3 x4 x5 x6 x7 x8 => k2.1 (x0, x1, x2, x3, x4, x5, x6, x7, x8, ())) (fun x0 x1 x2 x3 x4 x5 x6 x7 x8 => k2.2.1 (x0, x1, x2, x3, x4, x5, x6, x7, x8, ()))
def verdererref12_Rule_l1000013 {R : Type} := lazyN (@verdererref12_Rule_li1000013 R)
theorem verdererref12_Rule_e1000013 : @verdererref12_Rule_l1000013 R = @verdererref12_Rule_li1000013 R := lazyN_eq _
@[reducible] def verdererref12_Rule_d : Desc := ⟨[(0, .d .str)], []⟩
def verdererref12_Rule_Fi (n : Nat) (a0 : ByteArray) (k0 : Int → ByteArray → Int → ByteArray → Int → Int → Int → (List ByteArray) → (List ty41.D) → Option R) : Option R :=
  verdererref11_Read_F n a0 (fun y1 y2 y3 => if (y2 != 0) = true then (k0 0 (⟨#[]⟩ : ByteArray) 0 (⟨#[]⟩ : ByteArray) 0 y1 y2 ([] : List ByteArray) ([] : List ty41.D)) else (verdererref12_reader_take_F n (⟨#[100, 101, 110, 121]⟩ : ByteArray) 0 0 0 y3 (fun y4 y5 y6 y7 y8 => if y4 = true then (verdererref12_Rule_l1000013 n (([] : List ByteArray), ([] : List ty41.D), 0, (⟨#[]⟩ : ByteArray), 0, (⟨#[]⟩ : ByteArray), 0, y8, y5, y6, y7, 1, (⟨#[]⟩ : ByteArray), 0, (⟨#[]⟩ : ByteArray), 0, ([] : List ByteArray), ([] : List ty41.D), ()) (fun b228 => k0 b228.2.2.1 b228.2.2.2.1 b228.2.2.2.2.1 b228.2.2.2.2.2.1 b228.2.2.2.2.2.2.1 b228.1 b228.2.1 b228.2.2.2.2.2.2.2.1 b228.2.2.2.2.2.2.2.2.1, fun b237 => k0 b237.2.2.1 b237.2.2.2.1 b237.2.2.2.2.1 b237.2.2.2.2.2.1 b237.2.2.2.2.2.2.1 b237.1 b237.2.1 b237.2.2.2.2.2.2.2.1 b237.2.2.2.2.2.2.2.2.1, ())) else (verdererref12_reader_take_F n (⟨#[118, 105, 101, 119]⟩ : ByteArray) y5 y6 y7 y8 (fun y238 y239 y240 y241 y242 => if y238 = true then (verdererref12_Rule_l1000013 n (([] : List ByteArray), ([] : List ty41.D), 0, (⟨#[]⟩ : ByteArray), 0, (⟨#[]⟩ : ByteArray), 0, y242, y239, y240, y241, 2, (⟨#[]⟩ : ByteArray), 0, (⟨#[]⟩ : ByteArray), 0, ([] : List ByteArray), ([] : List ty41.D), ()) (fun b251 => k0 b251.2.2.1 b251.2.2.2.1 b251.2.2.2.2.1 b251.2.2.2.2.2.1 b251.2.2.2.2.2.2.1 b251.1 b251.2.1 b251.2.2.2.2.2.2.2.1 b251.2.2.2.2.2.2.2.2.1, fun b260 => k0 b260.2.2.1 b260.2.2.2.1 b260.2.2.2.2.1 b260.2.2.2.2.2.1 b260.2.2.2.2.2.2.1 b260.1 b260.2.1 b260.2.2.2.2.2.2.2.1 b260.2.2.2.2.2.2.2.2.1, ())) else (verdererref12_reader_take_F n (⟨#[113, 117, 111, 116, 97]⟩ : ByteArray) y239 y240 y241 y242 (fun y261 y262 y263 y264 y265 => if y261 = true then (verdererref12_Rule_l1000013 n (([] : List ByteArray), ([] : List ty41.D), 0, (⟨#[]⟩ : ByteArray), 0, (⟨#[]⟩ : ByteArray), 0, y265, y262, y263, y264, 3, (⟨#[]⟩ : ByteArray), 0, (⟨#[]⟩ : ByteArray), 0, ([] : List ByteArray), ([] : List ty41.D), ()) (fun b274 => k0 b274.2.2.1 b274.2.2.2.1 b274.2.2.2.2.1 b274.2.2.2.2.2.1 b274.2.2.2.2.2.2.1 b274.1 b274.2.1 b274.2.2.2.2.2.2.2.1 b274.2.2.2.2.2.2.2.2.1, fun b283 => k0 b283.2.2.1 b283.2.2.2.1 b283.2.2.2.2.1 b283.2.2.2.2.2.1 b283.2.2.2.2.2.2.1 b283.1 b283.2.1 b283.2.2.2.2.2.2.2.1 b283.2.2.2.2.2.2.2.2.1, ())) else (verdererref12_reader_now_F n y262 y263 y264 y265 (fun y284 y285 y286 y287 y288 => verdererref12_reader_fail_F n 7 y284.2.2.2.1 y285 y286 y287 y288 (fun y289 y290 y291 y292 => verdererref12_Rule_l1000013 n (([] : List ByteArray), ([] : List ty41.D), 0, (⟨#[]⟩ : ByteArray), 0, (⟨#[]⟩ : ByteArray), 0, y292, y289, y290, y291, 0, (⟨#[]⟩ : ByteArray), 0, (⟨#[]⟩ : ByteArray), 0, ([] : List ByteArray), ([] : List ty41.D), ()) (fun b301 => k0 b301.2.2.1 b301.2.2.2.1 b301.2.2.2.2.1 b301.2.2.2.2.2.1 b301.2.2.2.2.2.2.1 b301.1 b301.2.1 b301.2.2.2.2.2.2.2.1 b301.2.2.2.2.2.2.2.2.1, fun b310 => k0 b310.2.2.1 b310.2.2.2.1 b310.2.2.2.2.1 b310.2.2.2.2.2.1 b310.2.2.2.2.2.2.1 b310.1 b310.2.1 b310.2.2.2.2.2.2.2.1 b310.2.2.2.2.2.2.2.2.1, ())))))))))))
def verdererref12_Rule_F {R : Type} := lazyN (@verdererref12_Rule_Fi R)
theorem verdererref12_Rule_e : @verdererref12_Rule_F R = @verdererref12_Rule_Fi R := lazyN_eq _
def verdererref12_Rule_g (n : Nat) : Gx R := typed 1 verdererref12_Rule_d fun x k => verdererref12_Rule_F n x.1 (fun y0 y1 y2 y3 y4 y5 y6 y7 y8 => k (.tu [(.ag [(.i .i64 y0), (.s y1), (.ow 0), (.i .i64 y2), (.s y3), (.i .i64 y4), (.ow 1)]), (.c (.i .i64 y5)), (.c (.i .i64 y6))]) [(.arr 9 .str y7), (.arr 41 ty41 y8)])
def verdererref12_Rule_cs (R : Type) (n : Nat) : List (Nat × Gx R) := [(34, verdererref11_Read_g n), (35, verdererref12_reader_take_g n), (36, verdererref12_reader_fail_g n), (37, verdererref12_reader_now_g n), (38, verdererref12_reader_name_g n), (39, verdererref12_reader_must_g n), (40, verdererref12_reader_head_g n), (41, verdererref12_reader_step_g n), (42, verdererref12_reader_body_g n)]
def verdererref12_Rule_lp (n : Nat) : (i : Nat) → (verdererref12_Rule_ds i).D → exK R (verdererref12_Rule_dx i) → Option R
  | 1000023, a, k => verdererref12_Rule_l1000023 n a k
  | 1000013, a, k => verdererref12_Rule_l1000013 n a k
  | _, _, _ => none
def verdererref12_Rule_cx (R : Type) (n : Nat) : Cx R := ⟨Try.prog, Gof (verdererref12_Rule_cs R n), verdererref12_Rule_ds, verdererref12_Rule_dx, verdererref12_Rule_lp n, drawP Try.prog (Gof (verdererref12_Rule_cs R n)), false, (memN [23, 13]), noFz⟩
theorem verdererref12_Rule_ok (n : Nat) : Good Try.prog 18 (verdererref12_Rule_g (R := R) n) := by
  unfold verdererref12_Rule_g
  rw [verdererref12_Rule_e]
  exact Good.fn (cx := verdererref12_Rule_cx R n) (by kernel_rfl) (AllGood.cons (verdererref11_Read_ok n) (AllGood.cons (verdererref12_reader_take_ok n) (AllGood.cons (verdererref12_reader_fail_ok n) (AllGood.cons (verdererref12_reader_now_ok n) (AllGood.cons (verdererref12_reader_name_ok n) (AllGood.cons (verdererref12_reader_must_ok n) (AllGood.cons (verdererref12_reader_head_ok n) (AllGood.cons (verdererref12_reader_step_ok n) (AllGood.cons (verdererref12_reader_body_ok n) (AllGood.nil)))))))))) rfl Try.func18 (by kernel_rfl) rfl (by
    have e : fnLoops (memN [23, 13]) Try.f18 = [((fnLoops (memN [23, 13]) Try.f18)[0]?).getD (false, .skip), ((fnLoops (memN [23, 13]) Try.f18)[1]?).getD (false, .skip)] := by kernel_rfl
    show LoopRuns _ _ (fnLoops (memN [23, 13]) _)
    rw [e]
    exact ⟨LoopRun.joinS (by kernel_rfl) (i := 13) (L := verdererref12_Rule_l1000013 n) (Li := verdererref12_Rule_li1000013 n) (by rw [verdererref12_Rule_e1000013]) (by kernel_rfl) (fun a k => by kernel_rfl) (fun a k => by kernel_rfl), ⟨LoopRun.joinS (by kernel_rfl) (i := 23) (L := verdererref12_Rule_l1000023 n) (Li := verdererref12_Rule_li1000023 n) (by rw [verdererref12_Rule_e1000023]) (by kernel_rfl) (fun a k => by kernel_rfl) (fun a k => by kernel_rfl), trivial⟩⟩) 1 verdererref12_Rule_d (by kernel_rfl) (fun x k => by kernel_rfl)
end
end Go.Proofs.Ytikikmkfeeljgaa.E
set_option linter.unusedVariables false
set_option maxRecDepth 100000
namespace Go.Proofs.Ytikikmkfeeljgaa.E
open Go.Proofs
noncomputable section
variable {R : Type}
/-! verderer/types.read: function 48 -/
@[reducible] def types_read_d : Desc := ⟨[(0, .d ty25), (1, .np), (2, .d (.sl ty82))], []⟩
def types_read_Fi (n : Nat) (a0 : ty25.D) (a1 : (List ty82.D)) (k0 : Int → Int → Option R) : Option R :=
  k0 0 1
def types_read_F {R : Type} := lazyN (@types_read_Fi R)
theorem types_read_e : @types_read_F R = @types_read_Fi R := lazyN_eq _
def types_read_g (n : Nat) : Gx R := typed 3 types_read_d fun x k => types_read_F n x.1 x.2.1 (fun y0 y1 => k (.tu [(.c (.np)), (.c (.i .i64 y0)), (.c (.i .i64 y1))]) [])
def types_read_cs (R : Type) (n : Nat) : List (Nat × Gx R) := []
def types_read_cx (R : Type) (n : Nat) : Cx R := ⟨Try.prog, Gof (types_read_cs R n), noDs, noDx, noLp, drawP Try.prog (Gof (types_read_cs R n)), false, noJn, noFz⟩
theorem types_read_ok (n : Nat) : Good Try.prog 48 (types_read_g (R := R) n) := by
  unfold types_read_g
  rw [types_read_e]
  exact Good.fn (cx := types_read_cx R n) (by kernel_rfl) (AllGood.nil) rfl Try.func48 (by kernel_rfl) rfl trivial 3 types_read_d (by kernel_rfl) (fun x k => by kernel_rfl)
end
end Go.Proofs.Ytikikmkfeeljgaa.E
set_option linter.unusedVariables false
set_option maxRecDepth 100000
namespace Go.Proofs.Ytikikmkfeeljgaa.E
open Go.Proofs
noncomputable section
variable {R : Type}
/-! verderer/types.Head: function 21 -/
def types_Head_ds : Nat → Desc
  | 6 => ⟨[(3, .pt 0 0), (9, .np), (12, .ow 2), (33, .d (.sl .str)), (34, .d (.int .i64)), (35, .d (.int .i64))], [.box false 25 [.d (.int .i64), .d .str, .d (.sl .str), .d (.int .i64), .d .str, .d (.int .i64), .d (.sl ty41)], .no, .arr 63 ty63]⟩
  | _ => ⟨[], []⟩
def types_Head_dx : Nat → List (X × Desc)
  | 6 => [(.e 0, ⟨[(3, .pt 0 0), (9, .np), (12, .ow 2)], [.box false 25 [.d (.int .i64), .d .str, .d (.sl .str), .d (.int .i64), .d .str, .d (.int .i64), .d (.sl ty41)], .no, .arr 63 ty63]⟩)]
  | _ => []
def types_Head_s6 (n : Nat) (x0 : (List ByteArray)) (x1 : Int) (x2 : Int) (x3 : Int) (x4 : ByteArray) (x5 : (List ByteArray)) (x6 : Int) (x7 : ByteArray) (x8 : Int) (x9 : (List ty41.D)) (x10 : (List ty63.D)) (k1 : (List ByteArray) → Int → Int → Int → ByteArray → (List ByteArray) → Int → ByteArray → Int → (List ty41.D) → (List ty63.D) → Option R) (qe0 : Int → ByteArray → (List ByteArray) → Int → ByteArray → Int → (List ty41.D) → (List ty63.D) → Option R) : Option R :=
  if (decide (x2 < x1)) = true then (if (0 : Int) ≤ x2 ∧ x2 < (x0.length : Int) then none else none) else (qe0 x3 x4 x5 x6 x7 x8 x9 x10)
def types_Head_l6 (n : Nat) (a : (types_Head_ds 6).D) (k1 : (types_Head_ds 6).D → Option R) (k2 : exK R (types_Head_dx 6)) : Option R :=
  types_Head_s6 n a.1 a.2.1 a.2.2.1 a.2.2.2.1 a.2.2.2.2.1 a.2.2.2.2.2.1 a.2.2.2.2.2.2.1 a.2.2.2.2.2.2.2.1 a.2.2.2.2.2.2.2.2.1 a.2.2.2.2.2.2.2.2.2.1 a.2.2.2.2.2.2.2.2.2.2.1 (fun x0 x1 x2 x3 x4 x5 x6 x7 x8 x9 x10 => k1 (x0, x1, x2, x3, x4, x5, x6, x7, x8, x9, x10, ())) (fun x0 x1 x2 x3 x4 x5 x6 x7 => k2.1 (x0, x1, x2, x3, x4, x5, x6, x7, ()))
@[reducible] def types_Head_d : Desc := ⟨[(0, .d ty25), (1, .np), (2, .d (.sl ty82))], []⟩
def types_Head_Fi (n : Nat) (a0 : ty25.D) (a1 : (List ty82.D)) (k0 : Int → Int → (List ty63.D) → Option R) : Option R :=
  types_read_F n a0 a1 (fun y1 y2 => if (y2 != 0) = true then (k0 y1 y2 ([] : List ty63.D)) else (runC (types_Head_l6 n) n (a0.2.2.1, (a0.2.2.1.length : Int), 0, a0.1, a0.2.1, a0.2.2.1, a0.2.2.2.1, a0.2.2.2.2.1, a0.2.2.2.2.2.1, a0.2.2.2.2.2.2.1, ([] : List ty63.D), ()) (fun b10 => if (decide (b10.2.2.2.1 ≥ 2)) = true then none else (if (b10.1 == 3) = true then (if (decide ((b10.2.2.2.2.2.2.2.1.length : Int) > 0)) = true then (if (0 : Int) ≤ 0 ∧ 0 < (b10.2.2.2.2.2.2.2.1.length : Int) then (if (Int.toNat 0) < b10.2.2.2.2.2.2.2.1.length then (if ((b10.2.2.2.2.2.2.2.1.getD (Int.toNat 0) (Ty.z ty63)).2.1 != 3) = true then (k0 (-1) 11 ([] : List ty63.D)) else (if (0 : Int) ≤ 0 ∧ 0 < (b10.2.2.2.2.2.2.2.1.length : Int) then (if (Int.toNat 0) < b10.2.2.2.2.2.2.2.1.length then (if (b10.2.2.2.2.2.2.2.1.getD (Int.toNat 0) (Ty.z ty63)).2.2.1 = true then (k0 (-1) 11 ([] : List ty63.D)) else (if (decide (b10.2.2.2.1 ≥ 1)) = true then (if (List.length b10.2.2.2.2.2.2.2.1 + List.length [((⟨#[99, 111, 117, 110, 116]⟩ : ByteArray), 2, false, ())]) * 32 ≤ 140737488355328 then (k0 0 0 (b10.2.2.2.2.2.2.2.1 ++ [((⟨#[99, 111, 117, 110, 116]⟩ : ByteArray), 2, false, ())])) else none) else (k0 0 0 b10.2.2.2.2.2.2.2.1))) else none) else none)) else none) else none) else (if (decide (b10.2.2.2.1 ≥ 1)) = true then (if (List.length b10.2.2.2.2.2.2.2.1 + List.length [((⟨#[99, 111, 117, 110, 116]⟩ : ByteArray), 2, false, ())]) * 32 ≤ 140737488355328 then (k0 0 0 (b10.2.2.2.2.2.2.2.1 ++ [((⟨#[99, 111, 117, 110, 116]⟩ : ByteArray), 2, false, ())])) else none) else (k0 0 0 b10.2.2.2.2.2.2.2.1))) else (if (decide (b10.2.2.2.1 ≥ 1)) = true then (if (List.length b10.2.2.2.2.2.2.2.1 + List.length [((⟨#[99, 111, 117, 110, 116]⟩ : ByteArray), 2, false, ())]) * 32 ≤ 140737488355328 then (k0 0 0 (b10.2.2.2.2.2.2.2.1 ++ [((⟨#[99, 111, 117, 110, 116]⟩ : ByteArray), 2, false, ())])) else none) else (k0 0 0 b10.2.2.2.2.2.2.2.1))), ())))
def types_Head_F {R : Type} := lazyN (@types_Head_Fi R)
theorem types_Head_e : @types_Head_F R = @types_Head_Fi R := lazyN_eq _
def types_Head_g (n : Nat) : Gx R := typed 3 types_Head_d fun x k => types_Head_F n x.1 x.2.1 (fun y0 y1 y2 => k (.tu [(.c (.ow 0)), (.c (.i .i64 y0)), (.c (.i .i64 y1))]) [(.arr 63 ty63 y2)])
def types_Head_cs (R : Type) (n : Nat) : List (Nat × Gx R) := [(48, types_read_g n)]
def types_Head_lp (n : Nat) : (i : Nat) → (types_Head_ds i).D → exK R (types_Head_dx i) → Option R
  | 6, a, k => runC (types_Head_l6 n) n a k
  | _, _, _ => none
def types_Head_cx (R : Type) (n : Nat) : Cx R := ⟨Try.prog, Gof (types_Head_cs R n), types_Head_ds, types_Head_dx, types_Head_lp n, drawP Try.prog (Gof (types_Head_cs R n)), false, noJn, noFz⟩
theorem types_Head_ok (n : Nat) : Good Try.prog 21 (types_Head_g (R := R) n) := by
  unfold types_Head_g
  rw [types_Head_e]
  exact Good.fn (cx := types_Head_cx R n) (by kernel_rfl) (AllGood.cons (types_read_ok n) (AllGood.nil)) rfl Try.func21 (by kernel_rfl) rfl (by
    have e : fnLoops noJn Try.f21 = [((fnLoops noJn Try.f21)[0]?).getD (false, .skip)] := by kernel_rfl
    show LoopRuns _ _ (fnLoops noJn _)
    rw [e]
    exact ⟨LoopRun.loop (by kernel_rfl) (i := 6) (m := n) (step := types_Head_l6 n) (by kernel_rfl) (fun a k1 k2 => by kernel_rfl) (fun _ _ => rfl), trivial⟩) 3 types_Head_d (by kernel_rfl) (fun x k => by kernel_rfl)
end
end Go.Proofs.Ytikikmkfeeljgaa.E
set_option linter.unusedVariables false
set_option maxRecDepth 100000
namespace Go.Proofs.Ytikikmkfeeljgaa.E
open Go.Proofs
noncomputable section
variable {R : Type}
/-! verderer/types.Vars: function 26 -/
@[reducible] def types_Vars_d : Desc := ⟨[(0, .d ty25), (1, .np), (2, .d (.sl ty82))], []⟩
def types_Vars_Fi (n : Nat) (a0 : ty25.D) (a1 : (List ty82.D)) (k0 : Int → Int → (List ty63.D) → Option R) : Option R :=
  types_read_F n a0 a1 (fun y1 y2 => if (y2 != 0) = true then (k0 y1 y2 ([] : List ty63.D)) else none)
def types_Vars_F {R : Type} := lazyN (@types_Vars_Fi R)
theorem types_Vars_e : @types_Vars_F R = @types_Vars_Fi R := lazyN_eq _
def types_Vars_g (n : Nat) : Gx R := typed 3 types_Vars_d fun x k => types_Vars_F n x.1 x.2.1 (fun y0 y1 y2 => k (.tu [(.c (.ow 0)), (.c (.i .i64 y0)), (.c (.i .i64 y1))]) [(.arr 63 ty63 y2)])
def types_Vars_cs (R : Type) (n : Nat) : List (Nat × Gx R) := [(48, types_read_g n)]
def types_Vars_cx (R : Type) (n : Nat) : Cx R := ⟨Try.prog, Gof (types_Vars_cs R n), noDs, noDx, noLp, drawP Try.prog (Gof (types_Vars_cs R n)), false, noJn, noFz⟩
theorem types_Vars_ok (n : Nat) : Good Try.prog 26 (types_Vars_g (R := R) n) := by
  unfold types_Vars_g
  rw [types_Vars_e]
  exact Good.fn (cx := types_Vars_cx R n) (by kernel_rfl) (AllGood.cons (types_read_ok n) (AllGood.nil)) rfl Try.func26 (by kernel_rfl) rfl (by
    have e : fnLoops noJn Try.f26 = [((fnLoops noJn Try.f26)[0]?).getD (false, .skip)] := by kernel_rfl
    show LoopRuns _ _ (fnLoops noJn _)
    rw [e]
    exact ⟨LoopRun.no (by kernel_rfl) (i := 6) (by kernel_rfl) (fun _ _ => rfl), trivial⟩) 3 types_Vars_d (by kernel_rfl) (fun x k => by kernel_rfl)
end
end Go.Proofs.Ytikikmkfeeljgaa.E
set_option linter.unusedVariables false
set_option maxRecDepth 100000
namespace Go.Proofs.Ytikikmkfeeljgaa.E
open Go.Proofs
noncomputable section
variable {R : Type}
/-! verderer/verdererref07.Same: function 51 -/
def verdererref07_Same_ds : Nat → Desc
  | 4 => ⟨[(2, .pt 0 0), (3, .pt 1 0), (5, .d (.int .i64))], [.box false 82 [.d .str, .d (.sl ty63)], .box false 82 [.d .str, .d (.sl ty63)]]⟩
  | _ => ⟨[], []⟩
def verdererref07_Same_dx : Nat → List (X × Desc)
  | 4 => [(.r, ⟨[(4, .d .bool)], []⟩), (.e 0, ⟨[], []⟩)]
  | _ => []
def verdererref07_Same_s4 (n : Nat) (x0 : Int) (x1 : ByteArray) (x2 : (List ty63.D)) (x3 : ByteArray) (x4 : (List ty63.D)) (k1 : Int → ByteArray → (List ty63.D) → ByteArray → (List ty63.D) → Option R) (qr : Bool → Option R) (qe0 : Option R) : Option R :=
  if (decide (x0 < (x2.length : Int))) = true then (if (0 : Int) ≤ x0 ∧ x0 < (x2.length : Int) then (if (0 : Int) ≤ x0 ∧ x0 < (x4.length : Int) then (if (!((((x2.getD (Int.toNat x0) (Ty.z ty63)).1).toList == ((x4.getD (Int.toNat x0) (Ty.z ty63)).1).toList) && (((x2.getD (Int.toNat x0) (Ty.z ty63)).2.1 == (x4.getD (Int.toNat x0) (Ty.z ty63)).2.1) && (((x2.getD (Int.toNat x0) (Ty.z ty63)).2.2.1 == (x4.getD (Int.toNat x0) (Ty.z ty63)).2.2.1) && true)))) = true then (qr false) else (k1 (IntKind.i64.wrap (x0 + 1)) x1 x2 x3 x4)) else none) else none) else qe0
def verdererref07_Same_l4 (n : Nat) (a : (verdererref07_Same_ds 4).D) (k1 : (verdererref07_Same_ds 4).D → Option R) (k2 : exK R (verdererref07_Same_dx 4)) : Option R :=
  verdererref07_Same_s4 n a.1 a.2.1 a.2.2.1 a.2.2.2.1 a.2.2.2.2.1 (fun x0 x1 x2 x3 x4 => k1 (x0, x1, x2, x3, x4, ())) (fun x0 => k2.1 (x0, ())) (k2.2.1 (()))
@[reducible] def verdererref07_Same_d : Desc := ⟨[(0, .d ty82), (1, .d ty82)], []⟩
def verdererref07_Same_Fi (n : Nat) (a0 : ty82.D) (a1 : ty82.D) (k0 : Bool → Option R) : Option R :=
  if (!(a0.1.toList == a1.1.toList)) = true then (k0 false) else (if ((a0.2.1.length : Int) != (a1.2.1.length : Int)) = true then (k0 false) else (runC (verdererref07_Same_l4 n) n (0, a0.1, a0.2.1, a1.1, a1.2.1, ()) (fun b1 => k0 b1.1, fun b1 => k0 true, ())))
def verdererref07_Same_F {R : Type} := lazyN (@verdererref07_Same_Fi R)
theorem verdererref07_Same_e : @verdererref07_Same_F R = @verdererref07_Same_Fi R := lazyN_eq _
def verdererref07_Same_g (n : Nat) : Gx R := typed 2 verdererref07_Same_d fun x k => verdererref07_Same_F n x.1 x.2.1 (fun y0 => k (.a (.c (.b y0))) [])
def verdererref07_Same_cs (R : Type) (n : Nat) : List (Nat × Gx R) := []
def verdererref07_Same_lp (n : Nat) : (i : Nat) → (verdererref07_Same_ds i).D → exK R (verdererref07_Same_dx i) → Option R
  | 4, a, k => runC (verdererref07_Same_l4 n) n a k
  | _, _, _ => none
def verdererref07_Same_cx (R : Type) (n : Nat) : Cx R := ⟨Try.prog, Gof (verdererref07_Same_cs R n), verdererref07_Same_ds, verdererref07_Same_dx, verdererref07_Same_lp n, drawP Try.prog (Gof (verdererref07_Same_cs R n)), false, noJn, noFz⟩
theorem verdererref07_Same_ok (n : Nat) : Good Try.prog 51 (verdererref07_Same_g (R := R) n) := by
  unfold verdererref07_Same_g
  rw [verdererref07_Same_e]
  exact Good.fn (cx := verdererref07_Same_cx R n) (by kernel_rfl) (AllGood.nil) rfl Try.func51 (by kernel_rfl) rfl (by
    have e : fnLoops noJn Try.f51 = [((fnLoops noJn Try.f51)[0]?).getD (false, .skip)] := by kernel_rfl
    show LoopRuns _ _ (fnLoops noJn _)
    rw [e]
    exact ⟨LoopRun.loop (by kernel_rfl) (i := 4) (m := n) (step := verdererref07_Same_l4 n) (by kernel_rfl) (fun a k1 k2 => by kernel_rfl) (fun _ _ => rfl), trivial⟩) 2 verdererref07_Same_d (by kernel_rfl) (fun x k => by kernel_rfl)
end
end Go.Proofs.Ytikikmkfeeljgaa.E
set_option linter.unusedVariables false
set_option maxRecDepth 100000
namespace Go.Proofs.Ytikikmkfeeljgaa.E
open Go.Proofs
noncomputable section
variable {R : Type}
/-! verderer/verdererref14.Same: function 23 -/
@[reducible] def verdererref14_Same_d : Desc := ⟨[(0, .d (.sl ty63)), (1, .d (.sl ty63))], []⟩
def verdererref14_Same_Fi (n : Nat) (a0 : (List ty63.D)) (a1 : (List ty63.D)) (k0 : Bool → Option R) : Option R :=
  verdererref07_Same_F n ((⟨#[]⟩ : ByteArray), a0, ()) ((⟨#[]⟩ : ByteArray), a1, ()) (fun y1 => k0 y1)
def verdererref14_Same_F {R : Type} := lazyN (@verdererref14_Same_Fi R)
theorem verdererref14_Same_e : @verdererref14_Same_F R = @verdererref14_Same_Fi R := lazyN_eq _
def verdererref14_Same_g (n : Nat) : Gx R := typed 2 verdererref14_Same_d fun x k => verdererref14_Same_F n x.1 x.2.1 (fun y0 => k (.a (.c (.b y0))) [])
def verdererref14_Same_cs (R : Type) (n : Nat) : List (Nat × Gx R) := [(51, verdererref07_Same_g n)]
def verdererref14_Same_cx (R : Type) (n : Nat) : Cx R := ⟨Try.prog, Gof (verdererref14_Same_cs R n), noDs, noDx, noLp, drawP Try.prog (Gof (verdererref14_Same_cs R n)), false, noJn, noFz⟩
theorem verdererref14_Same_ok (n : Nat) : Good Try.prog 23 (verdererref14_Same_g (R := R) n) := by
  unfold verdererref14_Same_g
  rw [verdererref14_Same_e]
  exact Good.fn (cx := verdererref14_Same_cx R n) (by kernel_rfl) (AllGood.cons (verdererref07_Same_ok n) (AllGood.nil)) rfl Try.func23 (by kernel_rfl) rfl trivial 2 verdererref14_Same_d (by kernel_rfl) (fun x k => by kernel_rfl)
end
end Go.Proofs.Ytikikmkfeeljgaa.E
set_option linter.unusedVariables false
set_option maxRecDepth 100000
namespace Go.Proofs.Ytikikmkfeeljgaa.E
open Go.Proofs
noncomputable section
variable {R : Type}
/-! verderer/schema.text: function 101 -/
@[reducible] def schema_text_d : Desc := ⟨[(0, .d .str)], []⟩
def schema_text_Fi (n : Nat) (a0 : ByteArray) (k0 : ty63.D → Option R) : Option R :=
  k0 (a0, 3, false, ())
def schema_text_F {R : Type} := lazyN (@schema_text_Fi R)
theorem schema_text_e : @schema_text_F R = @schema_text_Fi R := lazyN_eq _
def schema_text_g (n : Nat) : Gx R := typed 1 schema_text_d fun x k => schema_text_F n x.1 (fun y0 => k (.a (encA ty63 y0)) [])
def schema_text_cs (R : Type) (n : Nat) : List (Nat × Gx R) := []
def schema_text_cx (R : Type) (n : Nat) : Cx R := ⟨Try.prog, Gof (schema_text_cs R n), noDs, noDx, noLp, drawP Try.prog (Gof (schema_text_cs R n)), false, noJn, noFz⟩
theorem schema_text_ok (n : Nat) : Good Try.prog 101 (schema_text_g (R := R) n) := by
  unfold schema_text_g
  rw [schema_text_e]
  exact Good.fn (cx := schema_text_cx R n) (by kernel_rfl) (AllGood.nil) rfl Try.func101 (by kernel_rfl) rfl trivial 1 schema_text_d (by kernel_rfl) (fun x k => by kernel_rfl)
end
end Go.Proofs.Ytikikmkfeeljgaa.E
set_option linter.unusedVariables false
set_option maxRecDepth 100000
namespace Go.Proofs.Ytikikmkfeeljgaa.E
open Go.Proofs
noncomputable section
variable {R : Type}
/-! (*verderer/schema.Set).Find: function 102 -/
@[reducible] def schema_Set_Find_d : Desc := ⟨[(0, .pt 0 0), (1, .d .str)], [.box true 80 [.ow 1], .arr 82 ty82]⟩
def schema_Set_Find_Fi (n : Nat) (a0 : ByteArray) (a1 : (List ty82.D)) (k0 : ty82.D → Int → (List ty82.D) → Option R) : Option R :=
  schema_Set_find_F n a0 a1 (fun y1 y2 y3 => if (!y2) = true then (k0 ((⟨#[]⟩ : ByteArray), ([] : List ty63.D), ()) 20 y3) else (k0 y1 0 y3))
def schema_Set_Find_F {R : Type} := lazyN (@schema_Set_Find_Fi R)
theorem schema_Set_Find_e : @schema_Set_Find_F R = @schema_Set_Find_Fi R := lazyN_eq _
def schema_Set_Find_g (n : Nat) : Gx R := typed 2 schema_Set_Find_d fun x k => schema_Set_Find_F n x.1 x.2.1 (fun y0 y1 y2 => k (.tu [(encA ty82 y0), (.c (.i .i64 y1))]) [(.box true 80 [(.ow 1)]), (.arr 82 ty82 y2)])
def schema_Set_Find_cs (R : Type) (n : Nat) : List (Nat × Gx R) := [(43, schema_Set_find_g n)]
def schema_Set_Find_cx (R : Type) (n : Nat) : Cx R := ⟨Try.prog, Gof (schema_Set_Find_cs R n), noDs, noDx, noLp, drawP Try.prog (Gof (schema_Set_Find_cs R n)), true, noJn, noFz⟩
theorem schema_Set_Find_ok (n : Nat) : Good Try.prog 102 (schema_Set_Find_g (R := R) n) := by
  unfold schema_Set_Find_g
  rw [schema_Set_Find_e]
  exact Good.fn (cx := schema_Set_Find_cx R n) (by kernel_rfl) (AllGood.cons (schema_Set_find_ok n) (AllGood.nil)) rfl Try.func102 (by kernel_rfl) rfl trivial 2 schema_Set_Find_d (by kernel_rfl) (fun x k => by kernel_rfl)
end
end Go.Proofs.Ytikikmkfeeljgaa.E
set_option linter.unusedVariables false
set_option maxRecDepth 100000
namespace Go.Proofs.Ytikikmkfeeljgaa.E
open Go.Proofs
noncomputable section
variable {R : Type}
/-! (*verderer/schema.Set).Columns: function 96 -/
@[reducible] def schema_Set_Columns_d : Desc := ⟨[(0, .pt 0 0), (1, .d .str)], [.box true 80 [.ow 1], .arr 82 ty82]⟩
def schema_Set_Columns_Fi (n : Nat) (a0 : ByteArray) (a1 : (List ty82.D)) (k0 : Int → (List ty82.D) → (List ty63.D) → Option R) : Option R :=
  if (a0.toList == (⟨#[116, 101, 110, 97, 110, 116]⟩ : ByteArray).toList) = true then (schema_text_F n (⟨#[110, 97, 109, 101]⟩ : ByteArray) (fun y1 => schema_text_F n (⟨#[112, 97, 114, 101, 110, 116]⟩ : ByteArray) (fun y2 => k0 0 a1 [y1, y2]))) else (schema_Set_Find_F n a0 a1 (fun y3 y4 y5 => if (y4 != 0) = true then (k0 y4 y5 ([] : List ty63.D)) else (schema_text_F n (⟨#[115, 112, 97, 99, 101]⟩ : ByteArray) (fun y6 => schema_text_F n (⟨#[110, 97, 109, 101]⟩ : ByteArray) (fun y7 => if (List.length [y6, y7] + List.length y3.2.1) * 32 ≤ 140737488355328 then (k0 0 y5 ([y6, y7] ++ y3.2.1)) else none)))))
def schema_Set_Columns_F {R : Type} := lazyN (@schema_Set_Columns_Fi R)
theorem schema_Set_Columns_e : @schema_Set_Columns_F R = @schema_Set_Columns_Fi R := lazyN_eq _
def schema_Set_Columns_g (n : Nat) : Gx R := typed 2 schema_Set_Columns_d fun x k => schema_Set_Columns_F n x.1 x.2.1 (fun y0 y1 y2 => k (.tu [(.c (.ow 2)), (.c (.i .i64 y0))]) [(.box true 80 [(.ow 1)]), (.arr 82 ty82 y1), (.arr 63 ty63 y2)])
def schema_Set_Columns_cs (R : Type) (n : Nat) : List (Nat × Gx R) := [(101, schema_text_g n), (102, schema_Set_Find_g n)]
def schema_Set_Columns_cx (R : Type) (n : Nat) : Cx R := ⟨Try.prog, Gof (schema_Set_Columns_cs R n), noDs, noDx, noLp, drawP Try.prog (Gof (schema_Set_Columns_cs R n)), false, noJn, noFz⟩
theorem schema_Set_Columns_ok (n : Nat) : Good Try.prog 96 (schema_Set_Columns_g (R := R) n) := by
  unfold schema_Set_Columns_g
  rw [schema_Set_Columns_e]
  exact Good.fn (cx := schema_Set_Columns_cx R n) (by kernel_rfl) (AllGood.cons (schema_text_ok n) (AllGood.cons (schema_Set_Find_ok n) (AllGood.nil))) rfl Try.func96 (by kernel_rfl) rfl trivial 2 schema_Set_Columns_d (by kernel_rfl) (fun x k => by kernel_rfl)
end
end Go.Proofs.Ytikikmkfeeljgaa.E
set_option linter.unusedVariables false
set_option maxRecDepth 100000
namespace Go.Proofs.Ytikikmkfeeljgaa.E
open Go.Proofs
noncomputable section
variable {R : Type}
/-! (*verderer/types.env).columns$1: function 97 -/
@[reducible] def types_env_columns_1_d : Desc := ⟨[(0, .d ty82), (1, .pt 0 0)], [.box true 9 [.d .str]]⟩
def types_env_columns_1_Fi (n : Nat) (a0 : ty82.D) (a1 : ByteArray) (k0 : Bool → ByteArray → Option R) : Option R :=
  k0 (a0.1.toList == a1.toList) a1
def types_env_columns_1_F {R : Type} := lazyN (@types_env_columns_1_Fi R)
theorem types_env_columns_1_e : @types_env_columns_1_F R = @types_env_columns_1_Fi R := lazyN_eq _
def types_env_columns_1_g (n : Nat) : Gx R := typed 2 types_env_columns_1_d fun x k => types_env_columns_1_F n x.1 x.2.1 (fun y0 y1 => k (.a (.c (.b y0))) [(.box true 9 [(.s y1)])])
def types_env_columns_1_cs (R : Type) (n : Nat) : List (Nat × Gx R) := []
def types_env_columns_1_cx (R : Type) (n : Nat) : Cx R := ⟨Try.prog, Gof (types_env_columns_1_cs R n), noDs, noDx, noLp, drawP Try.prog (Gof (types_env_columns_1_cs R n)), false, noJn, noFz⟩
theorem types_env_columns_1_ok (n : Nat) : Good Try.prog 97 (types_env_columns_1_g (R := R) n) := by
  unfold types_env_columns_1_g
  rw [types_env_columns_1_e]
  exact Good.fn (cx := types_env_columns_1_cx R n) (by kernel_rfl) (AllGood.nil) rfl Try.func97 (by kernel_rfl) rfl trivial 2 types_env_columns_1_d (by kernel_rfl) (fun x k => by kernel_rfl)
end
end Go.Proofs.Ytikikmkfeeljgaa.E
set_option linter.unusedVariables false
set_option maxRecDepth 100000
namespace Go.Proofs.Ytikikmkfeeljgaa.E
open Go.Proofs
noncomputable section
variable {R : Type}
/-! slices.IndexFunc[[]verderer/api.Schema,verderer/api.Schema]: function 61 -/
def slices_IndexFunc_61_v1_ds : Nat → Desc
  | 2 => ⟨[(0, .d (.sl ty82)), (1, .fn 97 [0]), (7, .d (.int .i64)), (8, .d (.int .i64))], [.box true 9 [.d .str]]⟩
  | _ => ⟨[], []⟩
def slices_IndexFunc_61_v1_dx : Nat → List (X × Desc)
  | 2 => [(.r, ⟨[(4, .d (.int .i64))], [.box true 9 [.d .str]]⟩), (.e 0, ⟨[], [.box true 9 [.d .str]]⟩)]
  | _ => []
def slices_IndexFunc_61_v1_s2 (n : Nat) (x0 : (List ty82.D)) (x1 : Int) (x2 : Int) (x3 : ByteArray) (k1 : (List ty82.D) → Int → Int → ByteArray → Option R) (qr : Int → ByteArray → Option R) (qe0 : ByteArray → Option R) : Option R :=
  if (decide (x2 < x1)) = true then (if (0 : Int) ≤ x2 ∧ x2 < (x0.length : Int) then (types_env_columns_1_F n (x0.getD (Int.toNat x2) (Ty.z ty82)) x3 (fun y1 y2 => if y1 = true then (qr x2 y2) else (k1 x0 x1 (IntKind.i64.wrap (x2 + 1)) y2))) else none) else (qe0 x3)
def slices_IndexFunc_61_v1_l2 (n : Nat) (a : (slices_IndexFunc_61_v1_ds 2).D) (k1 : (slices_IndexFunc_61_v1_ds 2).D → Option R) (k2 : exK R (slices_IndexFunc_61_v1_dx 2)) : Option R :=
  slices_IndexFunc_61_v1_s2 n a.1 a.2.1 a.2.2.1 a.2.2.2.1 (fun x0 x1 x2 x3 => k1 (x0, x1, x2, x3, ())) (fun x0 x1 => k2.1 (x0, x1, ())) (fun x0 => k2.2.1 (x0, ()))
@[reducible] def slices_IndexFunc_61_v1_d : Desc := ⟨[(0, .d (.sl ty82)), (1, .fn 97 [0])], [.box true 9 [.d .str]]⟩
def slices_IndexFunc_61_v1_Fi (n : Nat) (a0 : (List ty82.D)) (a1 : ByteArray) (k0 : Int → ByteArray → Option R) : Option R :=
  runC (slices_IndexFunc_61_v1_l2 n) n (a0, (a0.length : Int), 0, a1, ()) (fun b4 => k0 b4.1 b4.2.1, fun b5 => k0 (-1) b5.1, ())
def slices_IndexFunc_61_v1_F {R : Type} := lazyN (@slices_IndexFunc_61_v1_Fi R)
theorem slices_IndexFunc_61_v1_e : @slices_IndexFunc_61_v1_F R = @slices_IndexFunc_61_v1_Fi R := lazyN_eq _
def slices_IndexFunc_61_v1_g (n : Nat) : Gx R := typed 2 slices_IndexFunc_61_v1_d fun x k => slices_IndexFunc_61_v1_F n x.1 x.2.1 (fun y0 y1 => k (.a (.c (.i .i64 y0))) [(.box true 9 [(.s y1)])])
def slices_IndexFunc_61_v1_cs (R : Type) (n : Nat) : List (Nat × Gx R) := [(97, types_env_columns_1_g n)]
def slices_IndexFunc_61_v1_lp (n : Nat) : (i : Nat) → (slices_IndexFunc_61_v1_ds i).D → exK R (slices_IndexFunc_61_v1_dx i) → Option R
  | 2, a, k => runC (slices_IndexFunc_61_v1_l2 n) n a k
  | _, _, _ => none
def slices_IndexFunc_61_v1_cx (R : Type) (n : Nat) : Cx R := ⟨Try.prog, Gof (slices_IndexFunc_61_v1_cs R n), slices_IndexFunc_61_v1_ds, slices_IndexFunc_61_v1_dx, slices_IndexFunc_61_v1_lp n, drawP Try.prog (Gof (slices_IndexFunc_61_v1_cs R n)), false, noJn, noFz⟩
theorem slices_IndexFunc_61_v1_ok (n : Nat) : Good Try.prog 61 (slices_IndexFunc_61_v1_g (R := R) n) := by
  unfold slices_IndexFunc_61_v1_g
  rw [slices_IndexFunc_61_v1_e]
  exact Good.fn (cx := slices_IndexFunc_61_v1_cx R n) (by kernel_rfl) (AllGood.cons (types_env_columns_1_ok n) (AllGood.nil)) rfl Try.func61 (by kernel_rfl) rfl (by
    have e : fnLoops noJn Try.f61 = [((fnLoops noJn Try.f61)[0]?).getD (false, .skip)] := by kernel_rfl
    show LoopRuns _ _ (fnLoops noJn _)
    rw [e]
    exact ⟨LoopRun.loop (by kernel_rfl) (i := 2) (m := n) (step := slices_IndexFunc_61_v1_l2 n) (by kernel_rfl) (fun a k1 k2 => by kernel_rfl) (fun _ _ => rfl), trivial⟩) 2 slices_IndexFunc_61_v1_d (by kernel_rfl) (fun x k => by kernel_rfl)
end
end Go.Proofs.Ytikikmkfeeljgaa.E
set_option linter.unusedVariables false
set_option maxRecDepth 100000
namespace Go.Proofs.Ytikikmkfeeljgaa.E
open Go.Proofs
noncomputable section
variable {R : Type}
/-! (*verderer/types.env).columns: function 88 -/
@[reducible] def types_env_columns_d : Desc := ⟨[(0, .pt 0 0), (1, .d .str)], [.box true 95 [.pt 1 0, .d (.sl ty82), .mp 3, .ow 4], .box true 80 [.ow 2], .arr 82 ty82, .mpp 63 .str ty63, .arr 9 .str]⟩
def types_env_columns_Fi (n : Nat) (a0 : ByteArray) (a1 : (List ty82.D)) (a2 : (List ty82.D)) (a3 : (List (ByteArray × ty63.D))) (a4 : (List ByteArray)) (k0 : Int → (List ty82.D) → (List ty82.D) → (List (ByteArray × ty63.D)) → (List ByteArray) → (List ty63.D) → Option R) (k1 : (List ty63.D) → Int → (List ty82.D) → (List ty82.D) → (List (ByteArray × ty63.D)) → (List ByteArray) → Option R) : Option R :=
  schema_Set_Columns_F n a0 a2 (fun y1 y2 y3 => if (y1 == 0) = true then (k0 y1 a1 y2 a3 a4 y3) else (slices_IndexFunc_61_v1_F n a1 a0 (fun y4 y5 => if (decide (y4 < 0)) = true then (k0 20 a1 y2 a3 a4 ([] : List ty63.D)) else (if (0 : Int) ≤ y4 ∧ y4 < (a1.length : Int) then (k1 ((a1.getD (Int.toNat y4) (Ty.z ty82)).2.1) 0 a1 y2 a3 a4) else none))))
def types_env_columns_F {R : Type} := lazyN (@types_env_columns_Fi R)
theorem types_env_columns_e : @types_env_columns_F R = @types_env_columns_Fi R := lazyN_eq _
def types_env_columns_g (n : Nat) : Gx R := typed 2 types_env_columns_d fun x k => types_env_columns_F n x.1 x.2.1 x.2.2.1 x.2.2.2.1 x.2.2.2.2.1 (fun y0 y1 y2 y3 y4 y5 => k (.tu [(.c (.ow 5)), (.c (.i .i64 y0))]) [(.box true 95 [(.pt 1 0), (.fz ty82 y1), (.mp 3), (.ow 4)]), (.box true 80 [(.ow 2)]), (.arr 82 ty82 y2), (.mp (some 63) .str ty63 y3), (.arr 9 .str y4), (.arr 63 ty63 y5)]) (fun y0 y1 y2 y3 y4 y5 => k (.tu [(.c (.fz ty63 y0)), (.c (.i .i64 y1))]) [(.box true 95 [(.pt 1 0), (.fz ty82 y2), (.mp 3), (.ow 4)]), (.box true 80 [(.ow 2)]), (.arr 82 ty82 y3), (.mp (some 63) .str ty63 y4), (.arr 9 .str y5)])
def types_env_columns_cs (R : Type) (n : Nat) : List (Nat × Gx R) := [(61, slices_IndexFunc_61_v1_g n), (96, schema_Set_Columns_g n)]
def types_env_columns_cx (R : Type) (n : Nat) : Cx R := ⟨Try.prog, Gof (types_env_columns_cs R n), noDs, noDx, noLp, drawP Try.prog (Gof (types_env_columns_cs R n)), false, noJn, noFz⟩
theorem types_env_columns_ok (n : Nat) : Good Try.prog 88 (types_env_columns_g (R := R) n) := by
  unfold types_env_columns_g
  rw [types_env_columns_e]
  exact Good.fn (cx := types_env_columns_cx R n) (by kernel_rfl) (AllGood.cons (slices_IndexFunc_61_v1_ok n) (AllGood.cons (schema_Set_Columns_ok n) (AllGood.nil))) rfl Try.func88 (by kernel_rfl) rfl trivial 2 types_env_columns_d (by kernel_rfl) (fun x k => by kernel_rfl)
end
end Go.Proofs.Ytikikmkfeeljgaa.E
set_option linter.unusedVariables false
set_option maxRecDepth 100000
namespace Go.Proofs.Ytikikmkfeeljgaa.E
open Go.Proofs
noncomputable section
variable {R : Type}
/-! (*verderer/types.env).known: function 98 -/
@[reducible] def types_env_known_d : Desc := ⟨[(0, .pt 0 0), (1, .d .str), (2, .d ty63), (3, .d .bool)], [.box true 95 [.pt 1 0, .d (.sl ty82), .mp 3, .ow 4], .box true 80 [.ow 2], .arr 82 ty82, .mpp 63 .str ty63, .arr 9 .str]⟩
def types_env_known_Fi (n : Nat) (a0 : ByteArray) (a1 : ty63.D) (a2 : Bool) (a3 : (List ty82.D)) (a4 : (List ty82.D)) (a5 : (List (ByteArray × ty63.D))) (a6 : (List ByteArray)) (k0 : Bool → (List ty82.D) → (List ty82.D) → (List (ByteArray × ty63.D)) → (List ByteArray) → Option R) : Option R :=
  if (mhas (kt := .str) (vt := ty63) a5 a0) = true then (if a2 = true then (if (midx (kt := .str) (vt := ty63) a5 a0) < a5.length then (if (((a5.getD (midx (kt := .str) (vt := ty63) a5 a0) (Ty.z .str, Ty.z ty63)).2).2.1 == a1.2.1) = true then (if (midx (kt := .str) (vt := ty63) a5 a0) < a5.length then (if ((a5.getD (midx (kt := .str) (vt := ty63) a5 a0) (Ty.z .str, Ty.z ty63)).2).2.2.1 = true then (if (midx (kt := .str) (vt := ty63) a5 a0) < a5.length then (if (midx (kt := .str) (vt := ty63) a5 a0) < (a5.set (midx (kt := .str) (vt := ty63) a5 a0) ((a5.getD (midx (kt := .str) (vt := ty63) a5 a0) (Ty.z .str, Ty.z ty63)).1, (((a5.getD (midx (kt := .str) (vt := ty63) a5 a0) (Ty.z .str, Ty.z ty63)).2).1, ((a5.getD (midx (kt := .str) (vt := ty63) a5 a0) (Ty.z .str, Ty.z ty63)).2).2.1, a1.2.2.1, ()))).length then (k0 ((((a5.set (midx (kt := .str) (vt := ty63) a5 a0) ((a5.getD (midx (kt := .str) (vt := ty63) a5 a0) (Ty.z .str, Ty.z ty63)).1, (((a5.getD (midx (kt := .str) (vt := ty63) a5 a0) (Ty.z .str, Ty.z ty63)).2).1, ((a5.getD (midx (kt := .str) (vt := ty63) a5 a0) (Ty.z .str, Ty.z ty63)).2).2.1, a1.2.2.1, ()))).getD (midx (kt := .str) (vt := ty63) a5 a0) (Ty.z .str, Ty.z ty63)).2).2.1 == a1.2.1) a3 a4 (a5.set (midx (kt := .str) (vt := ty63) a5 a0) ((a5.getD (midx (kt := .str) (vt := ty63) a5 a0) (Ty.z .str, Ty.z ty63)).1, (((a5.getD (midx (kt := .str) (vt := ty63) a5 a0) (Ty.z .str, Ty.z ty63)).2).1, ((a5.getD (midx (kt := .str) (vt := ty63) a5 a0) (Ty.z .str, Ty.z ty63)).2).2.1, a1.2.2.1, ()))) a6) else none) else none) else (if (midx (kt := .str) (vt := ty63) a5 a0) < a5.length then (if (midx (kt := .str) (vt := ty63) a5 a0) < (a5.set (midx (kt := .str) (vt := ty63) a5 a0) ((a5.getD (midx (kt := .str) (vt := ty63) a5 a0) (Ty.z .str, Ty.z ty63)).1, (((a5.getD (midx (kt := .str) (vt := ty63) a5 a0) (Ty.z .str, Ty.z ty63)).2).1, ((a5.getD (midx (kt := .str) (vt := ty63) a5 a0) (Ty.z .str, Ty.z ty63)).2).2.1, false, ()))).length then (k0 ((((a5.set (midx (kt := .str) (vt := ty63) a5 a0) ((a5.getD (midx (kt := .str) (vt := ty63) a5 a0) (Ty.z .str, Ty.z ty63)).1, (((a5.getD (midx (kt := .str) (vt := ty63) a5 a0) (Ty.z .str, Ty.z ty63)).2).1, ((a5.getD (midx (kt := .str) (vt := ty63) a5 a0) (Ty.z .str, Ty.z ty63)).2).2.1, false, ()))).getD (midx (kt := .str) (vt := ty63) a5 a0) (Ty.z .str, Ty.z ty63)).2).2.1 == a1.2.1) a3 a4 (a5.set (midx (kt := .str) (vt := ty63) a5 a0) ((a5.getD (midx (kt := .str) (vt := ty63) a5 a0) (Ty.z .str, Ty.z ty63)).1, (((a5.getD (midx (kt := .str) (vt := ty63) a5 a0) (Ty.z .str, Ty.z ty63)).2).1, ((a5.getD (midx (kt := .str) (vt := ty63) a5 a0) (Ty.z .str, Ty.z ty63)).2).2.1, false, ()))) a6) else none) else none)) else none) else (if (midx (kt := .str) (vt := ty63) a5 a0) < a5.length then (k0 (((a5.getD (midx (kt := .str) (vt := ty63) a5 a0) (Ty.z .str, Ty.z ty63)).2).2.1 == a1.2.1) a3 a4 a5 a6) else none)) else none) else (if (midx (kt := .str) (vt := ty63) a5 a0) < a5.length then (k0 (((a5.getD (midx (kt := .str) (vt := ty63) a5 a0) (Ty.z .str, Ty.z ty63)).2).2.1 == a1.2.1) a3 a4 a5 a6) else none)) else (if a2 = true then (if (mhas (kt := .str) (vt := ty63) a5 a0) = true then none else (if (List.length a6 + List.length [a0]) * 16 ≤ 140737488355328 then (k0 true a3 a4 (a5 ++ [(a0, (a0, a1.2.1, a1.2.2.1, ()))]) (a6 ++ [a0])) else none)) else (k0 true a3 a4 a5 a6))
def types_env_known_F {R : Type} := lazyN (@types_env_known_Fi R)
theorem types_env_known_e : @types_env_known_F R = @types_env_known_Fi R := lazyN_eq _
def types_env_known_g (n : Nat) : Gx R := typed 4 types_env_known_d fun x k => types_env_known_F n x.1 x.2.1 x.2.2.1 x.2.2.2.1 x.2.2.2.2.1 x.2.2.2.2.2.1 x.2.2.2.2.2.2.1 (fun y0 y1 y2 y3 y4 => k (.a (.c (.b y0))) [(.box true 95 [(.pt 1 0), (.fz ty82 y1), (.mp 3), (.ow 4)]), (.box true 80 [(.ow 2)]), (.arr 82 ty82 y2), (.mp (some 63) .str ty63 y3), (.arr 9 .str y4)])
def types_env_known_cs (R : Type) (n : Nat) : List (Nat × Gx R) := []
def types_env_known_cx (R : Type) (n : Nat) : Cx R := ⟨Try.prog, Gof (types_env_known_cs R n), noDs, noDx, noLp, drawP Try.prog (Gof (types_env_known_cs R n)), false, noJn, noFz⟩
theorem types_env_known_ok (n : Nat) : Good Try.prog 98 (types_env_known_g (R := R) n) := by
  unfold types_env_known_g
  rw [types_env_known_e]
  exact Good.fn (cx := types_env_known_cx R n) (by kernel_rfl) (AllGood.nil) rfl Try.func98 (by kernel_rfl) rfl trivial 4 types_env_known_d (by kernel_rfl) (fun x k => by kernel_rfl)
end
end Go.Proofs.Ytikikmkfeeljgaa.E
set_option linter.unusedVariables false
set_option maxRecDepth 100000
namespace Go.Proofs.Ytikikmkfeeljgaa.E
open Go.Proofs
noncomputable section
variable {R : Type}
/-! (*verderer/types.env).arg: function 89 -/
@[reducible] def types_env_arg_d : Desc := ⟨[(0, .pt 0 0), (1, .d ty38), (2, .d ty63), (3, .d .bool)], [.box true 95 [.pt 1 0, .d (.sl ty82), .mp 3, .ow 4], .box true 80 [.ow 2], .arr 82 ty82, .mpp 63 .str ty63, .arr 9 .str]⟩
def types_env_arg_Fi (n : Nat) (a0 : ty38.D) (a1 : ty63.D) (a2 : Bool) (a3 : (List ty82.D)) (a4 : (List ty82.D)) (a5 : (List (ByteArray × ty63.D))) (a6 : (List ByteArray)) (k0 : Bool → (List ty82.D) → (List ty82.D) → (List (ByteArray × ty63.D)) → (List ByteArray) → Option R) : Option R :=
  if a0.2.1 = true then (k0 true a3 a4 a5 a6) else (if (!(a0.1.toList == (⟨#[]⟩ : ByteArray).toList)) = true then (types_env_known_F n a0.1 a1 a2 a3 a4 a5 a6 (fun y1 y2 y3 y4 y5 => k0 y1 y2 y3 y4 y5)) else (if (a0.2.2.1.1 == a1.2.1) = true then (k0 true a3 a4 a5 a6) else (if (a0.2.2.1.1 == 0) = true then (k0 a1.2.2.1 a3 a4 a5 a6) else (k0 false a3 a4 a5 a6))))
def types_env_arg_F {R : Type} := lazyN (@types_env_arg_Fi R)
theorem types_env_arg_e : @types_env_arg_F R = @types_env_arg_Fi R := lazyN_eq _
def types_env_arg_g (n : Nat) : Gx R := typed 4 types_env_arg_d fun x k => types_env_arg_F n x.1 x.2.1 x.2.2.1 x.2.2.2.1 x.2.2.2.2.1 x.2.2.2.2.2.1 x.2.2.2.2.2.2.1 (fun y0 y1 y2 y3 y4 => k (.a (.c (.b y0))) [(.box true 95 [(.pt 1 0), (.fz ty82 y1), (.mp 3), (.ow 4)]), (.box true 80 [(.ow 2)]), (.arr 82 ty82 y2), (.mp (some 63) .str ty63 y3), (.arr 9 .str y4)])
def types_env_arg_cs (R : Type) (n : Nat) : List (Nat × Gx R) := [(98, types_env_known_g n)]
def types_env_arg_cx (R : Type) (n : Nat) : Cx R := ⟨Try.prog, Gof (types_env_arg_cs R n), noDs, noDx, noLp, drawP Try.prog (Gof (types_env_arg_cs R n)), false, noJn, noFz⟩
theorem types_env_arg_ok (n : Nat) : Good Try.prog 89 (types_env_arg_g (R := R) n) := by
  unfold types_env_arg_g
  rw [types_env_arg_e]
  exact Good.fn (cx := types_env_arg_cx R n) (by kernel_rfl) (AllGood.cons (types_env_known_ok n) (AllGood.nil)) rfl Try.func89 (by kernel_rfl) rfl trivial 4 types_env_arg_d (by kernel_rfl) (fun x k => by kernel_rfl)
end
end Go.Proofs.Ytikikmkfeeljgaa.E
set_option linter.unusedVariables false
set_option maxRecDepth 100000
namespace Go.Proofs.Ytikikmkfeeljgaa.E
open Go.Proofs
noncomputable section
variable {R : Type}
/-! (*verderer/types.env).atom: function 79 -/
def types_env_atom_ds : Nat → Desc
  | 7 => ⟨[(0, .pt 0 0), (3, .pt 5 0), (5, .d (.sl ty63)), (28, .d (.sl ty38)), (29, .d (.int .i64)), (30, .d (.int .i64))], [.box true 95 [.pt 1 0, .d (.sl ty82), .mp 3, .ow 4], .box true 80 [.ow 2], .arr 82 ty82, .mpp 63 .str ty63, .arr 9 .str, .box false 41 [.d .bool, .d .str, .d (.sl ty38), .d (.int .i64)]]⟩
  | _ => ⟨[], []⟩
def types_env_atom_dx : Nat → List (X × Desc)
  | 7 => [(.r, ⟨[(4, .d (.int .i64))], [.box true 95 [.pt 1 0, .d (.sl ty82), .mp 3, .ow 4], .box true 80 [.ow 2], .arr 82 ty82, .mpp 63 .str ty63, .arr 9 .str]⟩), (.e 1, ⟨[], [.box true 95 [.pt 1 0, .d (.sl ty82), .mp 3, .ow 4], .box true 80 [.ow 2], .arr 82 ty82, .mpp 63 .str ty63, .arr 9 .str]⟩)]
  | _ => []
def types_env_atom_s7 (n : Nat) (x0 : (List ty63.D)) (x1 : (List ty38.D)) (x2 : Int) (x3 : Int) (x4 : (List ty82.D)) (x5 : (List ty82.D)) (x6 : (List (ByteArray × ty63.D))) (x7 : (List ByteArray)) (x8 : Bool) (x9 : ByteArray) (x10 : (List ty38.D)) (x11 : Int) (k1 : (List ty63.D) → (List ty38.D) → Int → Int → (List ty82.D) → (List ty82.D) → (List (ByteArray × ty63.D)) → (List ByteArray) → Bool → ByteArray → (List ty38.D) → Int → Option R) (qr : Int → (List ty82.D) → (List ty82.D) → (List (ByteArray × ty63.D)) → (List ByteArray) → Option R) (qe1 : (List ty82.D) → (List ty82.D) → (List (ByteArray × ty63.D)) → (List ByteArray) → Option R) : Option R :=
  if (decide (x3 < x2)) = true then (if (0 : Int) ≤ x3 ∧ x3 < (x1.length : Int) then (if (0 : Int) ≤ x3 ∧ x3 < (x0.length : Int) then (types_env_arg_F n ((x1.getD (Int.toNat x3) (Ty.z ty38)).1, (x1.getD (Int.toNat x3) (Ty.z ty38)).2.1, ((x1.getD (Int.toNat x3) (Ty.z ty38)).2.2.1), ()) (x0.getD (Int.toNat x3) (Ty.z ty63)) (!x8) x4 x5 x6 x7 (fun y7 y8 y9 y10 y11 => if (!y7) = true then (qr 11 y8 y9 y10 y11) else (k1 x0 x1 x2 (IntKind.i64.wrap (x3 + 1)) y8 y9 y10 y11 x8 x9 x10 x11))) else none) else none) else (qe1 x4 x5 x6 x7)
def types_env_atom_l7 (n : Nat) (a : (types_env_atom_ds 7).D) (k1 : (types_env_atom_ds 7).D → Option R) (k2 : exK R (types_env_atom_dx 7)) : Option R :=
  types_env_atom_s7 n a.1 a.2.1 a.2.2.1 a.2.2.2.1 a.2.2.2.2.1 a.2.2.2.2.2.1 a.2.2.2.2.2.2.1 a.2.2.2.2.2.2.2.1 a.2.2.2.2.2.2.2.2.1 a.2.2.2.2.2.2.2.2.2.1 a.2.2.2.2.2.2.2.2.2.2.1 a.2.2.2.2.2.2.2.2.2.2.2.1 (fun x0 x1 x2 x3 x4 x5 x6 x7 x8 x9 x10 x11 => k1 (x0, x1, x2, x3, x4, x5, x6, x7, x8, x9, x10, x11, ())) (fun x0 x1 x2 x3 x4 => k2.1 (x0, x1, x2, x3, x4, ())) (fun x0 x1 x2 x3 => k2.2.1 (x0, x1, x2, x3, ()))
@[reducible] def types_env_atom_d : Desc := ⟨[(0, .pt 0 0), (1, .d ty41)], [.box true 95 [.pt 1 0, .d (.sl ty82), .mp 3, .ow 4], .box true 80 [.ow 2], .arr 82 ty82, .mpp 63 .str ty63, .arr 9 .str]⟩
def types_env_atom_Fi (n : Nat) (a0 : ty41.D) (a1 : (List ty82.D)) (a2 : (List ty82.D)) (a3 : (List (ByteArray × ty63.D))) (a4 : (List ByteArray)) (k0 : Int → (List ty82.D) → (List ty82.D) → (List (ByteArray × ty63.D)) → (List ByteArray) → Option R) : Option R :=
  types_env_columns_F n a0.2.1 a1 a2 a3 a4 (fun y1 y2 y3 y4 y5 y6 => if (y1 != 0) = true then (k0 y1 y2 y3 y4 y5) else (if ((y6.length : Int) != (a0.2.2.1.length : Int)) = true then (k0 9 y2 y3 y4 y5) else (runC (types_env_atom_l7 n) n (y6, a0.2.2.1, (a0.2.2.1.length : Int), 0, y2, y3, y4, y5, a0.1, a0.2.1, a0.2.2.1, a0.2.2.2.1, ()) (fun b16 => k0 b16.1 b16.2.1 b16.2.2.1 b16.2.2.2.1 b16.2.2.2.2.1, fun b20 => k0 0 b20.1 b20.2.1 b20.2.2.1 b20.2.2.2.1, ())))) (fun y21 y22 y23 y24 y25 y26 => if (y22 != 0) = true then (k0 y22 y23 y24 y25 y26) else (if ((y21.length : Int) != (a0.2.2.1.length : Int)) = true then (k0 9 y23 y24 y25 y26) else (runC (types_env_atom_l7 n) n (y21, a0.2.2.1, (a0.2.2.1.length : Int), 0, y23, y24, y25, y26, a0.1, a0.2.1, a0.2.2.1, a0.2.2.2.1, ()) (fun b31 => k0 b31.1 b31.2.1 b31.2.2.1 b31.2.2.2.1 b31.2.2.2.2.1, fun b35 => k0 0 b35.1 b35.2.1 b35.2.2.1 b35.2.2.2.1, ()))))
def types_env_atom_F {R : Type} := lazyN (@types_env_atom_Fi R)
theorem types_env_atom_e : @types_env_atom_F R = @types_env_atom_Fi R := lazyN_eq _
def types_env_atom_g (n : Nat) : Gx R := typed 2 types_env_atom_d fun x k => types_env_atom_F n x.1 x.2.1 x.2.2.1 x.2.2.2.1 x.2.2.2.2.1 (fun y0 y1 y2 y3 y4 => k (.a (.c (.i .i64 y0))) [(.box true 95 [(.pt 1 0), (.fz ty82 y1), (.mp 3), (.ow 4)]), (.box true 80 [(.ow 2)]), (.arr 82 ty82 y2), (.mp (some 63) .str ty63 y3), (.arr 9 .str y4)])
def types_env_atom_cs (R : Type) (n : Nat) : List (Nat × Gx R) := [(88, types_env_columns_g n), (89, types_env_arg_g n)]
def types_env_atom_lp (n : Nat) : (i : Nat) → (types_env_atom_ds i).D → exK R (types_env_atom_dx i) → Option R
  | 7, a, k => runC (types_env_atom_l7 n) n a k
  | _, _, _ => none
def types_env_atom_cx (R : Type) (n : Nat) : Cx R := ⟨Try.prog, Gof (types_env_atom_cs R n), types_env_atom_ds, types_env_atom_dx, types_env_atom_lp n, drawP Try.prog (Gof (types_env_atom_cs R n)), false, noJn, (fun i => match i with | 6 => [6] | _ => [])⟩
theorem types_env_atom_ok (n : Nat) : Good Try.prog 79 (types_env_atom_g (R := R) n) := by
  unfold types_env_atom_g
  rw [types_env_atom_e]
  exact Good.fn (cx := types_env_atom_cx R n) (by kernel_rfl) (AllGood.cons (types_env_columns_ok n) (AllGood.cons (types_env_arg_ok n) (AllGood.nil))) rfl Try.func79 (by kernel_rfl) rfl (by
    have e : fnLoops noJn Try.f79 = [((fnLoops noJn Try.f79)[0]?).getD (false, .skip)] := by kernel_rfl
    show LoopRuns _ _ (fnLoops noJn _)
    rw [e]
    exact ⟨LoopRun.loop (by kernel_rfl) (i := 7) (m := n) (step := types_env_atom_l7 n) (by kernel_rfl) (fun a k1 k2 => by kernel_rfl) (fun _ _ => rfl), trivial⟩) 2 types_env_atom_d (by kernel_rfl) (fun x k => by kernel_rfl)
end
end Go.Proofs.Ytikikmkfeeljgaa.E
set_option linter.unusedVariables false
set_option maxRecDepth 100000
namespace Go.Proofs.Ytikikmkfeeljgaa.E
open Go.Proofs
noncomputable section
variable {R : Type}
/-! (*verderer/types.env).kind: function 90 -/
@[reducible] def types_env_kind_d : Desc := ⟨[(0, .pt 0 0), (1, .d ty38)], [.box true 95 [.pt 1 0, .d (.sl ty82), .mp 3, .ow 4], .box true 80 [.ow 2], .arr 82 ty82, .mpp 63 .str ty63, .arr 9 .str]⟩
def types_env_kind_Fi (n : Nat) (a0 : ty38.D) (a1 : (List ty82.D)) (a2 : (List ty82.D)) (a3 : (List (ByteArray × ty63.D))) (a4 : (List ByteArray)) (k0 : Int → (List ty82.D) → (List ty82.D) → (List (ByteArray × ty63.D)) → (List ByteArray) → Option R) : Option R :=
  if a0.2.1 = true then (k0 0 a1 a2 a3 a4) else (if (a0.1.toList == (⟨#[]⟩ : ByteArray).toList) = true then (k0 a0.2.2.1.1 a1 a2 a3 a4) else (if (mhas (kt := .str) (vt := ty63) a3 a0.1) = true then (if (midx (kt := .str) (vt := ty63) a3 a0.1) < a3.length then (k0 (((a3.getD (midx (kt := .str) (vt := ty63) a3 a0.1) (Ty.z .str, Ty.z ty63)).2).2.1) a1 a2 a3 a4) else none) else (k0 0 a1 a2 a3 a4)))
def types_env_kind_F {R : Type} := lazyN (@types_env_kind_Fi R)
theorem types_env_kind_e : @types_env_kind_F R = @types_env_kind_Fi R := lazyN_eq _
def types_env_kind_g (n : Nat) : Gx R := typed 2 types_env_kind_d fun x k => types_env_kind_F n x.1 x.2.1 x.2.2.1 x.2.2.2.1 x.2.2.2.2.1 (fun y0 y1 y2 y3 y4 => k (.a (.c (.i .i64 y0))) [(.box true 95 [(.pt 1 0), (.fz ty82 y1), (.mp 3), (.ow 4)]), (.box true 80 [(.ow 2)]), (.arr 82 ty82 y2), (.mp (some 63) .str ty63 y3), (.arr 9 .str y4)])
def types_env_kind_cs (R : Type) (n : Nat) : List (Nat × Gx R) := []
def types_env_kind_cx (R : Type) (n : Nat) : Cx R := ⟨Try.prog, Gof (types_env_kind_cs R n), noDs, noDx, noLp, drawP Try.prog (Gof (types_env_kind_cs R n)), false, noJn, noFz⟩
theorem types_env_kind_ok (n : Nat) : Good Try.prog 90 (types_env_kind_g (R := R) n) := by
  unfold types_env_kind_g
  rw [types_env_kind_e]
  exact Good.fn (cx := types_env_kind_cx R n) (by kernel_rfl) (AllGood.nil) rfl Try.func90 (by kernel_rfl) rfl trivial 2 types_env_kind_d (by kernel_rfl) (fun x k => by kernel_rfl)
end
end Go.Proofs.Ytikikmkfeeljgaa.E
set_option linter.unusedVariables false
set_option maxRecDepth 100000
namespace Go.Proofs.Ytikikmkfeeljgaa.E
open Go.Proofs
noncomputable section
variable {R : Type}
/-! (*verderer/types.env).comparison: function 80 -/
@[reducible] def types_env_comparison_d : Desc := ⟨[(0, .pt 0 0), (1, .d ty41)], [.box true 95 [.pt 1 0, .d (.sl ty82), .mp 3, .ow 4], .box true 80 [.ow 2], .arr 82 ty82, .mpp 63 .str ty63, .arr 9 .str]⟩
def types_env_comparison_Fi (n : Nat) (a0 : ty41.D) (a1 : (List ty82.D)) (a2 : (List ty82.D)) (a3 : (List (ByteArray × ty63.D))) (a4 : (List ByteArray)) (k0 : Int → (List ty82.D) → (List ty82.D) → (List (ByteArray × ty63.D)) → (List ByteArray) → Option R) : Option R :=
  if ((a0.2.2.1.length : Int) != 2) = true then (k0 9 a1 a2 a3 a4) else (if (0 : Int) ≤ 0 ∧ 0 < (a0.2.2.1.length : Int) then (if (0 : Int) ≤ 1 ∧ 1 < (a0.2.2.1.length : Int) then (types_env_kind_F n ((a0.2.2.1.getD (Int.toNat 0) (Ty.z ty38)).1, (a0.2.2.1.getD (Int.toNat 0) (Ty.z ty38)).2.1, ((a0.2.2.1.getD (Int.toNat 0) (Ty.z ty38)).2.2.1), ()) a1 a2 a3 a4 (fun y1 y2 y3 y4 y5 => types_env_kind_F n ((a0.2.2.1.getD (Int.toNat 1) (Ty.z ty38)).1, (a0.2.2.1.getD (Int.toNat 1) (Ty.z ty38)).2.1, ((a0.2.2.1.getD (Int.toNat 1) (Ty.z ty38)).2.2.1), ()) y2 y3 y4 y5 (fun y6 y7 y8 y9 y10 => if (y1 != 0) = true then (if (y6 != 0) = true then (if (y1 != y6) = true then (k0 11 y7 y8 y9 y10) else (k0 0 y7 y8 y9 y10)) else (k0 0 y7 y8 y9 y10)) else (k0 0 y7 y8 y9 y10)))) else none) else none)
def types_env_comparison_F {R : Type} := lazyN (@types_env_comparison_Fi R)
theorem types_env_comparison_e : @types_env_comparison_F R = @types_env_comparison_Fi R := lazyN_eq _
def types_env_comparison_g (n : Nat) : Gx R := typed 2 types_env_comparison_d fun x k => types_env_comparison_F n x.1 x.2.1 x.2.2.1 x.2.2.2.1 x.2.2.2.2.1 (fun y0 y1 y2 y3 y4 => k (.a (.c (.i .i64 y0))) [(.box true 95 [(.pt 1 0), (.fz ty82 y1), (.mp 3), (.ow 4)]), (.box true 80 [(.ow 2)]), (.arr 82 ty82 y2), (.mp (some 63) .str ty63 y3), (.arr 9 .str y4)])
def types_env_comparison_cs (R : Type) (n : Nat) : List (Nat × Gx R) := [(90, types_env_kind_g n)]
def types_env_comparison_cx (R : Type) (n : Nat) : Cx R := ⟨Try.prog, Gof (types_env_comparison_cs R n), noDs, noDx, noLp, drawP Try.prog (Gof (types_env_comparison_cs R n)), false, noJn, noFz⟩
theorem types_env_comparison_ok (n : Nat) : Good Try.prog 80 (types_env_comparison_g (R := R) n) := by
  unfold types_env_comparison_g
  rw [types_env_comparison_e]
  exact Good.fn (cx := types_env_comparison_cx R n) (by kernel_rfl) (AllGood.cons (types_env_kind_ok n) (AllGood.nil)) rfl Try.func80 (by kernel_rfl) rfl trivial 2 types_env_comparison_d (by kernel_rfl) (fun x k => by kernel_rfl)
end
end Go.Proofs.Ytikikmkfeeljgaa.E
