/- A text of the proof that the law GuardAll returns true: nothing is assumed in it. -/
import Derived.Test.YtikikmkfeeljgaaMGuardAll3
import Derived.Test.YtikikmkfeeljgaaProg
import Derived.KernelRfl
import Derived.ChangeArms
import Derived.ChangeSame
import Derived.WideLaws
import Derived.Deep.Slices
import Derived.Laws.Bits64
set_option linter.unusedVariables false
set_option linter.unusedSimpArgs false
set_option linter.unusedVariables false
set_option maxRecDepth 100000
namespace Go.Proofs.Ytikikmkfeeljgaa.E
open Go.Proofs
noncomputable section
variable {R : Type}
/-! verderer/guard.vars: function 30 -/
def guard_vars_ds : Nat → Desc
  | 3 => ⟨[(3, .ow 2), (7, .d (.sl ty38)), (8, .d (.int .i64)), (9, .d (.int .i64))], [.no, .no, .arr 9 .str]⟩
  | _ => ⟨[], []⟩
def guard_vars_dx : Nat → List (X × Desc)
  | 3 => [(.e 0, ⟨[(3, .ow 2)], [.no, .no, .arr 9 .str]⟩)]
  | _ => []
def guard_vars_s3 (n : Nat) (x0 : (List ty38.D)) (x1 : Int) (x2 : Int) (x3 : (List ByteArray)) (k1 : (List ty38.D) → Int → Int → (List ByteArray) → Option R) (qe0 : (List ByteArray) → Option R) : Option R :=
  if (decide (x2 < x1)) = true then (if 0 ≤ x2 ∧ x2 < (x0.length : Int) then (if (!(x0.getD (Int.toNat x2) (Ty.z ty38)).2.1) = true then (if (!(((x0.getD (Int.toNat x2) (Ty.z ty38)).1).toList == (⟨#[]⟩ : ByteArray).toList)) = true then (if (List.length x3 + List.length [(x0.getD (Int.toNat x2) (Ty.z ty38)).1]) * 16 ≤ 140737488355328 then (k1 x0 x1 (IntKind.i64.wrap (x2 + 1)) (x3 ++ [(x0.getD (Int.toNat x2) (Ty.z ty38)).1])) else none) else (k1 x0 x1 (IntKind.i64.wrap (x2 + 1)) x3)) else (k1 x0 x1 (IntKind.i64.wrap (x2 + 1)) x3)) else none) else (qe0 x3)
def guard_vars_l3 (n : Nat) (a : (guard_vars_ds 3).D) (k1 : (guard_vars_ds 3).D → Option R) (k2 : exK R (guard_vars_dx 3)) : Option R :=
  guard_vars_s3 n a.1 a.2.1 a.2.2.1 a.2.2.2.1 (fun x0 x1 x2 x3 => k1 (x0, x1, x2, x3, ())) (fun x0 => k2.1 (x0, ()))
@[reducible] def guard_vars_d : Desc := ⟨[(0, .d ty41)], []⟩
def guard_vars_Fi (n : Nat) (a0 : ty41.D) (k0 : (List ByteArray) → Option R) : Option R :=
  runC (guard_vars_l3 n) n (a0.2.2.1, (a0.2.2.1.length : Int), 0, ([] : List ByteArray), ()) (fun b1 => k0 b1.1, ())
def guard_vars_F {R : Type} := lazyN (@guard_vars_Fi R)
theorem guard_vars_e : @guard_vars_F R = @guard_vars_Fi R := lazyN_eq _
def guard_vars_g (n : Nat) : Gx R := typed 1 guard_vars_d fun x k => guard_vars_F n x.1 (fun y0 => k (.a (.c (.ow 0))) [(.arr 9 .str y0)])
def guard_vars_cs (R : Type) (n : Nat) : List (Nat × Gx R) := []
def guard_vars_lp (n : Nat) : (i : Nat) → (guard_vars_ds i).D → exK R (guard_vars_dx i) → Option R
  | 3, a, k => runC (guard_vars_l3 n) n a k
  | _, _, _ => none
def guard_vars_cx (R : Type) (n : Nat) : Cx R := ⟨Try.prog, Gof (guard_vars_cs R n), guard_vars_ds, guard_vars_dx, guard_vars_lp n, drawP Try.prog (Gof (guard_vars_cs R n)), false, noJn, noFz⟩
theorem guard_vars_ok (n : Nat) : Good Try.prog 30 (guard_vars_g (R := R) n) := by
  unfold guard_vars_g
  rw [guard_vars_e]
  exact Good.fn (cx := guard_vars_cx R n) (by kernel_rfl) (AllGood.nil) rfl Try.func30 (by kernel_rfl) rfl (by
    have e : fnLoops noJn Try.f30 = [((fnLoops noJn Try.f30)[0]?).getD (false, .skip)] := by kernel_rfl
    show LoopRuns _ _ (fnLoops noJn _)
    rw [e]
    exact ⟨LoopRun.loop (by kernel_rfl) (i := 3) (m := n) (step := guard_vars_l3 n) (by kernel_rfl) (fun a k1 k2 => by kernel_rfl) (fun _ _ => rfl), trivial⟩) 1 guard_vars_d (by kernel_rfl) (fun x k => by kernel_rfl)
end
end Go.Proofs.Ytikikmkfeeljgaa.E
set_option linter.unusedVariables false
set_option maxRecDepth 100000
namespace Go.Proofs.Ytikikmkfeeljgaa.E
open Go.Proofs
noncomputable section
variable {R : Type}
/-! slices.Index[[]string,string]: function 53 -/
def slices_Index_53_ds : Nat → Desc
  | 2 => ⟨[(0, .d (.sl .str)), (1, .d .str), (7, .d (.int .i64)), (8, .d (.int .i64))], []⟩
  | _ => ⟨[], []⟩
def slices_Index_53_dx : Nat → List (X × Desc)
  | 2 => [(.r, ⟨[(4, .d (.int .i64))], []⟩), (.e 0, ⟨[], []⟩)]
  | _ => []
def slices_Index_53_s2 (n : Nat) (x0 : (List ByteArray)) (x1 : ByteArray) (x2 : Int) (x3 : Int) (k1 : (List ByteArray) → ByteArray → Int → Int → Option R) (qr : Int → Option R) (qe0 : Option R) : Option R :=
  if (decide (x3 < x2)) = true then (if 0 ≤ x3 ∧ x3 < (x0.length : Int) then (if (x1.toList == (x0.getD (Int.toNat x3) (Ty.z .str)).toList) = true then (qr x3) else (k1 x0 x1 x2 (IntKind.i64.wrap (x3 + 1)))) else none) else qe0
def slices_Index_53_l2 (n : Nat) (a : (slices_Index_53_ds 2).D) (k1 : (slices_Index_53_ds 2).D → Option R) (k2 : exK R (slices_Index_53_dx 2)) : Option R :=
  slices_Index_53_s2 n a.1 a.2.1 a.2.2.1 a.2.2.2.1 (fun x0 x1 x2 x3 => k1 (x0, x1, x2, x3, ())) (fun x0 => k2.1 (x0, ())) (k2.2.1 (()))
@[reducible] def slices_Index_53_d : Desc := ⟨[(0, .d (.sl .str)), (1, .d .str)], []⟩
def slices_Index_53_Fi (n : Nat) (a0 : (List ByteArray)) (a1 : ByteArray) (k0 : Int → Option R) : Option R :=
  runC (slices_Index_53_l2 n) n (a0, a1, (a0.length : Int), 0, ()) (fun b1 => k0 b1.1, fun b1 => k0 (-1), ())
def slices_Index_53_F {R : Type} := lazyN (@slices_Index_53_Fi R)
theorem slices_Index_53_e : @slices_Index_53_F R = @slices_Index_53_Fi R := lazyN_eq _
def slices_Index_53_g (n : Nat) : Gx R := typed 2 slices_Index_53_d fun x k => slices_Index_53_F n x.1 x.2.1 (fun y0 => k (.a (.c (.i .i64 y0))) [])
def slices_Index_53_cs (R : Type) (n : Nat) : List (Nat × Gx R) := []
def slices_Index_53_lp (n : Nat) : (i : Nat) → (slices_Index_53_ds i).D → exK R (slices_Index_53_dx i) → Option R
  | 2, a, k => runC (slices_Index_53_l2 n) n a k
  | _, _, _ => none
def slices_Index_53_cx (R : Type) (n : Nat) : Cx R := ⟨Try.prog, Gof (slices_Index_53_cs R n), slices_Index_53_ds, slices_Index_53_dx, slices_Index_53_lp n, drawP Try.prog (Gof (slices_Index_53_cs R n)), false, noJn, noFz⟩
theorem slices_Index_53_ok (n : Nat) : Good Try.prog 53 (slices_Index_53_g (R := R) n) := by
  unfold slices_Index_53_g
  rw [slices_Index_53_e]
  exact Good.fn (cx := slices_Index_53_cx R n) (by kernel_rfl) (AllGood.nil) rfl Try.func53 (by kernel_rfl) rfl (by
    have e : fnLoops noJn Try.f53 = [((fnLoops noJn Try.f53)[0]?).getD (false, .skip)] := by kernel_rfl
    show LoopRuns _ _ (fnLoops noJn _)
    rw [e]
    exact ⟨LoopRun.loop (by kernel_rfl) (i := 2) (m := n) (step := slices_Index_53_l2 n) (by kernel_rfl) (fun a k1 k2 => by kernel_rfl) (fun _ _ => rfl), trivial⟩) 2 slices_Index_53_d (by kernel_rfl) (fun x k => by kernel_rfl)
end
end Go.Proofs.Ytikikmkfeeljgaa.E
set_option linter.unusedVariables false
set_option maxRecDepth 100000
namespace Go.Proofs.Ytikikmkfeeljgaa.E
open Go.Proofs
noncomputable section
variable {R : Type}
/-! slices.Contains[[]string,string]: function 28 -/
@[reducible] def slices_Contains_28_d : Desc := ⟨[(0, .d (.sl .str)), (1, .d .str)], []⟩
def slices_Contains_28_Fi (n : Nat) (a0 : (List ByteArray)) (a1 : ByteArray) (k0 : Bool → Option R) : Option R :=
  slices_Index_53_F n a0 a1 (fun y1 => k0 (decide (y1 ≥ 0)))
def slices_Contains_28_F {R : Type} := lazyN (@slices_Contains_28_Fi R)
theorem slices_Contains_28_e : @slices_Contains_28_F R = @slices_Contains_28_Fi R := lazyN_eq _
def slices_Contains_28_g (n : Nat) : Gx R := typed 2 slices_Contains_28_d fun x k => slices_Contains_28_F n x.1 x.2.1 (fun y0 => k (.a (.c (.b y0))) [])
def slices_Contains_28_cs (R : Type) (n : Nat) : List (Nat × Gx R) := [(53, slices_Index_53_g n)]
def slices_Contains_28_cx (R : Type) (n : Nat) : Cx R := ⟨Try.prog, Gof (slices_Contains_28_cs R n), noDs, noDx, noLp, drawP Try.prog (Gof (slices_Contains_28_cs R n)), false, noJn, noFz⟩
theorem slices_Contains_28_ok (n : Nat) : Good Try.prog 28 (slices_Contains_28_g (R := R) n) := by
  unfold slices_Contains_28_g
  rw [slices_Contains_28_e]
  exact Good.fn (cx := slices_Contains_28_cx R n) (by kernel_rfl) (AllGood.cons (slices_Index_53_ok n) (AllGood.nil)) rfl Try.func28 (by kernel_rfl) rfl trivial 2 slices_Contains_28_d (by kernel_rfl) (fun x k => by kernel_rfl)
end
end Go.Proofs.Ytikikmkfeeljgaa.E
set_option linter.unusedVariables false
set_option maxRecDepth 100000
namespace Go.Proofs.Ytikikmkfeeljgaa.E
open Go.Proofs
noncomputable section
variable {R : Type}
/-! verderer/guard.Bound: function 15 -/
def guard_Bound_ds : Nat → Desc
  | 7 => ⟨[(3, .ow 2), (9, .d (.sl ty41)), (10, .d (.int .i64)), (11, .d (.int .i64)), (19, .ow 5), (20, .d (.int .i64)), (21, .d (.int .i64))], [.no, .no, .arr 9 .str, .no, .no, .arr 9 .str]⟩
  | 3 => ⟨[(3, .ow 2), (9, .d (.sl ty41)), (10, .d (.int .i64)), (11, .d (.int .i64))], [.no, .no, .arr 9 .str]⟩
  | _ => ⟨[], []⟩
def guard_Bound_dx : Nat → List (X × Desc)
  | 7 => [(.e 2, ⟨[(3, .ow 2), (9, .d (.sl ty41)), (10, .d (.int .i64)), (11, .d (.int .i64))], [.no, .no, .arr 9 .str]⟩)]
  | 3 => [(.e 0, ⟨[(3, .ow 2)], [.no, .no, .arr 9 .str]⟩)]
  | _ => []
def guard_Bound_s7 (n : Nat) (x0 : (List ty41.D)) (x1 : Int) (x2 : Int) (x3 : Int) (x4 : Int) (x5 : (List ByteArray)) (x6 : (List ByteArray)) (k1 : (List ty41.D) → Int → Int → Int → Int → (List ByteArray) → (List ByteArray) → Option R) (qe2 : (List ty41.D) → Int → Int → (List ByteArray) → Option R) : Option R :=
  if (decide (x4 < x3)) = true then (if 0 ≤ x4 ∧ x4 < (x6.length : Int) then (if (Int.toNat x4) < x6.length then (slices_Contains_28_F n x5 (x6.getD (Int.toNat x4) (Ty.z .str)) (fun y3 => if (!y3) = true then (if (List.length x5 + List.length [(x6.getD (Int.toNat x4) (Ty.z .str))]) * 16 ≤ 140737488355328 then (k1 x0 x1 x2 x3 (IntKind.i64.wrap (x4 + 1)) (x5 ++ [(x6.getD (Int.toNat x4) (Ty.z .str))]) x6) else none) else (k1 x0 x1 x2 x3 (IntKind.i64.wrap (x4 + 1)) x5 x6))) else none) else none) else (qe2 x0 x1 x2 x5)
def guard_Bound_l7 (n : Nat) (a : (guard_Bound_ds 7).D) (k1 : (guard_Bound_ds 7).D → Option R) (k2 : exK R (guard_Bound_dx 7)) : Option R :=
  guard_Bound_s7 n a.1 a.2.1 a.2.2.1 a.2.2.2.1 a.2.2.2.2.1 a.2.2.2.2.2.1 a.2.2.2.2.2.2.1 (fun x0 x1 x2 x3 x4 x5 x6 => k1 (x0, x1, x2, x3, x4, x5, x6, ())) (fun x0 x1 x2 x3 => k2.1 (x0, x1, x2, x3, ()))
def guard_Bound_s3 (n : Nat) (x0 : (List ty41.D)) (x1 : Int) (x2 : Int) (x3 : (List ByteArray)) (k1 : (List ty41.D) → Int → Int → (List ByteArray) → Option R) (qe0 : (List ByteArray) → Option R) : Option R :=
  if (decide (x2 < x1)) = true then (if 0 ≤ x2 ∧ x2 < (x0.length : Int) then (guard_binds_F n (x0.getD (Int.toNat x2) (Ty.z ty41)) (fun y1 => if (!y1) = true then (k1 x0 x1 (IntKind.i64.wrap (x2 + 1)) x3) else (guard_vars_F n (x0.getD (Int.toNat x2) (Ty.z ty41)) (fun y2 => runC (guard_Bound_l7 n) n (x0, x1, x2, (y2.length : Int), 0, x3, y2, ()) (fun b7 => k1 b7.1 b7.2.1 (IntKind.i64.wrap (b7.2.2.1 + 1)) b7.2.2.2.1, ()))))) else none) else (qe0 x3)
def guard_Bound_l3 (n : Nat) (a : (guard_Bound_ds 3).D) (k1 : (guard_Bound_ds 3).D → Option R) (k2 : exK R (guard_Bound_dx 3)) : Option R :=
  guard_Bound_s3 n a.1 a.2.1 a.2.2.1 a.2.2.2.1 (fun x0 x1 x2 x3 => k1 (x0, x1, x2, x3, ())) (fun x0 => k2.1 (x0, ()))
@[reducible] def guard_Bound_d : Desc := ⟨[(0, .d ty25)], []⟩
def guard_Bound_Fi (n : Nat) (a0 : ty25.D) (k0 : (List ByteArray) → Option R) : Option R :=
  runC (guard_Bound_l3 n) n (a0.2.2.2.2.2.2.1, (a0.2.2.2.2.2.2.1.length : Int), 0, ([] : List ByteArray), ()) (fun b8 => k0 b8.1, ())
def guard_Bound_F {R : Type} := lazyN (@guard_Bound_Fi R)
theorem guard_Bound_e : @guard_Bound_F R = @guard_Bound_Fi R := lazyN_eq _
def guard_Bound_g (n : Nat) : Gx R := typed 1 guard_Bound_d fun x k => guard_Bound_F n x.1 (fun y0 => k (.a (.c (.ow 0))) [(.arr 9 .str y0)])
def guard_Bound_cs (R : Type) (n : Nat) : List (Nat × Gx R) := [(28, slices_Contains_28_g n), (29, guard_binds_g n), (30, guard_vars_g n)]
def guard_Bound_lp (n : Nat) : (i : Nat) → (guard_Bound_ds i).D → exK R (guard_Bound_dx i) → Option R
  | 7, a, k => runC (guard_Bound_l7 n) n a k
  | 3, a, k => runC (guard_Bound_l3 n) n a k
  | _, _, _ => none
def guard_Bound_cx (R : Type) (n : Nat) : Cx R := ⟨Try.prog, Gof (guard_Bound_cs R n), guard_Bound_ds, guard_Bound_dx, guard_Bound_lp n, drawP Try.prog (Gof (guard_Bound_cs R n)), false, noJn, noFz⟩
theorem guard_Bound_ok (n : Nat) : Good Try.prog 15 (guard_Bound_g (R := R) n) := by
  unfold guard_Bound_g
  rw [guard_Bound_e]
  exact Good.fn (cx := guard_Bound_cx R n) (by kernel_rfl) (AllGood.cons (slices_Contains_28_ok n) (AllGood.cons (guard_binds_ok n) (AllGood.cons (guard_vars_ok n) (AllGood.nil)))) rfl Try.func15 (by kernel_rfl) rfl (by
    have e : fnLoops noJn Try.f15 = [((fnLoops noJn Try.f15)[0]?).getD (false, .skip), ((fnLoops noJn Try.f15)[1]?).getD (false, .skip)] := by kernel_rfl
    show LoopRuns _ _ (fnLoops noJn _)
    rw [e]
    exact ⟨LoopRun.loop (by kernel_rfl) (i := 3) (m := n) (step := guard_Bound_l3 n) (by kernel_rfl) (fun a k1 k2 => by kernel_rfl) (fun _ _ => rfl), ⟨LoopRun.loop (by kernel_rfl) (i := 7) (m := n) (step := guard_Bound_l7 n) (by kernel_rfl) (fun a k1 k2 => by kernel_rfl) (fun _ _ => rfl), trivial⟩⟩) 1 guard_Bound_d (by kernel_rfl) (fun x k => by kernel_rfl)
end
end Go.Proofs.Ytikikmkfeeljgaa.E
set_option linter.unusedVariables false
set_option maxRecDepth 100000
namespace Go.Proofs.Ytikikmkfeeljgaa.E
open Go.Proofs
noncomputable section
variable {R : Type}
/-! slices.Clone[[]string,string]: function 52 -/
@[reducible] def slices_Clone_52_d : Desc := ⟨[(0, .d (.sl .str))], []⟩
def slices_Clone_52_Fi (n : Nat) (a0 : (List ByteArray)) (k0 : (List ByteArray) → Option R) : Option R :=
  if (List.length ([] : List ByteArray) + List.length a0) * 16 ≤ 140737488355328 then (k0 (([] : List ByteArray) ++ a0)) else none
def slices_Clone_52_F {R : Type} := lazyN (@slices_Clone_52_Fi R)
theorem slices_Clone_52_e : @slices_Clone_52_F R = @slices_Clone_52_Fi R := lazyN_eq _
def slices_Clone_52_g (n : Nat) : Gx R := typed 1 slices_Clone_52_d fun x k => slices_Clone_52_F n x.1 (fun y0 => k (.a (.c (.ow 0))) [(.arr 9 .str y0)])
def slices_Clone_52_cs (R : Type) (n : Nat) : List (Nat × Gx R) := []
def slices_Clone_52_cx (R : Type) (n : Nat) : Cx R := ⟨Try.prog, Gof (slices_Clone_52_cs R n), noDs, noDx, noLp, drawP Try.prog (Gof (slices_Clone_52_cs R n)), false, noJn, noFz⟩
theorem slices_Clone_52_ok (n : Nat) : Good Try.prog 52 (slices_Clone_52_g (R := R) n) := by
  unfold slices_Clone_52_g
  rw [slices_Clone_52_e]
  exact Good.nilOr (cx := slices_Clone_52_cx R n) (by kernel_rfl) (AllGood.nil) rfl Try.func52 (by kernel_rfl) rfl trivial .str (by kernel_rfl) (fun k => by kernel_rfl) (fun x k => by kernel_rfl)
end
end Go.Proofs.Ytikikmkfeeljgaa.E
set_option linter.unusedVariables false
set_option maxRecDepth 100000
namespace Go.Proofs.Ytikikmkfeeljgaa.E
open Go.Proofs
noncomputable section
variable {R : Type}
/-! verderer/guard.told: function 27 -/
@[reducible] def guard_told_d : Desc := ⟨[(0, .d ty25)], []⟩
def guard_told_Fi (n : Nat) (a0 : ty25.D) (k0 : (List ByteArray) → Option R) : Option R :=
  slices_Clone_52_F n a0.2.2.1 (fun y1 => if (decide (a0.2.2.2.1 ≥ 2)) = true then (if (decide (a0.2.2.2.1 ≤ 4)) = true then (if (List.length y1 + List.length [a0.2.2.2.2.1]) * 16 ≤ 140737488355328 then (k0 (y1 ++ [a0.2.2.2.2.1])) else none) else (k0 y1)) else (k0 y1))
def guard_told_F {R : Type} := lazyN (@guard_told_Fi R)
theorem guard_told_e : @guard_told_F R = @guard_told_Fi R := lazyN_eq _
def guard_told_g (n : Nat) : Gx R := typed 1 guard_told_d fun x k => guard_told_F n x.1 (fun y0 => k (.a (.c (.ow 0))) [(.arr 9 .str y0)])
def guard_told_cs (R : Type) (n : Nat) : List (Nat × Gx R) := [(52, slices_Clone_52_g n)]
def guard_told_cx (R : Type) (n : Nat) : Cx R := ⟨Try.prog, Gof (guard_told_cs R n), noDs, noDx, noLp, drawP Try.prog (Gof (guard_told_cs R n)), false, noJn, noFz⟩
theorem guard_told_ok (n : Nat) : Good Try.prog 27 (guard_told_g (R := R) n) := by
  unfold guard_told_g
  rw [guard_told_e]
  exact Good.fn (cx := guard_told_cx R n) (by kernel_rfl) (AllGood.cons (slices_Clone_52_ok n) (AllGood.nil)) rfl Try.func27 (by kernel_rfl) rfl trivial 1 guard_told_d (by kernel_rfl) (fun x k => by kernel_rfl)
end
end Go.Proofs.Ytikikmkfeeljgaa.E
set_option linter.unusedVariables false
set_option maxRecDepth 100000
namespace Go.Proofs.Ytikikmkfeeljgaa.E
open Go.Proofs
noncomputable section
variable {R : Type}
/-! verderer/guard.Free: function 10 -/
def guard_Free_ds : Nat → Desc
  | 3 => ⟨[(1, .pt 0 0), (5, .ow 1), (18, .ow 2), (19, .d (.int .i64)), (20, .d (.int .i64))], [.box false 25 [.d (.int .i64), .d .str, .d (.sl .str), .d (.int .i64), .d .str, .d (.int .i64), .d (.sl ty41)], .arr 9 .str, .arr 9 .str]⟩
  | 14 => ⟨[(5, .ow 1), (8, .d .str), (9, .d (.int .i64)), (10, .d .bool), (11, .d (.int .i64)), (31, .d (.sl ty41)), (32, .d (.int .i64)), (33, .d (.int .i64)), (41, .ow 4), (42, .d (.int .i64)), (43, .d (.int .i64))], [.no, .arr 9 .str, .no, .no, .arr 9 .str]⟩
  | 10 => ⟨[(5, .ow 1), (8, .d .str), (9, .d (.int .i64)), (10, .d .bool), (31, .d (.sl ty41)), (32, .d (.int .i64)), (33, .d (.int .i64))], [.no, .arr 9 .str]⟩
  | _ => ⟨[], []⟩
def guard_Free_dx : Nat → List (X × Desc)
  | 3 => [(.r, ⟨[(2, .d .str), (3, .d (.int .i64)), (4, .d .bool)], []⟩), (.e 0, ⟨[(1, .pt 0 0), (5, .ow 1)], [.box false 25 [.d (.int .i64), .d .str, .d (.sl .str), .d (.int .i64), .d .str, .d (.int .i64), .d (.sl ty41)], .arr 9 .str]⟩)]
  | 14 => [(.e 2, ⟨[(8, .d .str), (9, .d (.int .i64)), (10, .d .bool)], []⟩), (.e 4, ⟨[(5, .ow 1), (8, .d .str), (9, .d (.int .i64)), (10, .d .bool), (31, .d (.sl ty41)), (32, .d (.int .i64)), (33, .d (.int .i64))], [.no, .arr 9 .str]⟩)]
  | 10 => [(.e 2, ⟨[(8, .d .str), (9, .d (.int .i64)), (10, .d .bool)], []⟩)]
  | _ => []
def guard_Free_s3 (n : Nat) (x0 : Int) (x1 : Int) (x2 : Int) (x3 : ByteArray) (x4 : (List ByteArray)) (x5 : Int) (x6 : ByteArray) (x7 : Int) (x8 : (List ty41.D)) (x9 : (List ByteArray)) (x10 : (List ByteArray)) (k1 : Int → Int → Int → ByteArray → (List ByteArray) → Int → ByteArray → Int → (List ty41.D) → (List ByteArray) → (List ByteArray) → Option R) (qr : ByteArray → Int → Bool → Option R) (qe0 : Int → ByteArray → (List ByteArray) → Int → ByteArray → Int → (List ty41.D) → (List ByteArray) → Option R) : Option R :=
  if (decide (x1 < x0)) = true then (if 0 ≤ x1 ∧ x1 < (x10.length : Int) then (if (Int.toNat x1) < x10.length then (slices_Contains_28_F n x9 (x10.getD (Int.toNat x1) (Ty.z .str)) (fun y3 => if (!y3) = true then (qr (x10.getD (Int.toNat x1) (Ty.z .str)) (-1) true) else (k1 x0 (IntKind.i64.wrap (x1 + 1)) x2 x3 x4 x5 x6 x7 x8 x9 x10))) else none) else none) else (qe0 x2 x3 x4 x5 x6 x7 x8 x9)
def guard_Free_l3 (n : Nat) (a : (guard_Free_ds 3).D) (k1 : (guard_Free_ds 3).D → Option R) (k2 : exK R (guard_Free_dx 3)) : Option R :=
  guard_Free_s3 n a.1 a.2.1 a.2.2.1 a.2.2.2.1 a.2.2.2.2.1 a.2.2.2.2.2.1 a.2.2.2.2.2.2.1 a.2.2.2.2.2.2.2.1 a.2.2.2.2.2.2.2.2.1 a.2.2.2.2.2.2.2.2.2.1 a.2.2.2.2.2.2.2.2.2.2.1 (fun x0 x1 x2 x3 x4 x5 x6 x7 x8 x9 x10 => k1 (x0, x1, x2, x3, x4, x5, x6, x7, x8, x9, x10, ())) (fun x0 x1 x2 => k2.1 (x0, x1, x2, ())) (fun x0 x1 x2 x3 x4 x5 x6 x7 => k2.2.1 (x0, x1, x2, x3, x4, x5, x6, x7, ()))
def guard_Free_s14 (n : Nat) (x0 : ByteArray) (x1 : Int) (x2 : Bool) (x3 : Int) (x4 : (List ty41.D)) (x5 : Int) (x6 : Int) (x7 : Int) (x8 : Int) (x9 : (List ByteArray)) (x10 : (List ByteArray)) (k1 : ByteArray → Int → Bool → Int → (List ty41.D) → Int → Int → Int → Int → (List ByteArray) → (List ByteArray) → Option R) (qe2 : ByteArray → Int → Bool → Option R) (qe4 : ByteArray → Int → Bool → (List ty41.D) → Int → Int → (List ByteArray) → Option R) : Option R :=
  if (decide (x8 < x7)) = true then (if 0 ≤ x8 ∧ x8 < (x10.length : Int) then (if (Int.toNat x8) < x10.length then (slices_Contains_28_F n x9 (x10.getD (Int.toNat x8) (Ty.z .str)) (fun y17 => if (!y17) = true then (qe2 (x10.getD (Int.toNat x8) (Ty.z .str)) x3 true) else (k1 x0 x1 x2 x3 x4 x5 x6 x7 (IntKind.i64.wrap (x8 + 1)) x9 x10))) else none) else none) else (qe4 x0 x1 x2 x4 x5 x6 x9)
def guard_Free_l14 (n : Nat) (a : (guard_Free_ds 14).D) (k1 : (guard_Free_ds 14).D → Option R) (k2 : exK R (guard_Free_dx 14)) : Option R :=
  guard_Free_s14 n a.1 a.2.1 a.2.2.1 a.2.2.2.1 a.2.2.2.2.1 a.2.2.2.2.2.1 a.2.2.2.2.2.2.1 a.2.2.2.2.2.2.2.1 a.2.2.2.2.2.2.2.2.1 a.2.2.2.2.2.2.2.2.2.1 a.2.2.2.2.2.2.2.2.2.2.1 (fun x0 x1 x2 x3 x4 x5 x6 x7 x8 x9 x10 => k1 (x0, x1, x2, x3, x4, x5, x6, x7, x8, x9, x10, ())) (fun x0 x1 x2 => k2.1 (x0, x1, x2, ())) (fun x0 x1 x2 x3 x4 x5 x6 => k2.2.1 (x0, x1, x2, x3, x4, x5, x6, ()))
def guard_Free_s10 (n : Nat) (x0 : ByteArray) (x1 : Int) (x2 : Bool) (x3 : (List ty41.D)) (x4 : Int) (x5 : Int) (x6 : (List ByteArray)) (k1 : ByteArray → Int → Bool → (List ty41.D) → Int → Int → (List ByteArray) → Option R) (qe2 : ByteArray → Int → Bool → Option R) : Option R :=
  if (decide (x5 < x4)) = true then (if 0 ≤ x5 ∧ x5 < (x3.length : Int) then (guard_binds_F n (x3.getD (Int.toNat x5) (Ty.z ty41)) (fun y15 => if y15 = true then (k1 x0 x1 x2 x3 x4 (IntKind.i64.wrap (x5 + 1)) x6) else (guard_vars_F n (x3.getD (Int.toNat x5) (Ty.z ty41)) (fun y16 => runC (guard_Free_l14 n) n (x0, x1, x2, x5, x3, x4, x5, (y16.length : Int), 0, x6, y16, ()) (fun b20 => qe2 b20.1 b20.2.1 b20.2.2.1, fun b27 => k1 b27.1 b27.2.1 b27.2.2.1 b27.2.2.2.1 b27.2.2.2.2.1 (IntKind.i64.wrap (b27.2.2.2.2.2.1 + 1)) b27.2.2.2.2.2.2.1, ()))))) else none) else (qe2 x0 x1 x2)
def guard_Free_l10 (n : Nat) (a : (guard_Free_ds 10).D) (k1 : (guard_Free_ds 10).D → Option R) (k2 : exK R (guard_Free_dx 10)) : Option R :=
  guard_Free_s10 n a.1 a.2.1 a.2.2.1 a.2.2.2.1 a.2.2.2.2.1 a.2.2.2.2.2.1 a.2.2.2.2.2.2.1 (fun x0 x1 x2 x3 x4 x5 x6 => k1 (x0, x1, x2, x3, x4, x5, x6, ())) (fun x0 x1 x2 => k2.1 (x0, x1, x2, ()))
@[reducible] def guard_Free_d : Desc := ⟨[(0, .d ty25)], []⟩
def guard_Free_Fi (n : Nat) (a0 : ty25.D) (k0 : ByteArray → Int → Bool → Option R) : Option R :=
  guard_Bound_F n a0 (fun y1 => guard_told_F n a0 (fun y2 => runC (guard_Free_l3 n) n ((y2.length : Int), 0, a0.1, a0.2.1, a0.2.2.1, a0.2.2.2.1, a0.2.2.2.2.1, a0.2.2.2.2.2.1, a0.2.2.2.2.2.2.1, y1, y2, ()) (fun b6 => k0 b6.1 b6.2.1 b6.2.2.1, fun b14 => runC (guard_Free_l10 n) n ((⟨#[]⟩ : ByteArray), 0, false, b14.2.2.2.2.2.2.1, (b14.2.2.2.2.2.2.1.length : Int), 0, b14.2.2.2.2.2.2.2.1, ()) (fun b30 => k0 b30.1 b30.2.1 b30.2.2.1, ()), ())))
def guard_Free_F {R : Type} := lazyN (@guard_Free_Fi R)
theorem guard_Free_e : @guard_Free_F R = @guard_Free_Fi R := lazyN_eq _
def guard_Free_g (n : Nat) : Gx R := typed 1 guard_Free_d fun x k => guard_Free_F n x.1 (fun y0 y1 y2 => k (.tu [(.c (.s y0)), (.c (.i .i64 y1)), (.c (.b y2))]) [])
def guard_Free_cs (R : Type) (n : Nat) : List (Nat × Gx R) := [(15, guard_Bound_g n), (27, guard_told_g n), (28, slices_Contains_28_g n), (29, guard_binds_g n), (30, guard_vars_g n)]
def guard_Free_lp (n : Nat) : (i : Nat) → (guard_Free_ds i).D → exK R (guard_Free_dx i) → Option R
  | 3, a, k => runC (guard_Free_l3 n) n a k
  | 14, a, k => runC (guard_Free_l14 n) n a k
  | 10, a, k => runC (guard_Free_l10 n) n a k
  | _, _, _ => none
def guard_Free_cx (R : Type) (n : Nat) : Cx R := ⟨Try.prog, Gof (guard_Free_cs R n), guard_Free_ds, guard_Free_dx, guard_Free_lp n, drawP Try.prog (Gof (guard_Free_cs R n)), false, noJn, noFz⟩
theorem guard_Free_ok (n : Nat) : Good Try.prog 10 (guard_Free_g (R := R) n) := by
  unfold guard_Free_g
  rw [guard_Free_e]
  exact Good.fn (cx := guard_Free_cx R n) (by kernel_rfl) (AllGood.cons (guard_Bound_ok n) (AllGood.cons (guard_told_ok n) (AllGood.cons (slices_Contains_28_ok n) (AllGood.cons (guard_binds_ok n) (AllGood.cons (guard_vars_ok n) (AllGood.nil)))))) rfl Try.func10 (by kernel_rfl) rfl (by
    have e : fnLoops noJn Try.f10 = [((fnLoops noJn Try.f10)[0]?).getD (false, .skip), ((fnLoops noJn Try.f10)[1]?).getD (false, .skip), ((fnLoops noJn Try.f10)[2]?).getD (false, .skip)] := by kernel_rfl
    show LoopRuns _ _ (fnLoops noJn _)
    rw [e]
    exact ⟨LoopRun.loop (by kernel_rfl) (i := 3) (m := n) (step := guard_Free_l3 n) (by kernel_rfl) (fun a k1 k2 => by kernel_rfl) (fun _ _ => rfl), ⟨LoopRun.loop (by kernel_rfl) (i := 10) (m := n) (step := guard_Free_l10 n) (by kernel_rfl) (fun a k1 k2 => by kernel_rfl) (fun _ _ => rfl), ⟨LoopRun.loop (by kernel_rfl) (i := 14) (m := n) (step := guard_Free_l14 n) (by kernel_rfl) (fun a k1 k2 => by kernel_rfl) (fun _ _ => rfl), trivial⟩⟩⟩) 1 guard_Free_d (by kernel_rfl) (fun x k => by kernel_rfl)
end
end Go.Proofs.Ytikikmkfeeljgaa.E
set_option linter.unusedVariables false
set_option maxRecDepth 100000
namespace Go.Proofs.Ytikikmkfeeljgaa.E
open Go.Proofs
noncomputable section
variable {R : Type}
/-! slices.IndexFunc[[]verderer/api.Literal,verderer/api.Literal]: function 54 -/
def slices_IndexFunc_54_ds : Nat → Desc
  | 2 => ⟨[(0, .d (.sl ty41)), (1, .fn 29 []), (7, .d (.int .i64)), (8, .d (.int .i64))], []⟩
  | _ => ⟨[], []⟩
def slices_IndexFunc_54_dx : Nat → List (X × Desc)
  | 2 => [(.r, ⟨[(4, .d (.int .i64))], []⟩), (.e 0, ⟨[], []⟩)]
  | _ => []
def slices_IndexFunc_54_s2 (n : Nat) (x0 : (List ty41.D)) (x1 : Int) (x2 : Int) (k1 : (List ty41.D) → Int → Int → Option R) (qr : Int → Option R) (qe0 : Option R) : Option R :=
  if (decide (x2 < x1)) = true then (if 0 ≤ x2 ∧ x2 < (x0.length : Int) then (guard_binds_F n (x0.getD (Int.toNat x2) (Ty.z ty41)) (fun y1 => if y1 = true then (qr x2) else (k1 x0 x1 (IntKind.i64.wrap (x2 + 1))))) else none) else qe0
def slices_IndexFunc_54_l2 (n : Nat) (a : (slices_IndexFunc_54_ds 2).D) (k1 : (slices_IndexFunc_54_ds 2).D → Option R) (k2 : exK R (slices_IndexFunc_54_dx 2)) : Option R :=
  slices_IndexFunc_54_s2 n a.1 a.2.1 a.2.2.1 (fun x0 x1 x2 => k1 (x0, x1, x2, ())) (fun x0 => k2.1 (x0, ())) (k2.2.1 (()))
@[reducible] def slices_IndexFunc_54_d : Desc := ⟨[(0, .d (.sl ty41)), (1, .fn 29 [])], []⟩
def slices_IndexFunc_54_Fi (n : Nat) (a0 : (List ty41.D)) (k0 : Int → Option R) : Option R :=
  runC (slices_IndexFunc_54_l2 n) n (a0, (a0.length : Int), 0, ()) (fun b2 => k0 b2.1, fun b2 => k0 (-1), ())
def slices_IndexFunc_54_F {R : Type} := lazyN (@slices_IndexFunc_54_Fi R)
theorem slices_IndexFunc_54_e : @slices_IndexFunc_54_F R = @slices_IndexFunc_54_Fi R := lazyN_eq _
def slices_IndexFunc_54_g (n : Nat) : Gx R := typed 2 slices_IndexFunc_54_d fun x k => slices_IndexFunc_54_F n x.1 (fun y0 => k (.a (.c (.i .i64 y0))) [])
def slices_IndexFunc_54_cs (R : Type) (n : Nat) : List (Nat × Gx R) := [(29, guard_binds_g n)]
def slices_IndexFunc_54_lp (n : Nat) : (i : Nat) → (slices_IndexFunc_54_ds i).D → exK R (slices_IndexFunc_54_dx i) → Option R
  | 2, a, k => runC (slices_IndexFunc_54_l2 n) n a k
  | _, _, _ => none
def slices_IndexFunc_54_cx (R : Type) (n : Nat) : Cx R := ⟨Try.prog, Gof (slices_IndexFunc_54_cs R n), slices_IndexFunc_54_ds, slices_IndexFunc_54_dx, slices_IndexFunc_54_lp n, drawP Try.prog (Gof (slices_IndexFunc_54_cs R n)), false, noJn, noFz⟩
theorem slices_IndexFunc_54_ok (n : Nat) : Good Try.prog 54 (slices_IndexFunc_54_g (R := R) n) := by
  unfold slices_IndexFunc_54_g
  rw [slices_IndexFunc_54_e]
  exact Good.fn (cx := slices_IndexFunc_54_cx R n) (by kernel_rfl) (AllGood.cons (guard_binds_ok n) (AllGood.nil)) rfl Try.func54 (by kernel_rfl) rfl (by
    have e : fnLoops noJn Try.f54 = [((fnLoops noJn Try.f54)[0]?).getD (false, .skip)] := by kernel_rfl
    show LoopRuns _ _ (fnLoops noJn _)
    rw [e]
    exact ⟨LoopRun.loop (by kernel_rfl) (i := 2) (m := n) (step := slices_IndexFunc_54_l2 n) (by kernel_rfl) (fun a k1 k2 => by kernel_rfl) (fun _ _ => rfl), trivial⟩) 2 slices_IndexFunc_54_d (by kernel_rfl) (fun x k => by kernel_rfl)
end
end Go.Proofs.Ytikikmkfeeljgaa.E
set_option linter.unusedVariables false
set_option maxRecDepth 100000
namespace Go.Proofs.Ytikikmkfeeljgaa.E
open Go.Proofs
noncomputable section
variable {R : Type}
/-! slices.ContainsFunc[[]verderer/api.Literal,verderer/api.Literal]: function 33 -/
@[reducible] def slices_ContainsFunc_33_d : Desc := ⟨[(0, .d (.sl ty41)), (1, .fn 29 [])], []⟩
def slices_ContainsFunc_33_Fi (n : Nat) (a0 : (List ty41.D)) (k0 : Bool → Option R) : Option R :=
  slices_IndexFunc_54_F n a0 (fun y1 => k0 (decide (y1 ≥ 0)))
def slices_ContainsFunc_33_F {R : Type} := lazyN (@slices_ContainsFunc_33_Fi R)
theorem slices_ContainsFunc_33_e : @slices_ContainsFunc_33_F R = @slices_ContainsFunc_33_Fi R := lazyN_eq _
def slices_ContainsFunc_33_g (n : Nat) : Gx R := typed 2 slices_ContainsFunc_33_d fun x k => slices_ContainsFunc_33_F n x.1 (fun y0 => k (.a (.c (.b y0))) [])
def slices_ContainsFunc_33_cs (R : Type) (n : Nat) : List (Nat × Gx R) := [(54, slices_IndexFunc_54_g n)]
def slices_ContainsFunc_33_cx (R : Type) (n : Nat) : Cx R := ⟨Try.prog, Gof (slices_ContainsFunc_33_cs R n), noDs, noDx, noLp, drawP Try.prog (Gof (slices_ContainsFunc_33_cs R n)), false, noJn, noFz⟩
theorem slices_ContainsFunc_33_ok (n : Nat) : Good Try.prog 33 (slices_ContainsFunc_33_g (R := R) n) := by
  unfold slices_ContainsFunc_33_g
  rw [slices_ContainsFunc_33_e]
  exact Good.fn (cx := slices_ContainsFunc_33_cx R n) (by kernel_rfl) (AllGood.cons (slices_IndexFunc_54_ok n) (AllGood.nil)) rfl Try.func33 (by kernel_rfl) rfl trivial 2 slices_ContainsFunc_33_d (by kernel_rfl) (fun x k => by kernel_rfl)
end
end Go.Proofs.Ytikikmkfeeljgaa.E
set_option linter.unusedVariables false
set_option maxRecDepth 100000
namespace Go.Proofs.Ytikikmkfeeljgaa.E
open Go.Proofs
noncomputable section
variable {R : Type}
/-! verderer/guard.Check: function 12 -/
@[reducible] def guard_Check_d : Desc := ⟨[(0, .d ty25)], []⟩
def guard_Check_Fi (n : Nat) (a0 : ty25.D) (k0 : Int → Int → Option R) : Option R :=
  slices_ContainsFunc_33_F n a0.2.2.2.2.2.2.1 (fun y1 => if (!y1) = true then (k0 (-1) 12) else (guard_Free_F n a0 (fun y2 y3 y4 => if y4 = true then (k0 y3 12) else (k0 0 0))))
def guard_Check_F {R : Type} := lazyN (@guard_Check_Fi R)
theorem guard_Check_e : @guard_Check_F R = @guard_Check_Fi R := lazyN_eq _
def guard_Check_g (n : Nat) : Gx R := typed 1 guard_Check_d fun x k => guard_Check_F n x.1 (fun y0 y1 => k (.tu [(.c (.i .i64 y0)), (.c (.i .i64 y1))]) [])
def guard_Check_cs (R : Type) (n : Nat) : List (Nat × Gx R) := [(10, guard_Free_g n), (33, slices_ContainsFunc_33_g n)]
def guard_Check_cx (R : Type) (n : Nat) : Cx R := ⟨Try.prog, Gof (guard_Check_cs R n), noDs, noDx, noLp, drawP Try.prog (Gof (guard_Check_cs R n)), false, noJn, noFz⟩
theorem guard_Check_ok (n : Nat) : Good Try.prog 12 (guard_Check_g (R := R) n) := by
  unfold guard_Check_g
  rw [guard_Check_e]
  exact Good.fn (cx := guard_Check_cx R n) (by kernel_rfl) (AllGood.cons (guard_Free_ok n) (AllGood.cons (slices_ContainsFunc_33_ok n) (AllGood.nil))) rfl Try.func12 (by kernel_rfl) rfl trivial 1 guard_Check_d (by kernel_rfl) (fun x k => by kernel_rfl)
end
end Go.Proofs.Ytikikmkfeeljgaa.E
set_option linter.unusedVariables false
set_option maxRecDepth 100000
namespace Go.Proofs.Ytikikmkfeeljgaa.E
open Go.Proofs
noncomputable section
variable {R : Type}
/-! verderer/verdererlaw15.known: function 9 -/
@[reducible] def verdererlaw15_known_d : Desc := ⟨[], []⟩
def verdererlaw15_known_Fi (n : Nat) (k0 : Bool → Option R) : Option R :=
  verdererref12_Rule_F n (⟨#[100, 101, 110, 121, 32, 100, 40, 97, 41, 32, 105, 102, 32, 104, 40, 98, 41]⟩ : ByteArray) (fun y1 y2 y3 y4 y5 y6 y7 y8 y9 => guard_Free_F n (y1, y2, y8, y3, y4, y5, y9, ()) (fun y10 y11 y12 => guard_Check_F n (y1, y2, y8, y3, y4, y5, y9, ()) (fun y13 y14 => verdererref12_Rule_F n (⟨#[100, 101, 110, 121, 32, 100, 40, 97, 41, 32, 105, 102, 32, 104, 40, 97, 41, 44, 32, 110, 111, 116, 32, 107, 40, 97, 41, 44, 32, 97, 32, 60, 32, 51]⟩ : ByteArray) (fun y15 y16 y17 y18 y19 y20 y21 y22 y23 => guard_Check_F n (y15, y16, y22, y17, y18, y19, y23, ()) (fun y24 y25 => if (y7 == 0) = true then (if (y10.toList == (⟨#[97]⟩ : ByteArray).toList) = true then (if (y11 == (-1)) = true then (if y12 = true then (if (y13 == (-1)) = true then (if (y14 == 12) = true then (if (y21 == 0) = true then (if (y24 == 0) = true then (k0 (y25 == 0)) else (k0 false)) else (k0 false)) else (k0 false)) else (k0 false)) else (k0 false)) else (k0 false)) else (k0 false)) else (k0 false))))))
def verdererlaw15_known_F {R : Type} := lazyN (@verdererlaw15_known_Fi R)
theorem verdererlaw15_known_e : @verdererlaw15_known_F R = @verdererlaw15_known_Fi R := lazyN_eq _
def verdererlaw15_known_g (n : Nat) : Gx R := typed 0 verdererlaw15_known_d fun x k => verdererlaw15_known_F n (fun y0 => k (.a (.c (.b y0))) [])
def verdererlaw15_known_cs (R : Type) (n : Nat) : List (Nat × Gx R) := [(10, guard_Free_g n), (12, guard_Check_g n), (18, verdererref12_Rule_g n)]
def verdererlaw15_known_cx (R : Type) (n : Nat) : Cx R := ⟨Try.prog, Gof (verdererlaw15_known_cs R n), noDs, noDx, noLp, drawP Try.prog (Gof (verdererlaw15_known_cs R n)), false, noJn, noFz⟩
theorem verdererlaw15_known_ok (n : Nat) : Good Try.prog 9 (verdererlaw15_known_g (R := R) n) := by
  unfold verdererlaw15_known_g
  rw [verdererlaw15_known_e]
  exact Good.fn (cx := verdererlaw15_known_cx R n) (by kernel_rfl) (AllGood.cons (guard_Free_ok n) (AllGood.cons (guard_Check_ok n) (AllGood.cons (verdererref12_Rule_ok n) (AllGood.nil)))) rfl Try.func9 (by kernel_rfl) rfl trivial 0 verdererlaw15_known_d (by kernel_rfl) (fun x k => by kernel_rfl)
end
end Go.Proofs.Ytikikmkfeeljgaa.E
set_option linter.unusedVariables false
set_option maxRecDepth 100000
namespace Go.Proofs.Ytikikmkfeeljgaa.E
open Go.Proofs
noncomputable section
variable {R : Type}
/-! verderer/verdererref15.atom: function 32 -/
@[reducible] def verdererref15_atom_d : Desc := ⟨[(0, .d ty41)], []⟩
def verdererref15_atom_Fi (n : Nat) (a0 : ty41.D) (k0 : Bool → Option R) : Option R :=
  if (a0.2.2.2.1 == 0) = true then (k0 (!a0.1)) else (k0 false)
def verdererref15_atom_F {R : Type} := lazyN (@verdererref15_atom_Fi R)
theorem verdererref15_atom_e : @verdererref15_atom_F R = @verdererref15_atom_Fi R := lazyN_eq _
def verdererref15_atom_g (n : Nat) : Gx R := typed 1 verdererref15_atom_d fun x k => verdererref15_atom_F n x.1 (fun y0 => k (.a (.c (.b y0))) [])
def verdererref15_atom_cs (R : Type) (n : Nat) : List (Nat × Gx R) := []
def verdererref15_atom_cx (R : Type) (n : Nat) : Cx R := ⟨Try.prog, Gof (verdererref15_atom_cs R n), noDs, noDx, noLp, drawP Try.prog (Gof (verdererref15_atom_cs R n)), false, noJn, noFz⟩
theorem verdererref15_atom_ok (n : Nat) : Good Try.prog 32 (verdererref15_atom_g (R := R) n) := by
  unfold verdererref15_atom_g
  rw [verdererref15_atom_e]
  exact Good.fn (cx := verdererref15_atom_cx R n) (by kernel_rfl) (AllGood.nil) rfl Try.func32 (by kernel_rfl) rfl trivial 1 verdererref15_atom_d (by kernel_rfl) (fun x k => by kernel_rfl)
end
end Go.Proofs.Ytikikmkfeeljgaa.E
set_option linter.unusedVariables false
set_option maxRecDepth 100000
namespace Go.Proofs.Ytikikmkfeeljgaa.E
open Go.Proofs
noncomputable section
variable {R : Type}
/-! verderer/verdererref15.has: function 31 -/
def verdererref15_has_ds : Nat → Desc
  | 2 => ⟨[(0, .d (.sl .str)), (1, .d .str), (5, .d (.int .i64))], []⟩
  | _ => ⟨[], []⟩
def verdererref15_has_dx : Nat → List (X × Desc)
  | 2 => [(.r, ⟨[(4, .d .bool)], []⟩), (.e 0, ⟨[], []⟩)]
  | _ => []
def verdererref15_has_s2 (n : Nat) (x0 : (List ByteArray)) (x1 : ByteArray) (x2 : Int) (k1 : (List ByteArray) → ByteArray → Int → Option R) (qr : Bool → Option R) (qe0 : Option R) : Option R :=
  if (decide (x2 < (x0.length : Int))) = true then (if 0 ≤ x2 ∧ x2 < (x0.length : Int) then (if ((x0.getD (Int.toNat x2) (Ty.z .str)).toList == x1.toList) = true then (qr true) else (k1 x0 x1 (IntKind.i64.wrap (x2 + 1)))) else none) else qe0
def verdererref15_has_l2 (n : Nat) (a : (verdererref15_has_ds 2).D) (k1 : (verdererref15_has_ds 2).D → Option R) (k2 : exK R (verdererref15_has_dx 2)) : Option R :=
  verdererref15_has_s2 n a.1 a.2.1 a.2.2.1 (fun x0 x1 x2 => k1 (x0, x1, x2, ())) (fun x0 => k2.1 (x0, ())) (k2.2.1 (()))
@[reducible] def verdererref15_has_d : Desc := ⟨[(0, .d (.sl .str)), (1, .d .str)], []⟩
def verdererref15_has_Fi (n : Nat) (a0 : (List ByteArray)) (a1 : ByteArray) (k0 : Bool → Option R) : Option R :=
  runC (verdererref15_has_l2 n) n (a0, a1, 0, ()) (fun b1 => k0 b1.1, fun b1 => k0 false, ())
def verdererref15_has_F {R : Type} := lazyN (@verdererref15_has_Fi R)
theorem verdererref15_has_e : @verdererref15_has_F R = @verdererref15_has_Fi R := lazyN_eq _
def verdererref15_has_g (n : Nat) : Gx R := typed 2 verdererref15_has_d fun x k => verdererref15_has_F n x.1 x.2.1 (fun y0 => k (.a (.c (.b y0))) [])
def verdererref15_has_cs (R : Type) (n : Nat) : List (Nat × Gx R) := []
def verdererref15_has_lp (n : Nat) : (i : Nat) → (verdererref15_has_ds i).D → exK R (verdererref15_has_dx i) → Option R
  | 2, a, k => runC (verdererref15_has_l2 n) n a k
  | _, _, _ => none
def verdererref15_has_cx (R : Type) (n : Nat) : Cx R := ⟨Try.prog, Gof (verdererref15_has_cs R n), verdererref15_has_ds, verdererref15_has_dx, verdererref15_has_lp n, drawP Try.prog (Gof (verdererref15_has_cs R n)), false, noJn, noFz⟩
theorem verdererref15_has_ok (n : Nat) : Good Try.prog 31 (verdererref15_has_g (R := R) n) := by
  unfold verdererref15_has_g
  rw [verdererref15_has_e]
  exact Good.fn (cx := verdererref15_has_cx R n) (by kernel_rfl) (AllGood.nil) rfl Try.func31 (by kernel_rfl) rfl (by
    have e : fnLoops noJn Try.f31 = [((fnLoops noJn Try.f31)[0]?).getD (false, .skip)] := by kernel_rfl
    show LoopRuns _ _ (fnLoops noJn _)
    rw [e]
    exact ⟨LoopRun.loop (by kernel_rfl) (i := 2) (m := n) (step := verdererref15_has_l2 n) (by kernel_rfl) (fun a k1 k2 => by kernel_rfl) (fun _ _ => rfl), trivial⟩) 2 verdererref15_has_d (by kernel_rfl) (fun x k => by kernel_rfl)
end
end Go.Proofs.Ytikikmkfeeljgaa.E
set_option linter.unusedVariables false
set_option maxRecDepth 100000
namespace Go.Proofs.Ytikikmkfeeljgaa.E
open Go.Proofs
noncomputable section
variable {R : Type}
/-! verderer/verdererref15.Bound: function 16 -/
def verdererref15_Bound_ds : Nat → Desc
  | 6 => ⟨[(1, .pt 0 0), (3, .ow 2), (4, .d (.int .i64)), (5, .d (.int .i64))], [.box false 25 [.d (.int .i64), .d .str, .d (.sl .str), .d (.int .i64), .d .str, .d (.int .i64), .d (.sl ty41)], .no, .arr 9 .str]⟩
  | 3 => ⟨[(1, .pt 0 0), (3, .ow 2), (4, .d (.int .i64))], [.box false 25 [.d (.int .i64), .d .str, .d (.sl .str), .d (.int .i64), .d .str, .d (.int .i64), .d (.sl ty41)], .no, .arr 9 .str]⟩
  | _ => ⟨[], []⟩
def verdererref15_Bound_dx : Nat → List (X × Desc)
  | 6 => [(.e 2, ⟨[(1, .pt 0 0), (3, .ow 2), (4, .d (.int .i64))], [.box false 25 [.d (.int .i64), .d .str, .d (.sl .str), .d (.int .i64), .d .str, .d (.int .i64), .d (.sl ty41)], .no, .arr 9 .str]⟩)]
  | 3 => [(.e 0, ⟨[(3, .ow 2)], [.no, .no, .arr 9 .str]⟩)]
  | _ => []
def verdererref15_Bound_s6 (n : Nat) (x0 : Int) (x1 : Int) (x2 : Int) (x3 : ByteArray) (x4 : (List ByteArray)) (x5 : Int) (x6 : ByteArray) (x7 : Int) (x8 : (List ty41.D)) (x9 : (List ByteArray)) (k1 : Int → Int → Int → ByteArray → (List ByteArray) → Int → ByteArray → Int → (List ty41.D) → (List ByteArray) → Option R) (qe2 : Int → Int → ByteArray → (List ByteArray) → Int → ByteArray → Int → (List ty41.D) → (List ByteArray) → Option R) : Option R :=
  if 0 ≤ x0 ∧ x0 < (x8.length : Int) then (if (decide (x1 < (((x8.getD (Int.toNat x0) (Ty.z ty41)).2.2.1).length : Int))) = true then (if 0 ≤ x0 ∧ x0 < (x8.length : Int) then (verdererref15_atom_F n (x8.getD (Int.toNat x0) (Ty.z ty41)) (fun y1 => if y1 = true then (if 0 ≤ x0 ∧ x0 < (x8.length : Int) then (if 0 ≤ x1 ∧ x1 < (((x8.getD (Int.toNat x0) (Ty.z ty41)).2.2.1).length : Int) then (if (!(((x8.getD (Int.toNat x0) (Ty.z ty41)).2.2.1).getD (Int.toNat x1) (Ty.z ty38)).2.1) = true then (if (!(((((x8.getD (Int.toNat x0) (Ty.z ty41)).2.2.1).getD (Int.toNat x1) (Ty.z ty38)).1).toList == (⟨#[]⟩ : ByteArray).toList)) = true then (verdererref15_has_F n x9 ((((x8.getD (Int.toNat x0) (Ty.z ty41)).2.2.1).getD (Int.toNat x1) (Ty.z ty38)).1) (fun y2 => if (!y2) = true then (if (List.length x9 + List.length [(((x8.getD (Int.toNat x0) (Ty.z ty41)).2.2.1).getD (Int.toNat x1) (Ty.z ty38)).1]) * 16 ≤ 140737488355328 then (k1 x0 (IntKind.i64.wrap (x1 + 1)) x2 x3 x4 x5 x6 x7 x8 (x9 ++ [(((x8.getD (Int.toNat x0) (Ty.z ty41)).2.2.1).getD (Int.toNat x1) (Ty.z ty38)).1])) else none) else (k1 x0 (IntKind.i64.wrap (x1 + 1)) x2 x3 x4 x5 x6 x7 x8 x9))) else (k1 x0 (IntKind.i64.wrap (x1 + 1)) x2 x3 x4 x5 x6 x7 x8 x9)) else (k1 x0 (IntKind.i64.wrap (x1 + 1)) x2 x3 x4 x5 x6 x7 x8 x9)) else none) else none) else (qe2 x0 x2 x3 x4 x5 x6 x7 x8 x9))) else none) else (qe2 x0 x2 x3 x4 x5 x6 x7 x8 x9)) else none
def verdererref15_Bound_l6 (n : Nat) (a : (verdererref15_Bound_ds 6).D) (k1 : (verdererref15_Bound_ds 6).D → Option R) (k2 : exK R (verdererref15_Bound_dx 6)) : Option R :=
  verdererref15_Bound_s6 n a.1 a.2.1 a.2.2.1 a.2.2.2.1 a.2.2.2.2.1 a.2.2.2.2.2.1 a.2.2.2.2.2.2.1 a.2.2.2.2.2.2.2.1 a.2.2.2.2.2.2.2.2.1 a.2.2.2.2.2.2.2.2.2.1 (fun x0 x1 x2 x3 x4 x5 x6 x7 x8 x9 => k1 (x0, x1, x2, x3, x4, x5, x6, x7, x8, x9, ())) (fun x0 x1 x2 x3 x4 x5 x6 x7 x8 => k2.1 (x0, x1, x2, x3, x4, x5, x6, x7, x8, ()))
def verdererref15_Bound_s3 (n : Nat) (x0 : Int) (x1 : Int) (x2 : ByteArray) (x3 : (List ByteArray)) (x4 : Int) (x5 : ByteArray) (x6 : Int) (x7 : (List ty41.D)) (x8 : (List ByteArray)) (k1 : Int → Int → ByteArray → (List ByteArray) → Int → ByteArray → Int → (List ty41.D) → (List ByteArray) → Option R) (qe0 : (List ByteArray) → Option R) : Option R :=
  if (decide (x0 < (x7.length : Int))) = true then (runC (verdererref15_Bound_l6 n) n (x0, 0, x1, x2, x3, x4, x5, x6, x7, x8, ()) (fun b11 => k1 (IntKind.i64.wrap (b11.1 + 1)) b11.2.1 b11.2.2.1 b11.2.2.2.1 b11.2.2.2.2.1 b11.2.2.2.2.2.1 b11.2.2.2.2.2.2.1 b11.2.2.2.2.2.2.2.1 b11.2.2.2.2.2.2.2.2.1, ())) else (qe0 x8)
def verdererref15_Bound_l3 (n : Nat) (a : (verdererref15_Bound_ds 3).D) (k1 : (verdererref15_Bound_ds 3).D → Option R) (k2 : exK R (verdererref15_Bound_dx 3)) : Option R :=
  verdererref15_Bound_s3 n a.1 a.2.1 a.2.2.1 a.2.2.2.1 a.2.2.2.2.1 a.2.2.2.2.2.1 a.2.2.2.2.2.2.1 a.2.2.2.2.2.2.2.1 a.2.2.2.2.2.2.2.2.1 (fun x0 x1 x2 x3 x4 x5 x6 x7 x8 => k1 (x0, x1, x2, x3, x4, x5, x6, x7, x8, ())) (fun x0 => k2.1 (x0, ()))
@[reducible] def verdererref15_Bound_d : Desc := ⟨[(0, .d ty25)], []⟩
def verdererref15_Bound_Fi (n : Nat) (a0 : ty25.D) (k0 : (List ByteArray) → Option R) : Option R :=
  runC (verdererref15_Bound_l3 n) n (0, a0.1, a0.2.1, a0.2.2.1, a0.2.2.2.1, a0.2.2.2.2.1, a0.2.2.2.2.2.1, a0.2.2.2.2.2.2.1, ([] : List ByteArray), ()) (fun b12 => k0 b12.1, ())
def verdererref15_Bound_F {R : Type} := lazyN (@verdererref15_Bound_Fi R)
theorem verdererref15_Bound_e : @verdererref15_Bound_F R = @verdererref15_Bound_Fi R := lazyN_eq _
def verdererref15_Bound_g (n : Nat) : Gx R := typed 1 verdererref15_Bound_d fun x k => verdererref15_Bound_F n x.1 (fun y0 => k (.a (.c (.ow 0))) [(.arr 9 .str y0)])
def verdererref15_Bound_cs (R : Type) (n : Nat) : List (Nat × Gx R) := [(31, verdererref15_has_g n), (32, verdererref15_atom_g n)]
def verdererref15_Bound_lp (n : Nat) : (i : Nat) → (verdererref15_Bound_ds i).D → exK R (verdererref15_Bound_dx i) → Option R
  | 6, a, k => runC (verdererref15_Bound_l6 n) n a k
  | 3, a, k => runC (verdererref15_Bound_l3 n) n a k
  | _, _, _ => none
def verdererref15_Bound_cx (R : Type) (n : Nat) : Cx R := ⟨Try.prog, Gof (verdererref15_Bound_cs R n), verdererref15_Bound_ds, verdererref15_Bound_dx, verdererref15_Bound_lp n, drawP Try.prog (Gof (verdererref15_Bound_cs R n)), false, noJn, noFz⟩
theorem verdererref15_Bound_ok (n : Nat) : Good Try.prog 16 (verdererref15_Bound_g (R := R) n) := by
  unfold verdererref15_Bound_g
  rw [verdererref15_Bound_e]
  exact Good.fn (cx := verdererref15_Bound_cx R n) (by kernel_rfl) (AllGood.cons (verdererref15_has_ok n) (AllGood.cons (verdererref15_atom_ok n) (AllGood.nil))) rfl Try.func16 (by kernel_rfl) rfl (by
    have e : fnLoops noJn Try.f16 = [((fnLoops noJn Try.f16)[0]?).getD (false, .skip), ((fnLoops noJn Try.f16)[1]?).getD (false, .skip)] := by kernel_rfl
    show LoopRuns _ _ (fnLoops noJn _)
    rw [e]
    exact ⟨LoopRun.loop (by kernel_rfl) (i := 3) (m := n) (step := verdererref15_Bound_l3 n) (by kernel_rfl) (fun a k1 k2 => by kernel_rfl) (fun _ _ => rfl), ⟨LoopRun.loop (by kernel_rfl) (i := 6) (m := n) (step := verdererref15_Bound_l6 n) (by kernel_rfl) (fun a k1 k2 => by kernel_rfl) (fun _ _ => rfl), trivial⟩⟩) 1 verdererref15_Bound_d (by kernel_rfl) (fun x k => by kernel_rfl)
end
end Go.Proofs.Ytikikmkfeeljgaa.E
set_option linter.unusedVariables false
set_option maxRecDepth 100000
namespace Go.Proofs.Ytikikmkfeeljgaa.E
open Go.Proofs
noncomputable section
variable {R : Type}
/-! verderer/verdererref15.Free: function 11 -/
def verdererref15_Free_ds : Nat → Desc
  | 3 => ⟨[(1, .pt 0 0), (5, .ow 1), (6, .d (.int .i64))], [.box false 25 [.d (.int .i64), .d .str, .d (.sl .str), .d (.int .i64), .d .str, .d (.int .i64), .d (.sl ty41)], .arr 9 .str]⟩
  | 13 => ⟨[(1, .pt 0 0), (5, .ow 1), (7, .d (.int .i64)), (8, .d (.int .i64))], [.box false 25 [.d (.int .i64), .d .str, .d (.sl .str), .d (.int .i64), .d .str, .d (.int .i64), .d (.sl ty41)], .arr 9 .str]⟩
  | 10 => ⟨[(1, .pt 0 0), (5, .ow 1), (7, .d (.int .i64))], [.box false 25 [.d (.int .i64), .d .str, .d (.sl .str), .d (.int .i64), .d .str, .d (.int .i64), .d (.sl ty41)], .arr 9 .str]⟩
  | _ => ⟨[], []⟩
def verdererref15_Free_dx : Nat → List (X × Desc)
  | 3 => [(.r, ⟨[(2, .d .str), (3, .d (.int .i64)), (4, .d .bool)], []⟩), (.e 0, ⟨[(1, .pt 0 0), (5, .ow 1)], [.box false 25 [.d (.int .i64), .d .str, .d (.sl .str), .d (.int .i64), .d .str, .d (.int .i64), .d (.sl ty41)], .arr 9 .str]⟩)]
  | 13 => [(.r, ⟨[(2, .d .str), (3, .d (.int .i64)), (4, .d .bool)], []⟩), (.e 4, ⟨[(1, .pt 0 0), (5, .ow 1), (7, .d (.int .i64))], [.box false 25 [.d (.int .i64), .d .str, .d (.sl .str), .d (.int .i64), .d .str, .d (.int .i64), .d (.sl ty41)], .arr 9 .str]⟩)]
  | 10 => [(.r, ⟨[(2, .d .str), (3, .d (.int .i64)), (4, .d .bool)], []⟩), (.e 2, ⟨[], []⟩)]
  | _ => []
def verdererref15_Free_s3 (n : Nat) (x0 : Int) (x1 : Int) (x2 : ByteArray) (x3 : (List ByteArray)) (x4 : Int) (x5 : ByteArray) (x6 : Int) (x7 : (List ty41.D)) (x8 : (List ByteArray)) (k1 : Int → Int → ByteArray → (List ByteArray) → Int → ByteArray → Int → (List ty41.D) → (List ByteArray) → Option R) (qr : ByteArray → Int → Bool → Option R) (qe0 : Int → ByteArray → (List ByteArray) → Int → ByteArray → Int → (List ty41.D) → (List ByteArray) → Option R) : Option R :=
  if (decide (x0 < (x3.length : Int))) = true then (if 0 ≤ x0 ∧ x0 < (x3.length : Int) then (verdererref15_has_F n x8 (x3.getD (Int.toNat x0) (Ty.z .str)) (fun y2 => if (!y2) = true then (if 0 ≤ x0 ∧ x0 < (x3.length : Int) then (qr (x3.getD (Int.toNat x0) (Ty.z .str)) (-1) true) else none) else (k1 (IntKind.i64.wrap (x0 + 1)) x1 x2 x3 x4 x5 x6 x7 x8))) else none) else (qe0 x1 x2 x3 x4 x5 x6 x7 x8)
def verdererref15_Free_l3 (n : Nat) (a : (verdererref15_Free_ds 3).D) (k1 : (verdererref15_Free_ds 3).D → Option R) (k2 : exK R (verdererref15_Free_dx 3)) : Option R :=
  verdererref15_Free_s3 n a.1 a.2.1 a.2.2.1 a.2.2.2.1 a.2.2.2.2.1 a.2.2.2.2.2.1 a.2.2.2.2.2.2.1 a.2.2.2.2.2.2.2.1 a.2.2.2.2.2.2.2.2.1 (fun x0 x1 x2 x3 x4 x5 x6 x7 x8 => k1 (x0, x1, x2, x3, x4, x5, x6, x7, x8, ())) (fun x0 x1 x2 => k2.1 (x0, x1, x2, ())) (fun x0 x1 x2 x3 x4 x5 x6 x7 => k2.2.1 (x0, x1, x2, x3, x4, x5, x6, x7, ()))
def verdererref15_Free_s13 (n : Nat) (x0 : Int) (x1 : Int) (x2 : Int) (x3 : ByteArray) (x4 : (List ByteArray)) (x5 : Int) (x6 : ByteArray) (x7 : Int) (x8 : (List ty41.D)) (x9 : (List ByteArray)) (k1 : Int → Int → Int → ByteArray → (List ByteArray) → Int → ByteArray → Int → (List ty41.D) → (List ByteArray) → Option R) (qr : ByteArray → Int → Bool → Option R) (qe4 : Int → Int → ByteArray → (List ByteArray) → Int → ByteArray → Int → (List ty41.D) → (List ByteArray) → Option R) : Option R :=
  if 0 ≤ x0 ∧ x0 < (x8.length : Int) then (if (decide (x1 < (((x8.getD (Int.toNat x0) (Ty.z ty41)).2.2.1).length : Int))) = true then (if 0 ≤ x0 ∧ x0 < (x8.length : Int) then (verdererref15_atom_F n (x8.getD (Int.toNat x0) (Ty.z ty41)) (fun y15 => if (!y15) = true then (if 0 ≤ x0 ∧ x0 < (x8.length : Int) then (if 0 ≤ x1 ∧ x1 < (((x8.getD (Int.toNat x0) (Ty.z ty41)).2.2.1).length : Int) then (if (!(((x8.getD (Int.toNat x0) (Ty.z ty41)).2.2.1).getD (Int.toNat x1) (Ty.z ty38)).2.1) = true then (if (!(((((x8.getD (Int.toNat x0) (Ty.z ty41)).2.2.1).getD (Int.toNat x1) (Ty.z ty38)).1).toList == (⟨#[]⟩ : ByteArray).toList)) = true then (verdererref15_has_F n x9 ((((x8.getD (Int.toNat x0) (Ty.z ty41)).2.2.1).getD (Int.toNat x1) (Ty.z ty38)).1) (fun y16 => if (!y16) = true then (qr ((((x8.getD (Int.toNat x0) (Ty.z ty41)).2.2.1).getD (Int.toNat x1) (Ty.z ty38)).1) x0 true) else (k1 x0 (IntKind.i64.wrap (x1 + 1)) x2 x3 x4 x5 x6 x7 x8 x9))) else (k1 x0 (IntKind.i64.wrap (x1 + 1)) x2 x3 x4 x5 x6 x7 x8 x9)) else (k1 x0 (IntKind.i64.wrap (x1 + 1)) x2 x3 x4 x5 x6 x7 x8 x9)) else none) else none) else (qe4 x0 x2 x3 x4 x5 x6 x7 x8 x9))) else none) else (qe4 x0 x2 x3 x4 x5 x6 x7 x8 x9)) else none
def verdererref15_Free_l13 (n : Nat) (a : (verdererref15_Free_ds 13).D) (k1 : (verdererref15_Free_ds 13).D → Option R) (k2 : exK R (verdererref15_Free_dx 13)) : Option R :=
  verdererref15_Free_s13 n a.1 a.2.1 a.2.2.1 a.2.2.2.1 a.2.2.2.2.1 a.2.2.2.2.2.1 a.2.2.2.2.2.2.1 a.2.2.2.2.2.2.2.1 a.2.2.2.2.2.2.2.2.1 a.2.2.2.2.2.2.2.2.2.1 (fun x0 x1 x2 x3 x4 x5 x6 x7 x8 x9 => k1 (x0, x1, x2, x3, x4, x5, x6, x7, x8, x9, ())) (fun x0 x1 x2 => k2.1 (x0, x1, x2, ())) (fun x0 x1 x2 x3 x4 x5 x6 x7 x8 => k2.2.1 (x0, x1, x2, x3, x4, x5, x6, x7, x8, ()))
def verdererref15_Free_s10 (n : Nat) (x0 : Int) (x1 : Int) (x2 : ByteArray) (x3 : (List ByteArray)) (x4 : Int) (x5 : ByteArray) (x6 : Int) (x7 : (List ty41.D)) (x8 : (List ByteArray)) (k1 : Int → Int → ByteArray → (List ByteArray) → Int → ByteArray → Int → (List ty41.D) → (List ByteArray) → Option R) (qr : ByteArray → Int → Bool → Option R) (qe2 : Option R) : Option R :=
  if (decide (x0 < (x7.length : Int))) = true then (runC (verdererref15_Free_l13 n) n (x0, 0, x1, x2, x3, x4, x5, x6, x7, x8, ()) (fun b19 => qr b19.1 b19.2.1 b19.2.2.1, fun b28 => k1 (IntKind.i64.wrap (b28.1 + 1)) b28.2.1 b28.2.2.1 b28.2.2.2.1 b28.2.2.2.2.1 b28.2.2.2.2.2.1 b28.2.2.2.2.2.2.1 b28.2.2.2.2.2.2.2.1 b28.2.2.2.2.2.2.2.2.1, ())) else qe2
def verdererref15_Free_l10 (n : Nat) (a : (verdererref15_Free_ds 10).D) (k1 : (verdererref15_Free_ds 10).D → Option R) (k2 : exK R (verdererref15_Free_dx 10)) : Option R :=
  verdererref15_Free_s10 n a.1 a.2.1 a.2.2.1 a.2.2.2.1 a.2.2.2.2.1 a.2.2.2.2.2.1 a.2.2.2.2.2.2.1 a.2.2.2.2.2.2.2.1 a.2.2.2.2.2.2.2.2.1 (fun x0 x1 x2 x3 x4 x5 x6 x7 x8 => k1 (x0, x1, x2, x3, x4, x5, x6, x7, x8, ())) (fun x0 x1 x2 => k2.1 (x0, x1, x2, ())) (k2.2.1 (()))
@[reducible] def verdererref15_Free_d : Desc := ⟨[(0, .d ty25)], []⟩
def verdererref15_Free_Fi (n : Nat) (a0 : ty25.D) (k0 : ByteArray → Int → Bool → Option R) : Option R :=
  verdererref15_Bound_F n a0 (fun y1 => runC (verdererref15_Free_l3 n) n (0, a0.1, a0.2.1, a0.2.2.1, a0.2.2.2.1, a0.2.2.2.2.1, a0.2.2.2.2.2.1, a0.2.2.2.2.2.2.1, y1, ()) (fun b5 => k0 b5.1 b5.2.1 b5.2.2.1, fun b13 => if (decide (b13.2.2.2.1 ≥ 2)) = true then (if (decide (b13.2.2.2.1 ≤ 4)) = true then (verdererref15_has_F n b13.2.2.2.2.2.2.2.1 b13.2.2.2.2.1 (fun y14 => if (!y14) = true then (k0 b13.2.2.2.2.1 (-1) true) else (runC (verdererref15_Free_l10 n) n (0, b13.1, b13.2.1, b13.2.2.1, b13.2.2.2.1, b13.2.2.2.2.1, b13.2.2.2.2.2.1, b13.2.2.2.2.2.2.1, b13.2.2.2.2.2.2.2.1, ()) (fun b31 => k0 b31.1 b31.2.1 b31.2.2.1, fun b31 => k0 (⟨#[]⟩ : ByteArray) 0 false, ())))) else (runC (verdererref15_Free_l10 n) n (0, b13.1, b13.2.1, b13.2.2.1, b13.2.2.2.1, b13.2.2.2.2.1, b13.2.2.2.2.2.1, b13.2.2.2.2.2.2.1, b13.2.2.2.2.2.2.2.1, ()) (fun b34 => k0 b34.1 b34.2.1 b34.2.2.1, fun b34 => k0 (⟨#[]⟩ : ByteArray) 0 false, ()))) else (runC (verdererref15_Free_l10 n) n (0, b13.1, b13.2.1, b13.2.2.1, b13.2.2.2.1, b13.2.2.2.2.1, b13.2.2.2.2.2.1, b13.2.2.2.2.2.2.1, b13.2.2.2.2.2.2.2.1, ()) (fun b37 => k0 b37.1 b37.2.1 b37.2.2.1, fun b37 => k0 (⟨#[]⟩ : ByteArray) 0 false, ())), ()))
def verdererref15_Free_F {R : Type} := lazyN (@verdererref15_Free_Fi R)
theorem verdererref15_Free_e : @verdererref15_Free_F R = @verdererref15_Free_Fi R := lazyN_eq _
def verdererref15_Free_g (n : Nat) : Gx R := typed 1 verdererref15_Free_d fun x k => verdererref15_Free_F n x.1 (fun y0 y1 y2 => k (.tu [(.c (.s y0)), (.c (.i .i64 y1)), (.c (.b y2))]) [])
def verdererref15_Free_cs (R : Type) (n : Nat) : List (Nat × Gx R) := [(16, verdererref15_Bound_g n), (31, verdererref15_has_g n), (32, verdererref15_atom_g n)]
def verdererref15_Free_lp (n : Nat) : (i : Nat) → (verdererref15_Free_ds i).D → exK R (verdererref15_Free_dx i) → Option R
  | 3, a, k => runC (verdererref15_Free_l3 n) n a k
  | 13, a, k => runC (verdererref15_Free_l13 n) n a k
  | 10, a, k => runC (verdererref15_Free_l10 n) n a k
  | _, _, _ => none
def verdererref15_Free_cx (R : Type) (n : Nat) : Cx R := ⟨Try.prog, Gof (verdererref15_Free_cs R n), verdererref15_Free_ds, verdererref15_Free_dx, verdererref15_Free_lp n, drawP Try.prog (Gof (verdererref15_Free_cs R n)), false, noJn, noFz⟩
theorem verdererref15_Free_ok (n : Nat) : Good Try.prog 11 (verdererref15_Free_g (R := R) n) := by
  unfold verdererref15_Free_g
  rw [verdererref15_Free_e]
  exact Good.fn (cx := verdererref15_Free_cx R n) (by kernel_rfl) (AllGood.cons (verdererref15_Bound_ok n) (AllGood.cons (verdererref15_has_ok n) (AllGood.cons (verdererref15_atom_ok n) (AllGood.nil)))) rfl Try.func11 (by kernel_rfl) rfl (by
    have e : fnLoops noJn Try.f11 = [((fnLoops noJn Try.f11)[0]?).getD (false, .skip), ((fnLoops noJn Try.f11)[1]?).getD (false, .skip), ((fnLoops noJn Try.f11)[2]?).getD (false, .skip)] := by kernel_rfl
    show LoopRuns _ _ (fnLoops noJn _)
    rw [e]
    exact ⟨LoopRun.loop (by kernel_rfl) (i := 3) (m := n) (step := verdererref15_Free_l3 n) (by kernel_rfl) (fun a k1 k2 => by kernel_rfl) (fun _ _ => rfl), ⟨LoopRun.loop (by kernel_rfl) (i := 10) (m := n) (step := verdererref15_Free_l10 n) (by kernel_rfl) (fun a k1 k2 => by kernel_rfl) (fun _ _ => rfl), ⟨LoopRun.loop (by kernel_rfl) (i := 13) (m := n) (step := verdererref15_Free_l13 n) (by kernel_rfl) (fun a k1 k2 => by kernel_rfl) (fun _ _ => rfl), trivial⟩⟩⟩) 1 verdererref15_Free_d (by kernel_rfl) (fun x k => by kernel_rfl)
end
end Go.Proofs.Ytikikmkfeeljgaa.E
set_option linter.unusedVariables false
set_option maxRecDepth 100000
namespace Go.Proofs.Ytikikmkfeeljgaa.E
open Go.Proofs
noncomputable section
variable {R : Type}
/-! verderer/verdererref15.Check: function 13 -/
def verdererref15_Check_ds : Nat → Desc
  | 3 => ⟨[(1, .pt 0 0), (4, .d .bool), (5, .d (.int .i64))], [.box false 25 [.d (.int .i64), .d .str, .d (.sl .str), .d (.int .i64), .d .str, .d (.int .i64), .d (.sl ty41)]]⟩
  | _ => ⟨[], []⟩
def verdererref15_Check_dx : Nat → List (X × Desc)
  | 3 => [(.e 0, ⟨[(1, .pt 0 0), (4, .d .bool)], [.box false 25 [.d (.int .i64), .d .str, .d (.sl .str), .d (.int .i64), .d .str, .d (.int .i64), .d (.sl ty41)]]⟩)]
  | _ => []
def verdererref15_Check_s3 (n : Nat) (x0 : Bool) (x1 : Int) (x2 : Int) (x3 : ByteArray) (x4 : (List ByteArray)) (x5 : Int) (x6 : ByteArray) (x7 : Int) (x8 : (List ty41.D)) (k1 : Bool → Int → Int → ByteArray → (List ByteArray) → Int → ByteArray → Int → (List ty41.D) → Option R) (qe0 : Bool → Int → ByteArray → (List ByteArray) → Int → ByteArray → Int → (List ty41.D) → Option R) : Option R :=
  if (decide (x1 < (x8.length : Int))) = true then (if x0 = true then (k1 true (IntKind.i64.wrap (x1 + 1)) x2 x3 x4 x5 x6 x7 x8) else (if 0 ≤ x1 ∧ x1 < (x8.length : Int) then (verdererref15_atom_F n (x8.getD (Int.toNat x1) (Ty.z ty41)) (fun y1 => k1 y1 (IntKind.i64.wrap (x1 + 1)) x2 x3 x4 x5 x6 x7 x8)) else none)) else (qe0 x0 x2 x3 x4 x5 x6 x7 x8)
def verdererref15_Check_l3 (n : Nat) (a : (verdererref15_Check_ds 3).D) (k1 : (verdererref15_Check_ds 3).D → Option R) (k2 : exK R (verdererref15_Check_dx 3)) : Option R :=
  verdererref15_Check_s3 n a.1 a.2.1 a.2.2.1 a.2.2.2.1 a.2.2.2.2.1 a.2.2.2.2.2.1 a.2.2.2.2.2.2.1 a.2.2.2.2.2.2.2.1 a.2.2.2.2.2.2.2.2.1 (fun x0 x1 x2 x3 x4 x5 x6 x7 x8 => k1 (x0, x1, x2, x3, x4, x5, x6, x7, x8, ())) (fun x0 x1 x2 x3 x4 x5 x6 x7 => k2.1 (x0, x1, x2, x3, x4, x5, x6, x7, ()))
@[reducible] def verdererref15_Check_d : Desc := ⟨[(0, .d ty25)], []⟩
def verdererref15_Check_Fi (n : Nat) (a0 : ty25.D) (k0 : Int → Int → Option R) : Option R :=
  runC (verdererref15_Check_l3 n) n (false, 0, a0.1, a0.2.1, a0.2.2.1, a0.2.2.2.1, a0.2.2.2.2.1, a0.2.2.2.2.2.1, a0.2.2.2.2.2.2.1, ()) (fun b9 => if (!b9.1) = true then (k0 (-1) 12) else (verdererref15_Free_F n (b9.2.1, b9.2.2.1, b9.2.2.2.1, b9.2.2.2.2.1, b9.2.2.2.2.2.1, b9.2.2.2.2.2.2.1, b9.2.2.2.2.2.2.2.1, ()) (fun y10 y11 y12 => if y12 = true then (k0 y11 12) else (k0 0 0))), ())
def verdererref15_Check_F {R : Type} := lazyN (@verdererref15_Check_Fi R)
theorem verdererref15_Check_e : @verdererref15_Check_F R = @verdererref15_Check_Fi R := lazyN_eq _
def verdererref15_Check_g (n : Nat) : Gx R := typed 1 verdererref15_Check_d fun x k => verdererref15_Check_F n x.1 (fun y0 y1 => k (.tu [(.c (.i .i64 y0)), (.c (.i .i64 y1))]) [])
def verdererref15_Check_cs (R : Type) (n : Nat) : List (Nat × Gx R) := [(11, verdererref15_Free_g n), (32, verdererref15_atom_g n)]
def verdererref15_Check_lp (n : Nat) : (i : Nat) → (verdererref15_Check_ds i).D → exK R (verdererref15_Check_dx i) → Option R
  | 3, a, k => runC (verdererref15_Check_l3 n) n a k
  | _, _, _ => none
def verdererref15_Check_cx (R : Type) (n : Nat) : Cx R := ⟨Try.prog, Gof (verdererref15_Check_cs R n), verdererref15_Check_ds, verdererref15_Check_dx, verdererref15_Check_lp n, drawP Try.prog (Gof (verdererref15_Check_cs R n)), false, noJn, noFz⟩
theorem verdererref15_Check_ok (n : Nat) : Good Try.prog 13 (verdererref15_Check_g (R := R) n) := by
  unfold verdererref15_Check_g
  rw [verdererref15_Check_e]
  exact Good.fn (cx := verdererref15_Check_cx R n) (by kernel_rfl) (AllGood.cons (verdererref15_Free_ok n) (AllGood.cons (verdererref15_atom_ok n) (AllGood.nil))) rfl Try.func13 (by kernel_rfl) rfl (by
    have e : fnLoops noJn Try.f13 = [((fnLoops noJn Try.f13)[0]?).getD (false, .skip)] := by kernel_rfl
    show LoopRuns _ _ (fnLoops noJn _)
    rw [e]
    exact ⟨LoopRun.loop (by kernel_rfl) (i := 3) (m := n) (step := verdererref15_Check_l3 n) (by kernel_rfl) (fun a k1 k2 => by kernel_rfl) (fun _ _ => rfl), trivial⟩) 1 verdererref15_Check_d (by kernel_rfl) (fun x k => by kernel_rfl)
end
end Go.Proofs.Ytikikmkfeeljgaa.E
set_option linter.unusedVariables false
set_option maxRecDepth 100000
namespace Go.Proofs.Ytikikmkfeeljgaa.E
open Go.Proofs
noncomputable section
variable {R : Type}
/-! verderer/verdererref09.Texts: function 14 -/
def verdererref09_Texts_ds : Nat → Desc
  | 4 => ⟨[(0, .d (.sl .str)), (1, .d (.sl .str)), (5, .d (.int .i64))], []⟩
  | _ => ⟨[], []⟩
def verdererref09_Texts_dx : Nat → List (X × Desc)
  | 4 => [(.r, ⟨[(4, .d .bool)], []⟩), (.e 0, ⟨[], []⟩)]
  | _ => []
def verdererref09_Texts_s4 (n : Nat) (x0 : (List ByteArray)) (x1 : (List ByteArray)) (x2 : Int) (k1 : (List ByteArray) → (List ByteArray) → Int → Option R) (qr : Bool → Option R) (qe0 : Option R) : Option R :=
  if (decide (x2 < (x0.length : Int))) = true then (if 0 ≤ x2 ∧ x2 < (x0.length : Int) then (if 0 ≤ x2 ∧ x2 < (x1.length : Int) then (if (!((x0.getD (Int.toNat x2) (Ty.z .str)).toList == (x1.getD (Int.toNat x2) (Ty.z .str)).toList)) = true then (qr false) else (k1 x0 x1 (IntKind.i64.wrap (x2 + 1)))) else none) else none) else qe0
def verdererref09_Texts_l4 (n : Nat) (a : (verdererref09_Texts_ds 4).D) (k1 : (verdererref09_Texts_ds 4).D → Option R) (k2 : exK R (verdererref09_Texts_dx 4)) : Option R :=
  verdererref09_Texts_s4 n a.1 a.2.1 a.2.2.1 (fun x0 x1 x2 => k1 (x0, x1, x2, ())) (fun x0 => k2.1 (x0, ())) (k2.2.1 (()))
@[reducible] def verdererref09_Texts_d : Desc := ⟨[(0, .d (.sl .str)), (1, .d (.sl .str))], []⟩
def verdererref09_Texts_Fi (n : Nat) (a0 : (List ByteArray)) (a1 : (List ByteArray)) (k0 : Bool → Option R) : Option R :=
  if ((a0.length : Int) != (a1.length : Int)) = true then (k0 false) else (runC (verdererref09_Texts_l4 n) n (a0, a1, 0, ()) (fun b1 => k0 b1.1, fun b1 => k0 true, ()))
def verdererref09_Texts_F {R : Type} := lazyN (@verdererref09_Texts_Fi R)
theorem verdererref09_Texts_e : @verdererref09_Texts_F R = @verdererref09_Texts_Fi R := lazyN_eq _
def verdererref09_Texts_g (n : Nat) : Gx R := typed 2 verdererref09_Texts_d fun x k => verdererref09_Texts_F n x.1 x.2.1 (fun y0 => k (.a (.c (.b y0))) [])
def verdererref09_Texts_cs (R : Type) (n : Nat) : List (Nat × Gx R) := []
def verdererref09_Texts_lp (n : Nat) : (i : Nat) → (verdererref09_Texts_ds i).D → exK R (verdererref09_Texts_dx i) → Option R
  | 4, a, k => runC (verdererref09_Texts_l4 n) n a k
  | _, _, _ => none
def verdererref09_Texts_cx (R : Type) (n : Nat) : Cx R := ⟨Try.prog, Gof (verdererref09_Texts_cs R n), verdererref09_Texts_ds, verdererref09_Texts_dx, verdererref09_Texts_lp n, drawP Try.prog (Gof (verdererref09_Texts_cs R n)), false, noJn, noFz⟩
theorem verdererref09_Texts_ok (n : Nat) : Good Try.prog 14 (verdererref09_Texts_g (R := R) n) := by
  unfold verdererref09_Texts_g
  rw [verdererref09_Texts_e]
  exact Good.fn (cx := verdererref09_Texts_cx R n) (by kernel_rfl) (AllGood.nil) rfl Try.func14 (by kernel_rfl) rfl (by
    have e : fnLoops noJn Try.f14 = [((fnLoops noJn Try.f14)[0]?).getD (false, .skip)] := by kernel_rfl
    show LoopRuns _ _ (fnLoops noJn _)
    rw [e]
    exact ⟨LoopRun.loop (by kernel_rfl) (i := 4) (m := n) (step := verdererref09_Texts_l4 n) (by kernel_rfl) (fun a k1 k2 => by kernel_rfl) (fun _ _ => rfl), trivial⟩) 2 verdererref09_Texts_d (by kernel_rfl) (fun x k => by kernel_rfl)
end
end Go.Proofs.Ytikikmkfeeljgaa.E
set_option linter.unusedVariables false
set_option maxRecDepth 100000
namespace Go.Proofs.Ytikikmkfeeljgaa.E
open Go.Proofs
noncomputable section
variable {R : Type}
/-! verderer/verdererlaw15.GuardTells: function 3 -/
@[reducible] def verdererlaw15_GuardTells_d : Desc := ⟨[(0, .d ty25)], []⟩
def verdererlaw15_GuardTells_Fi (n : Nat) (a0 : ty25.D) (k0 : Bool → Option R) : Option R :=
  verdererref13_Few_F n a0 (fun y1 => if (!y1) = true then (verdererlaw15_known_F n (fun y2 => k0 y2)) else (guard_Free_F n a0 (fun y3 y4 y5 => verdererref15_Free_F n a0 (fun y6 y7 y8 => guard_Check_F n a0 (fun y9 y10 => verdererref15_Check_F n a0 (fun y11 y12 => guard_Bound_F n a0 (fun y13 => verdererref15_Bound_F n a0 (fun y14 => verdererref09_Texts_F n y13 y14 (fun y15 => if y15 = true then (if (y3.toList == y6.toList) = true then (if (y4 == y7) = true then (if (y5 == y8) = true then (if (y9 == y11) = true then (if (y10 == y12) = true then (verdererlaw15_known_F n (fun y16 => k0 y16)) else (k0 false)) else (k0 false)) else (k0 false)) else (k0 false)) else (k0 false)) else (k0 false))))))))))
def verdererlaw15_GuardTells_F {R : Type} := lazyN (@verdererlaw15_GuardTells_Fi R)
theorem verdererlaw15_GuardTells_e : @verdererlaw15_GuardTells_F R = @verdererlaw15_GuardTells_Fi R := lazyN_eq _
def verdererlaw15_GuardTells_g (n : Nat) : Gx R := typed 1 verdererlaw15_GuardTells_d fun x k => verdererlaw15_GuardTells_F n x.1 (fun y0 => k (.a (.c (.b y0))) [])
def verdererlaw15_GuardTells_cs (R : Type) (n : Nat) : List (Nat × Gx R) := [(8, verdererref13_Few_g n), (9, verdererlaw15_known_g n), (10, guard_Free_g n), (11, verdererref15_Free_g n), (12, guard_Check_g n), (13, verdererref15_Check_g n), (14, verdererref09_Texts_g n), (15, guard_Bound_g n), (16, verdererref15_Bound_g n)]
def verdererlaw15_GuardTells_cx (R : Type) (n : Nat) : Cx R := ⟨Try.prog, Gof (verdererlaw15_GuardTells_cs R n), noDs, noDx, noLp, drawP Try.prog (Gof (verdererlaw15_GuardTells_cs R n)), false, noJn, noFz⟩
theorem verdererlaw15_GuardTells_ok (n : Nat) : Good Try.prog 3 (verdererlaw15_GuardTells_g (R := R) n) := by
  unfold verdererlaw15_GuardTells_g
  rw [verdererlaw15_GuardTells_e]
  exact Good.fn (cx := verdererlaw15_GuardTells_cx R n) (by kernel_rfl) (AllGood.cons (verdererref13_Few_ok n) (AllGood.cons (verdererlaw15_known_ok n) (AllGood.cons (guard_Free_ok n) (AllGood.cons (verdererref15_Free_ok n) (AllGood.cons (guard_Check_ok n) (AllGood.cons (verdererref15_Check_ok n) (AllGood.cons (verdererref09_Texts_ok n) (AllGood.cons (guard_Bound_ok n) (AllGood.cons (verdererref15_Bound_ok n) (AllGood.nil)))))))))) rfl Try.func3 (by kernel_rfl) rfl trivial 1 verdererlaw15_GuardTells_d (by kernel_rfl) (fun x k => by kernel_rfl)
end
end Go.Proofs.Ytikikmkfeeljgaa.E
set_option linter.unusedVariables false
set_option maxRecDepth 100000
namespace Go.Proofs.Ytikikmkfeeljgaa.E
open Go.Proofs
noncomputable section
variable {R : Type}
/-! verderer/verdererlaw15.GuardAll: function 4 -/
def verdererlaw15_GuardAll_ds : Nat → Desc
  | 5 => ⟨[(1, .pt 0 0), (3, .pt 3 0), (4, .d (.int .i64))], [.box false 25 [.d (.int .i64), .d .str, .d (.sl .str), .d (.int .i64), .d .str, .d (.int .i64), .d (.sl ty41)], .arr 38 ty38, .no, .box false 41 [.d .bool, .d .str, .ow 1, .d (.int .i64)]]⟩
  | 17 => ⟨[(1, .pt 0 0), (3, .pt 3 0), (5, .d (.int .i64)), (6, .d (.int .i64))], [.box false 25 [.d (.int .i64), .d .str, .d (.sl .str), .d (.int .i64), .d .str, .d (.int .i64), .d (.sl ty41)], .arr 38 ty38, .no, .box false 41 [.d .bool, .d .str, .ow 1, .d (.int .i64)]]⟩
  | 14 => ⟨[(1, .pt 0 0), (3, .pt 3 0), (5, .d (.int .i64))], [.box false 25 [.d (.int .i64), .d .str, .d (.sl .str), .d (.int .i64), .d .str, .d (.int .i64), .d (.sl ty41)], .arr 38 ty38, .no, .box false 41 [.d .bool, .d .str, .ow 1, .d (.int .i64)]]⟩
  | 1000012 => ⟨[(1, .pt 0 0), (3, .pt 3 0)], [.box false 25 [.d (.int .i64), .d .str, .d (.sl .str), .d (.int .i64), .d .str, .d (.int .i64), .d (.sl ty41)], .arr 38 ty38, .no, .box false 41 [.d .bool, .d .str, .ow 1, .d (.int .i64)]]⟩
  | _ => ⟨[], []⟩
def verdererlaw15_GuardAll_dx : Nat → List (X × Desc)
  | 5 => [(.r, ⟨[(2, .d .bool)], []⟩), (.e 0, ⟨[(1, .pt 0 0), (3, .pt 3 0)], [.box false 25 [.d (.int .i64), .d .str, .d (.sl .str), .d (.int .i64), .d .str, .d (.int .i64), .d (.sl ty41)], .arr 38 ty38, .no, .box false 41 [.d .bool, .d .str, .ow 1, .d (.int .i64)]]⟩)]
  | 17 => [(.e 4, ⟨[(1, .pt 0 0), (3, .pt 3 0), (5, .d (.int .i64))], [.box false 25 [.d (.int .i64), .d .str, .d (.sl .str), .d (.int .i64), .d .str, .d (.int .i64), .d (.sl ty41)], .arr 38 ty38, .no, .box false 41 [.d .bool, .d .str, .ow 1, .d (.int .i64)]]⟩)]
  | 14 => [(.e 2, ⟨[(1, .pt 0 0), (3, .pt 3 0)], [.box false 25 [.d (.int .i64), .d .str, .d (.sl .str), .d (.int .i64), .d .str, .d (.int .i64), .d (.sl ty41)], .arr 38 ty38, .no, .box false 41 [.d .bool, .d .str, .ow 1, .d (.int .i64)]]⟩)]
  | 1000012 => [(.r, ⟨[(2, .d .bool)], []⟩)]
  | _ => []
def verdererlaw15_GuardAll_s5 (n : Nat) (x0 : Int) (x1 : Int) (x2 : ByteArray) (x3 : (List ByteArray)) (x4 : Int) (x5 : ByteArray) (x6 : Int) (x7 : (List ty41.D)) (x8 : (List ty38.D)) (x9 : Bool) (x10 : ByteArray) (x11 : Int) (k1 : Int → Int → ByteArray → (List ByteArray) → Int → ByteArray → Int → (List ty41.D) → (List ty38.D) → Bool → ByteArray → Int → Option R) (qr : Bool → Option R) (qe0 : Int → ByteArray → (List ByteArray) → Int → ByteArray → Int → (List ty41.D) → (List ty38.D) → Bool → ByteArray → Int → Option R) : Option R :=
  if (decide (x0 < (x3.length : Int))) = true then (if 0 ≤ x0 ∧ x0 < (x3.length : Int) then (if ((x3.getD (Int.toNat x0) (Ty.z .str)).toList == (⟨#[]⟩ : ByteArray).toList) = true then (verdererlaw15_known_F n (fun y3 => qr y3)) else (if 0 ≤ x0 ∧ x0 < (x3.length : Int) then (if (List.length x8 + List.length [((x3.getD (Int.toNat x0) (Ty.z .str)), false, (0, false, 0, (⟨#[]⟩ : ByteArray), ()), ())]) * 64 ≤ 140737488355328 then (k1 (IntKind.i64.wrap (x0 + 1)) x1 x2 x3 x4 x5 x6 x7 (x8 ++ [((x3.getD (Int.toNat x0) (Ty.z .str)), false, (0, false, 0, (⟨#[]⟩ : ByteArray), ()), ())]) x9 x10 x11) else none) else none)) else none) else (qe0 x1 x2 x3 x4 x5 x6 x7 x8 x9 x10 x11)
def verdererlaw15_GuardAll_l5 (n : Nat) (a : (verdererlaw15_GuardAll_ds 5).D) (k1 : (verdererlaw15_GuardAll_ds 5).D → Option R) (k2 : exK R (verdererlaw15_GuardAll_dx 5)) : Option R :=
  verdererlaw15_GuardAll_s5 n a.1 a.2.1 a.2.2.1 a.2.2.2.1 a.2.2.2.2.1 a.2.2.2.2.2.1 a.2.2.2.2.2.2.1 a.2.2.2.2.2.2.2.1 a.2.2.2.2.2.2.2.2.1 a.2.2.2.2.2.2.2.2.2.1 a.2.2.2.2.2.2.2.2.2.2.1 a.2.2.2.2.2.2.2.2.2.2.2.1 (fun x0 x1 x2 x3 x4 x5 x6 x7 x8 x9 x10 x11 => k1 (x0, x1, x2, x3, x4, x5, x6, x7, x8, x9, x10, x11, ())) (fun x0 => k2.1 (x0, ())) (fun x0 x1 x2 x3 x4 x5 x6 x7 x8 x9 x10 => k2.2.1 (x0, x1, x2, x3, x4, x5, x6, x7, x8, x9, x10, ()))
def verdererlaw15_GuardAll_s17 (n : Nat) (x0 : Int) (x1 : Int) (x2 : Int) (x3 : ByteArray) (x4 : (List ByteArray)) (x5 : Int) (x6 : ByteArray) (x7 : Int) (x8 : (List ty41.D)) (x9 : (List ty38.D)) (x10 : Bool) (x11 : ByteArray) (x12 : Int) (k1 : Int → Int → Int → ByteArray → (List ByteArray) → Int → ByteArray → Int → (List ty41.D) → (List ty38.D) → Bool → ByteArray → Int → Option R) (qe4 : Int → Int → ByteArray → (List ByteArray) → Int → ByteArray → Int → (List ty41.D) → (List ty38.D) → Bool → ByteArray → Int → Option R) : Option R :=
  if 0 ≤ x0 ∧ x0 < (x8.length : Int) then (if (decide (x1 < (((x8.getD (Int.toNat x0) (Ty.z ty41)).2.2.1).length : Int))) = true then (if 0 ≤ x0 ∧ x0 < (x8.length : Int) then (if 0 ≤ x1 ∧ x1 < (((x8.getD (Int.toNat x0) (Ty.z ty41)).2.2.1).length : Int) then (if (List.length x9 + List.length [((((x8.getD (Int.toNat x0) (Ty.z ty41)).2.2.1).getD (Int.toNat x1) (Ty.z ty38)).1, false, (0, false, 0, (⟨#[]⟩ : ByteArray), ()), ())]) * 64 ≤ 140737488355328 then (k1 x0 (IntKind.i64.wrap (x1 + 1)) x2 x3 x4 x5 x6 x7 x8 (x9 ++ [((((x8.getD (Int.toNat x0) (Ty.z ty41)).2.2.1).getD (Int.toNat x1) (Ty.z ty38)).1, false, (0, false, 0, (⟨#[]⟩ : ByteArray), ()), ())]) x10 x11 x12) else none) else none) else none) else (qe4 x0 x2 x3 x4 x5 x6 x7 x8 x9 x10 x11 x12)) else none
def verdererlaw15_GuardAll_l17 (n : Nat) (a : (verdererlaw15_GuardAll_ds 17).D) (k1 : (verdererlaw15_GuardAll_ds 17).D → Option R) (k2 : exK R (verdererlaw15_GuardAll_dx 17)) : Option R :=
  verdererlaw15_GuardAll_s17 n a.1 a.2.1 a.2.2.1 a.2.2.2.1 a.2.2.2.2.1 a.2.2.2.2.2.1 a.2.2.2.2.2.2.1 a.2.2.2.2.2.2.2.1 a.2.2.2.2.2.2.2.2.1 a.2.2.2.2.2.2.2.2.2.1 a.2.2.2.2.2.2.2.2.2.2.1 a.2.2.2.2.2.2.2.2.2.2.2.1 a.2.2.2.2.2.2.2.2.2.2.2.2.1 (fun x0 x1 x2 x3 x4 x5 x6 x7 x8 x9 x10 x11 x12 => k1 (x0, x1, x2, x3, x4, x5, x6, x7, x8, x9, x10, x11, x12, ())) (fun x0 x1 x2 x3 x4 x5 x6 x7 x8 x9 x10 x11 => k2.1 (x0, x1, x2, x3, x4, x5, x6, x7, x8, x9, x10, x11, ()))
def verdererlaw15_GuardAll_s14 (n : Nat) (x0 : Int) (x1 : Int) (x2 : ByteArray) (x3 : (List ByteArray)) (x4 : Int) (x5 : ByteArray) (x6 : Int) (x7 : (List ty41.D)) (x8 : (List ty38.D)) (x9 : Bool) (x10 : ByteArray) (x11 : Int) (k1 : Int → Int → ByteArray → (List ByteArray) → Int → ByteArray → Int → (List ty41.D) → (List ty38.D) → Bool → ByteArray → Int → Option R) (qe2 : Int → ByteArray → (List ByteArray) → Int → ByteArray → Int → (List ty41.D) → (List ty38.D) → Bool → ByteArray → Int → Option R) : Option R :=
  if (decide (x0 < (x7.length : Int))) = true then (runC (verdererlaw15_GuardAll_l17 n) n (x0, 0, x1, x2, x3, x4, x5, x6, x7, x8, x9, x10, x11, ()) (fun b28 => k1 (IntKind.i64.wrap (b28.1 + 1)) b28.2.1 b28.2.2.1 b28.2.2.2.1 b28.2.2.2.2.1 b28.2.2.2.2.2.1 b28.2.2.2.2.2.2.1 b28.2.2.2.2.2.2.2.1 b28.2.2.2.2.2.2.2.2.1 b28.2.2.2.2.2.2.2.2.2.1 b28.2.2.2.2.2.2.2.2.2.2.1 b28.2.2.2.2.2.2.2.2.2.2.2.1, ())) else (qe2 x1 x2 x3 x4 x5 x6 x7 x8 x9 x10 x11)
def verdererlaw15_GuardAll_l14 (n : Nat) (a : (verdererlaw15_GuardAll_ds 14).D) (k1 : (verdererlaw15_GuardAll_ds 14).D → Option R) (k2 : exK R (verdererlaw15_GuardAll_dx 14)) : Option R :=
  verdererlaw15_GuardAll_s14 n a.1 a.2.1 a.2.2.1 a.2.2.2.1 a.2.2.2.2.1 a.2.2.2.2.2.1 a.2.2.2.2.2.2.1 a.2.2.2.2.2.2.2.1 a.2.2.2.2.2.2.2.2.1 a.2.2.2.2.2.2.2.2.2.1 a.2.2.2.2.2.2.2.2.2.2.1 a.2.2.2.2.2.2.2.2.2.2.2.1 (fun x0 x1 x2 x3 x4 x5 x6 x7 x8 x9 x10 x11 => k1 (x0, x1, x2, x3, x4, x5, x6, x7, x8, x9, x10, x11, ())) (fun x0 x1 x2 x3 x4 x5 x6 x7 x8 x9 x10 => k2.1 (x0, x1, x2, x3, x4, x5, x6, x7, x8, x9, x10, ()))
def verdererlaw15_GuardAll_s1000012 (n : Nat) (x0 : Int) (x1 : ByteArray) (x2 : (List ByteArray)) (x3 : Int) (x4 : ByteArray) (x5 : Int) (x6 : (List ty41.D)) (x7 : (List ty38.D)) (x8 : Bool) (x9 : ByteArray) (x10 : Int) (qr : Bool → Option R) : Option R :=
  if (List.length x7 + List.length [(x4, false, (0, false, 0, (⟨#[]⟩ : ByteArray), ()), ())]) * 64 ≤ 140737488355328 then (runC (verdererlaw15_GuardAll_l14 n) n (0, x0, x1, x2, x3, x4, x5, x6, (x7 ++ [(x4, false, (0, false, 0, (⟨#[]⟩ : ByteArray), ()), ())]), x8, x9, x10, ()) (fun b39 => if (List.length ([] : List ty41.D) + List.length b39.2.2.2.2.2.2.1) * 56 ≤ 140737488355328 then (if (List.length (([] : List ty41.D) ++ b39.2.2.2.2.2.2.1) + List.length [(b39.2.2.2.2.2.2.2.2.1, b39.2.2.2.2.2.2.2.2.2.1, b39.2.2.2.2.2.2.2.1, b39.2.2.2.2.2.2.2.2.2.2.1, ())]) * 56 ≤ 140737488355328 then (guard_Check_F n (b39.1, b39.2.1, b39.2.2.1, b39.2.2.2.1, b39.2.2.2.2.1, b39.2.2.2.2.2.1, ((([] : List ty41.D) ++ b39.2.2.2.2.2.2.1) ++ [(b39.2.2.2.2.2.2.2.2.1, b39.2.2.2.2.2.2.2.2.2.1, b39.2.2.2.2.2.2.2.1, b39.2.2.2.2.2.2.2.2.2.2.1, ())]), ()) (fun y40 y41 => guard_Free_F n (b39.1, b39.2.1, b39.2.2.1, b39.2.2.2.1, b39.2.2.2.2.1, b39.2.2.2.2.2.1, ((([] : List ty41.D) ++ b39.2.2.2.2.2.2.1) ++ [(b39.2.2.2.2.2.2.2.2.1, b39.2.2.2.2.2.2.2.2.2.1, b39.2.2.2.2.2.2.2.1, b39.2.2.2.2.2.2.2.2.2.2.1, ())]), ()) (fun y42 y43 y44 => if (y40 == 0) = true then (if (y41 == 0) = true then (if (!y44) = true then (verdererlaw15_known_F n (fun y45 => qr y45)) else (qr false)) else (qr false)) else (qr false)))) else none) else none, ())) else none
def verdererlaw15_GuardAll_li1000012 (n : Nat) (a : (verdererlaw15_GuardAll_ds 1000012).D) (k2 : exK R (verdererlaw15_GuardAll_dx 1000012)) : Option R :=
  verdererlaw15_GuardAll_s1000012 n a.1 a.2.1 a.2.2.1 a.2.2.2.1 a.2.2.2.2.1 a.2.2.2.2.2.1 a.2.2.2.2.2.2.1 a.2.2.2.2.2.2.2.1 a.2.2.2.2.2.2.2.2.1 a.2.2.2.2.2.2.2.2.2.1 a.2.2.2.2.2.2.2.2.2.2.1 (fun x0 => k2.1 (x0, ()))
def verdererlaw15_GuardAll_l1000012 {R : Type} := lazyN (@verdererlaw15_GuardAll_li1000012 R)
theorem verdererlaw15_GuardAll_e1000012 : @verdererlaw15_GuardAll_l1000012 R = @verdererlaw15_GuardAll_li1000012 R := lazyN_eq _
@[reducible] def verdererlaw15_GuardAll_d : Desc := ⟨[(0, .d ty25)], []⟩
def verdererlaw15_GuardAll_Fi (n : Nat) (a0 : ty25.D) (k0 : Bool → Option R) : Option R :=
  verdererref13_Few_F n a0 (fun y1 => if (!y1) = true then (verdererlaw15_known_F n (fun y2 => k0 y2)) else (runC (verdererlaw15_GuardAll_l5 n) n (0, a0.1, a0.2.1, a0.2.2.1, a0.2.2.2.1, a0.2.2.2.2.1, a0.2.2.2.2.2.1, a0.2.2.2.2.2.2.1, [((⟨#[122]⟩ : ByteArray), false, (0, false, 0, (⟨#[]⟩ : ByteArray), ()), ())], false, (⟨#[97, 108, 108]⟩ : ByteArray), 0, ()) (fun b4 => k0 b4.1, fun b15 => if (b15.2.2.2.2.1.toList == (⟨#[]⟩ : ByteArray).toList) = true then (if (decide (b15.2.2.2.1 ≥ 2)) = true then (if (decide (b15.2.2.2.1 ≤ 4)) = true then (verdererlaw15_known_F n (fun y16 => k0 y16)) else (verdererlaw15_GuardAll_l1000012 n (b15.1, b15.2.1, b15.2.2.1, b15.2.2.2.1, b15.2.2.2.2.1, b15.2.2.2.2.2.1, b15.2.2.2.2.2.2.1, b15.2.2.2.2.2.2.2.1, b15.2.2.2.2.2.2.2.2.1, b15.2.2.2.2.2.2.2.2.2.1, b15.2.2.2.2.2.2.2.2.2.2.1, ()) (fun b46 => k0 b46.1, ()))) else (verdererlaw15_GuardAll_l1000012 n (b15.1, b15.2.1, b15.2.2.1, b15.2.2.2.1, b15.2.2.2.2.1, b15.2.2.2.2.2.1, b15.2.2.2.2.2.2.1, b15.2.2.2.2.2.2.2.1, b15.2.2.2.2.2.2.2.2.1, b15.2.2.2.2.2.2.2.2.2.1, b15.2.2.2.2.2.2.2.2.2.2.1, ()) (fun b47 => k0 b47.1, ()))) else (verdererlaw15_GuardAll_l1000012 n (b15.1, b15.2.1, b15.2.2.1, b15.2.2.2.1, b15.2.2.2.2.1, b15.2.2.2.2.2.1, b15.2.2.2.2.2.2.1, b15.2.2.2.2.2.2.2.1, b15.2.2.2.2.2.2.2.2.1, b15.2.2.2.2.2.2.2.2.2.1, b15.2.2.2.2.2.2.2.2.2.2.1, ()) (fun b48 => k0 b48.1, ())), ())))
def verdererlaw15_GuardAll_F {R : Type} := lazyN (@verdererlaw15_GuardAll_Fi R)
theorem verdererlaw15_GuardAll_e : @verdererlaw15_GuardAll_F R = @verdererlaw15_GuardAll_Fi R := lazyN_eq _
def verdererlaw15_GuardAll_g (n : Nat) : Gx R := typed 1 verdererlaw15_GuardAll_d fun x k => verdererlaw15_GuardAll_F n x.1 (fun y0 => k (.a (.c (.b y0))) [])
def verdererlaw15_GuardAll_cs (R : Type) (n : Nat) : List (Nat × Gx R) := [(8, verdererref13_Few_g n), (9, verdererlaw15_known_g n), (10, guard_Free_g n), (12, guard_Check_g n)]
def verdererlaw15_GuardAll_lp (n : Nat) : (i : Nat) → (verdererlaw15_GuardAll_ds i).D → exK R (verdererlaw15_GuardAll_dx i) → Option R
  | 5, a, k => runC (verdererlaw15_GuardAll_l5 n) n a k
  | 17, a, k => runC (verdererlaw15_GuardAll_l17 n) n a k
  | 14, a, k => runC (verdererlaw15_GuardAll_l14 n) n a k
  | 1000012, a, k => verdererlaw15_GuardAll_l1000012 n a k
  | _, _, _ => none
def verdererlaw15_GuardAll_cx (R : Type) (n : Nat) : Cx R := ⟨Try.prog, Gof (verdererlaw15_GuardAll_cs R n), verdererlaw15_GuardAll_ds, verdererlaw15_GuardAll_dx, verdererlaw15_GuardAll_lp n, drawP Try.prog (Gof (verdererlaw15_GuardAll_cs R n)), false, (memN [12]), (fun i => match i with | 21 => [1] | _ => [])⟩
theorem verdererlaw15_GuardAll_ok (n : Nat) : Good Try.prog 4 (verdererlaw15_GuardAll_g (R := R) n) := by
  unfold verdererlaw15_GuardAll_g
  rw [verdererlaw15_GuardAll_e]
  exact Good.fn (cx := verdererlaw15_GuardAll_cx R n) (by kernel_rfl) (AllGood.cons (verdererref13_Few_ok n) (AllGood.cons (verdererlaw15_known_ok n) (AllGood.cons (guard_Free_ok n) (AllGood.cons (guard_Check_ok n) (AllGood.nil))))) rfl Try.func4 (by kernel_rfl) rfl (by
    have e : fnLoops (memN [12]) Try.f4 = [((fnLoops (memN [12]) Try.f4)[0]?).getD (false, .skip), ((fnLoops (memN [12]) Try.f4)[1]?).getD (false, .skip), ((fnLoops (memN [12]) Try.f4)[2]?).getD (false, .skip), ((fnLoops (memN [12]) Try.f4)[3]?).getD (false, .skip)] := by kernel_rfl
    show LoopRuns _ _ (fnLoops (memN [12]) _)
    rw [e]
    exact ⟨LoopRun.loop (by kernel_rfl) (i := 5) (m := n) (step := verdererlaw15_GuardAll_l5 n) (by kernel_rfl) (fun a k1 k2 => by kernel_rfl) (fun _ _ => rfl), ⟨LoopRun.joinS (by kernel_rfl) (i := 12) (L := verdererlaw15_GuardAll_l1000012 n) (Li := verdererlaw15_GuardAll_li1000012 n) (by rw [verdererlaw15_GuardAll_e1000012]) (by kernel_rfl) (fun a k => by kernel_rfl) (fun a k => by kernel_rfl), ⟨LoopRun.loop (by kernel_rfl) (i := 14) (m := n) (step := verdererlaw15_GuardAll_l14 n) (by kernel_rfl) (fun a k1 k2 => by kernel_rfl) (fun _ _ => rfl), ⟨LoopRun.loop (by kernel_rfl) (i := 17) (m := n) (step := verdererlaw15_GuardAll_l17 n) (by kernel_rfl) (fun a k1 k2 => by kernel_rfl) (fun _ _ => rfl), trivial⟩⟩⟩⟩) 1 verdererlaw15_GuardAll_d (by kernel_rfl) (fun x k => by kernel_rfl)
end
end Go.Proofs.Ytikikmkfeeljgaa.E
namespace Go.Proofs.Ytikikmkfeeljgaa.E
open Go.RowKit
/-! # 15. From the form's reading of an argument to data, and from a function's row to its calls -/
/-- what a reading pays -/
def Fine : (t : Ty) → t.D → Prop
  | .bool, _ => True
  | .int k, n => (Lit.int k n).wf = true
  | .str, s => s.size ≤ 9223372036854775807
  | .sl e, l => l.length ≤ 9223372036854775807 ∧ ∀ x ∈ l, Fine e x
  | .pr a b, x => Fine a x.1 ∧ Fine b x.2
  | .un, _ => True
def chkF (q : Nat → Ty → Bool) (P : Program) : List Field → Nat → Ty → Bool
  | f :: fs, off, .pr a b => Nat.beq f.offset off && q f.type a && Nat.beq (P.cellsOf f.type) a.sz && chkF q P fs (off + a.sz) b
  | [], _, .un => true
  | _, _, _ => false
def chkTy (P : Program) : Nat → Nat → Ty → Bool
  | 0, _, _ => false
  | d + 1, t, ty => match P.underlying t, ty with
    | some .bool, .bool => true
    | some (.int k), .int k' => decide (k = k')
    | some .string, .str => true
    | some (.slice e), .sl x => chkTy P d e x && Nat.beq (P.cellsOf e) x.sz && Nat.blt 0 x.sz
    | some (.struct fs), ty => chkF (chkTy P d) P fs.toList 0 ty && Nat.beq (P.cellsOf t) ty.sz
    | _, _ => false
theorem mapM_mem {α β : Type} {f : α → Option β} : ∀ {l : List α} {r : List β}, l.mapM f = some r → r.length = l.length ∧ ∀ (i : Nat) (a : α), l[i]? = some a → ∃ b, r[i]? = some b ∧ f a = some b
  | [], r, h => by
    simp only [List.mapM_nil] at h
    injection h with h
    subst h
    exact ⟨rfl, fun i a ha => by simp at ha⟩
  | x :: l, r, h => by
    simp only [List.mapM_cons, Option.bind_eq_bind] at h
    obtain ⟨b, hb, h⟩ := Option.bind_eq_some_iff.1 h
    obtain ⟨bs, hbs, h⟩ := Option.bind_eq_some_iff.1 h
    injection h with h
    subst h
    obtain ⟨hl, hi⟩ := mapM_mem hbs
    refine ⟨by simp [hl], fun i a ha => ?_⟩
    cases i with
    | zero => simp at ha; subst ha; exact ⟨b, rfl, hb⟩
    | succ i => simpa using hi i a (by simpa using ha)
theorem exists_list {α : Type} (Q : Nat → α → Prop) : ∀ n, (∀ i, i < n → ∃ x, Q i x) → ∃ l : List α, l.length = n ∧ ∀ i x, l[i]? = some x → Q i x
  | 0, _ => ⟨[], rfl, fun i x h => by simp at h⟩
  | n + 1, h => by
    obtain ⟨l, hl, hq⟩ := exists_list Q n (fun i hi => h i (by omega))
    obtain ⟨x, hx⟩ := h n (by omega)
    refine ⟨l ++ [x], by simp [hl], fun i y hy => ?_⟩
    rcases Nat.lt_or_ge i l.length with hi | hi
    · rw [List.getElem?_append_left hi] at hy; exact hq i y hy
    · rw [List.getElem?_append_right hi] at hy
      have : i - l.length = 0 := by
        rcases Nat.eq_zero_or_pos (i - l.length) with h0 | h0
        · exact h0
        · rw [List.getElem?_eq_none (by simp; omega)] at hy; cases hy
      rw [this] at hy
      simp at hy
      subst hy
      have : i = n := by omega
      rw [this]; exact hx
theorem cells_at {w : World} {base : Nat} {a : Addr} {n : Nat} {cs : List Value} (h : w.cells? base a n = some cs) : cs.length = n ∧ ∀ i u, cs[i]? = some u → w.cell? (a.add i) = some u := by
  unfold World.cells? at h
  split at h
  · obtain ⟨hl, hi⟩ := mapM_mem h
    simp only [List.length_range] at hl
    refine ⟨hl, fun i u hu => ?_⟩
    have hlt : i < n := by rw [← hl]; exact (List.getElem?_eq_some_iff.1 hu).1
    obtain ⟨b, hb, hc⟩ := hi i i (by rw [List.getElem?_range hlt])
    rw [hu] at hb
    injection hb with hb
    subst hb
    exact hc
  · cases h
theorem add_add (a : Addr) (i j : Nat) : (a.add i).add j = a.add (i + j) := by
  unfold Addr.add
  by_cases hi : i = 0
  · subst hi; simp
  · by_cases hj : j = 0
    · subst hj; simp [hi]
    · simp [hi, hj, Nat.add_assoc]
theorem cell_spot {w : World} {a : Addr} {u : Value} (h : w.cell? a = some u) : a.spot = none ∧ a.block < w.heap.size := by
  unfold World.cell? at h
  split at h
  · rename_i c e f hb
    split at h
    · cases h
    · rename_i hs
      refine ⟨?_, (Array.getElem?_eq_some_iff.1 hb).1⟩
      cases hsp : a.spot with
      | none => rfl
      | some _ => rw [hsp] at hs; simp at hs
  · cases h
/-- whatever reads at a type is data of it, and good -/
theorem trod_chk {P : Program} : ∀ (d t : Nat) (ty : Ty), chkTy P d t ty = true → ∀ (H : Type) (enc : TypeId × Value → H) (w : World) (sp : Nat → Bool) (fuel : Nat) (cs : List Value) (y : DataW H × List MemPlace),
    DataW.trod enc P w 0 sp true fuel t cs = some y → ∃ x : ty.D, DRep w (fun b => b < w.heap.size) ty x cs ∧ Fine ty x
  | 0, _, _, h => by cases h
  | d + 1, t, ty, h => by
    intro H enc w sp fuel cs y hy
    simp only [chkTy] at h
    split at h
    · rename_i hu
      obtain ⟨n, rfl, _⟩ := DataW.trod_bool hu hy
      exact ⟨n, rfl, trivial⟩
    · rename_i k k' hu
      have : k = k' := by simpa using h
      subst this
      obtain ⟨n, rfl, _, hw⟩ := DataW.trod_int hu hy
      exact ⟨n, rfl, hw⟩
    · rename_i hu
      obtain ⟨s, rfl, _, hs⟩ := DataW.trod_string hu hy
      exact ⟨s, rfl, by unfold maxLen at hs; exact hs⟩
    · rename_i e x hu
      simp only [Bool.and_eq_true] at h
      obtain ⟨⟨h1, h2⟩, h3⟩ := h
      have hs := Nat.eq_of_beq_eq_true h2
      have hpos : 0 < x.sz := Nat.le_of_ble_eq_true h3
      rcases DataW.trod_slice hu hy with ⟨rfl, _⟩ | ⟨a, len, cap, elems, rest, n, _, rfl, _, _, hlc, hcm, hel, hi, _⟩
      · exact ⟨[], ⟨none, 0, rfl, ⟨Nat.le_refl _, fun _ => rfl⟩, fun i hi => by simp at hi⟩, by simp [Fine]⟩
      · obtain ⟨l, hl, hq⟩ := exists_list (fun i (v : x.D) => (∃ c, c.length = x.sz ∧ DRep w (fun b => b < w.heap.size) x v c ∧ ∀ j u, c[j]? = some u → w.cell? (a.add (i * x.sz + j)) = some u) ∧ Fine x v) len (fun i hlt => by
          have hb := hi i hlt
          obtain ⟨z, hz⟩ : ∃ z, elems[i]? = some z := ⟨elems[i]'(by omega), List.getElem?_eq_getElem _⟩
          rw [hz] at hb
          obtain ⟨c, hc, hz'⟩ := Option.bind_eq_some_iff.1 hb
          obtain ⟨v, hK, hG⟩ := trod_chk d e x h1 H enc w sp n c z hz'
          obtain ⟨hcl, hcell⟩ := cells_at hc
          refine ⟨v, ⟨c, by rw [hcl, hs], hK, fun j u hu => ?_⟩, hG⟩
          have := hcell j u hu
          rw [hs, add_add] at this
          exact this)
        refine ⟨l, ⟨some a, cap, by rw [hl], ⟨by omega, fun h => by cases h⟩, fun i hi => ?_⟩, by unfold maxLen at hcm; omega, fun v hv => ?_⟩
        · obtain ⟨⟨c, hcl, hK, hcell⟩, _⟩ := hq i _ (List.getElem?_eq_getElem hi)
          obtain ⟨⟨c0, hcl0, _, hcell0⟩, _⟩ := hq 0 _ (List.getElem?_eq_getElem (by omega))
          have h0 := hcell0 0 (c0[0]'(by omega)) (List.getElem?_eq_getElem _)
          have ha0 : a.add (0 * x.sz + 0) = a := by simp [Addr.add]
          rw [ha0] at h0
          obtain ⟨sp1, sp2⟩ := cell_spot h0
          obtain ⟨b, o, s⟩ := a
          simp only at sp1 sp2
          subst sp1
          refine ⟨b, o, c, rfl, sp2, fun j u hu => ?_, hK⟩
          have := hcell j u hu
          rw [Addr.add_mid] at this
          rw [← this, Nat.add_assoc]
        · obtain ⟨j, hj⟩ := List.getElem?_of_mem hv
          exact (hq j v hj).2
    · rename_i fs hu
      simp only [Bool.and_eq_true] at h
      obtain ⟨h1, h2⟩ := h
      have hsz := Nat.eq_of_beq_eq_true h2
      obtain ⟨xs, n, _, _, hl, hx, hi⟩ := DataW.trod_struct hu hy
      have each : ∀ f ∈ fs.toList, ∃ y, DataW.trod enc P w 0 sp true n f.type ((cs.drop f.offset).take (P.cellsOf f.type)) = some y := by
        intro f hf
        obtain ⟨i, hf⟩ := List.getElem?_of_mem hf
        have hlt : i < fs.size := by have := (List.getElem?_eq_some_iff.1 hf).1; simpa using this
        have := hi i f (by simpa using hf)
        rw [List.getElem?_eq_getElem (by omega)] at this
        exact ⟨_, this⟩
      have key : ∀ (l : List Field) (off : Nat) (ty : Ty), chkF (chkTy P d) P l off ty = true → (∀ f ∈ l, ∃ y, DataW.trod enc P w 0 sp true n f.type ((cs.drop f.offset).take (P.cellsOf f.type)) = some y) →
          ∃ x : ty.D, DRep w (fun b => b < w.heap.size) ty x ((cs.drop off).take ty.sz) ∧ Fine ty x := by
        intro l
        induction l with
        | nil =>
          intro off ty h _
          cases ty <;> first | cases h | skip
          exact ⟨(), by simp [DRep, Ty.sz], trivial⟩
        | cons f l ih =>
          intro off ty h hf
          cases ty with
          | pr a b =>
            simp only [chkF, Bool.and_eq_true] at h
            obtain ⟨⟨⟨g1, g2⟩, g3⟩, g4⟩ := h
            have e1 := Nat.eq_of_beq_eq_true g1
            have e3 := Nat.eq_of_beq_eq_true g3
            obtain ⟨y1, hy1⟩ := hf f (by simp)
            rw [e1, e3] at hy1
            obtain ⟨x1, k1, f1⟩ := trod_chk d f.type a g2 H enc w sp n _ y1 hy1
            obtain ⟨x2, k2, f2⟩ := ih (off + a.sz) b g4 fun f hm => hf f (List.mem_cons_of_mem _ hm)
            refine ⟨(x1, x2), ⟨_, _, ?_, k1, k2⟩, f1, f2⟩
            show (cs.drop off).take (a.sz + b.sz) = _
            rw [List.take_add, List.drop_drop]
          | _ => cases h
      obtain ⟨x, hk, hg⟩ := key fs.toList 0 _ h1 each
      refine ⟨x, ?_, hg⟩
      rw [List.drop_zero, List.take_of_length_le (by omega)] at hk
      exact hk
    · cases h
section
variable {P : Program} {w : World} {F : Nat → Prop}
theorem repA_row (a b : Ty) {x : (Ty.pr a b).D} {cs : List Value} (h : DRep w F (.pr a b) x cs) : RepA w F [] (.agg cs.toArray) (encA (.pr a b) x) :=
  ⟨_, rfl, enc_rep h⟩
/-- a law: it comes to true, and leaves all that there was -/
theorem law_calls {f : Nat} {g : Gx Unit} (h : Good P f g) {fn : Func} (hf : P.funcs[f]? = some fn) (hname : (fn.name == "runtime.NumGoroutine") = false) (hb : fn.body.isSome = true) {args : List A} {vs : List Value} {W : World} (ha : All2 (RepA W (fun b => b < W.heap.size) []) vs args)
    (ht : g args [] (fun x _ => match x with | .a (.c (.b b)) => (bif b then some () else none) | _ => none) = some ()) : Calls P f vs.toArray W fun e W' => e = .returned (.bool true) ∧ Below W.heap.size W W' := by
  have hd := h.1 args [] _ () ht vs W _ [] (Inv.nil fun _ h => h) ha
  rcases hd with ⟨_, hd⟩ | ⟨v, hd, _⟩
  rotate_left
  · have h1 : ¬ fn.name = "runtime.NumGoroutine" := by simpa using hname
    have h2 : ¬ fn.body = none := by intro e; rw [e] at hb; cases hb
    simp [callFunc, hf, h1, h2, Sem.run_pure] at hd
  refine hd.mono ?_
  rintro e W' ⟨x, HN, v, F', hvN, hk, rfl, iN, hx⟩
  have hv : v = .bool true := by
    split at hk
    · rename_i b
      cases b with
      | true => exact hx
      | false => cases hk
    · cases hk
  subst hv
  exact ⟨rfl, iN.os, iN.tape, iN.output, iN.size, fun k hk => iN.old k hk noU⟩
end
end Go.Proofs.Ytikikmkfeeljgaa.E
namespace Go.Proofs.Ytikikmkfeeljgaa.E
open Go.RowKit
/-! # 16. Plain lemmas -/
theorem wrap_i64 {x : Int} (h1 : -9223372036854775808 ≤ x) (h2 : x < 9223372036854775808) : IntKind.i64.wrap x = x := by
  simp [IntKind.wrap, IntKind.bits, IntKind.signed]
  split <;> omega
theorem wrap_succ (i : Nat) (h : i < 9223372036854775807) : IntKind.i64.wrap ((i : Int) + 1) = ((i + 1 : Nat) : Int) := by
  rw [wrap_i64 (by omega) (by omega)]
  rfl
theorem runC_st {α β R : Type} {step : α → (α → Option R) → β → Option R} (k : β) (r : Option R) (st : Nat → α) (m : Nat)
    (hs : ∀ i, i < m → (∀ k1, step (st i) k1 k = k1 (st (i + 1))) ∨ ∀ k1, step (st i) k1 k = r) (he : ∀ k1, step (st m) k1 k = r) {n : Nat} (hn : m < n) : runC step n (st 0) k = r := by
  have go : ∀ (d i n : Nat), i + d = m → d < n → runC step n (st i) k = r := by
    intro d
    induction d with
    | zero =>
      intro i n hi hn
      obtain ⟨n, rfl⟩ : ∃ q, n = q + 1 := ⟨n - 1, by omega⟩
      have : i = m := by omega
      subst this
      exact he _
    | succ d ih =>
      intro i n hi hn
      obtain ⟨n, rfl⟩ : ∃ q, n = q + 1 := ⟨n - 1, by omega⟩
      rcases hs i (by omega) with h | h
      · exact (h _).trans (ih (i + 1) n (by omega) (by omega))
      · exact h _
  exact go m 0 n (by omega) hn
theorem runC_up {α β R : Type} {step : α → (α → Option R) → β → Option R} (k : β) (r : Option R) (I : Nat → α → Prop) (m : Nat)
    (hs : ∀ i a, i < m → I i a → (∃ a', I (i + 1) a' ∧ ∀ k1, step a k1 k = k1 a') ∨ ∀ k1, step a k1 k = r) (he : ∀ a, I m a → ∀ k1, step a k1 k = r) {n : Nat} {a : α} (hn : m < n) (ha : I 0 a) : runC step n a k = r := by
  have go : ∀ (d i n : Nat) (a : α), i + d = m → d < n → I i a → runC step n a k = r := by
    intro d
    induction d with
    | zero =>
      intro i n a hi hn ha
      obtain ⟨n, rfl⟩ : ∃ q, n = q + 1 := ⟨n - 1, by omega⟩
      have : i = m := by omega
      subst this
      exact he a ha _
    | succ d ih =>
      intro i n a hi hn ha
      obtain ⟨n, rfl⟩ : ∃ q, n = q + 1 := ⟨n - 1, by omega⟩
      rcases hs i a (by omega) ha with ⟨a', h1, h2⟩ | h
      · exact (h2 _).trans (ih (i + 1) n a' (by omega) (by omega) h1)
      · exact h _
  exact go m 0 n a (by omega) hn ha
theorem runC_ex {α β γ R : Type} {step : α → (α → Option R) → β → Option R} (out : γ → β → Option R) (Q : Nat → γ → Prop) (st : Nat → α) (m : Nat)
    (hs : ∀ i, i < m → ((∀ k1 k2, step (st i) k1 k2 = k1 (st (i + 1))) ∧ ∀ y, Q (i + 1) y → Q i y) ∨ ∃ y, Q i y ∧ ∀ k1 k2, step (st i) k1 k2 = out y k2)
    (he : ∃ y, Q m y ∧ ∀ k1 k2, step (st m) k1 k2 = out y k2) {n : Nat} (hn : m < n) : ∃ y, Q 0 y ∧ ∀ k2, runC step n (st 0) k2 = out y k2 := by
  have go : ∀ (d i n : Nat), i + d = m → d < n → ∃ y, Q i y ∧ ∀ k2, runC step n (st i) k2 = out y k2 := by
    intro d
    induction d with
    | zero =>
      intro i n hi hn
      obtain ⟨n, rfl⟩ : ∃ q, n = q + 1 := ⟨n - 1, by omega⟩
      have : i = m := by omega
      subst this
      obtain ⟨y, h1, h2⟩ := he
      exact ⟨y, h1, fun k2 => h2 _ k2⟩
    | succ d ih =>
      intro i n hi hn
      obtain ⟨n, rfl⟩ : ∃ q, n = q + 1 := ⟨n - 1, by omega⟩
      rcases hs i (by omega) with ⟨h1, h2⟩ | ⟨y, h1, h2⟩
      · obtain ⟨y, h3, h4⟩ := ih (i + 1) n (by omega) (by omega)
        exact ⟨y, h2 y h3, fun k2 => (h1 _ k2).trans (h4 k2)⟩
      · exact ⟨y, h1, fun k2 => h2 _ k2⟩
  exact go m 0 n (by omega) hn
theorem beqB (a b : ByteArray) : (a.toList == b.toList) = decide (a = b) := by
  rw [← beq_toListBytes]
  by_cases h : a = b
  · subst h; simpa using (MapKept.bytes_beq a a).2 rfl
  · rw [decide_eq_false h]
    cases e : (a == b) with
    | false => rfl
    | true => exact absurd ((MapKept.bytes_beq a b).1 e) h
instance decMem (s : ByteArray) (l : List ByteArray) : Decidable (s ∈ l) := decidable_of_iff (l.any (fun y => decide (y = s)) = true) (by simp)
theorem getD_nat {α : Type} (l : List α) (i : Nat) (h : i < l.length) (z : α) : l.getD i z = l[i] := by
  rw [List.getD_eq_getElem?_getD, List.getElem?_eq_getElem h]
  rfl
theorem in_nat {i m : Nat} (h : i < m) : (0 ≤ (i : Int) ∧ (i : Int) < (m : Int)) = True := by simp; omega
theorem lt_nat {i m : Nat} : (decide ((i : Int) < (m : Int))) = decide (i < m) := by simp
theorem take_snoc {α : Type} (l : List α) (i : Nat) (h : i < l.length) : l.take (i + 1) = l.take i ++ [l[i]] := by
  rw [List.take_add_one, List.getElem?_eq_getElem h]
  rfl
end Go.Proofs.Ytikikmkfeeljgaa.E
namespace Go.Proofs.Ytikikmkfeeljgaa.E
open Go.RowKit
variable {R : Type}
/-! membership -/
theorem index_ex (n : Nat) (l : List ByteArray) (s : ByteArray) (hn : l.length < n) (hl : l.length < 1000000000000) : ∃ y : Int, (0 ≤ y ↔ s ∈ l) ∧ ∀ k : Int → Option R, slices_Index_53_F n l s k = k y := by
  have h := runC_ex (R := R) (step := slices_Index_53_l2 n) (γ := Bool × Int) (fun y k2 => bif y.1 then k2.1 (y.2, ()) else k2.2.1 ()) (fun i y => (y.1 = true → 0 ≤ y.2) ∧ (y.1 = true ↔ ∃ j, i ≤ j ∧ l[j]? = some s))
    (fun i => (l, s, (l.length : Int), (i : Int), ())) l.length (fun i hi => ?_) ?_ hn
  · obtain ⟨⟨b, y⟩, ⟨h1, h2⟩, h3⟩ := h
    have hmem : (b = true) ↔ s ∈ l := by
      rw [h2]
      constructor
      · rintro ⟨j, _, hj⟩; exact List.mem_of_getElem? hj
      · intro hm; obtain ⟨j, hj⟩ := List.getElem?_of_mem hm; exact ⟨j, Nat.zero_le _, hj⟩
    refine ⟨bif b then y else -1, ?_, fun k => ?_⟩
    · cases b with
      | true => simpa [← hmem] using h1 rfl
      | false => simp [← hmem]
    · rw [slices_Index_53_e]
      unfold slices_Index_53_Fi
      have := h3 (fun b1 => k b1.1, fun _ => k (-1), ())
      refine this.trans ?_
      cases b <;> rfl
  · by_cases hs : s = l[i]
    · refine .inr ⟨(true, (i : Int)), ⟨fun _ => by simp, ⟨fun _ => ⟨i, Nat.le_refl _, by rw [hs]; exact List.getElem?_eq_getElem hi⟩, fun _ => rfl⟩⟩, fun k1 k2 => ?_⟩
      simp only [slices_Index_53_l2, slices_Index_53_s2, lt_nat, hi, in_nat hi, Int.toNat_natCast, getD_nat l i hi, beqB, hs]
      simp
    · refine .inl ⟨fun k1 k2 => ?_, fun y hy => ⟨hy.1, hy.2.trans ⟨fun ⟨j, h3, h4⟩ => ⟨j, by omega, h4⟩, fun ⟨j, h3, h4⟩ => ⟨j, ?_, h4⟩⟩⟩⟩
      · simp only [slices_Index_53_l2, slices_Index_53_s2, lt_nat, hi, in_nat hi, Int.toNat_natCast, getD_nat l i hi, beqB, hs]
        simp only [decide_true, if_true, decide_false, Bool.false_eq_true, if_false, wrap_succ i (by omega)]
      · by_cases hij : j = i
        · subst hij; rw [List.getElem?_eq_getElem hi] at h4; exact absurd (Option.some.inj h4).symm hs
        · omega
  · refine ⟨(false, 0), ⟨(fun h => by cases h), ⟨(fun h => by cases h), fun ⟨j, h3, h4⟩ => ?_⟩⟩, fun k1 k2 => ?_⟩
    · have := (List.getElem?_eq_some_iff.1 h4).1; omega
    · simp [slices_Index_53_l2, slices_Index_53_s2]
theorem contains_F (n : Nat) (l : List ByteArray) (s : ByteArray) (hn : l.length < n) (hl : l.length < 1000000000000) (k : Bool → Option R) : slices_Contains_28_F n l s k = k (decide (s ∈ l)) := by
  obtain ⟨y, h1, h2⟩ := index_ex (R := R) n l s hn hl
  rw [slices_Contains_28_e]
  unfold slices_Contains_28_Fi
  rw [h2]
  congr 1
  rw [decide_eq_decide]
  exact h1
/-! literals -/
def bindsS (a : ty41.D) : Bool := a.2.2.2.1 == 0 && !a.1
def varS (t : ty38.D) : Option ByteArray := if t.2.1 = true then none else if t.1 = (⟨#[]⟩ : ByteArray) then none else some t.1
def varsS (a : ty41.D) : List ByteArray := a.2.2.1.filterMap varS
theorem binds_F (n : Nat) (a : ty41.D) (k : Bool → Option R) : guard_binds_F n a k = k (bindsS a) := by
  rw [guard_binds_e]
  unfold guard_binds_Fi bindsS
  cases h : (a.2.2.2.1 == 0) <;> simp
theorem vars_F (n : Nat) (a : ty41.D) (hn : a.2.2.1.length < n) (hl : a.2.2.1.length < 1000000000) (k : List ByteArray → Option R) : guard_vars_F n a k = k (varsS a) := by
  rw [guard_vars_e]
  unfold guard_vars_Fi
  refine runC_st (R := R) (step := guard_vars_l3 n) _ _ (fun i => (a.2.2.1, (a.2.2.1.length : Int), (i : Int), (a.2.2.1.take i).filterMap varS, ())) a.2.2.1.length (fun i hi => .inl fun k1 => ?_) (fun k1 => ?_) hn
  · have hb : ((a.2.2.1.take i).filterMap varS).length ≤ 1000000000 := Nat.le_trans (List.length_filterMap_le _ _) (by rw [List.length_take]; omega)
    simp only [guard_vars_l3, guard_vars_s3, lt_nat, hi, in_nat hi, Int.toNat_natCast, getD_nat _ i hi, beqB, take_snoc _ i hi, List.filterMap_append, decide_true, if_true, wrap_succ i (by omega)]
    cases h1 : (a.2.2.1[i]).2.1 with
    | true => simp [varS, h1]
    | false =>
      by_cases h2 : (a.2.2.1[i]).1 = (⟨#[]⟩ : ByteArray)
      · simp [varS, h1, h2]
      · simp only [varS, h1, h2, Bool.not_false, if_true, decide_false, Bool.not_true, List.length_cons, List.length_nil, List.filterMap_cons, List.filterMap_nil, Bool.false_eq_true, if_false]
        rw [if_pos (by omega)]
  · simp only [guard_vars_l3, guard_vars_s3]
    simp [varsS]
theorem clone_F (n : Nat) (l : List ByteArray) (hl : l.length < 1000000000) (k : List ByteArray → Option R) : slices_Clone_52_F n l k = k l := by
  rw [slices_Clone_52_e]
  unfold slices_Clone_52_Fi
  simp only [List.length_nil, List.nil_append]
  rw [if_pos (by omega)]
def toldS (x : ty25.D) : List ByteArray := x.2.2.1 ++ (if 2 ≤ x.2.2.2.1 ∧ x.2.2.2.1 ≤ 4 then [x.2.2.2.2.1] else [])
theorem told_F (n : Nat) (x : ty25.D) (hl : x.2.2.1.length < 100000000) (k : List ByteArray → Option R) : guard_told_F n x k = k (toldS x) := by
  rw [guard_told_e]
  unfold guard_told_Fi toldS
  rw [clone_F n _ (by omega)]
  by_cases h1 : 2 ≤ x.2.2.2.1
  · by_cases h2 : x.2.2.2.1 ≤ 4
    · simp only [ge_iff_le, h1, h2, decide_true, if_true, and_self, List.length_cons, List.length_nil]
      rw [if_pos (by omega)]
    · simp [h1, h2]
  · simp [h1]
/-! what atoms bind -/
def addS (acc : List ByteArray) (v : ByteArray) : List ByteArray := if v ∈ acc then acc else acc ++ [v]
def boundS (l : List ty41.D) : List ByteArray := l.foldl (fun acc a => if bindsS a = true then (varsS a).foldl addS acc else acc) []
def many (l : List ty41.D) : Nat := (l.map fun a => a.2.2.1.length).sum
theorem addS_len (l acc : List ByteArray) : (l.foldl addS acc).length ≤ acc.length + l.length := by
  induction l generalizing acc with
  | nil => simp
  | cons v l ih =>
    have := ih (addS acc v)
    have h2 : (addS acc v).length ≤ acc.length + 1 := by unfold addS; split <;> simp
    simp only [List.foldl_cons, List.length_cons]
    omega
theorem varsS_len (a : ty41.D) : (varsS a).length ≤ a.2.2.1.length := List.length_filterMap_le _ _
theorem bound_len (l : List ty41.D) (acc : List ByteArray) : (l.foldl (fun acc a => if bindsS a = true then (varsS a).foldl addS acc else acc) acc).length ≤ acc.length + many l := by
  induction l generalizing acc with
  | nil => simp [many]
  | cons a l ih =>
    have h1 := ih (if bindsS a = true then (varsS a).foldl addS acc else acc)
    have h2 : (if bindsS a = true then (varsS a).foldl addS acc else acc).length ≤ acc.length + a.2.2.1.length := by
      split
      · have := addS_len (varsS a) acc; have := varsS_len a; omega
      · omega
    simp only [List.foldl_cons, many, List.map_cons, List.sum_cons] at h1 ⊢
    omega
theorem many_take (l : List ty41.D) (i : Nat) : many (l.take i) ≤ many l := by
  conv => rhs; rw [← List.take_append_drop i l]
  unfold many
  rw [List.map_append, List.sum_append]
  omega
theorem many_snoc (l : List ty41.D) (i : Nat) (h : i < l.length) : many (l.take i) + l[i].2.2.1.length ≤ many l := by
  have := many_take l (i + 1)
  rw [take_snoc l i h] at this
  unfold many at this ⊢
  rw [List.map_append, List.sum_append] at this
  simpa using this
theorem many_at (l : List ty41.D) (i : Nat) (h : i < l.length) : l[i].2.2.1.length ≤ many l := by
  have := many_snoc l i h
  omega
theorem bound_F (n : Nat) (x : ty25.D) (hn : x.2.2.2.2.2.2.1.length < n) (hm : many x.2.2.2.2.2.2.1 < n) (hl : n < 10000000) (k : List ByteArray → Option R) : guard_Bound_F n x k = k (boundS x.2.2.2.2.2.2.1) := by
  rw [guard_Bound_e]
  unfold guard_Bound_Fi
  generalize x.2.2.2.2.2.2.1 = l at *
  refine runC_st (R := R) (step := guard_Bound_l3 n) _ _ (fun i => (l, (l.length : Int), (i : Int), boundS (l.take i), ())) l.length (fun i hi => .inl fun k1 => ?_) (fun k1 => ?_) hn
  · simp only [guard_Bound_l3, guard_Bound_s3, lt_nat, hi, in_nat hi, Int.toNat_natCast, getD_nat _ i hi, decide_true, if_true, binds_F, take_snoc _ i hi]
    have hbl := bound_len (l.take i) []
    have hmt := many_take l i
    have hma := many_snoc l i hi
    have hsn : boundS (l.take i ++ [l[i]]) = if bindsS l[i] = true then (varsS l[i]).foldl addS (boundS (l.take i)) else boundS (l.take i) := by
      unfold boundS
      rw [List.foldl_append]
      rfl
    rw [hsn]
    change (boundS (l.take i)).length ≤ _ at hbl
    simp only [List.length_nil, Nat.zero_add] at hbl
    cases hb : bindsS l[i] with
    | false => simp only [Bool.not_false, if_true, Bool.false_eq_true, if_false, wrap_succ i (by omega)]
    | true =>
      simp only [Bool.not_true, Bool.false_eq_true, if_false, if_true]
      rw [vars_F n _ (by omega) (by omega)]
      have hvl := varsS_len l[i]
      generalize varsS l[i] = vs at *
      generalize boundS (l.take i) = acc at *
      refine runC_st (R := R) (step := guard_Bound_l7 n) _ _ (fun j => (l, (l.length : Int), (i : Int), (vs.length : Int), (j : Int), (vs.take j).foldl addS acc, vs, ())) vs.length (fun j hj => .inl fun k1 => ?_) (fun k1 => ?_) (by omega)
      · have hal := addS_len (vs.take j) acc
        have : (vs.take j).length ≤ vs.length := by rw [List.length_take]; omega
        simp only [guard_Bound_l7, guard_Bound_s7, lt_nat, hj, in_nat hj, Int.toNat_natCast, getD_nat _ j hj, decide_true, if_true, take_snoc _ j hj, List.foldl_append, List.foldl_cons, List.foldl_nil]
        rw [contains_F n _ _ (by omega) (by omega)]
        have hcl : ((vs.take j).foldl addS acc).length < n := by omega
        generalize (vs.take j).foldl addS acc = cur at *
        by_cases hm2 : vs[j] ∈ cur
        · simp only [addS, hm2, decide_true, Bool.not_true, Bool.false_eq_true, if_false, if_true, wrap_succ j (by omega)]
        · simp only [addS, hm2, decide_false, Bool.not_false, if_true, if_false, List.length_cons, List.length_nil, wrap_succ j (by omega)]
          rw [if_pos (by omega)]
      · simp only [guard_Bound_l7, guard_Bound_s7]
        simp [wrap_succ i (by omega)]
  · simp only [guard_Bound_l3, guard_Bound_s3]
    simp
theorem mem_addS (l acc : List ByteArray) (v : ByteArray) : v ∈ l.foldl addS acc ↔ v ∈ acc ∨ v ∈ l := by
  induction l generalizing acc with
  | nil => simp
  | cons u l ih =>
    rw [List.foldl_cons, ih]
    unfold addS
    by_cases h : u ∈ acc
    · rw [if_pos h]
      constructor
      · rintro (h1 | h1)
        · exact .inl h1
        · exact .inr (List.mem_cons_of_mem _ h1)
      · rintro (h1 | h1)
        · exact .inl h1
        · rcases List.mem_cons.1 h1 with rfl | h1
          · exact .inl h
          · exact .inr h1
    · rw [if_neg h]
      simp [or_assoc]
theorem mem_boundS (l : List ty41.D) (v : ByteArray) : v ∈ boundS l ↔ ∃ a ∈ l, bindsS a = true ∧ v ∈ varsS a := by
  have go : ∀ (l : List ty41.D) (acc : List ByteArray), v ∈ l.foldl (fun acc a => if bindsS a = true then (varsS a).foldl addS acc else acc) acc ↔ v ∈ acc ∨ ∃ a ∈ l, bindsS a = true ∧ v ∈ varsS a := by
    intro l
    induction l with
    | nil => simp
    | cons a l ih =>
      intro acc
      rw [List.foldl_cons, ih]
      by_cases hb : bindsS a = true
      · rw [if_pos hb, mem_addS]
        simp [hb, or_assoc]
      · rw [if_neg hb]
        simp [hb]
  have := go l []
  simp only [List.not_mem_nil, false_or] at this
  exact this
end Go.Proofs.Ytikikmkfeeljgaa.E
namespace Go.Proofs.Ytikikmkfeeljgaa.E
open Go.RowKit
variable {R : Type}
/-! when all that is asked is bound -/
theorem free_cov (n : Nat) (x : ty25.D) (hn : x.2.2.2.2.2.2.1.length < n) (hm : many x.2.2.2.2.2.2.1 < n) (hh : x.2.2.1.length + 1 < n) (hl : n < 10000000)
    (h1 : ∀ v ∈ toldS x, v ∈ boundS x.2.2.2.2.2.2.1) (h2 : ∀ a ∈ x.2.2.2.2.2.2.1, bindsS a = false → ∀ v ∈ varsS a, v ∈ boundS x.2.2.2.2.2.2.1) (k : ByteArray → Int → Bool → Option R) : guard_Free_F n x k = k (⟨#[]⟩ : ByteArray) 0 false := by
  rw [guard_Free_e]
  unfold guard_Free_Fi
  rw [bound_F n x hn hm hl, told_F n x (by omega)]
  have htl : (toldS x).length < n := by
    unfold toldS
    split <;> simp <;> omega
  have hbl : (boundS x.2.2.2.2.2.2.1).length ≤ many x.2.2.2.2.2.2.1 := by
    have := bound_len x.2.2.2.2.2.2.1 []
    simp only [List.length_nil, Nat.zero_add] at this
    exact this
  generalize toldS x = told at *
  obtain ⟨x0, x1, x2, x3, x4, x5, l, u⟩ := x
  simp only at *
  generalize boundS l = bd at *
  refine runC_st (R := R) (step := guard_Free_l3 n) _ _ (fun i => ((told.length : Int), (i : Int), x0, x1, x2, x3, x4, x5, l, bd, told, ())) told.length (fun i hi => .inl fun k1 => ?_) (fun k1 => ?_) htl
  · simp only [guard_Free_l3, guard_Free_s3, lt_nat, hi, in_nat hi, Int.toNat_natCast, getD_nat _ i hi, decide_true, if_true]
    rw [contains_F n _ _ (by omega) (by omega)]
    simp only [h1 _ (List.getElem_mem hi), decide_true, Bool.not_true, Bool.false_eq_true, if_false, wrap_succ i (by omega)]
  · simp only [guard_Free_l3, guard_Free_s3, lt_nat, Nat.lt_irrefl, decide_false, Bool.false_eq_true, if_false]
    refine runC_st (R := R) (step := guard_Free_l10 n) _ _ (fun i => ((⟨#[]⟩ : ByteArray), 0, false, l, (l.length : Int), (i : Int), bd, ())) l.length (fun i hi => .inl fun k1 => ?_) (fun k1 => ?_) hn
    · simp only [guard_Free_l10, guard_Free_s10, lt_nat, hi, in_nat hi, Int.toNat_natCast, getD_nat _ i hi, decide_true, if_true, binds_F]
      cases hb : bindsS l[i] with
      | true => simp only [if_true, wrap_succ i (by omega)]
      | false =>
        simp only [Bool.false_eq_true, if_false]
        have hma := many_snoc l i hi
        rw [vars_F n _ (by omega) (by omega)]
        have hvl := varsS_len l[i]
        have hv := h2 _ (List.getElem_mem hi) hb
        generalize varsS l[i] = vs at *
        refine runC_st (R := R) (step := guard_Free_l14 n) _ _ (fun j => ((⟨#[]⟩ : ByteArray), 0, false, (i : Int), l, (l.length : Int), (i : Int), (vs.length : Int), (j : Int), bd, vs, ())) vs.length (fun j hj => .inl fun k1 => ?_) (fun k1 => ?_) (by omega)
        · simp only [guard_Free_l14, guard_Free_s14, lt_nat, hj, in_nat hj, Int.toNat_natCast, getD_nat _ j hj, decide_true, if_true]
          rw [contains_F n _ _ (by omega) (by omega)]
          simp only [hv _ (List.getElem_mem hj), decide_true, Bool.not_true, Bool.false_eq_true, if_false, wrap_succ j (by omega)]
        · simp only [guard_Free_l14, guard_Free_s14, lt_nat, Nat.lt_irrefl, decide_false, Bool.false_eq_true, if_false, wrap_succ i (by omega)]
    · simp only [guard_Free_l10, guard_Free_s10, lt_nat, Nat.lt_irrefl, decide_false, Bool.false_eq_true, if_false]
theorem indexf_ex (n : Nat) (l : List ty41.D) (hn : l.length < n) (hl : l.length < 1000000000000) : ∃ y : Int, (0 ≤ y ↔ ∃ a ∈ l, bindsS a = true) ∧ ∀ k : Int → Option R, slices_IndexFunc_54_F n l k = k y := by
  have h := runC_ex (R := R) (step := slices_IndexFunc_54_l2 n) (γ := Bool × Int) (fun y k2 => bif y.1 then k2.1 (y.2, ()) else k2.2.1 ()) (fun i y => (y.1 = true → 0 ≤ y.2) ∧ (y.1 = true ↔ ∃ (j : Nat) (a : ty41.D), i ≤ j ∧ l[j]? = some a ∧ bindsS a = true))
    (fun i => (l, (l.length : Int), (i : Int), ())) l.length (fun i hi => ?_) ?_ hn
  · obtain ⟨⟨b, y⟩, ⟨h1, h2⟩, h3⟩ := h
    have hmem : (b = true) ↔ ∃ a ∈ l, bindsS a = true := by
      rw [h2]
      constructor
      · rintro ⟨j, a, _, hj, ha⟩; exact ⟨a, List.mem_of_getElem? hj, ha⟩
      · rintro ⟨a, hm, ha⟩; obtain ⟨j, hj⟩ := List.getElem?_of_mem hm; exact ⟨j, a, Nat.zero_le _, hj, ha⟩
    refine ⟨bif b then y else -1, ?_, fun k => ?_⟩
    · rw [← hmem]
      cases b with
      | true => simpa using h1 rfl
      | false => simp
    · rw [slices_IndexFunc_54_e]
      unfold slices_IndexFunc_54_Fi
      have := h3 (fun b1 => k b1.1, fun _ => k (-1), ())
      refine this.trans ?_
      cases b <;> rfl
  · cases hs : bindsS l[i] with
    | true =>
      refine .inr ⟨(true, (i : Int)), ⟨fun _ => by simp, ⟨fun _ => ⟨i, _, Nat.le_refl _, List.getElem?_eq_getElem hi, hs⟩, fun _ => rfl⟩⟩, fun k1 k2 => ?_⟩
      simp only [slices_IndexFunc_54_l2, slices_IndexFunc_54_s2, lt_nat, hi, in_nat hi, Int.toNat_natCast, getD_nat l i hi, binds_F, hs]
      simp
    | false =>
      refine .inl ⟨fun k1 k2 => ?_, fun y hy => ⟨hy.1, hy.2.trans ⟨fun ⟨j, a, h3, h4⟩ => ⟨j, a, by omega, h4⟩, fun ⟨j, a, h3, h4, h5⟩ => ⟨j, a, ?_, h4, h5⟩⟩⟩⟩
      · simp only [slices_IndexFunc_54_l2, slices_IndexFunc_54_s2, lt_nat, hi, in_nat hi, Int.toNat_natCast, getD_nat l i hi, binds_F, hs]
        simp only [decide_true, if_true, Bool.false_eq_true, if_false, wrap_succ i (by omega)]
      · by_cases hij : j = i
        · subst hij; rw [List.getElem?_eq_getElem hi] at h4; injection h4 with h4; rw [h4, h5] at hs; cases hs
        · omega
  · refine ⟨(false, 0), ⟨(fun h => by cases h), ⟨(fun h => by cases h), fun ⟨j, a, h3, h4, _⟩ => ?_⟩⟩, fun k1 k2 => ?_⟩
    · have := (List.getElem?_eq_some_iff.1 h4).1; omega
    · simp [slices_IndexFunc_54_l2, slices_IndexFunc_54_s2]
theorem check_cov (n : Nat) (x : ty25.D) (hn : x.2.2.2.2.2.2.1.length < n) (hm : many x.2.2.2.2.2.2.1 < n) (hh : x.2.2.1.length + 1 < n) (hl : n < 10000000)
    (h0 : ∃ a ∈ x.2.2.2.2.2.2.1, bindsS a = true) (h1 : ∀ v ∈ toldS x, v ∈ boundS x.2.2.2.2.2.2.1) (h2 : ∀ a ∈ x.2.2.2.2.2.2.1, bindsS a = false → ∀ v ∈ varsS a, v ∈ boundS x.2.2.2.2.2.2.1) (k : Int → Int → Option R) : guard_Check_F n x k = k 0 0 := by
  rw [guard_Check_e]
  unfold guard_Check_Fi
  rw [slices_ContainsFunc_33_e]
  unfold slices_ContainsFunc_33_Fi
  obtain ⟨y, hy, he⟩ := indexf_ex (R := R) n x.2.2.2.2.2.2.1 hn (by omega)
  have : (decide (y ≥ 0)) = true := by simpa using hy.2 h0
  simp only [he, this, Bool.not_true, Bool.false_eq_true, if_false]
  rw [free_cov n x hn hm hh hl h1 h2]
  simp
/-! few -/
theorem few_ex (n : Nat) (x : ty25.D) (hn : 1000 < n) : ∃ b : Bool, (b = true → x.2.2.1.length ≤ 100 ∧ x.2.2.2.2.2.2.1.length ≤ 40 ∧ ∀ a ∈ x.2.2.2.2.2.2.1, a.2.2.1.length ≤ 100) ∧ ∀ k : Bool → Option R, verdererref13_Few_F n x k = k b := by
  rw [verdererref13_Few_e]
  unfold verdererref13_Few_Fi
  obtain ⟨x0, x1, x2, x3, x4, x5, l, u⟩ := x
  simp only
  by_cases c1 : (x2.length : Int) > 100
  · exact ⟨false, (fun h => by cases h), fun k => by simp [c1]⟩
  by_cases c2 : (l.length : Int) > 40
  · exact ⟨false, (fun h => by cases h), fun k => by simp [c1, c2]⟩
  by_cases c3 : IntKind.i64.wrap ((x1.size : Int) + (x4.size : Int)) > 400
  · exact ⟨false, (fun h => by cases h), fun k => by simp [c1, c2, c3]⟩
  simp only [c1, c2, c3, decide_false, Bool.false_eq_true, if_false]
  have h4 := runC_ex (R := R) (step := verdererref13_Few_l4 n) (γ := Bool) (fun y k2 => bif y then k2.2.1 (x0, x1, x2, x3, x4, x5, l, ()) else k2.1 (false, ())) (fun _ _ => True)
    (fun i => ((i : Int), x0, x1, x2, x3, x4, x5, l, ())) x2.length (fun i hi => ?_) ⟨true, trivial, fun k1 k2 => by simp [verdererref13_Few_l4, verdererref13_Few_s4]⟩ (n := n) (by omega)
  · obtain ⟨b4, _, e4⟩ := h4
    cases b4 with
    | false => exact ⟨false, (fun h => by cases h), fun k => (e4 _).trans rfl⟩
    | true =>
      have h9 := runC_ex (R := R) (step := verdererref13_Few_l9 n) (γ := Bool) (fun y k2 => bif y then k2.2.1 () else k2.1 (false, ())) (fun i y => y = true → ∀ (j : Nat) (a : ty41.D), i ≤ j → l[j]? = some a → a.2.2.1.length ≤ 100)
        (fun i => ((i : Int), x0, x1, x2, x3, x4, x5, l, ())) l.length (fun i hi => ?_) ⟨true, fun _ j a h1 h2 => ?_, fun k1 k2 => by simp [verdererref13_Few_l9, verdererref13_Few_s9]⟩ (n := n) (by omega)
      · obtain ⟨b9, hq, e9⟩ := h9
        refine ⟨b9, fun hb => ⟨by omega, by omega, fun a ha => ?_⟩, fun k => ?_⟩
        · obtain ⟨j, hj⟩ := List.getElem?_of_mem ha
          exact hq hb j a (Nat.zero_le _) hj
        · refine (e4 _).trans ?_
          simp only [cond_true]
          refine (e9 _).trans ?_
          cases b9 <;> rfl
      · have hlt : i < l.length := hi
        by_cases d1 : ((l[i].2.2.1.length : Nat) : Int) > 100
        · exact .inr ⟨false, (fun h => by cases h), fun k1 k2 => by simp only [verdererref13_Few_l9, verdererref13_Few_s9, lt_nat, hi, in_nat hi, Int.toNat_natCast, getD_nat _ i hi, decide_true, if_true, d1]; rfl⟩
        by_cases d2 : ((l[i].2.1.size : Nat) : Int) > 400
        · exact .inr ⟨false, (fun h => by cases h), fun k1 k2 => by simp only [verdererref13_Few_l9, verdererref13_Few_s9, lt_nat, hi, in_nat hi, Int.toNat_natCast, getD_nat _ i hi, decide_true, if_true, d1, d2, decide_false, Bool.false_eq_true, if_false]; rfl⟩
        have h14 := runC_ex (R := R) (step := verdererref13_Few_l14 n) (γ := Bool) (fun y k2 => bif y then k2.2.1 ((i : Int), l, (i : Int), l[i].2.1, (l[i].2.1.size : Int), false, x0, x1, x2, x3, x4, x5, l, ()) else k2.1 (false, ())) (fun _ _ => True)
          (fun j => ((i : Int), (j : Int), l, (i : Int), l[i].2.1, (l[i].2.1.size : Int), false, x0, x1, x2, x3, x4, x5, l, ())) l[i].2.2.1.length (fun j hj => ?_) ⟨true, trivial, fun k1 k2 => by simp [verdererref13_Few_l14, verdererref13_Few_s14, hi]⟩ (n := n) (by omega)
        · obtain ⟨b14, _, e14⟩ := h14
          cases b14 with
          | false =>
            refine .inr ⟨false, (fun h => by cases h), fun k1 k2 => ?_⟩
            simp only [verdererref13_Few_l9, verdererref13_Few_s9, lt_nat, hi, in_nat hi, Int.toNat_natCast, getD_nat _ i hi, decide_true, if_true, d1, d2, decide_false, Bool.false_eq_true, if_false]
            exact (e14 _).trans rfl
          | true =>
            refine .inl ⟨fun k1 k2 => ?_, fun y hq hy j a h1 h2 => ?_⟩
            · simp only [verdererref13_Few_l9, verdererref13_Few_s9, lt_nat, hi, in_nat hi, Int.toNat_natCast, getD_nat _ i hi, decide_true, if_true, d1, d2, decide_false, Bool.false_eq_true, if_false]
              refine (e14 _).trans ?_
              simp only [cond_true, wrap_succ i (by omega)]
            · by_cases hij : j = i
              · subst hij; rw [List.getElem?_eq_getElem hi] at h2; injection h2 with h2; subst h2; omega
              · exact hq hy j a (by omega) h2
        · by_cases d3 : ((l[i].2.2.1[j].1.size : Nat) : Int) > 400
          · exact .inr ⟨false, trivial, fun k1 k2 => by simp only [verdererref13_Few_l14, verdererref13_Few_s14, lt_nat, hi, hj, in_nat hi, in_nat hj, Int.toNat_natCast, getD_nat _ i hi, getD_nat _ j hj, decide_true, if_true, d3]; rfl⟩
          · exact .inl ⟨fun k1 k2 => by simp only [verdererref13_Few_l14, verdererref13_Few_s14, lt_nat, hi, hj, in_nat hi, in_nat hj, Int.toNat_natCast, getD_nat _ i hi, getD_nat _ j hj, decide_true, if_true, d3, decide_false, Bool.false_eq_true, if_false, wrap_succ j (by omega)], fun _ _ => trivial⟩
      · have := (List.getElem?_eq_some_iff.1 h2).1; omega
  · by_cases d : ((x2[i].size : Nat) : Int) > 400
    · exact .inr ⟨false, trivial, fun k1 k2 => by simp only [verdererref13_Few_l4, verdererref13_Few_s4, lt_nat, hi, in_nat hi, Int.toNat_natCast, getD_nat _ i hi, decide_true, if_true, d]; rfl⟩
    · exact .inl ⟨fun k1 k2 => by simp only [verdererref13_Few_l4, verdererref13_Few_s4, lt_nat, hi, in_nat hi, Int.toNat_natCast, getD_nat _ i hi, decide_true, if_true, d, decide_false, Bool.false_eq_true, if_false, wrap_succ i (by omega)], fun _ _ => trivial⟩
end Go.Proofs.Ytikikmkfeeljgaa.E
namespace Go.Proofs.Ytikikmkfeeljgaa.E
open Go.RowKit
variable {R : Type}
theorem known_T (k : Bool → Option R) : verdererlaw15_known_F 10000 k = k true := by kernel_rfl
def argT (v : ByteArray) : ty38.D := (v, false, (0, false, 0, (⟨#[]⟩ : ByteArray), ()), ())
def allS (l : List ty41.D) : List ty38.D := l.flatMap fun a => a.2.2.1.map fun t => argT t.1
theorem allS_len (l : List ty41.D) : (allS l).length = many l := by
  induction l with
  | nil => rfl
  | cons a l ih => simp only [allS, many, List.flatMap_cons, List.length_append, List.length_map, List.map_cons, List.sum_cons] at ih ⊢; rw [ih]
theorem many_app (l m : List ty41.D) : many (l ++ m) = many l + many m := by
  unfold many; rw [List.map_append, List.sum_append]
theorem many_le (l : List ty41.D) (h : ∀ a ∈ l, a.2.2.1.length ≤ 100) : many l ≤ 100 * l.length := by
  induction l with
  | nil => simp [many]
  | cons a l ih =>
    have h1 := ih fun b hb => h b (List.mem_cons_of_mem _ hb)
    have h2 := h a List.mem_cons_self
    simp only [many, List.map_cons, List.sum_cons, List.length_cons] at h1 ⊢
    omega
theorem varsS_all (ts : List ty38.D) (vs : List ByteArray) (h : ts = vs.map argT) (nm : ByteArray) (v : ByteArray) (h0 : v ≠ (⟨#[]⟩ : ByteArray)) (hv : v ∈ vs) : v ∈ varsS (false, nm, ts, 0, ()) := by
  subst h
  unfold varsS
  refine List.mem_filterMap.2 ⟨argT v, List.mem_map_of_mem hv, ?_⟩
  simp [varS, argT, h0]
/-- the body with the atom that binds all -/
def bodyA (l : List ty41.D) (vs : List ByteArray) : List ty41.D := (([] : List ty41.D) ++ l) ++ [(false, (⟨#[97, 108, 108]⟩ : ByteArray), vs.map argT, 0, ())]
theorem bodyA_bound (l : List ty41.D) (vs : List ByteArray) (v : ByteArray) (h0 : v ≠ (⟨#[]⟩ : ByteArray)) (hv : v ∈ vs) : v ∈ boundS (bodyA l vs) := by
  refine (mem_boundS _ _).2 ⟨_, List.mem_append_right _ (List.mem_singleton.2 rfl), rfl, varsS_all _ vs rfl _ v h0 hv⟩
theorem bodyA_free (l : List ty41.D) (vs : List ByteArray) (hl : ∀ a ∈ l, ∀ t ∈ a.2.2.1, t.1 ∈ vs) : ∀ a ∈ bodyA l vs, bindsS a = false → ∀ v ∈ varsS a, v ∈ boundS (bodyA l vs) := by
  intro a ha hb v hv
  unfold bodyA at ha
  rw [List.nil_append] at ha
  rcases List.mem_append.1 ha with ha | ha
  · obtain ⟨t, ht, h1⟩ := List.mem_filterMap.1 hv
    unfold varS at h1
    split at h1
    · cases h1
    · split at h1
      · cases h1
      · injection h1 with h1
        subst h1
        exact bodyA_bound l vs _ (by assumption) (hl a ha t ht)
  · rw [List.mem_singleton] at ha
    subst ha
    cases hb
/-! the walk -/
theorem l14_st (n : Nat) (hn : 9000 < n) (k2 : exK R (verdererlaw15_GuardAll_dx 14)) (x0 : Int) (x1 : ByteArray) (x2 : List ByteArray) (x3 : Int) (x4 : ByteArray) (x5 : Int) (l : List ty41.D) (ts : List ty38.D) (b : Bool) (c : ByteArray) (d : Int) (hl : l.length ≤ 100) (hm : many l ≤ 5000) (ha : ts.length ≤ 1000) :
    runC (verdererlaw15_GuardAll_l14 (R := R) n) n (0, x0, x1, x2, x3, x4, x5, l, ts, b, c, d, ()) k2 = k2.1 (x0, x1, x2, x3, x4, x5, l, ts ++ allS l, b, c, d, ()) := by
  have e0 : ts = ts ++ allS (l.take 0) := by simp [allS]
  conv => lhs; rw [e0]
  refine runC_st (R := R) (step := verdererlaw15_GuardAll_l14 n) _ _ (fun i => ((i : Int), x0, x1, x2, x3, x4, x5, l, ts ++ allS (l.take i), b, c, d, ())) l.length (fun i hi => .inl fun k1 => ?_) (fun k1 => ?_) (show l.length < n by omega)
  · simp only [verdererlaw15_GuardAll_l14, verdererlaw15_GuardAll_s14, lt_nat, hi, decide_true, if_true]
    have hma := many_snoc l i hi
    have hal := allS_len (l.take i)
    have hsn : allS (l.take (i + 1)) = allS (l.take i) ++ l[i].2.2.1.map fun t => argT t.1 := by
      rw [take_snoc _ i hi]
      unfold allS
      rw [List.flatMap_append]
      simp
    rw [hsn, ← List.append_assoc]
    have hcl : (ts ++ allS (l.take i)).length ≤ 6000 := by rw [List.length_append, hal]; omega
    generalize ts ++ allS (l.take i) = cur at *
    have e1 : cur = cur ++ (l[i].2.2.1.take 0).map fun t => argT t.1 := by simp
    conv => lhs; rw [e1]
    refine runC_st (R := R) (step := verdererlaw15_GuardAll_l17 n) _ _ (fun j => ((i : Int), (j : Int), x0, x1, x2, x3, x4, x5, l, cur ++ (l[i].2.2.1.take j).map fun t => argT t.1, b, c, d, ())) l[i].2.2.1.length (fun j hj => .inl fun k1 => ?_) (fun k1 => ?_) (by omega)
    · have : ((l[i].2.2.1.take j).map fun t => argT t.1).length ≤ 6000 := by rw [List.length_map, List.length_take]; omega
      simp only [verdererlaw15_GuardAll_l17, verdererlaw15_GuardAll_s17, lt_nat, hi, hj, in_nat hi, Int.toNat_natCast, getD_nat _ i hi, in_nat hj, getD_nat _ j hj, decide_true, if_true, take_snoc _ j hj, List.map_append, List.map_cons, List.map_nil, wrap_succ j (by omega)]
      rw [if_pos (by simp only [List.length_append, List.length_cons, List.length_nil]; omega), List.append_assoc]
      rfl
    · simp only [verdererlaw15_GuardAll_l17, verdererlaw15_GuardAll_s17, lt_nat, hi, in_nat hi, Int.toNat_natCast, getD_nat _ i hi, Nat.lt_irrefl, decide_false, if_true, Bool.false_eq_true, if_false, List.take_length, wrap_succ i (by omega)]
  · simp only [verdererlaw15_GuardAll_l14, verdererlaw15_GuardAll_s14, lt_nat, Nat.lt_irrefl, decide_false, Bool.false_eq_true, if_false, List.take_length]
theorem join_T (k2 : Bool × Unit → Option R) (x0 : Int) (x1 : ByteArray) (x2 : List ByteArray) (x3 : Int) (x4 : ByteArray) (x5 : Int) (l : List ty41.D) (hl : l.length ≤ 40) (hm : ∀ a ∈ l, a.2.2.1.length ≤ 100) (hh : x2.length ≤ 100) (h1 : ∀ v ∈ x2, v ≠ (⟨#[]⟩ : ByteArray)) (h2 : 2 ≤ x3 → x3 ≤ 4 → x4 ≠ (⟨#[]⟩ : ByteArray)) :
    verdererlaw15_GuardAll_l1000012 (R := R) 10000 (x0, x1, x2, x3, x4, x5, l, [argT (⟨#[122]⟩ : ByteArray)] ++ x2.map argT, false, (⟨#[97, 108, 108]⟩ : ByteArray), 0, ()) (k2, ()) = k2 (true, ()) := by
  rw [verdererlaw15_GuardAll_e1000012]
  simp only [verdererlaw15_GuardAll_li1000012, verdererlaw15_GuardAll_s1000012]
  have hml := many_le l hm
  rw [if_pos (by simp only [List.length_append, List.length_map, List.length_cons, List.length_nil]; omega)]
  refine (l14_st (R := R) 10000 (by omega) _ x0 x1 x2 x3 x4 x5 l _ _ _ _ (by omega) (by omega) (by simp only [List.length_append, List.length_map, List.length_cons, List.length_nil]; omega)).trans ?_
  simp only []
  obtain ⟨vs, hvs, hin⟩ : ∃ vs : List ByteArray, [argT (⟨#[122]⟩ : ByteArray)] ++ x2.map argT ++ [argT x4] ++ allS l = vs.map argT ∧ ((∀ v ∈ x2, v ∈ vs) ∧ x4 ∈ vs ∧ ∀ a ∈ l, ∀ t ∈ a.2.2.1, t.1 ∈ vs) := by
    refine ⟨[(⟨#[122]⟩ : ByteArray)] ++ x2 ++ [x4] ++ l.flatMap fun a => a.2.2.1.map fun t => t.1, ?_, fun v hv => by simp [hv], by simp, fun a ha t ht => ?_⟩
    · simp [allS, List.map_flatMap]
      rfl
    · refine List.mem_append_right _ (List.mem_flatMap.2 ⟨a, ha, List.mem_map_of_mem ht⟩)
  have hvl : vs.length ≤ 5000 := by
    have := congrArg List.length hvs
    simp only [List.length_append, List.length_map, List.length_cons, List.length_nil] at this
    have := allS_len l
    omega
  have hvs' : [argT (⟨#[122]⟩ : ByteArray)] ++ x2.map argT ++ [(x4, false, (0, false, 0, (⟨#[]⟩ : ByteArray), ()), ())] ++ allS l = vs.map argT := hvs
  rw [hvs']
  rw [if_pos (by simp only [List.length_nil]; omega), if_pos (by simp only [List.length_append, List.length_cons, List.length_nil]; omega)]
  have hbA : bodyA l vs = (([] : List ty41.D) ++ l) ++ [(false, (⟨#[97, 108, 108]⟩ : ByteArray), vs.map argT, 0, ())] := rfl
  rw [← hbA]
  have hlen : (bodyA l vs).length < 10000 := by simp only [bodyA, List.length_append, List.length_cons, List.length_nil]; omega
  have hmA : many (bodyA l vs) < 10000 := by
    unfold bodyA
    rw [many_app, List.nil_append]
    simp only [many, List.map_cons, List.map_nil, List.sum_cons, List.sum_nil, List.length_map] at *
    omega
  have ht : ∀ v ∈ toldS (x0, x1, x2, x3, x4, x5, bodyA l vs, ()), v ∈ boundS (bodyA l vs) := by
    intro v hv
    unfold toldS at hv
    rcases List.mem_append.1 hv with hv | hv
    · exact bodyA_bound l vs v (h1 v hv) (hin.1 v hv)
    · split at hv
      · rename_i h
        rw [List.mem_singleton] at hv
        subst hv
        exact bodyA_bound l vs _ (h2 h.1 h.2) hin.2.1
      · cases hv
  have hf := bodyA_free l vs hin.2.2
  rw [check_cov 10000 (x0, x1, x2, x3, x4, x5, bodyA l vs, ()) hlen hmA (show x2.length + 1 < 10000 by omega) (by omega) ⟨_, List.mem_append_right _ (List.mem_singleton.2 rfl), rfl⟩ ht hf]
  rw [free_cov 10000 (x0, x1, x2, x3, x4, x5, bodyA l vs, ()) hlen hmA (show x2.length + 1 < 10000 by omega) (by omega) ht hf]
  rw [known_T]
  rfl
theorem GuardAll_T (a0 : ty25.D) (k : Bool → Option R) : verdererlaw15_GuardAll_F 10000 a0 k = k true := by
  rw [verdererlaw15_GuardAll_e]
  unfold verdererlaw15_GuardAll_Fi
  obtain ⟨b, hb, hk⟩ := few_ex (R := R) 10000 a0 (by omega)
  rw [hk]
  cases b with
  | false => simp only [Bool.not_false, if_true, known_T]
  | true =>
    simp only [Bool.not_true, Bool.false_eq_true, if_false]
    obtain ⟨hh, hl, hm⟩ := hb rfl
    obtain ⟨x0, x1, x2, x3, x4, x5, l, u⟩ := a0
    simp only at hh hl hm ⊢
    have h := runC_ex (R := R) (step := verdererlaw15_GuardAll_l5 10000) (γ := Bool) (fun y k2 => bif y then k2.2.1 (x0, x1, x2, x3, x4, x5, l, [argT (⟨#[122]⟩ : ByteArray)] ++ x2.map argT, false, (⟨#[97, 108, 108]⟩ : ByteArray), 0, ()) else k2.1 (true, ())) (fun i y => y = true → ∀ j v, i ≤ j → x2[j]? = some v → v ≠ (⟨#[]⟩ : ByteArray))
      (fun i => ((i : Int), x0, x1, x2, x3, x4, x5, l, [argT (⟨#[122]⟩ : ByteArray)] ++ (x2.take i).map argT, false, (⟨#[97, 108, 108]⟩ : ByteArray), 0, ())) x2.length (fun i hi => ?_) ⟨true, fun _ j v h1 h2 => ?_, fun k1 k2 => ?_⟩ (n := 10000) (by omega)
    · obtain ⟨y, hy, e⟩ := h
      refine (e _).trans ?_
      cases y with
      | false => rfl
      | true =>
        have hne : ∀ v ∈ x2, v ≠ (⟨#[]⟩ : ByteArray) := fun v hv => by
          obtain ⟨j, hj⟩ := List.getElem?_of_mem hv
          exact hy rfl j v (Nat.zero_le _) hj
        simp only [cond_true, beqB]
        by_cases c0 : x4 = (⟨#[]⟩ : ByteArray)
        · by_cases c1 : 2 ≤ x3
          · by_cases c2 : x3 ≤ 4
            · simp only [c0, ge_iff_le, c1, c2, decide_true, if_true, known_T]
            · simp only [c0, ge_iff_le, c1, c2, decide_true, if_true, decide_false, Bool.false_eq_true, if_false]
              exact join_T (fun b => k b.1) x0 x1 x2 x3 _ x5 l hl hm hh hne (fun _ h => absurd h c2)
          · simp only [c0, ge_iff_le, c1, decide_true, if_true, decide_false, Bool.false_eq_true, if_false]
            exact join_T (fun b => k b.1) x0 x1 x2 x3 _ x5 l hl hm hh hne (fun h => absurd h c1)
        · simp only [c0, decide_false, Bool.false_eq_true, if_false]
          exact join_T (fun b => k b.1) x0 x1 x2 x3 x4 x5 l hl hm hh hne (fun _ _ => c0)
    · by_cases hs : x2[i] = (⟨#[]⟩ : ByteArray)
      · exact .inr ⟨false, (fun h => by cases h), fun k1 k2 => by simp only [verdererlaw15_GuardAll_l5, verdererlaw15_GuardAll_s5, lt_nat, hi, in_nat hi, Int.toNat_natCast, getD_nat _ i hi, beqB, hs, decide_true, if_true, known_T]; rfl⟩
      · refine .inl ⟨fun k1 k2 => ?_, fun y hq hy j v h1 h2 => ?_⟩
        · simp only [verdererlaw15_GuardAll_l5, verdererlaw15_GuardAll_s5, lt_nat, hi, in_nat hi, Int.toNat_natCast, getD_nat _ i hi, beqB, hs, decide_true, decide_false, Bool.false_eq_true, if_false, if_true, take_snoc _ i hi, List.map_append, List.map_cons, List.map_nil, wrap_succ i (by omega)]
          rw [if_pos (by simp only [List.length_append, List.length_cons, List.length_nil, List.length_map, List.length_take]; omega), List.append_assoc]
          rfl
        · by_cases hij : j = i
          · subst hij; rw [List.getElem?_eq_getElem hi] at h2; injection h2 with h2; subst h2; exact hs
          · exact hq hy j v (by omega) h2
    · have := (List.getElem?_eq_some_iff.1 h2).1; omega
    · simp only [verdererlaw15_GuardAll_l5, verdererlaw15_GuardAll_s5, lt_nat, Nat.lt_irrefl, decide_false, Bool.false_eq_true, if_false, List.take_length]; rfl
end Go.Proofs.Ytikikmkfeeljgaa.E
namespace Go.Proofs.Ytikikmkfeeljgaa.E
theorem GuardAll_true (a0 : ty25.D) (w0 : Fine ty25 a0) : ∃ n, verdererlaw15_GuardAll_F (R := Unit) n a0 (fun b => bif b then some () else none) = some () := ⟨10000, GuardAll_T a0 _⟩
end Go.Proofs.Ytikikmkfeeljgaa.E
