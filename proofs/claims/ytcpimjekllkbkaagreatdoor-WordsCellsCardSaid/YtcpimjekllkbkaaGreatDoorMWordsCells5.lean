/- For the law WordsCells. -/
import Derived.Test.YtcpimjekllkbkaaGreatDoorMWordsCells4
import Derived.Test.YtcpimjekllkbkaaGreatDoorProg
import Derived.KernelRfl
import Derived.ChangeArms
import Derived.ChangeSame
import Derived.WideLaws
import Derived.Deep.Slices
import Derived.Laws.Bits64
import Derived.Lib.ItoaNum
import Derived.Lib.ParseIntB
set_option linter.unusedVariables false
set_option linter.unusedSimpArgs false
set_option linter.unusedSectionVars false
set_option linter.unusedVariables false
set_option maxRecDepth 100000
namespace Go.Proofs.YtcpimjekllkbkaaGreatDoor.E
open Go.Proofs
noncomputable section
variable {R : Type}
@[reducible] def ty25 : Ty := (.pr (.int .i64) (.pr .bool (.pr (.int .i64) (.pr .str .un))))
@[reducible] def ty35 : Ty := (.pr .str (.pr .str (.pr .str (.pr (.int .i64) (.pr (.sl ty25) .un)))))
@[reducible] def ty37 : Ty := (.pr .str (.pr .str .un))
@[reducible] def ty39 : Ty := (.pr (.int .i64) (.pr (.int .i64) (.pr ty35 (.pr ty37 (.pr .str (.pr (.int .i64) .un))))))
end
end Go.Proofs.YtcpimjekllkbkaaGreatDoor.E
set_option linter.unusedVariables false
set_option maxRecDepth 100000
namespace Go.Proofs.YtcpimjekllkbkaaGreatDoor.E
open Go.Proofs
noncomputable section
variable {R : Type}
/-! verderer/verdererref01.digits: function 57 -/
def verdererref01_digits_ds : Nat → Desc
  | 3 => ⟨[(0, .d (.int .u64)), (3, .d .str), (4, .d (.int .i64))], []⟩
  | _ => ⟨[], []⟩
def verdererref01_digits_dx : Nat → List (X × Desc)
  | 3 => [(.e 0, ⟨[(3, .d .str)], []⟩)]
  | _ => []
def verdererref01_digits_s3 (n : Nat) (x0 : Int) (x1 : ByteArray) (x2 : Int) (k1 : Int → ByteArray → Int → Option R) (qe0 : ByteArray → Option R) : Option R :=
  if (decide (x2 < 20)) = true then (if (x2 == 0) = true then (if (0 : Int) ≤ (IntKind.u64.wrap ((Int.tmod x0 10) + 1)) ∧ (IntKind.u64.wrap ((Int.tmod x0 10) + 1)) ≤ ((⟨#[48, 49, 50, 51, 52, 53, 54, 55, 56, 57]⟩ : ByteArray).size : Int) then (if (0 : Int) ≤ (Int.tmod x0 10) ∧ (Int.tmod x0 10) ≤ ((Int.toNat (IntKind.u64.wrap ((Int.tmod x0 10) + 1))) : Int) then (if ((⟨#[48, 49, 50, 51, 52, 53, 54, 55, 56, 57]⟩ : ByteArray).extract (Int.toNat (Int.tmod x0 10)) (Int.toNat (IntKind.u64.wrap ((Int.tmod x0 10) + 1)))).size + x1.size ≤ 9223372036854775807 then (k1 (IntKind.u64.wrap (Int.tdiv x0 10)) (((⟨#[48, 49, 50, 51, 52, 53, 54, 55, 56, 57]⟩ : ByteArray).extract (Int.toNat (Int.tmod x0 10)) (Int.toNat (IntKind.u64.wrap ((Int.tmod x0 10) + 1)))) ++ x1) (IntKind.i64.wrap (x2 + 1))) else none) else none) else none) else (if (decide (x0 > 0)) = true then (if (0 : Int) ≤ (IntKind.u64.wrap ((Int.tmod x0 10) + 1)) ∧ (IntKind.u64.wrap ((Int.tmod x0 10) + 1)) ≤ ((⟨#[48, 49, 50, 51, 52, 53, 54, 55, 56, 57]⟩ : ByteArray).size : Int) then (if (0 : Int) ≤ (Int.tmod x0 10) ∧ (Int.tmod x0 10) ≤ ((Int.toNat (IntKind.u64.wrap ((Int.tmod x0 10) + 1))) : Int) then (if ((⟨#[48, 49, 50, 51, 52, 53, 54, 55, 56, 57]⟩ : ByteArray).extract (Int.toNat (Int.tmod x0 10)) (Int.toNat (IntKind.u64.wrap ((Int.tmod x0 10) + 1)))).size + x1.size ≤ 9223372036854775807 then (k1 (IntKind.u64.wrap (Int.tdiv x0 10)) (((⟨#[48, 49, 50, 51, 52, 53, 54, 55, 56, 57]⟩ : ByteArray).extract (Int.toNat (Int.tmod x0 10)) (Int.toNat (IntKind.u64.wrap ((Int.tmod x0 10) + 1)))) ++ x1) (IntKind.i64.wrap (x2 + 1))) else none) else none) else none) else (qe0 x1))) else (qe0 x1)
def verdererref01_digits_l3 (n : Nat) (a : (verdererref01_digits_ds 3).D) (k1 : (verdererref01_digits_ds 3).D → Option R) (k2 : exK R (verdererref01_digits_dx 3)) : Option R :=
  verdererref01_digits_s3 n a.1 a.2.1 a.2.2.1 (fun x0 x1 x2 => k1 (x0, x1, x2, ())) (fun x0 => k2.1 (x0, ()))
@[reducible] def verdererref01_digits_d : Desc := ⟨[(0, .d (.int .u64))], []⟩
def verdererref01_digits_Fi (n : Nat) (a0 : Int) (k0 : ByteArray → Option R) : Option R :=
  runC (verdererref01_digits_l3 n) n (a0, (⟨#[]⟩ : ByteArray), 0, ()) (fun b1 => k0 b1.1, ())
def verdererref01_digits_F {R : Type} := lazyN (@verdererref01_digits_Fi R)
theorem verdererref01_digits_e : @verdererref01_digits_F R = @verdererref01_digits_Fi R := lazyN_eq _
def verdererref01_digits_g (n : Nat) : Gx R := typed 1 verdererref01_digits_d fun x k => verdererref01_digits_F n x.1 (fun y0 => k (.a (.c (.s y0))) [])
def verdererref01_digits_cs (R : Type) (n : Nat) : List (Nat × Gx R) := []
def verdererref01_digits_lp (n : Nat) : (i : Nat) → (verdererref01_digits_ds i).D → exK R (verdererref01_digits_dx i) → Option R
  | 3, a, k => runC (verdererref01_digits_l3 n) n a k
  | _, _, _ => none
def verdererref01_digits_cx (R : Type) (n : Nat) : Cx R := ⟨Tryz.prog, Gof (verdererref01_digits_cs R n), verdererref01_digits_ds, verdererref01_digits_dx, verdererref01_digits_lp n, drawP Tryz.prog (Gof (verdererref01_digits_cs R n)), false, noJn, noFz⟩
theorem verdererref01_digits_ok [Esc R] (n : Nat) : Good Tryz.prog 57 (verdererref01_digits_g (R := R) n) := by
  unfold verdererref01_digits_g
  rw [verdererref01_digits_e]
  exact Good.fn (f := 57) (cx := verdererref01_digits_cx R n) (by kernel_rfl) (AllGood.nil) rfl Tryz.func57 (by kernel_rfl) rfl (by
    have e : fnLoops noJn Tryz.f57 = [((fnLoops noJn Tryz.f57)[0]?).getD (false, .skip)] := by kernel_rfl
    show LoopRuns _ _ (fnLoops noJn _)
    rw [e]
    exact ⟨LoopRun.loop (by kernel_rfl) (i := 3) (m := n) (step := verdererref01_digits_l3 n) (by kernel_rfl) (fun a k1 k2 => by kernel_rfl) (fun _ _ => rfl), trivial⟩) 1 verdererref01_digits_d (by kernel_rfl) (fun x k => by kernel_rfl)
end
end Go.Proofs.YtcpimjekllkbkaaGreatDoor.E
set_option linter.unusedVariables false
set_option maxRecDepth 100000
namespace Go.Proofs.YtcpimjekllkbkaaGreatDoor.E
open Go.Proofs
noncomputable section
variable {R : Type}
/-! verderer/verdererref01.Num: function 32 -/
@[reducible] def verdererref01_Num_d : Desc := ⟨[(0, .d (.int .i64))], []⟩
def verdererref01_Num_Fi (n : Nat) (a0 : Int) (k0 : ByteArray → Option R) : Option R :=
  if (decide (a0 < 0)) = true then (verdererref01_digits_F n (IntKind.u64.wrap (0 - (IntKind.u64.wrap a0))) (fun y1 => if (⟨#[45]⟩ : ByteArray).size + y1.size ≤ 9223372036854775807 then (k0 ((⟨#[45]⟩ : ByteArray) ++ y1)) else none)) else (verdererref01_digits_F n (IntKind.u64.wrap a0) (fun y2 => k0 y2))
def verdererref01_Num_F {R : Type} := lazyN (@verdererref01_Num_Fi R)
theorem verdererref01_Num_e : @verdererref01_Num_F R = @verdererref01_Num_Fi R := lazyN_eq _
def verdererref01_Num_g (n : Nat) : Gx R := typed 1 verdererref01_Num_d fun x k => verdererref01_Num_F n x.1 (fun y0 => k (.a (.c (.s y0))) [])
def verdererref01_Num_cs (R : Type) (n : Nat) : List (Nat × Gx R) := [(57, verdererref01_digits_g n)]
def verdererref01_Num_cx (R : Type) (n : Nat) : Cx R := ⟨Tryz.prog, Gof (verdererref01_Num_cs R n), noDs, noDx, noLp, drawP Tryz.prog (Gof (verdererref01_Num_cs R n)), false, noJn, noFz⟩
theorem verdererref01_Num_ok [Esc R] (n : Nat) : Good Tryz.prog 32 (verdererref01_Num_g (R := R) n) := by
  unfold verdererref01_Num_g
  rw [verdererref01_Num_e]
  exact Good.fn (f := 32) (cx := verdererref01_Num_cx R n) (by kernel_rfl) (AllGood.cons (verdererref01_digits_ok n) (AllGood.nil)) rfl Tryz.func32 (by kernel_rfl) rfl trivial 1 verdererref01_Num_d (by kernel_rfl) (fun x k => by kernel_rfl)
end
end Go.Proofs.YtcpimjekllkbkaaGreatDoor.E
set_option linter.unusedVariables false
set_option maxRecDepth 100000
namespace Go.Proofs.YtcpimjekllkbkaaGreatDoor.E
open Go.Proofs
noncomputable section
variable {R : Type}
/-! verderer/verdererref01.Number: function 37 -/
def verdererref01_Number_ds : Nat → Desc
  | 8 => ⟨[(0, .d .str), (4, .d (.int .u64)), (5, .d (.int .i64)), (6, .d (.int .i64))], []⟩
  | 1000005 => ⟨[(0, .d .str), (4, .d (.int .u64)), (5, .d (.int .i64))], []⟩
  | _ => ⟨[], []⟩
def verdererref01_Number_dx : Nat → List (X × Desc)
  | 8 => [(.r, ⟨[(2, .d (.int .i64)), (3, .d .bool)], []⟩), (.e 0, ⟨[(0, .d .str), (4, .d (.int .u64)), (5, .d (.int .i64))], []⟩)]
  | 1000005 => [(.r, ⟨[(2, .d (.int .i64)), (3, .d .bool)], []⟩)]
  | _ => []
def verdererref01_Number_s8 (n : Nat) (x0 : ByteArray) (x1 : Int) (x2 : Int) (x3 : Int) (k1 : ByteArray → Int → Int → Int → Option R) (qr : Int → Bool → Option R) (qe0 : ByteArray → Int → Int → Option R) : Option R :=
  if (decide (x3 < (x0.size : Int))) = true then (if (0 : Int) ≤ x3 then if x3 < (x0.size : Int) then (if (decide ((byteAt x0 x3) < 48)) = true then (qr 0 false) else (if (0 : Int) ≤ x3 then if x3 < (x0.size : Int) then (if (decide ((byteAt x0 x3) > 57)) = true then (qr 0 false) else (if (0 : Int) ≤ x3 then if x3 < (x0.size : Int) then (k1 x0 (IntKind.u64.wrap ((IntKind.u64.wrap (x1 * 10)) + (IntKind.u64.wrap (IntKind.u8.wrap ((byteAt x0 x3) - 48))))) x2 (IntKind.i64.wrap (x3 + 1))) else none else none)) else none else none)) else none else none) else (qe0 x0 x1 x2)
def verdererref01_Number_l8 (n : Nat) (a : (verdererref01_Number_ds 8).D) (k1 : (verdererref01_Number_ds 8).D → Option R) (k2 : exK R (verdererref01_Number_dx 8)) : Option R :=
  verdererref01_Number_s8 n a.1 a.2.1 a.2.2.1 a.2.2.2.1 (fun x0 x1 x2 x3 => k1 (x0, x1, x2, x3, ())) (fun x0 x1 => k2.1 (x0, x1, ())) (fun x0 x1 x2 => k2.2.1 (x0, x1, x2, ()))
def verdererref01_Number_s1000005 (n : Nat) (x0 : ByteArray) (x1 : Int) (x2 : Int) (qr : Int → Bool → Option R) : Option R :=
  if ((x0.size : Int) == x2) = true then (qr 0 false) else (if (decide ((IntKind.i64.wrap ((x0.size : Int) - x2)) > 19)) = true then (qr 0 false) else (runC (verdererref01_Number_l8 n) n (x0, x1, x2, x2, ()) (fun b2 => qr b2.1 b2.2.1, fun b5 => if (b5.2.2.1 == 1) = true then (verdererref01_Num_F n (IntKind.i64.wrap (IntKind.u64.wrap (0 - b5.2.1))) (fun y6 => qr (IntKind.i64.wrap (IntKind.u64.wrap (0 - b5.2.1))) (y6.toList == b5.1.toList))) else (verdererref01_Num_F n (IntKind.i64.wrap b5.2.1) (fun y7 => qr (IntKind.i64.wrap b5.2.1) (y7.toList == b5.1.toList))), ())))
def verdererref01_Number_li1000005 (n : Nat) (a : (verdererref01_Number_ds 1000005).D) (k2 : exK R (verdererref01_Number_dx 1000005)) : Option R :=
  verdererref01_Number_s1000005 n a.1 a.2.1 a.2.2.1 (fun x0 x1 => k2.1 (x0, x1, ()))
def verdererref01_Number_l1000005 {R : Type} := lazyN (@verdererref01_Number_li1000005 R)
theorem verdererref01_Number_e1000005 : @verdererref01_Number_l1000005 R = @verdererref01_Number_li1000005 R := lazyN_eq _
@[reducible] def verdererref01_Number_d : Desc := ⟨[(0, .d .str)], []⟩
def verdererref01_Number_Fi (n : Nat) (a0 : ByteArray) (k0 : Int → Bool → Option R) : Option R :=
  if (decide ((a0.size : Int) > 0)) = true then (if (0 : Int) ≤ 0 then if 0 < (a0.size : Int) then (if ((byteAt a0 0) == 45) = true then (verdererref01_Number_l1000005 n (a0, 0, 1, ()) (fun b9 => k0 b9.1 b9.2.1, ())) else (verdererref01_Number_l1000005 n (a0, 0, 0, ()) (fun b11 => k0 b11.1 b11.2.1, ()))) else none else none) else (verdererref01_Number_l1000005 n (a0, 0, 0, ()) (fun b13 => k0 b13.1 b13.2.1, ()))
def verdererref01_Number_F {R : Type} := lazyN (@verdererref01_Number_Fi R)
theorem verdererref01_Number_e : @verdererref01_Number_F R = @verdererref01_Number_Fi R := lazyN_eq _
def verdererref01_Number_g (n : Nat) : Gx R := typed 1 verdererref01_Number_d fun x k => verdererref01_Number_F n x.1 (fun y0 y1 => k (.tu [(.c (.i .i64 y0)), (.c (.b y1))]) [])
def verdererref01_Number_cs (R : Type) (n : Nat) : List (Nat × Gx R) := [(32, verdererref01_Num_g n)]
def verdererref01_Number_lp (n : Nat) : (i : Nat) → (verdererref01_Number_ds i).D → exK R (verdererref01_Number_dx i) → Option R
  | 8, a, k => runC (verdererref01_Number_l8 n) n a k
  | 1000005, a, k => verdererref01_Number_l1000005 n a k
  | _, _, _ => none
def verdererref01_Number_cx (R : Type) (n : Nat) : Cx R := ⟨Tryz.prog, Gof (verdererref01_Number_cs R n), verdererref01_Number_ds, verdererref01_Number_dx, verdererref01_Number_lp n, drawP Tryz.prog (Gof (verdererref01_Number_cs R n)), false, (memN [5]), noFz⟩
theorem verdererref01_Number_ok [Esc R] (n : Nat) : Good Tryz.prog 37 (verdererref01_Number_g (R := R) n) := by
  unfold verdererref01_Number_g
  rw [verdererref01_Number_e]
  exact Good.fn (f := 37) (cx := verdererref01_Number_cx R n) (by kernel_rfl) (AllGood.cons (verdererref01_Num_ok n) (AllGood.nil)) rfl Tryz.func37 (by kernel_rfl) rfl (by
    have e : fnLoops (memN [5]) Tryz.f37 = [((fnLoops (memN [5]) Tryz.f37)[0]?).getD (false, .skip), ((fnLoops (memN [5]) Tryz.f37)[1]?).getD (false, .skip)] := by kernel_rfl
    show LoopRuns _ _ (fnLoops (memN [5]) _)
    rw [e]
    exact ⟨LoopRun.joinS (by kernel_rfl) (i := 5) (L := verdererref01_Number_l1000005 n) (Li := verdererref01_Number_li1000005 n) (by rw [verdererref01_Number_e1000005]) (by kernel_rfl) (fun a k => by kernel_rfl) (fun a k => by kernel_rfl), ⟨LoopRun.loop (by kernel_rfl) (i := 8) (m := n) (step := verdererref01_Number_l8 n) (by kernel_rfl) (fun a k1 k2 => by kernel_rfl) (fun _ _ => rfl), trivial⟩⟩) 1 verdererref01_Number_d (by kernel_rfl) (fun x k => by kernel_rfl)
end
end Go.Proofs.YtcpimjekllkbkaaGreatDoor.E
set_option linter.unusedVariables false
set_option maxRecDepth 100000
namespace Go.Proofs.YtcpimjekllkbkaaGreatDoor.E
open Go.Proofs
noncomputable section
variable {R : Type}
/-! verderer/verdererref01.Right: function 31 -/
@[reducible] def verdererref01_Right_d : Desc := ⟨[(0, .d ty25)], []⟩
def verdererref01_Right_Fi (n : Nat) (a0 : ty25.D) (k0 : Bool → Option R) : Option R :=
  if (decide (a0.1 < 0)) = true then (k0 false) else (if (decide (a0.1 > 3)) = true then (k0 false) else (if (a0.1 != 1) = true then (if a0.2.1 = true then (k0 false) else (if (a0.1 != 2) = true then (if (a0.2.2.1 != 0) = true then (k0 false) else (if (a0.1 != 3) = true then (if (!(a0.2.2.2.1.toList == (⟨#[]⟩ : ByteArray).toList)) = true then (k0 false) else (k0 (decide ((a0.2.2.2.1.size : Int) ≤ 60)))) else (k0 (decide ((a0.2.2.2.1.size : Int) ≤ 60))))) else (if (a0.1 != 3) = true then (if (!(a0.2.2.2.1.toList == (⟨#[]⟩ : ByteArray).toList)) = true then (k0 false) else (k0 (decide ((a0.2.2.2.1.size : Int) ≤ 60)))) else (k0 (decide ((a0.2.2.2.1.size : Int) ≤ 60)))))) else (if (a0.1 != 2) = true then (if (a0.2.2.1 != 0) = true then (k0 false) else (if (a0.1 != 3) = true then (if (!(a0.2.2.2.1.toList == (⟨#[]⟩ : ByteArray).toList)) = true then (k0 false) else (k0 (decide ((a0.2.2.2.1.size : Int) ≤ 60)))) else (k0 (decide ((a0.2.2.2.1.size : Int) ≤ 60))))) else (if (a0.1 != 3) = true then (if (!(a0.2.2.2.1.toList == (⟨#[]⟩ : ByteArray).toList)) = true then (k0 false) else (k0 (decide ((a0.2.2.2.1.size : Int) ≤ 60)))) else (k0 (decide ((a0.2.2.2.1.size : Int) ≤ 60)))))))
def verdererref01_Right_F {R : Type} := lazyN (@verdererref01_Right_Fi R)
theorem verdererref01_Right_e : @verdererref01_Right_F R = @verdererref01_Right_Fi R := lazyN_eq _
def verdererref01_Right_g (n : Nat) : Gx R := typed 1 verdererref01_Right_d fun x k => verdererref01_Right_F n x.1 (fun y0 => k (.a (.c (.b y0))) [])
def verdererref01_Right_cs (R : Type) (n : Nat) : List (Nat × Gx R) := []
def verdererref01_Right_cx (R : Type) (n : Nat) : Cx R := ⟨Tryz.prog, Gof (verdererref01_Right_cs R n), noDs, noDx, noLp, drawP Tryz.prog (Gof (verdererref01_Right_cs R n)), false, noJn, noFz⟩
theorem verdererref01_Right_ok [Esc R] (n : Nat) : Good Tryz.prog 31 (verdererref01_Right_g (R := R) n) := by
  unfold verdererref01_Right_g
  rw [verdererref01_Right_e]
  exact Good.fn (f := 31) (cx := verdererref01_Right_cx R n) (by kernel_rfl) (AllGood.nil) rfl Tryz.func31 (by kernel_rfl) rfl trivial 1 verdererref01_Right_d (by kernel_rfl) (fun x k => by kernel_rfl)
end
end Go.Proofs.YtcpimjekllkbkaaGreatDoor.E
set_option linter.unusedVariables false
set_option maxRecDepth 100000
namespace Go.Proofs.YtcpimjekllkbkaaGreatDoor.E
open Go.Proofs
noncomputable section
variable {R : Type}
/-! verderer/verdererref01.quoted: function 33 -/
def verdererref01_quoted_ds : Nat → Desc
  | 1000009 => ⟨[(0, .d .str), (3, .d .str), (4, .d (.int .i64)), (5, .d (.int .u8)), (35, .d .bool)], []⟩
  | 1000007 => ⟨[(0, .d .str), (3, .d .str), (4, .d (.int .i64)), (5, .d (.int .u8)), (21, .d .bool)], []⟩
  | 3 => ⟨[(0, .d .str), (3, .d .str), (4, .d (.int .i64))], []⟩
  | _ => ⟨[], []⟩
def verdererref01_quoted_dx : Nat → List (X × Desc)
  | 1000009 => [(.n, ⟨[(0, .d .str), (3, .d .str), (4, .d (.int .i64))], []⟩)]
  | 1000007 => [(.n, ⟨[(0, .d .str), (3, .d .str), (4, .d (.int .i64))], []⟩)]
  | 3 => [(.e 0, ⟨[(3, .d .str)], []⟩)]
  | _ => []
def verdererref01_quoted_s1000009 (n : Nat) (x0 : ByteArray) (x1 : ByteArray) (x2 : Int) (x3 : Int) (x4 : Bool) (qn : ByteArray → ByteArray → Int → Option R) : Option R :=
  if x4 = true then (if x1.size + (⟨#[92, 120]⟩ : ByteArray).size ≤ 9223372036854775807 then (if (0 : Int) ≤ (IntKind.u8.wrap ((IntKind.u8.wrap (Int.tdiv x3 16)) + 1)) ∧ (IntKind.u8.wrap ((IntKind.u8.wrap (Int.tdiv x3 16)) + 1)) ≤ ((⟨#[48, 49, 50, 51, 52, 53, 54, 55, 56, 57, 97, 98, 99, 100, 101, 102]⟩ : ByteArray).size : Int) then (if (0 : Int) ≤ (IntKind.u8.wrap (Int.tdiv x3 16)) ∧ (IntKind.u8.wrap (Int.tdiv x3 16)) ≤ ((Int.toNat (IntKind.u8.wrap ((IntKind.u8.wrap (Int.tdiv x3 16)) + 1))) : Int) then (if (x1 ++ (⟨#[92, 120]⟩ : ByteArray)).size + ((⟨#[48, 49, 50, 51, 52, 53, 54, 55, 56, 57, 97, 98, 99, 100, 101, 102]⟩ : ByteArray).extract (Int.toNat (IntKind.u8.wrap (Int.tdiv x3 16))) (Int.toNat (IntKind.u8.wrap ((IntKind.u8.wrap (Int.tdiv x3 16)) + 1)))).size ≤ 9223372036854775807 then (if (0 : Int) ≤ (IntKind.u8.wrap ((Int.tmod x3 16) + 1)) ∧ (IntKind.u8.wrap ((Int.tmod x3 16) + 1)) ≤ ((⟨#[48, 49, 50, 51, 52, 53, 54, 55, 56, 57, 97, 98, 99, 100, 101, 102]⟩ : ByteArray).size : Int) then (if (0 : Int) ≤ (Int.tmod x3 16) ∧ (Int.tmod x3 16) ≤ ((Int.toNat (IntKind.u8.wrap ((Int.tmod x3 16) + 1))) : Int) then (if ((x1 ++ (⟨#[92, 120]⟩ : ByteArray)) ++ ((⟨#[48, 49, 50, 51, 52, 53, 54, 55, 56, 57, 97, 98, 99, 100, 101, 102]⟩ : ByteArray).extract (Int.toNat (IntKind.u8.wrap (Int.tdiv x3 16))) (Int.toNat (IntKind.u8.wrap ((IntKind.u8.wrap (Int.tdiv x3 16)) + 1))))).size + ((⟨#[48, 49, 50, 51, 52, 53, 54, 55, 56, 57, 97, 98, 99, 100, 101, 102]⟩ : ByteArray).extract (Int.toNat (Int.tmod x3 16)) (Int.toNat (IntKind.u8.wrap ((Int.tmod x3 16) + 1)))).size ≤ 9223372036854775807 then (qn x0 (((x1 ++ (⟨#[92, 120]⟩ : ByteArray)) ++ ((⟨#[48, 49, 50, 51, 52, 53, 54, 55, 56, 57, 97, 98, 99, 100, 101, 102]⟩ : ByteArray).extract (Int.toNat (IntKind.u8.wrap (Int.tdiv x3 16))) (Int.toNat (IntKind.u8.wrap ((IntKind.u8.wrap (Int.tdiv x3 16)) + 1))))) ++ ((⟨#[48, 49, 50, 51, 52, 53, 54, 55, 56, 57, 97, 98, 99, 100, 101, 102]⟩ : ByteArray).extract (Int.toNat (Int.tmod x3 16)) (Int.toNat (IntKind.u8.wrap ((Int.tmod x3 16) + 1))))) x2) else none) else none) else none) else none) else none) else none) else none) else (if (0 : Int) ≤ (IntKind.i64.wrap (x2 + 1)) ∧ (IntKind.i64.wrap (x2 + 1)) ≤ (x0.size : Int) then (if (0 : Int) ≤ x2 ∧ x2 ≤ ((Int.toNat (IntKind.i64.wrap (x2 + 1))) : Int) then (if x1.size + (x0.extract (Int.toNat x2) (Int.toNat (IntKind.i64.wrap (x2 + 1)))).size ≤ 9223372036854775807 then (qn x0 (x1 ++ (x0.extract (Int.toNat x2) (Int.toNat (IntKind.i64.wrap (x2 + 1))))) x2) else none) else none) else none)
def verdererref01_quoted_li1000009 (n : Nat) (a : (verdererref01_quoted_ds 1000009).D) (k2 : exK R (verdererref01_quoted_dx 1000009)) : Option R :=
  verdererref01_quoted_s1000009 n a.1 a.2.1 a.2.2.1 a.2.2.2.1 a.2.2.2.2.1 (fun x0 x1 x2 => k2.1 (x0, x1, x2, ()))
def verdererref01_quoted_l1000009 {R : Type} := lazyN (@verdererref01_quoted_li1000009 R)
theorem verdererref01_quoted_e1000009 : @verdererref01_quoted_l1000009 R = @verdererref01_quoted_li1000009 R := lazyN_eq _
def verdererref01_quoted_s1000007 (n : Nat) (x0 : ByteArray) (x1 : ByteArray) (x2 : Int) (x3 : Int) (x4 : Bool) (qn : ByteArray → ByteArray → Int → Option R) : Option R :=
  if x4 = true then (if x1.size + (⟨#[92]⟩ : ByteArray).size ≤ 9223372036854775807 then (if (0 : Int) ≤ (IntKind.i64.wrap (x2 + 1)) ∧ (IntKind.i64.wrap (x2 + 1)) ≤ (x0.size : Int) then (if (0 : Int) ≤ x2 ∧ x2 ≤ ((Int.toNat (IntKind.i64.wrap (x2 + 1))) : Int) then (if (x1 ++ (⟨#[92]⟩ : ByteArray)).size + (x0.extract (Int.toNat x2) (Int.toNat (IntKind.i64.wrap (x2 + 1)))).size ≤ 9223372036854775807 then (qn x0 ((x1 ++ (⟨#[92]⟩ : ByteArray)) ++ (x0.extract (Int.toNat x2) (Int.toNat (IntKind.i64.wrap (x2 + 1))))) x2) else none) else none) else none) else none) else (if (decide (x3 < 32)) = true then (verdererref01_quoted_l1000009 n (x0, x1, x2, x3, true, ()) (fun b3 => qn b3.1 b3.2.1 b3.2.2.1, ())) else (verdererref01_quoted_l1000009 n (x0, x1, x2, x3, (decide (x3 > 126)), ()) (fun b6 => qn b6.1 b6.2.1 b6.2.2.1, ())))
def verdererref01_quoted_li1000007 (n : Nat) (a : (verdererref01_quoted_ds 1000007).D) (k2 : exK R (verdererref01_quoted_dx 1000007)) : Option R :=
  verdererref01_quoted_s1000007 n a.1 a.2.1 a.2.2.1 a.2.2.2.1 a.2.2.2.2.1 (fun x0 x1 x2 => k2.1 (x0, x1, x2, ()))
def verdererref01_quoted_l1000007 {R : Type} := lazyN (@verdererref01_quoted_li1000007 R)
theorem verdererref01_quoted_e1000007 : @verdererref01_quoted_l1000007 R = @verdererref01_quoted_li1000007 R := lazyN_eq _
def verdererref01_quoted_s3 (n : Nat) (x0 : ByteArray) (x1 : ByteArray) (x2 : Int) (k1 : ByteArray → ByteArray → Int → Option R) (qe0 : ByteArray → Option R) : Option R :=
  if (decide (x2 < (x0.size : Int))) = true then (if (0 : Int) ≤ x2 then if x2 < (x0.size : Int) then (if ((byteAt x0 x2) == 34) = true then (verdererref01_quoted_l1000007 n (x0, x1, x2, (byteAt x0 x2), true, ()) (fun b9 => k1 b9.1 b9.2.1 (IntKind.i64.wrap (b9.2.2.1 + 1)), ())) else (verdererref01_quoted_l1000007 n (x0, x1, x2, (byteAt x0 x2), ((byteAt x0 x2) == 92), ()) (fun b12 => k1 b12.1 b12.2.1 (IntKind.i64.wrap (b12.2.2.1 + 1)), ()))) else none else none) else (qe0 x1)
def verdererref01_quoted_l3 (n : Nat) (a : (verdererref01_quoted_ds 3).D) (k1 : (verdererref01_quoted_ds 3).D → Option R) (k2 : exK R (verdererref01_quoted_dx 3)) : Option R :=
  verdererref01_quoted_s3 n a.1 a.2.1 a.2.2.1 (fun x0 x1 x2 => k1 (x0, x1, x2, ())) (fun x0 => k2.1 (x0, ()))
@[reducible] def verdererref01_quoted_d : Desc := ⟨[(0, .d .str)], []⟩
def verdererref01_quoted_Fi (n : Nat) (a0 : ByteArray) (k0 : ByteArray → Option R) : Option R :=
  runC (verdererref01_quoted_l3 n) n (a0, (⟨#[34]⟩ : ByteArray), 0, ()) (fun b13 => if b13.1.size + (⟨#[34]⟩ : ByteArray).size ≤ 9223372036854775807 then (k0 (b13.1 ++ (⟨#[34]⟩ : ByteArray))) else none, ())
def verdererref01_quoted_F {R : Type} := lazyN (@verdererref01_quoted_Fi R)
theorem verdererref01_quoted_e : @verdererref01_quoted_F R = @verdererref01_quoted_Fi R := lazyN_eq _
def verdererref01_quoted_g (n : Nat) : Gx R := typed 1 verdererref01_quoted_d fun x k => verdererref01_quoted_F n x.1 (fun y0 => k (.a (.c (.s y0))) [])
def verdererref01_quoted_cs (R : Type) (n : Nat) : List (Nat × Gx R) := []
def verdererref01_quoted_lp (n : Nat) : (i : Nat) → (verdererref01_quoted_ds i).D → exK R (verdererref01_quoted_dx i) → Option R
  | 1000009, a, k => verdererref01_quoted_l1000009 n a k
  | 1000007, a, k => verdererref01_quoted_l1000007 n a k
  | 3, a, k => runC (verdererref01_quoted_l3 n) n a k
  | _, _, _ => none
def verdererref01_quoted_cx (R : Type) (n : Nat) : Cx R := ⟨Tryz.prog, Gof (verdererref01_quoted_cs R n), verdererref01_quoted_ds, verdererref01_quoted_dx, verdererref01_quoted_lp n, drawP Tryz.prog (Gof (verdererref01_quoted_cs R n)), false, (memN [9, 7]), noFz⟩
theorem verdererref01_quoted_ok [Esc R] (n : Nat) : Good Tryz.prog 33 (verdererref01_quoted_g (R := R) n) := by
  unfold verdererref01_quoted_g
  rw [verdererref01_quoted_e]
  exact Good.fn (f := 33) (cx := verdererref01_quoted_cx R n) (by kernel_rfl) (AllGood.nil) rfl Tryz.func33 (by kernel_rfl) rfl (by
    have e : fnLoops (memN [9, 7]) Tryz.f33 = [((fnLoops (memN [9, 7]) Tryz.f33)[0]?).getD (false, .skip), ((fnLoops (memN [9, 7]) Tryz.f33)[1]?).getD (false, .skip), ((fnLoops (memN [9, 7]) Tryz.f33)[2]?).getD (false, .skip)] := by kernel_rfl
    show LoopRuns _ _ (fnLoops (memN [9, 7]) _)
    rw [e]
    exact ⟨LoopRun.loop (by kernel_rfl) (i := 3) (m := n) (step := verdererref01_quoted_l3 n) (by kernel_rfl) (fun a k1 k2 => by kernel_rfl) (fun _ _ => rfl), ⟨LoopRun.joinS (by kernel_rfl) (i := 7) (L := verdererref01_quoted_l1000007 n) (Li := verdererref01_quoted_li1000007 n) (by rw [verdererref01_quoted_e1000007]) (by kernel_rfl) (fun a k => by kernel_rfl) (fun a k => by kernel_rfl), ⟨LoopRun.joinS (by kernel_rfl) (i := 9) (L := verdererref01_quoted_l1000009 n) (Li := verdererref01_quoted_li1000009 n) (by rw [verdererref01_quoted_e1000009]) (by kernel_rfl) (fun a k => by kernel_rfl) (fun a k => by kernel_rfl), trivial⟩⟩⟩) 1 verdererref01_quoted_d (by kernel_rfl) (fun x k => by kernel_rfl)
end
end Go.Proofs.YtcpimjekllkbkaaGreatDoor.E
set_option linter.unusedVariables false
set_option maxRecDepth 100000
namespace Go.Proofs.YtcpimjekllkbkaaGreatDoor.E
open Go.Proofs
noncomputable section
variable {R : Type}
/-! verderer/verdererref01.Show: function 14 -/
@[reducible] def verdererref01_Show_d : Desc := ⟨[(0, .d ty25)], []⟩
def verdererref01_Show_Fi (n : Nat) (a0 : ty25.D) (k0 : ByteArray → Option R) : Option R :=
  verdererref01_Right_F n a0 (fun y1 => if (!y1) = true then (k0 (⟨#[]⟩ : ByteArray)) else (if (a0.1 == 0) = true then (k0 (⟨#[110, 117, 108, 108]⟩ : ByteArray)) else (if (a0.1 == 1) = true then (if a0.2.1 = true then (k0 (⟨#[116, 114, 117, 101]⟩ : ByteArray)) else (k0 (⟨#[102, 97, 108, 115, 101]⟩ : ByteArray))) else (if (a0.1 == 2) = true then (verdererref01_Num_F n a0.2.2.1 (fun y2 => k0 y2)) else (verdererref01_quoted_F n a0.2.2.2.1 (fun y3 => k0 y3))))))
def verdererref01_Show_F {R : Type} := lazyN (@verdererref01_Show_Fi R)
theorem verdererref01_Show_e : @verdererref01_Show_F R = @verdererref01_Show_Fi R := lazyN_eq _
def verdererref01_Show_g (n : Nat) : Gx R := typed 1 verdererref01_Show_d fun x k => verdererref01_Show_F n x.1 (fun y0 => k (.a (.c (.s y0))) [])
def verdererref01_Show_cs (R : Type) (n : Nat) : List (Nat × Gx R) := [(31, verdererref01_Right_g n), (32, verdererref01_Num_g n), (33, verdererref01_quoted_g n)]
def verdererref01_Show_cx (R : Type) (n : Nat) : Cx R := ⟨Tryz.prog, Gof (verdererref01_Show_cs R n), noDs, noDx, noLp, drawP Tryz.prog (Gof (verdererref01_Show_cs R n)), false, noJn, noFz⟩
theorem verdererref01_Show_ok [Esc R] (n : Nat) : Good Tryz.prog 14 (verdererref01_Show_g (R := R) n) := by
  unfold verdererref01_Show_g
  rw [verdererref01_Show_e]
  exact Good.fn (f := 14) (cx := verdererref01_Show_cx R n) (by kernel_rfl) (AllGood.cons (verdererref01_Right_ok n) (AllGood.cons (verdererref01_Num_ok n) (AllGood.cons (verdererref01_quoted_ok n) (AllGood.nil)))) rfl Tryz.func14 (by kernel_rfl) rfl trivial 1 verdererref01_Show_d (by kernel_rfl) (fun x k => by kernel_rfl)
end
end Go.Proofs.YtcpimjekllkbkaaGreatDoor.E
set_option linter.unusedVariables false
set_option maxRecDepth 100000
namespace Go.Proofs.YtcpimjekllkbkaaGreatDoor.E
open Go.Proofs
noncomputable section
variable {R : Type}
/-! verderer/verdererref01.hex: function 62 -/
@[reducible] def verdererref01_hex_d : Desc := ⟨[(0, .d (.int .u8))], []⟩
def verdererref01_hex_Fi (n : Nat) (a0 : Int) (k0 : Int → Option R) : Option R :=
  if (decide (a0 ≥ 48)) = true then (if (decide (a0 ≤ 57)) = true then (k0 (IntKind.i64.wrap (IntKind.u8.wrap (a0 - 48)))) else (if (decide (a0 ≥ 97)) = true then (if (decide (a0 ≤ 102)) = true then (k0 (IntKind.i64.wrap ((IntKind.i64.wrap (IntKind.u8.wrap (a0 - 97))) + 10))) else (k0 (-1))) else (k0 (-1)))) else (if (decide (a0 ≥ 97)) = true then (if (decide (a0 ≤ 102)) = true then (k0 (IntKind.i64.wrap ((IntKind.i64.wrap (IntKind.u8.wrap (a0 - 97))) + 10))) else (k0 (-1))) else (k0 (-1)))
def verdererref01_hex_F {R : Type} := lazyN (@verdererref01_hex_Fi R)
theorem verdererref01_hex_e : @verdererref01_hex_F R = @verdererref01_hex_Fi R := lazyN_eq _
def verdererref01_hex_g (n : Nat) : Gx R := typed 1 verdererref01_hex_d fun x k => verdererref01_hex_F n x.1 (fun y0 => k (.a (.c (.i .i64 y0))) [])
def verdererref01_hex_cs (R : Type) (n : Nat) : List (Nat × Gx R) := []
def verdererref01_hex_cx (R : Type) (n : Nat) : Cx R := ⟨Tryz.prog, Gof (verdererref01_hex_cs R n), noDs, noDx, noLp, drawP Tryz.prog (Gof (verdererref01_hex_cs R n)), false, noJn, noFz⟩
theorem verdererref01_hex_ok [Esc R] (n : Nat) : Good Tryz.prog 62 (verdererref01_hex_g (R := R) n) := by
  unfold verdererref01_hex_g
  rw [verdererref01_hex_e]
  exact Good.fn (f := 62) (cx := verdererref01_hex_cx R n) (by kernel_rfl) (AllGood.nil) rfl Tryz.func62 (by kernel_rfl) rfl trivial 1 verdererref01_hex_d (by kernel_rfl) (fun x k => by kernel_rfl)
end
end Go.Proofs.YtcpimjekllkbkaaGreatDoor.E
set_option linter.unusedVariables false
set_option maxRecDepth 100000
namespace Go.Proofs.YtcpimjekllkbkaaGreatDoor.E
open Go.Proofs
noncomputable section
variable {R : Type}
/-! verderer/verdererref01.unquoted: function 38 -/
def verdererref01_unquoted_ds : Nat → Desc
  | 3 => ⟨[(0, .d .str), (3, .ow 0), (4, .d (.int .i64))], [.arr 5 (.int .u8)]⟩
  | _ => ⟨[], []⟩
def verdererref01_unquoted_dx : Nat → List (X × Desc)
  | 3 => [(.r, ⟨[(2, .d .str)], []⟩), (.e 0, ⟨[(3, .ow 0)], [.arr 5 (.int .u8)]⟩)]
  | _ => []
def verdererref01_unquoted_s3 (n : Nat) (x0 : ByteArray) (x1 : Int) (x2 : (List Int)) (k1 : ByteArray → Int → (List Int) → Option R) (qr : ByteArray → Option R) (qe0 : (List Int) → Option R) : Option R :=
  if (decide (x1 < (IntKind.i64.wrap ((x0.size : Int) - 1)))) = true then (if (0 : Int) ≤ x1 then if x1 < (x0.size : Int) then (if ((byteAt x0 x1) != 92) = true then (if (0 : Int) ≤ x1 then if x1 < (x0.size : Int) then (if (List.length x2 + List.length [(byteAt x0 x1)]) * 1 ≤ 140737488355328 then (k1 x0 (IntKind.i64.wrap (x1 + 1)) (x2 ++ [(byteAt x0 x1)])) else none) else none else none) else (if (0 : Int) ≤ (IntKind.i64.wrap (x1 + 1)) then if (IntKind.i64.wrap (x1 + 1)) < (x0.size : Int) then (if ((byteAt x0 (IntKind.i64.wrap (x1 + 1))) != 120) = true then (if (0 : Int) ≤ (IntKind.i64.wrap (x1 + 1)) then if (IntKind.i64.wrap (x1 + 1)) < (x0.size : Int) then (if (List.length x2 + List.length [(byteAt x0 (IntKind.i64.wrap (x1 + 1)))]) * 1 ≤ 140737488355328 then (k1 x0 (IntKind.i64.wrap ((IntKind.i64.wrap (x1 + 1)) + 1)) (x2 ++ [(byteAt x0 (IntKind.i64.wrap (x1 + 1)))])) else none) else none else none) else (if (decide ((IntKind.i64.wrap (x1 + 3)) ≥ (IntKind.i64.wrap ((x0.size : Int) - 1)))) = true then (qr (strOfNums x2)) else (if (0 : Int) ≤ (IntKind.i64.wrap (x1 + 2)) then if (IntKind.i64.wrap (x1 + 2)) < (x0.size : Int) then (verdererref01_hex_F n (byteAt x0 (IntKind.i64.wrap (x1 + 2))) (fun y1 => if (0 : Int) ≤ (IntKind.i64.wrap (x1 + 3)) then if (IntKind.i64.wrap (x1 + 3)) < (x0.size : Int) then (verdererref01_hex_F n (byteAt x0 (IntKind.i64.wrap (x1 + 3))) (fun y2 => if (List.length x2 + List.length [(IntKind.u8.wrap (IntKind.i64.wrap ((IntKind.i64.wrap (16 * y1)) + y2)))]) * 1 ≤ 140737488355328 then (k1 x0 (IntKind.i64.wrap ((IntKind.i64.wrap (x1 + 3)) + 1)) (x2 ++ [(IntKind.u8.wrap (IntKind.i64.wrap ((IntKind.i64.wrap (16 * y1)) + y2)))])) else none)) else none else none)) else none else none))) else none else none)) else none else none) else (qe0 x2)
def verdererref01_unquoted_l3 (n : Nat) (a : (verdererref01_unquoted_ds 3).D) (k1 : (verdererref01_unquoted_ds 3).D → Option R) (k2 : exK R (verdererref01_unquoted_dx 3)) : Option R :=
  verdererref01_unquoted_s3 n a.1 a.2.1 a.2.2.1 (fun x0 x1 x2 => k1 (x0, x1, x2, ())) (fun x0 => k2.1 (x0, ())) (fun x0 => k2.2.1 (x0, ()))
@[reducible] def verdererref01_unquoted_d : Desc := ⟨[(0, .d .str)], []⟩
def verdererref01_unquoted_Fi (n : Nat) (a0 : ByteArray) (k0 : ByteArray → Option R) : Option R :=
  runC (verdererref01_unquoted_l3 n) n (a0, 1, ([] : List Int), ()) (fun b3 => k0 b3.1, fun b4 => k0 (strOfNums b4.1), ())
def verdererref01_unquoted_F {R : Type} := lazyN (@verdererref01_unquoted_Fi R)
theorem verdererref01_unquoted_e : @verdererref01_unquoted_F R = @verdererref01_unquoted_Fi R := lazyN_eq _
def verdererref01_unquoted_g (n : Nat) : Gx R := typed 1 verdererref01_unquoted_d fun x k => verdererref01_unquoted_F n x.1 (fun y0 => k (.a (.c (.s y0))) [])
def verdererref01_unquoted_cs (R : Type) (n : Nat) : List (Nat × Gx R) := [(62, verdererref01_hex_g n)]
def verdererref01_unquoted_lp (n : Nat) : (i : Nat) → (verdererref01_unquoted_ds i).D → exK R (verdererref01_unquoted_dx i) → Option R
  | 3, a, k => runC (verdererref01_unquoted_l3 n) n a k
  | _, _, _ => none
def verdererref01_unquoted_cx (R : Type) (n : Nat) : Cx R := ⟨Tryz.prog, Gof (verdererref01_unquoted_cs R n), verdererref01_unquoted_ds, verdererref01_unquoted_dx, verdererref01_unquoted_lp n, drawP Tryz.prog (Gof (verdererref01_unquoted_cs R n)), false, noJn, noFz⟩
theorem verdererref01_unquoted_ok [Esc R] (n : Nat) : Good Tryz.prog 38 (verdererref01_unquoted_g (R := R) n) := by
  unfold verdererref01_unquoted_g
  rw [verdererref01_unquoted_e]
  exact Good.fn (f := 38) (cx := verdererref01_unquoted_cx R n) (by kernel_rfl) (AllGood.cons (verdererref01_hex_ok n) (AllGood.nil)) rfl Tryz.func38 (by kernel_rfl) rfl (by
    have e : fnLoops noJn Tryz.f38 = [((fnLoops noJn Tryz.f38)[0]?).getD (false, .skip)] := by kernel_rfl
    show LoopRuns _ _ (fnLoops noJn _)
    rw [e]
    exact ⟨LoopRun.loop (by kernel_rfl) (i := 3) (m := n) (step := verdererref01_unquoted_l3 n) (by kernel_rfl) (fun a k1 k2 => by kernel_rfl) (fun _ _ => rfl), trivial⟩) 1 verdererref01_unquoted_d (by kernel_rfl) (fun x k => by kernel_rfl)
end
end Go.Proofs.YtcpimjekllkbkaaGreatDoor.E
set_option linter.unusedVariables false
set_option maxRecDepth 100000
namespace Go.Proofs.YtcpimjekllkbkaaGreatDoor.E
open Go.Proofs
noncomputable section
variable {R : Type}
/-! verderer/verdererref01.Read: function 19 -/
def verdererref01_Read_ds : Nat → Desc
  | 1000009 => ⟨[(0, .d .str), (2, .pt 0 0), (4, .pt 1 0)], [.box false 25 [.d (.int .i64), .d .bool, .d (.int .i64), .d .str], .box false 25 [.d (.int .i64), .d .bool, .d (.int .i64), .d .str]]⟩
  | _ => ⟨[], []⟩
def verdererref01_Read_dx : Nat → List (X × Desc)
  | 1000009 => [(.r, ⟨[(2, .pt 0 0), (3, .d (.int .i64))], [.box false 25 [.d (.int .i64), .d .bool, .d (.int .i64), .d .str]]⟩)]
  | _ => []
def verdererref01_Read_s1000009 (n : Nat) (x0 : ByteArray) (x1 : Int) (x2 : Bool) (x3 : Int) (x4 : ByteArray) (x5 : Int) (x6 : Bool) (x7 : Int) (x8 : ByteArray) (qr : Int → Int → Bool → Int → ByteArray → Option R) : Option R :=
  if (x0.toList == (⟨#[]⟩ : ByteArray).toList) = true then (qr 7 0 false 0 (⟨#[]⟩ : ByteArray)) else (verdererref01_Show_F n (x5, x6, x7, x8, ()) (fun y3 => if (!(y3.toList == x0.toList)) = true then (qr 7 0 false 0 (⟨#[]⟩ : ByteArray)) else (qr 0 x5 x6 x7 x8)))
def verdererref01_Read_li1000009 (n : Nat) (a : (verdererref01_Read_ds 1000009).D) (k2 : exK R (verdererref01_Read_dx 1000009)) : Option R :=
  verdererref01_Read_s1000009 n a.1 a.2.1 a.2.2.1 a.2.2.2.1 a.2.2.2.2.1 a.2.2.2.2.2.1 a.2.2.2.2.2.2.1 a.2.2.2.2.2.2.2.1 a.2.2.2.2.2.2.2.2.1 (fun x0 x1 x2 x3 x4 => k2.1 (x0, x1, x2, x3, x4, ()))
def verdererref01_Read_l1000009 {R : Type} := lazyN (@verdererref01_Read_li1000009 R)
theorem verdererref01_Read_e1000009 : @verdererref01_Read_l1000009 R = @verdererref01_Read_li1000009 R := lazyN_eq _
@[reducible] def verdererref01_Read_d : Desc := ⟨[(0, .d .str)], []⟩
def verdererref01_Read_Fi (n : Nat) (a0 : ByteArray) (k0 : ty25.D → Int → Option R) : Option R :=
  verdererref01_Number_F n a0 (fun y1 y2 => if (a0.toList == (⟨#[116, 114, 117, 101]⟩ : ByteArray).toList) = true then (verdererref01_Read_l1000009 n (a0, 0, false, 0, (⟨#[]⟩ : ByteArray), 1, (a0.toList == (⟨#[116, 114, 117, 101]⟩ : ByteArray).toList), 0, (⟨#[]⟩ : ByteArray), ()) (fun b8 => k0 (b8.2.1, b8.2.2.1, b8.2.2.2.1, b8.2.2.2.2.1, ()) b8.1, ())) else (if (a0.toList == (⟨#[102, 97, 108, 115, 101]⟩ : ByteArray).toList) = true then (verdererref01_Read_l1000009 n (a0, 0, false, 0, (⟨#[]⟩ : ByteArray), 1, (a0.toList == (⟨#[116, 114, 117, 101]⟩ : ByteArray).toList), 0, (⟨#[]⟩ : ByteArray), ()) (fun b13 => k0 (b13.2.1, b13.2.2.1, b13.2.2.2.1, b13.2.2.2.2.1, ()) b13.1, ())) else (if y2 = true then (verdererref01_Read_l1000009 n (a0, 0, false, 0, (⟨#[]⟩ : ByteArray), 2, false, y1, (⟨#[]⟩ : ByteArray), ()) (fun b18 => k0 (b18.2.1, b18.2.2.1, b18.2.2.2.1, b18.2.2.2.2.1, ()) b18.1, ())) else (if (decide ((a0.size : Int) ≥ 2)) = true then (if (0 : Int) ≤ 0 then if 0 < (a0.size : Int) then (if ((byteAt a0 0) == 34) = true then (if (decide ((a0.size : Int) ≤ 300)) = true then (verdererref01_unquoted_F n a0 (fun y19 => verdererref01_Read_l1000009 n (a0, 0, false, 0, (⟨#[]⟩ : ByteArray), 3, false, 0, y19, ()) (fun b24 => k0 (b24.2.1, b24.2.2.1, b24.2.2.2.1, b24.2.2.2.2.1, ()) b24.1, ()))) else (verdererref01_Read_l1000009 n (a0, 0, false, 0, (⟨#[]⟩ : ByteArray), 0, false, 0, (⟨#[]⟩ : ByteArray), ()) (fun b29 => k0 (b29.2.1, b29.2.2.1, b29.2.2.2.1, b29.2.2.2.2.1, ()) b29.1, ()))) else (verdererref01_Read_l1000009 n (a0, 0, false, 0, (⟨#[]⟩ : ByteArray), 0, false, 0, (⟨#[]⟩ : ByteArray), ()) (fun b34 => k0 (b34.2.1, b34.2.2.1, b34.2.2.2.1, b34.2.2.2.2.1, ()) b34.1, ()))) else none else none) else (verdererref01_Read_l1000009 n (a0, 0, false, 0, (⟨#[]⟩ : ByteArray), 0, false, 0, (⟨#[]⟩ : ByteArray), ()) (fun b39 => k0 (b39.2.1, b39.2.2.1, b39.2.2.2.1, b39.2.2.2.2.1, ()) b39.1, ()))))))
def verdererref01_Read_F {R : Type} := lazyN (@verdererref01_Read_Fi R)
theorem verdererref01_Read_e : @verdererref01_Read_F R = @verdererref01_Read_Fi R := lazyN_eq _
def verdererref01_Read_g (n : Nat) : Gx R := typed 1 verdererref01_Read_d fun x k => verdererref01_Read_F n x.1 (fun y0 y1 => k (.tu [(encA ty25 y0), (.c (.i .i64 y1))]) [])
def verdererref01_Read_cs (R : Type) (n : Nat) : List (Nat × Gx R) := [(14, verdererref01_Show_g n), (37, verdererref01_Number_g n), (38, verdererref01_unquoted_g n)]
def verdererref01_Read_lp (n : Nat) : (i : Nat) → (verdererref01_Read_ds i).D → exK R (verdererref01_Read_dx i) → Option R
  | 1000009, a, k => verdererref01_Read_l1000009 n a k
  | _, _, _ => none
def verdererref01_Read_cx (R : Type) (n : Nat) : Cx R := ⟨Tryz.prog, Gof (verdererref01_Read_cs R n), verdererref01_Read_ds, verdererref01_Read_dx, verdererref01_Read_lp n, drawP Tryz.prog (Gof (verdererref01_Read_cs R n)), false, (memN [9]), noFz⟩
theorem verdererref01_Read_ok [Esc R] (n : Nat) : Good Tryz.prog 19 (verdererref01_Read_g (R := R) n) := by
  unfold verdererref01_Read_g
  rw [verdererref01_Read_e]
  exact Good.fn (f := 19) (cx := verdererref01_Read_cx R n) (by kernel_rfl) (AllGood.cons (verdererref01_Show_ok n) (AllGood.cons (verdererref01_Number_ok n) (AllGood.cons (verdererref01_unquoted_ok n) (AllGood.nil)))) rfl Tryz.func19 (by kernel_rfl) rfl (by
    have e : fnLoops (memN [9]) Tryz.f19 = [((fnLoops (memN [9]) Tryz.f19)[0]?).getD (false, .skip)] := by kernel_rfl
    show LoopRuns _ _ (fnLoops (memN [9]) _)
    rw [e]
    exact ⟨LoopRun.joinS (by kernel_rfl) (i := 9) (L := verdererref01_Read_l1000009 n) (Li := verdererref01_Read_li1000009 n) (by rw [verdererref01_Read_e1000009]) (by kernel_rfl) (fun a k => by kernel_rfl) (fun a k => by kernel_rfl), trivial⟩) 1 verdererref01_Read_d (by kernel_rfl) (fun x k => by kernel_rfl)
end
end Go.Proofs.YtcpimjekllkbkaaGreatDoor.E
set_option linter.unusedVariables false
set_option maxRecDepth 100000
namespace Go.Proofs.YtcpimjekllkbkaaGreatDoor.E
open Go.Proofs
noncomputable section
variable {R : Type}
/-! verderer/verdererref32.Cells: function 6 -/
def verdererref32_Cells_ds : Nat → Desc
  | 3 => ⟨[(0, .d (.sl ty25)), (4, .d .str), (5, .d (.int .i64))], []⟩
  | _ => ⟨[], []⟩
def verdererref32_Cells_dx : Nat → List (X × Desc)
  | 3 => [(.r, ⟨[(2, .d .str), (3, .d (.int .i64))], []⟩), (.e 0, ⟨[(4, .d .str)], []⟩)]
  | _ => []
def verdererref32_Cells_s3 (n : Nat) (x0 : (List ty25.D)) (x1 : ByteArray) (x2 : Int) (k1 : (List ty25.D) → ByteArray → Int → Option R) (qr : ByteArray → Int → Option R) (qe0 : ByteArray → Option R) : Option R :=
  if (decide (x2 < (x0.length : Int))) = true then (if (0 : Int) ≤ x2 ∧ x2 < (x0.length : Int) then (verdererref01_Show_F n (x0.getD (Int.toNat x2) (Ty.z ty25)) (fun y1 => if (y1.toList == (⟨#[]⟩ : ByteArray).toList) = true then (qr (⟨#[]⟩ : ByteArray) 7) else (if (decide (x2 > 0)) = true then (if x1.size + (⟨#[32]⟩ : ByteArray).size ≤ 9223372036854775807 then (if (x1 ++ (⟨#[32]⟩ : ByteArray)).size + y1.size ≤ 9223372036854775807 then (k1 x0 ((x1 ++ (⟨#[32]⟩ : ByteArray)) ++ y1) (IntKind.i64.wrap (x2 + 1))) else none) else none) else (if x1.size + y1.size ≤ 9223372036854775807 then (k1 x0 (x1 ++ y1) (IntKind.i64.wrap (x2 + 1))) else none)))) else none) else (qe0 x1)
def verdererref32_Cells_l3 (n : Nat) (a : (verdererref32_Cells_ds 3).D) (k1 : (verdererref32_Cells_ds 3).D → Option R) (k2 : exK R (verdererref32_Cells_dx 3)) : Option R :=
  verdererref32_Cells_s3 n a.1 a.2.1 a.2.2.1 (fun x0 x1 x2 => k1 (x0, x1, x2, ())) (fun x0 x1 => k2.1 (x0, x1, ())) (fun x0 => k2.2.1 (x0, ()))
@[reducible] def verdererref32_Cells_d : Desc := ⟨[(0, .d (.sl ty25))], []⟩
def verdererref32_Cells_Fi (n : Nat) (a0 : (List ty25.D)) (k0 : ByteArray → Int → Option R) : Option R :=
  runC (verdererref32_Cells_l3 n) n (a0, (⟨#[]⟩ : ByteArray), 0, ()) (fun b3 => k0 b3.1 b3.2.1, fun b4 => k0 b4.1 0, ())
def verdererref32_Cells_F {R : Type} := lazyN (@verdererref32_Cells_Fi R)
theorem verdererref32_Cells_e : @verdererref32_Cells_F R = @verdererref32_Cells_Fi R := lazyN_eq _
def verdererref32_Cells_g (n : Nat) : Gx R := typed 1 verdererref32_Cells_d fun x k => verdererref32_Cells_F n x.1 (fun y0 y1 => k (.tu [(.c (.s y0)), (.c (.i .i64 y1))]) [])
def verdererref32_Cells_cs (R : Type) (n : Nat) : List (Nat × Gx R) := [(14, verdererref01_Show_g n)]
def verdererref32_Cells_lp (n : Nat) : (i : Nat) → (verdererref32_Cells_ds i).D → exK R (verdererref32_Cells_dx i) → Option R
  | 3, a, k => runC (verdererref32_Cells_l3 n) n a k
  | _, _, _ => none
def verdererref32_Cells_cx (R : Type) (n : Nat) : Cx R := ⟨Tryz.prog, Gof (verdererref32_Cells_cs R n), verdererref32_Cells_ds, verdererref32_Cells_dx, verdererref32_Cells_lp n, drawP Tryz.prog (Gof (verdererref32_Cells_cs R n)), false, noJn, noFz⟩
theorem verdererref32_Cells_ok [Esc R] (n : Nat) : Good Tryz.prog 6 (verdererref32_Cells_g (R := R) n) := by
  unfold verdererref32_Cells_g
  rw [verdererref32_Cells_e]
  exact Good.fn (f := 6) (cx := verdererref32_Cells_cx R n) (by kernel_rfl) (AllGood.cons (verdererref01_Show_ok n) (AllGood.nil)) rfl Tryz.func6 (by kernel_rfl) rfl (by
    have e : fnLoops noJn Tryz.f6 = [((fnLoops noJn Tryz.f6)[0]?).getD (false, .skip)] := by kernel_rfl
    show LoopRuns _ _ (fnLoops noJn _)
    rw [e]
    exact ⟨LoopRun.loop (by kernel_rfl) (i := 3) (m := n) (step := verdererref32_Cells_l3 n) (by kernel_rfl) (fun a k1 k2 => by kernel_rfl) (fun _ _ => rfl), trivial⟩) 1 verdererref32_Cells_d (by kernel_rfl) (fun x k => by kernel_rfl)
end
end Go.Proofs.YtcpimjekllkbkaaGreatDoor.E
set_option linter.unusedVariables false
set_option maxRecDepth 100000
namespace Go.Proofs.YtcpimjekllkbkaaGreatDoor.E
open Go.Proofs
noncomputable section
variable {R : Type}
/-! verderer/verdererref32.cut: function 18 -/
def verdererref32_cut_ds : Nat → Desc
  | 3 => ⟨[(0, .d .str), (3, .d (.int .i64))], []⟩
  | 11 => ⟨[(0, .d .str), (4, .d (.int .i64))], []⟩
  | _ => ⟨[], []⟩
def verdererref32_cut_dx : Nat → List (X × Desc)
  | 3 => [(.r, ⟨[(2, .d (.int .i64))], []⟩), (.e 0, ⟨[(0, .d .str)], []⟩)]
  | 11 => [(.r, ⟨[(2, .d (.int .i64))], []⟩), (.e 2, ⟨[(0, .d .str)], []⟩)]
  | _ => []
def verdererref32_cut_s3 (n : Nat) (x0 : ByteArray) (x1 : Int) (k1 : ByteArray → Int → Option R) (qr : Int → Option R) (qe0 : ByteArray → Option R) : Option R :=
  if (decide (x1 < (x0.size : Int))) = true then (if (0 : Int) ≤ x1 then if x1 < (x0.size : Int) then (if ((byteAt x0 x1) == 92) = true then (k1 x0 (IntKind.i64.wrap ((IntKind.i64.wrap (x1 + 1)) + 1))) else (if (0 : Int) ≤ x1 then if x1 < (x0.size : Int) then (if ((byteAt x0 x1) == 34) = true then (qr (IntKind.i64.wrap (x1 + 1))) else (k1 x0 (IntKind.i64.wrap (x1 + 1)))) else none else none)) else none else none) else (qe0 x0)
def verdererref32_cut_l3 (n : Nat) (a : (verdererref32_cut_ds 3).D) (k1 : (verdererref32_cut_ds 3).D → Option R) (k2 : exK R (verdererref32_cut_dx 3)) : Option R :=
  verdererref32_cut_s3 n a.1 a.2.1 (fun x0 x1 => k1 (x0, x1, ())) (fun x0 => k2.1 (x0, ())) (fun x0 => k2.2.1 (x0, ()))
def verdererref32_cut_s11 (n : Nat) (x0 : ByteArray) (x1 : Int) (k1 : ByteArray → Int → Option R) (qr : Int → Option R) (qe2 : ByteArray → Option R) : Option R :=
  if (decide (x1 < (x0.size : Int))) = true then (if (0 : Int) ≤ x1 then if x1 < (x0.size : Int) then (if ((byteAt x0 x1) == 32) = true then (qr x1) else (k1 x0 (IntKind.i64.wrap (x1 + 1)))) else none else none) else (qe2 x0)
def verdererref32_cut_l11 (n : Nat) (a : (verdererref32_cut_ds 11).D) (k1 : (verdererref32_cut_ds 11).D → Option R) (k2 : exK R (verdererref32_cut_dx 11)) : Option R :=
  verdererref32_cut_s11 n a.1 a.2.1 (fun x0 x1 => k1 (x0, x1, ())) (fun x0 => k2.1 (x0, ())) (fun x0 => k2.2.1 (x0, ()))
@[reducible] def verdererref32_cut_d : Desc := ⟨[(0, .d .str)], []⟩
def verdererref32_cut_Fi (n : Nat) (a0 : ByteArray) (k0 : Int → Option R) : Option R :=
  if (0 : Int) ≤ 0 then if 0 < (a0.size : Int) then (if ((byteAt a0 0) == 34) = true then (runC (verdererref32_cut_l3 n) n (a0, 1, ()) (fun b1 => k0 b1.1, fun b2 => k0 (b2.1.size : Int), ())) else (runC (verdererref32_cut_l11 n) n (a0, 0, ()) (fun b3 => k0 b3.1, fun b4 => k0 (b4.1.size : Int), ()))) else none else none
def verdererref32_cut_F {R : Type} := lazyN (@verdererref32_cut_Fi R)
theorem verdererref32_cut_e : @verdererref32_cut_F R = @verdererref32_cut_Fi R := lazyN_eq _
def verdererref32_cut_g (n : Nat) : Gx R := typed 1 verdererref32_cut_d fun x k => verdererref32_cut_F n x.1 (fun y0 => k (.a (.c (.i .i64 y0))) [])
def verdererref32_cut_cs (R : Type) (n : Nat) : List (Nat × Gx R) := []
def verdererref32_cut_lp (n : Nat) : (i : Nat) → (verdererref32_cut_ds i).D → exK R (verdererref32_cut_dx i) → Option R
  | 3, a, k => runC (verdererref32_cut_l3 n) n a k
  | 11, a, k => runC (verdererref32_cut_l11 n) n a k
  | _, _, _ => none
def verdererref32_cut_cx (R : Type) (n : Nat) : Cx R := ⟨Tryz.prog, Gof (verdererref32_cut_cs R n), verdererref32_cut_ds, verdererref32_cut_dx, verdererref32_cut_lp n, drawP Tryz.prog (Gof (verdererref32_cut_cs R n)), false, noJn, noFz⟩
theorem verdererref32_cut_ok [Esc R] (n : Nat) : Good Tryz.prog 18 (verdererref32_cut_g (R := R) n) := by
  unfold verdererref32_cut_g
  rw [verdererref32_cut_e]
  exact Good.fn (f := 18) (cx := verdererref32_cut_cx R n) (by kernel_rfl) (AllGood.nil) rfl Tryz.func18 (by kernel_rfl) rfl (by
    have e : fnLoops noJn Tryz.f18 = [((fnLoops noJn Tryz.f18)[0]?).getD (false, .skip), ((fnLoops noJn Tryz.f18)[1]?).getD (false, .skip)] := by kernel_rfl
    show LoopRuns _ _ (fnLoops noJn _)
    rw [e]
    exact ⟨LoopRun.loop (by kernel_rfl) (i := 3) (m := n) (step := verdererref32_cut_l3 n) (by kernel_rfl) (fun a k1 k2 => by kernel_rfl) (fun _ _ => rfl), ⟨LoopRun.loop (by kernel_rfl) (i := 11) (m := n) (step := verdererref32_cut_l11 n) (by kernel_rfl) (fun a k1 k2 => by kernel_rfl) (fun _ _ => rfl), trivial⟩⟩) 1 verdererref32_cut_d (by kernel_rfl) (fun x k => by kernel_rfl)
end
end Go.Proofs.YtcpimjekllkbkaaGreatDoor.E
set_option linter.unusedVariables false
set_option maxRecDepth 100000
namespace Go.Proofs.YtcpimjekllkbkaaGreatDoor.E
open Go.Proofs
noncomputable section
variable {R : Type}
/-! verderer/verdererref32.Back: function 8 -/
def verdererref32_Back_ds : Nat → Desc
  | 3 => ⟨[(4, .ow 1), (5, .d .str)], [.no, .arr 25 ty25]⟩
  | _ => ⟨[], []⟩
def verdererref32_Back_dx : Nat → List (X × Desc)
  | 3 => [(.r, ⟨[(2, .ow 3), (3, .d (.int .i64))], [.no, .no, .no, .arr 25 ty25]⟩), (.r, ⟨[(2, .ow 4), (3, .d (.int .i64))], [.no, .no, .no, .no, .arr 25 ty25]⟩), (.e 0, ⟨[(4, .ow 1)], [.no, .arr 25 ty25]⟩)]
  | _ => []
def verdererref32_Back_s3 (n : Nat) (x0 : ByteArray) (x1 : (List ty25.D)) (k1 : ByteArray → (List ty25.D) → Option R) (qr : Int → (List ty25.D) → Option R) (qr_1 : Int → (List ty25.D) → Option R) (qe0 : (List ty25.D) → Option R) : Option R :=
  if (!(x0.toList == (⟨#[]⟩ : ByteArray).toList)) = true then (verdererref32_cut_F n x0 (fun y1 => if (0 : Int) ≤ y1 ∧ y1 ≤ (x0.size : Int) then (verdererref01_Read_F n (x0.extract 0 (Int.toNat y1)) (fun y2 y3 => if (y3 != 0) = true then (qr 7 ([] : List ty25.D)) else (if (List.length x1 + List.length [y2]) * 40 ≤ 140737488355328 then (if (0 : Int) ≤ y1 ∧ y1 ≤ (x0.size : Int) then (if (!((x0.extract (Int.toNat y1) x0.size).toList == (⟨#[]⟩ : ByteArray).toList)) = true then (if (0 : Int) ≤ 0 then if 0 < ((x0.extract (Int.toNat y1) x0.size).size : Int) then (if ((byteAt (x0.extract (Int.toNat y1) x0.size) 0) != 32) = true then (qr_1 7 ([] : List ty25.D)) else (if (((x0.extract (Int.toNat y1) x0.size).size : Int) == 1) = true then (qr_1 7 ([] : List ty25.D)) else (if (0 : Int) ≤ 1 ∧ 1 ≤ ((x0.extract (Int.toNat y1) x0.size).size : Int) then (k1 ((x0.extract (Int.toNat y1) x0.size).extract (Int.toNat 1) (x0.extract (Int.toNat y1) x0.size).size) (x1 ++ [y2])) else none))) else none else none) else (k1 (x0.extract (Int.toNat y1) x0.size) (x1 ++ [y2]))) else none) else none))) else none)) else (qe0 x1)
def verdererref32_Back_l3 (n : Nat) (a : (verdererref32_Back_ds 3).D) (k1 : (verdererref32_Back_ds 3).D → Option R) (k2 : exK R (verdererref32_Back_dx 3)) : Option R :=
  verdererref32_Back_s3 n a.1 a.2.1 (fun x0 x1 => k1 (x0, x1, ())) (fun x0 x1 => k2.1 (x0, x1, ())) (fun x0 x1 => k2.2.1 (x0, x1, ())) (fun x0 => k2.2.2.1 (x0, ()))
@[reducible] def verdererref32_Back_d : Desc := ⟨[(0, .d .str)], []⟩
def verdererref32_Back_Fi (n : Nat) (a0 : ByteArray) (k0 : Int → (List ty25.D) → Option R) : Option R :=
  runC (verdererref32_Back_l3 n) n (a0, ([] : List ty25.D), ()) (fun b5 => k0 b5.1 b5.2.1, fun b7 => k0 b7.1 b7.2.1, fun b8 => k0 0 b8.1, ())
def verdererref32_Back_F {R : Type} := lazyN (@verdererref32_Back_Fi R)
theorem verdererref32_Back_e : @verdererref32_Back_F R = @verdererref32_Back_Fi R := lazyN_eq _
def verdererref32_Back_g (n : Nat) : Gx R := typed 1 verdererref32_Back_d fun x k => verdererref32_Back_F n x.1 (fun y0 y1 => k (.tu [(.c (.ow 0)), (.c (.i .i64 y0))]) [(.arr 25 ty25 y1)])
def verdererref32_Back_cs (R : Type) (n : Nat) : List (Nat × Gx R) := [(18, verdererref32_cut_g n), (19, verdererref01_Read_g n)]
def verdererref32_Back_lp (n : Nat) : (i : Nat) → (verdererref32_Back_ds i).D → exK R (verdererref32_Back_dx i) → Option R
  | 3, a, k => runC (verdererref32_Back_l3 n) n a k
  | _, _, _ => none
def verdererref32_Back_cx (R : Type) (n : Nat) : Cx R := ⟨Tryz.prog, Gof (verdererref32_Back_cs R n), verdererref32_Back_ds, verdererref32_Back_dx, verdererref32_Back_lp n, drawP Tryz.prog (Gof (verdererref32_Back_cs R n)), false, noJn, noFz⟩
theorem verdererref32_Back_ok [Esc R] (n : Nat) : Good Tryz.prog 8 (verdererref32_Back_g (R := R) n) := by
  unfold verdererref32_Back_g
  rw [verdererref32_Back_e]
  exact Good.fn (f := 8) (cx := verdererref32_Back_cx R n) (by kernel_rfl) (AllGood.cons (verdererref32_cut_ok n) (AllGood.cons (verdererref01_Read_ok n) (AllGood.nil))) rfl Tryz.func8 (by kernel_rfl) rfl (by
    have e : fnLoops noJn Tryz.f8 = [((fnLoops noJn Tryz.f8)[0]?).getD (false, .skip)] := by kernel_rfl
    show LoopRuns _ _ (fnLoops noJn _)
    rw [e]
    exact ⟨LoopRun.loop (by kernel_rfl) (i := 3) (m := n) (step := verdererref32_Back_l3 n) (by kernel_rfl) (fun a k1 k2 => by kernel_rfl) (fun _ _ => rfl), trivial⟩) 1 verdererref32_Back_d (by kernel_rfl) (fun x k => by kernel_rfl)
end
end Go.Proofs.YtcpimjekllkbkaaGreatDoor.E
set_option linter.unusedVariables false
set_option maxRecDepth 100000
namespace Go.Proofs.YtcpimjekllkbkaaGreatDoor.E
open Go.Proofs
noncomputable section
variable {R : Type}
/-! verderer/value.Null: function 48 -/
@[reducible] def value_Null_d : Desc := ⟨[], []⟩
def value_Null_Fi (n : Nat) (k0 : ty25.D → Option R) : Option R :=
  k0 (0, false, 0, (⟨#[]⟩ : ByteArray), ())
def value_Null_F {R : Type} := lazyN (@value_Null_Fi R)
theorem value_Null_e : @value_Null_F R = @value_Null_Fi R := lazyN_eq _
def value_Null_g (n : Nat) : Gx R := typed 0 value_Null_d fun x k => value_Null_F n (fun y0 => k (.a (encA ty25 y0)) [])
def value_Null_cs (R : Type) (n : Nat) : List (Nat × Gx R) := []
def value_Null_cx (R : Type) (n : Nat) : Cx R := ⟨Tryz.prog, Gof (value_Null_cs R n), noDs, noDx, noLp, drawP Tryz.prog (Gof (value_Null_cs R n)), false, noJn, noFz⟩
theorem value_Null_ok [Esc R] (n : Nat) : Good Tryz.prog 48 (value_Null_g (R := R) n) := by
  unfold value_Null_g
  rw [value_Null_e]
  exact Good.fn (f := 48) (cx := value_Null_cx R n) (by kernel_rfl) (AllGood.nil) rfl Tryz.func48 (by kernel_rfl) rfl trivial 0 value_Null_d (by kernel_rfl) (fun x k => by kernel_rfl)
end
end Go.Proofs.YtcpimjekllkbkaaGreatDoor.E
set_option linter.unusedVariables false
set_option maxRecDepth 100000
namespace Go.Proofs.YtcpimjekllkbkaaGreatDoor.E
open Go.Proofs
noncomputable section
variable {R : Type}
/-! verderer/value.Bool: function 49 -/
@[reducible] def value_Bool_d : Desc := ⟨[(0, .d .bool)], []⟩
def value_Bool_Fi (n : Nat) (a0 : Bool) (k0 : ty25.D → Option R) : Option R :=
  k0 (1, a0, 0, (⟨#[]⟩ : ByteArray), ())
def value_Bool_F {R : Type} := lazyN (@value_Bool_Fi R)
theorem value_Bool_e : @value_Bool_F R = @value_Bool_Fi R := lazyN_eq _
def value_Bool_g (n : Nat) : Gx R := typed 1 value_Bool_d fun x k => value_Bool_F n x.1 (fun y0 => k (.a (encA ty25 y0)) [])
def value_Bool_cs (R : Type) (n : Nat) : List (Nat × Gx R) := []
def value_Bool_cx (R : Type) (n : Nat) : Cx R := ⟨Tryz.prog, Gof (value_Bool_cs R n), noDs, noDx, noLp, drawP Tryz.prog (Gof (value_Bool_cs R n)), false, noJn, noFz⟩
theorem value_Bool_ok [Esc R] (n : Nat) : Good Tryz.prog 49 (value_Bool_g (R := R) n) := by
  unfold value_Bool_g
  rw [value_Bool_e]
  exact Good.fn (f := 49) (cx := value_Bool_cx R n) (by kernel_rfl) (AllGood.nil) rfl Tryz.func49 (by kernel_rfl) rfl trivial 1 value_Bool_d (by kernel_rfl) (fun x k => by kernel_rfl)
end
end Go.Proofs.YtcpimjekllkbkaaGreatDoor.E
set_option linter.unusedVariables false
set_option maxRecDepth 100000
namespace Go.Proofs.YtcpimjekllkbkaaGreatDoor.E
open Go.Proofs
noncomputable section
variable {R : Type}
/-! verderer/value.Int: function 50 -/
@[reducible] def value_Int_d : Desc := ⟨[(0, .d (.int .i64))], []⟩
def value_Int_Fi (n : Nat) (a0 : Int) (k0 : ty25.D → Option R) : Option R :=
  k0 (2, false, a0, (⟨#[]⟩ : ByteArray), ())
def value_Int_F {R : Type} := lazyN (@value_Int_Fi R)
theorem value_Int_e : @value_Int_F R = @value_Int_Fi R := lazyN_eq _
def value_Int_g (n : Nat) : Gx R := typed 1 value_Int_d fun x k => value_Int_F n x.1 (fun y0 => k (.a (encA ty25 y0)) [])
def value_Int_cs (R : Type) (n : Nat) : List (Nat × Gx R) := []
def value_Int_cx (R : Type) (n : Nat) : Cx R := ⟨Tryz.prog, Gof (value_Int_cs R n), noDs, noDx, noLp, drawP Tryz.prog (Gof (value_Int_cs R n)), false, noJn, noFz⟩
theorem value_Int_ok [Esc R] (n : Nat) : Good Tryz.prog 50 (value_Int_g (R := R) n) := by
  unfold value_Int_g
  rw [value_Int_e]
  exact Good.fn (f := 50) (cx := value_Int_cx R n) (by kernel_rfl) (AllGood.nil) rfl Tryz.func50 (by kernel_rfl) rfl trivial 1 value_Int_d (by kernel_rfl) (fun x k => by kernel_rfl)
end
end Go.Proofs.YtcpimjekllkbkaaGreatDoor.E
set_option linter.unusedVariables false
set_option maxRecDepth 100000
namespace Go.Proofs.YtcpimjekllkbkaaGreatDoor.E
open Go.Proofs
noncomputable section
variable {R : Type}
/-! verderer/value.Text: function 51 -/
@[reducible] def value_Text_d : Desc := ⟨[(0, .d .str)], []⟩
def value_Text_Fi (n : Nat) (a0 : ByteArray) (k0 : ty25.D → Option R) : Option R :=
  k0 (3, false, 0, a0, ())
def value_Text_F {R : Type} := lazyN (@value_Text_Fi R)
theorem value_Text_e : @value_Text_F R = @value_Text_Fi R := lazyN_eq _
def value_Text_g (n : Nat) : Gx R := typed 1 value_Text_d fun x k => value_Text_F n x.1 (fun y0 => k (.a (encA ty25 y0)) [])
def value_Text_cs (R : Type) (n : Nat) : List (Nat × Gx R) := []
def value_Text_cx (R : Type) (n : Nat) : Cx R := ⟨Tryz.prog, Gof (value_Text_cs R n), noDs, noDx, noLp, drawP Tryz.prog (Gof (value_Text_cs R n)), false, noJn, noFz⟩
theorem value_Text_ok [Esc R] (n : Nat) : Good Tryz.prog 51 (value_Text_g (R := R) n) := by
  unfold value_Text_g
  rw [value_Text_e]
  exact Good.fn (f := 51) (cx := value_Text_cx R n) (by kernel_rfl) (AllGood.nil) rfl Tryz.func51 (by kernel_rfl) rfl trivial 1 value_Text_d (by kernel_rfl) (fun x k => by kernel_rfl)
end
end Go.Proofs.YtcpimjekllkbkaaGreatDoor.E
set_option linter.unusedVariables false
set_option maxRecDepth 100000
namespace Go.Proofs.YtcpimjekllkbkaaGreatDoor.E
open Go.Proofs
noncomputable section
variable {R : Type}
/-! verderer/value.Right: function 24 -/
@[reducible] def value_Right_d : Desc := ⟨[(0, .d ty25)], []⟩
def value_Right_Fi (n : Nat) (a0 : ty25.D) (k0 : Bool → Option R) : Option R :=
  if (a0.1 == 0) = true then (value_Null_F n (fun y1 => k0 ((a0.1 == y1.1) && ((a0.2.1 == y1.2.1) && ((a0.2.2.1 == y1.2.2.1) && ((a0.2.2.2.1.toList == y1.2.2.2.1.toList) && true)))))) else (if (a0.1 == 1) = true then (value_Bool_F n a0.2.1 (fun y2 => k0 ((a0.1 == y2.1) && ((a0.2.1 == y2.2.1) && ((a0.2.2.1 == y2.2.2.1) && ((a0.2.2.2.1.toList == y2.2.2.2.1.toList) && true)))))) else (if (a0.1 == 2) = true then (value_Int_F n a0.2.2.1 (fun y3 => k0 ((a0.1 == y3.1) && ((a0.2.1 == y3.2.1) && ((a0.2.2.1 == y3.2.2.1) && ((a0.2.2.2.1.toList == y3.2.2.2.1.toList) && true)))))) else (if (a0.1 == 3) = true then (value_Text_F n a0.2.2.2.1 (fun y4 => if ((a0.1 == y4.1) && ((a0.2.1 == y4.2.1) && ((a0.2.2.1 == y4.2.2.1) && ((a0.2.2.2.1.toList == y4.2.2.2.1.toList) && true)))) = true then (k0 (decide ((a0.2.2.2.1.size : Int) ≤ 60))) else (k0 false))) else (k0 false))))
def value_Right_F {R : Type} := lazyN (@value_Right_Fi R)
theorem value_Right_e : @value_Right_F R = @value_Right_Fi R := lazyN_eq _
def value_Right_g (n : Nat) : Gx R := typed 1 value_Right_d fun x k => value_Right_F n x.1 (fun y0 => k (.a (.c (.b y0))) [])
def value_Right_cs (R : Type) (n : Nat) : List (Nat × Gx R) := [(48, value_Null_g n), (49, value_Bool_g n), (50, value_Int_g n), (51, value_Text_g n)]
def value_Right_cx (R : Type) (n : Nat) : Cx R := ⟨Tryz.prog, Gof (value_Right_cs R n), noDs, noDx, noLp, drawP Tryz.prog (Gof (value_Right_cs R n)), false, noJn, noFz⟩
theorem value_Right_ok [Esc R] (n : Nat) : Good Tryz.prog 24 (value_Right_g (R := R) n) := by
  unfold value_Right_g
  rw [value_Right_e]
  exact Good.fn (f := 24) (cx := value_Right_cx R n) (by kernel_rfl) (AllGood.cons (value_Null_ok n) (AllGood.cons (value_Bool_ok n) (AllGood.cons (value_Int_ok n) (AllGood.cons (value_Text_ok n) (AllGood.nil))))) rfl Tryz.func24 (by kernel_rfl) rfl trivial 1 value_Right_d (by kernel_rfl) (fun x k => by kernel_rfl)
end
end Go.Proofs.YtcpimjekllkbkaaGreatDoor.E
set_option linter.unusedVariables false
set_option maxRecDepth 100000
namespace Go.Proofs.YtcpimjekllkbkaaGreatDoor.E
open Go.Proofs
noncomputable section
variable {R : Type}
/-! internal/strconv.FormatBool: function 52 -/
@[reducible] def strconv_FormatBool_52_d : Desc := ⟨[(0, .d .bool)], []⟩
def strconv_FormatBool_52_Fi (n : Nat) (a0 : Bool) (k0 : ByteArray → Option R) : Option R :=
  if a0 = true then (k0 (⟨#[116, 114, 117, 101]⟩ : ByteArray)) else (k0 (⟨#[102, 97, 108, 115, 101]⟩ : ByteArray))
def strconv_FormatBool_52_F {R : Type} := lazyN (@strconv_FormatBool_52_Fi R)
theorem strconv_FormatBool_52_e : @strconv_FormatBool_52_F R = @strconv_FormatBool_52_Fi R := lazyN_eq _
def strconv_FormatBool_52_g (n : Nat) : Gx R := typed 1 strconv_FormatBool_52_d fun x k => strconv_FormatBool_52_F n x.1 (fun y0 => k (.a (.c (.s y0))) [])
def strconv_FormatBool_52_cs (R : Type) (n : Nat) : List (Nat × Gx R) := []
def strconv_FormatBool_52_cx (R : Type) (n : Nat) : Cx R := ⟨Tryz.prog, Gof (strconv_FormatBool_52_cs R n), noDs, noDx, noLp, drawP Tryz.prog (Gof (strconv_FormatBool_52_cs R n)), false, noJn, noFz⟩
theorem strconv_FormatBool_52_ok [Esc R] (n : Nat) : Good Tryz.prog 52 (strconv_FormatBool_52_g (R := R) n) := by
  unfold strconv_FormatBool_52_g
  rw [strconv_FormatBool_52_e]
  exact Good.fn (f := 52) (cx := strconv_FormatBool_52_cx R n) (by kernel_rfl) (AllGood.nil) rfl Tryz.func52 (by kernel_rfl) rfl trivial 1 strconv_FormatBool_52_d (by kernel_rfl) (fun x k => by kernel_rfl)
end
end Go.Proofs.YtcpimjekllkbkaaGreatDoor.E
set_option linter.unusedVariables false
set_option maxRecDepth 100000
namespace Go.Proofs.YtcpimjekllkbkaaGreatDoor.E
open Go.Proofs
noncomputable section
variable {R : Type}
/-! strconv.FormatBool: function 25 -/
@[reducible] def strconv_FormatBool_d : Desc := ⟨[(0, .d .bool)], []⟩
def strconv_FormatBool_Fi (n : Nat) (a0 : Bool) (k0 : ByteArray → Option R) : Option R :=
  strconv_FormatBool_52_F n a0 (fun y1 => k0 y1)
def strconv_FormatBool_F {R : Type} := lazyN (@strconv_FormatBool_Fi R)
theorem strconv_FormatBool_e : @strconv_FormatBool_F R = @strconv_FormatBool_Fi R := lazyN_eq _
def strconv_FormatBool_g (n : Nat) : Gx R := typed 1 strconv_FormatBool_d fun x k => strconv_FormatBool_F n x.1 (fun y0 => k (.a (.c (.s y0))) [])
def strconv_FormatBool_cs (R : Type) (n : Nat) : List (Nat × Gx R) := [(52, strconv_FormatBool_52_g n)]
def strconv_FormatBool_cx (R : Type) (n : Nat) : Cx R := ⟨Tryz.prog, Gof (strconv_FormatBool_cs R n), noDs, noDx, noLp, drawP Tryz.prog (Gof (strconv_FormatBool_cs R n)), false, noJn, noFz⟩
theorem strconv_FormatBool_ok [Esc R] (n : Nat) : Good Tryz.prog 25 (strconv_FormatBool_g (R := R) n) := by
  unfold strconv_FormatBool_g
  rw [strconv_FormatBool_e]
  exact Good.fn (f := 25) (cx := strconv_FormatBool_cx R n) (by kernel_rfl) (AllGood.cons (strconv_FormatBool_52_ok n) (AllGood.nil)) rfl Tryz.func25 (by kernel_rfl) rfl trivial 1 strconv_FormatBool_d (by kernel_rfl) (fun x k => by kernel_rfl)
end
end Go.Proofs.YtcpimjekllkbkaaGreatDoor.E
set_option linter.unusedVariables false
set_option maxRecDepth 100000
namespace Go.Proofs.YtcpimjekllkbkaaGreatDoor.E
open Go.Proofs
noncomputable section
variable {R : Type}
/-! strconv.FormatInt: function 26 -/
@[reducible] def strconv_FormatInt_d : Desc := ⟨[(0, .d (.int .i64)), (1, .d (.int .i64))], []⟩
def strconv_FormatInt_Fi (n : Nat) (a0 : Int) (a1 : Int) (k0 : ByteArray → Option R) : Option R :=
  if a1 = 10 ∧ -9223372036854775808 ≤ a0 ∧ a0 ≤ 9223372036854775807 then (k0 (fmtB a0)) else none
def strconv_FormatInt_F {R : Type} := lazyN (@strconv_FormatInt_Fi R)
theorem strconv_FormatInt_e : @strconv_FormatInt_F R = @strconv_FormatInt_Fi R := lazyN_eq _
def strconv_FormatInt_g (n : Nat) : Gx R := typed 2 strconv_FormatInt_d fun x k => strconv_FormatInt_F n x.1 x.2.1 (fun y0 => k (.a (.c (.s y0))) [])
theorem strconv_FormatInt_ok [Esc R] (n : Nat) : Good Tryz.prog 26 (strconv_FormatInt_g (R := R) n) := by
  unfold strconv_FormatInt_g
  rw [strconv_FormatInt_e]
  exact Good.hand2 Tryz.func26 (by kernel_rfl) rfl rfl rfl fmt_back (fun x k => rfl)
end
end Go.Proofs.YtcpimjekllkbkaaGreatDoor.E
set_option linter.unusedVariables false
set_option maxRecDepth 100000
namespace Go.Proofs.YtcpimjekllkbkaaGreatDoor.E
open Go.Proofs
noncomputable section
variable {R : Type}
/-! verderer/value.quoted: function 27 -/
@[reducible] def value_quoted_d : Desc := ⟨[(0, .d .str)], []⟩
def value_quoted_Fi (n : Nat) (a0 : ByteArray) (k0 : ByteArray → Option R) : Option R :=
  if a0.size ≤ 1048576 then (k0 (quB a0)) else none
def value_quoted_F {R : Type} := lazyN (@value_quoted_Fi R)
theorem value_quoted_e : @value_quoted_F R = @value_quoted_Fi R := lazyN_eq _
def value_quoted_g (n : Nat) : Gx R := typed 1 value_quoted_d fun x k => value_quoted_F n x.1 (fun y0 => k (.a (.c (.s y0))) [])
theorem value_quoted_ok [Esc R] (n : Nat) : Good Tryz.prog 27 (value_quoted_g (R := R) n) := by
  unfold value_quoted_g
  rw [value_quoted_e]
  exact Good.hand1 Tryz.func27 (by kernel_rfl) rfl rfl quoted_back (fun x k => rfl)
end
end Go.Proofs.YtcpimjekllkbkaaGreatDoor.E
set_option linter.unusedVariables false
set_option maxRecDepth 100000
namespace Go.Proofs.YtcpimjekllkbkaaGreatDoor.E
open Go.Proofs
noncomputable section
variable {R : Type}
/-! verderer/value.Show: function 12 -/
@[reducible] def value_Show_d : Desc := ⟨[(0, .d ty25)], []⟩
def value_Show_Fi (n : Nat) (a0 : ty25.D) (k0 : ByteArray → Option R) : Option R :=
  value_Right_F n a0 (fun y1 => if (!y1) = true then (k0 (⟨#[]⟩ : ByteArray)) else (if (a0.1 == 1) = true then (strconv_FormatBool_F n a0.2.1 (fun y2 => k0 y2)) else (if (a0.1 == 2) = true then (strconv_FormatInt_F n a0.2.2.1 10 (fun y3 => k0 y3)) else (if (a0.1 == 3) = true then (value_quoted_F n a0.2.2.2.1 (fun y4 => k0 y4)) else (k0 (⟨#[110, 117, 108, 108]⟩ : ByteArray))))))
def value_Show_F {R : Type} := lazyN (@value_Show_Fi R)
theorem value_Show_e : @value_Show_F R = @value_Show_Fi R := lazyN_eq _
def value_Show_g (n : Nat) : Gx R := typed 1 value_Show_d fun x k => value_Show_F n x.1 (fun y0 => k (.a (.c (.s y0))) [])
def value_Show_cs (R : Type) (n : Nat) : List (Nat × Gx R) := [(24, value_Right_g n), (25, strconv_FormatBool_g n), (26, strconv_FormatInt_g n), (27, value_quoted_g n)]
def value_Show_cx (R : Type) (n : Nat) : Cx R := ⟨Tryz.prog, Gof (value_Show_cs R n), noDs, noDx, noLp, drawP Tryz.prog (Gof (value_Show_cs R n)), false, noJn, noFz⟩
theorem value_Show_ok [Esc R] (n : Nat) : Good Tryz.prog 12 (value_Show_g (R := R) n) := by
  unfold value_Show_g
  rw [value_Show_e]
  exact Good.fn (f := 12) (cx := value_Show_cx R n) (by kernel_rfl) (AllGood.cons (value_Right_ok n) (AllGood.cons (strconv_FormatBool_ok n) (AllGood.cons (strconv_FormatInt_ok n) (AllGood.cons (value_quoted_ok n) (AllGood.nil))))) rfl Tryz.func12 (by kernel_rfl) rfl trivial 1 value_Show_d (by kernel_rfl) (fun x k => by kernel_rfl)
end
end Go.Proofs.YtcpimjekllkbkaaGreatDoor.E
set_option linter.unusedVariables false
set_option maxRecDepth 100000
namespace Go.Proofs.YtcpimjekllkbkaaGreatDoor.E
open Go.Proofs
noncomputable section
variable {R : Type}
/-! strings.Join: function 13 -/
@[reducible] def strings_Join_d : Desc := ⟨[(0, .d (.sl .str)), (1, .d .str)], []⟩
def strings_Join_Fi (n : Nat) (a0 : (List ByteArray)) (a1 : ByteArray) (k0 : ByteArray → Option R) : Option R :=
  if a0.length ≤ 140737488355328 ∧ (joinB a0 a1).size ≤ 140737488355328 then (k0 (joinB a0 a1)) else none
def strings_Join_F {R : Type} := lazyN (@strings_Join_Fi R)
theorem strings_Join_e : @strings_Join_F R = @strings_Join_Fi R := lazyN_eq _
def strings_Join_g (n : Nat) : Gx R := typed 2 strings_Join_d fun x k => strings_Join_F n x.1 x.2.1 (fun y0 => k (.a (.c (.s y0))) [])
theorem strings_Join_ok [Esc R] (n : Nat) : Good Tryz.prog 13 (strings_Join_g (R := R) n) := by
  unfold strings_Join_g
  rw [strings_Join_e]
  exact Good.handL Tryz.func13 (by kernel_rfl) rfl join_back (fun x k => rfl)
end
end Go.Proofs.YtcpimjekllkbkaaGreatDoor.E
set_option linter.unusedVariables false
set_option maxRecDepth 100000
namespace Go.Proofs.YtcpimjekllkbkaaGreatDoor.E
open Go.Proofs
noncomputable section
variable {R : Type}
/-! verderer/words.Cells: function 5 -/
def words_Cells_ds : Nat → Desc
  | 3 => ⟨[(4, .ow 0), (8, .d (.sl ty25)), (9, .d (.int .i64)), (10, .d (.int .i64))], [.arr 9 .str]⟩
  | _ => ⟨[], []⟩
def words_Cells_dx : Nat → List (X × Desc)
  | 3 => [(.r, ⟨[(2, .d .str), (3, .d (.int .i64))], []⟩), (.e 0, ⟨[(4, .ow 0)], [.arr 9 .str]⟩)]
  | _ => []
def words_Cells_s3 (n : Nat) (x0 : (List ty25.D)) (x1 : Int) (x2 : Int) (x3 : (List ByteArray)) (k1 : (List ty25.D) → Int → Int → (List ByteArray) → Option R) (qr : ByteArray → Int → Option R) (qe0 : (List ByteArray) → Option R) : Option R :=
  if (decide (x2 < x1)) = true then (if (0 : Int) ≤ x2 ∧ x2 < (x0.length : Int) then (value_Show_F n (x0.getD (Int.toNat x2) (Ty.z ty25)) (fun y1 => if (y1.toList == (⟨#[]⟩ : ByteArray).toList) = true then (qr (⟨#[]⟩ : ByteArray) 7) else (if (List.length x3 + List.length [y1]) * 16 ≤ 140737488355328 then (k1 x0 x1 (IntKind.i64.wrap (x2 + 1)) (x3 ++ [y1])) else none))) else none) else (qe0 x3)
def words_Cells_l3 (n : Nat) (a : (words_Cells_ds 3).D) (k1 : (words_Cells_ds 3).D → Option R) (k2 : exK R (words_Cells_dx 3)) : Option R :=
  words_Cells_s3 n a.1 a.2.1 a.2.2.1 a.2.2.2.1 (fun x0 x1 x2 x3 => k1 (x0, x1, x2, x3, ())) (fun x0 x1 => k2.1 (x0, x1, ())) (fun x0 => k2.2.1 (x0, ()))
@[reducible] def words_Cells_d : Desc := ⟨[(0, .d (.sl ty25))], []⟩
def words_Cells_Fi (n : Nat) (a0 : (List ty25.D)) (k0 : ByteArray → Int → Option R) : Option R :=
  runC (words_Cells_l3 n) n (a0, (a0.length : Int), 0, ([] : List ByteArray), ()) (fun b3 => k0 b3.1 b3.2.1, fun b4 => strings_Join_F n b4.1 (⟨#[32]⟩ : ByteArray) (fun y5 => k0 y5 0), ())
def words_Cells_F {R : Type} := lazyN (@words_Cells_Fi R)
theorem words_Cells_e : @words_Cells_F R = @words_Cells_Fi R := lazyN_eq _
def words_Cells_g (n : Nat) : Gx R := typed 1 words_Cells_d fun x k => words_Cells_F n x.1 (fun y0 y1 => k (.tu [(.c (.s y0)), (.c (.i .i64 y1))]) [])
def words_Cells_cs (R : Type) (n : Nat) : List (Nat × Gx R) := [(12, value_Show_g n), (13, strings_Join_g n)]
def words_Cells_lp (n : Nat) : (i : Nat) → (words_Cells_ds i).D → exK R (words_Cells_dx i) → Option R
  | 3, a, k => runC (words_Cells_l3 n) n a k
  | _, _, _ => none
def words_Cells_cx (R : Type) (n : Nat) : Cx R := ⟨Tryz.prog, Gof (words_Cells_cs R n), words_Cells_ds, words_Cells_dx, words_Cells_lp n, drawP Tryz.prog (Gof (words_Cells_cs R n)), false, noJn, noFz⟩
theorem words_Cells_ok [Esc R] (n : Nat) : Good Tryz.prog 5 (words_Cells_g (R := R) n) := by
  unfold words_Cells_g
  rw [words_Cells_e]
  exact Good.fn (f := 5) (cx := words_Cells_cx R n) (by kernel_rfl) (AllGood.cons (value_Show_ok n) (AllGood.cons (strings_Join_ok n) (AllGood.nil))) rfl Tryz.func5 (by kernel_rfl) rfl (by
    have e : fnLoops noJn Tryz.f5 = [((fnLoops noJn Tryz.f5)[0]?).getD (false, .skip)] := by kernel_rfl
    show LoopRuns _ _ (fnLoops noJn _)
    rw [e]
    exact ⟨LoopRun.loop (by kernel_rfl) (i := 3) (m := n) (step := words_Cells_l3 n) (by kernel_rfl) (fun a k1 k2 => by kernel_rfl) (fun _ _ => rfl), trivial⟩) 1 words_Cells_d (by kernel_rfl) (fun x k => by kernel_rfl)
end
end Go.Proofs.YtcpimjekllkbkaaGreatDoor.E
set_option linter.unusedVariables false
set_option maxRecDepth 100000
namespace Go.Proofs.YtcpimjekllkbkaaGreatDoor.E
open Go.Proofs
noncomputable section
variable {R : Type}
/-! internal/bytealg.IndexByteString: function 73 -/
@[reducible] def bytealg_IndexByteString_d : Desc := ⟨[(0, .d .str), (1, .d (.int .u8))], []⟩
def bytealg_IndexByteString_Fi (n : Nat) (a0 : ByteArray) (a1 : Int) (k0 : Int → Option R) : Option R :=
  k0 (idxB a0 a1)
def bytealg_IndexByteString_F {R : Type} := lazyN (@bytealg_IndexByteString_Fi R)
theorem bytealg_IndexByteString_e : @bytealg_IndexByteString_F R = @bytealg_IndexByteString_Fi R := lazyN_eq _
def bytealg_IndexByteString_g (n : Nat) : Gx R := typed 2 bytealg_IndexByteString_d fun x k => bytealg_IndexByteString_F n x.1 x.2.1 (fun y0 => k (.a (.c (.i .i64 y0))) [])
theorem bytealg_IndexByteString_ok [Esc R] (n : Nat) : Good Tryz.prog 73 (bytealg_IndexByteString_g (R := R) n) := by
  unfold bytealg_IndexByteString_g
  rw [bytealg_IndexByteString_e]
  exact Good.ext2 Tryz.func73 (by kernel_rfl) rfl (by kernel_rfl) (by kernel_rfl) idxB idxB_run (fun x k => rfl)
end
end Go.Proofs.YtcpimjekllkbkaaGreatDoor.E
set_option linter.unusedVariables false
set_option maxRecDepth 100000
namespace Go.Proofs.YtcpimjekllkbkaaGreatDoor.E
open Go.Proofs
noncomputable section
variable {R : Type}
/-! internal/stringslite.IndexByte: function 58 -/
@[reducible] def stringslite_IndexByte_d : Desc := ⟨[(0, .d .str), (1, .d (.int .u8))], []⟩
def stringslite_IndexByte_Fi (n : Nat) (a0 : ByteArray) (a1 : Int) (k0 : Int → Option R) : Option R :=
  bytealg_IndexByteString_F n a0 a1 (fun y1 => k0 y1)
def stringslite_IndexByte_F {R : Type} := lazyN (@stringslite_IndexByte_Fi R)
theorem stringslite_IndexByte_e : @stringslite_IndexByte_F R = @stringslite_IndexByte_Fi R := lazyN_eq _
def stringslite_IndexByte_g (n : Nat) : Gx R := typed 2 stringslite_IndexByte_d fun x k => stringslite_IndexByte_F n x.1 x.2.1 (fun y0 => k (.a (.c (.i .i64 y0))) [])
def stringslite_IndexByte_cs (R : Type) (n : Nat) : List (Nat × Gx R) := [(73, bytealg_IndexByteString_g n)]
def stringslite_IndexByte_cx (R : Type) (n : Nat) : Cx R := ⟨Tryz.prog, Gof (stringslite_IndexByte_cs R n), noDs, noDx, noLp, drawP Tryz.prog (Gof (stringslite_IndexByte_cs R n)), false, noJn, noFz⟩
theorem stringslite_IndexByte_ok [Esc R] (n : Nat) : Good Tryz.prog 58 (stringslite_IndexByte_g (R := R) n) := by
  unfold stringslite_IndexByte_g
  rw [stringslite_IndexByte_e]
  exact Good.fn (f := 58) (cx := stringslite_IndexByte_cx R n) (by kernel_rfl) (AllGood.cons (bytealg_IndexByteString_ok n) (AllGood.nil)) rfl Tryz.func58 (by kernel_rfl) rfl trivial 2 stringslite_IndexByte_d (by kernel_rfl) (fun x k => by kernel_rfl)
end
end Go.Proofs.YtcpimjekllkbkaaGreatDoor.E
set_option linter.unusedVariables false
set_option maxRecDepth 100000
namespace Go.Proofs.YtcpimjekllkbkaaGreatDoor.E
open Go.Proofs
noncomputable section
variable {R : Type}
/-! strings.IndexByte: function 34 -/
@[reducible] def strings_IndexByte_d : Desc := ⟨[(0, .d .str), (1, .d (.int .u8))], []⟩
def strings_IndexByte_Fi (n : Nat) (a0 : ByteArray) (a1 : Int) (k0 : Int → Option R) : Option R :=
  stringslite_IndexByte_F n a0 a1 (fun y1 => k0 y1)
def strings_IndexByte_F {R : Type} := lazyN (@strings_IndexByte_Fi R)
theorem strings_IndexByte_e : @strings_IndexByte_F R = @strings_IndexByte_Fi R := lazyN_eq _
def strings_IndexByte_g (n : Nat) : Gx R := typed 2 strings_IndexByte_d fun x k => strings_IndexByte_F n x.1 x.2.1 (fun y0 => k (.a (.c (.i .i64 y0))) [])
def strings_IndexByte_cs (R : Type) (n : Nat) : List (Nat × Gx R) := [(58, stringslite_IndexByte_g n)]
def strings_IndexByte_cx (R : Type) (n : Nat) : Cx R := ⟨Tryz.prog, Gof (strings_IndexByte_cs R n), noDs, noDx, noLp, drawP Tryz.prog (Gof (strings_IndexByte_cs R n)), false, noJn, noFz⟩
theorem strings_IndexByte_ok [Esc R] (n : Nat) : Good Tryz.prog 34 (strings_IndexByte_g (R := R) n) := by
  unfold strings_IndexByte_g
  rw [strings_IndexByte_e]
  exact Good.fn (f := 34) (cx := strings_IndexByte_cx R n) (by kernel_rfl) (AllGood.cons (stringslite_IndexByte_ok n) (AllGood.nil)) rfl Tryz.func34 (by kernel_rfl) rfl trivial 2 strings_IndexByte_d (by kernel_rfl) (fun x k => by kernel_rfl)
end
end Go.Proofs.YtcpimjekllkbkaaGreatDoor.E
set_option linter.unusedVariables false
set_option maxRecDepth 100000
namespace Go.Proofs.YtcpimjekllkbkaaGreatDoor.E
open Go.Proofs
noncomputable section
variable {R : Type}
/-! verderer/words.cut: function 15 -/
def words_cut_ds : Nat → Desc
  | 8 => ⟨[(0, .d .str), (5, .d (.int .i64)), (6, .d (.int .i64))], []⟩
  | _ => ⟨[], []⟩
def words_cut_dx : Nat → List (X × Desc)
  | 8 => [(.e 0, ⟨[(0, .d .str), (5, .d (.int .i64))], []⟩)]
  | _ => []
def words_cut_s8 (n : Nat) (x0 : ByteArray) (x1 : Int) (x2 : Int) (k1 : ByteArray → Int → Int → Option R) (qe0 : ByteArray → Int → Option R) : Option R :=
  if (decide (x2 < (x0.size : Int))) = true then (if (0 : Int) ≤ x2 then if x2 < (x0.size : Int) then (if ((byteAt x0 x2) == 92) = true then (k1 x0 x1 (IntKind.i64.wrap ((IntKind.i64.wrap (x2 + 1)) + 1))) else (if ((byteAt x0 x2) == 34) = true then (qe0 x0 (IntKind.i64.wrap (x2 + 1))) else (k1 x0 x1 (IntKind.i64.wrap (x2 + 1))))) else none else none) else (qe0 x0 x1)
def words_cut_l8 (n : Nat) (a : (words_cut_ds 8).D) (k1 : (words_cut_ds 8).D → Option R) (k2 : exK R (words_cut_dx 8)) : Option R :=
  words_cut_s8 n a.1 a.2.1 a.2.2.1 (fun x0 x1 x2 => k1 (x0, x1, x2, ())) (fun x0 x1 => k2.1 (x0, x1, ()))
@[reducible] def words_cut_d : Desc := ⟨[(0, .d .str)], []⟩
def words_cut_Fi (n : Nat) (a0 : ByteArray) (k0 : ByteArray → ByteArray → Option R) : Option R :=
  if (0 : Int) ≤ 0 then if 0 < (a0.size : Int) then (if ((byteAt a0 0) != 34) = true then (strings_IndexByte_F n a0 32 (fun y1 => if (decide (y1 ≥ 0)) = true then (if (0 : Int) ≤ y1 ∧ y1 ≤ (a0.size : Int) then (if (0 : Int) ≤ y1 ∧ y1 ≤ (a0.size : Int) then (k0 (a0.extract 0 (Int.toNat y1)) (a0.extract (Int.toNat y1) a0.size)) else none) else none) else (k0 a0 (⟨#[]⟩ : ByteArray)))) else (runC (words_cut_l8 n) n (a0, (a0.size : Int), 1, ()) (fun b3 => if (0 : Int) ≤ b3.2.1 ∧ b3.2.1 ≤ (b3.1.size : Int) then (if (0 : Int) ≤ b3.2.1 ∧ b3.2.1 ≤ (b3.1.size : Int) then (k0 (b3.1.extract 0 (Int.toNat b3.2.1)) (b3.1.extract (Int.toNat b3.2.1) b3.1.size)) else none) else none, ()))) else none else none
def words_cut_F {R : Type} := lazyN (@words_cut_Fi R)
theorem words_cut_e : @words_cut_F R = @words_cut_Fi R := lazyN_eq _
def words_cut_g (n : Nat) : Gx R := typed 1 words_cut_d fun x k => words_cut_F n x.1 (fun y0 y1 => k (.tu [(.c (.s y0)), (.c (.s y1))]) [])
def words_cut_cs (R : Type) (n : Nat) : List (Nat × Gx R) := [(34, strings_IndexByte_g n)]
def words_cut_lp (n : Nat) : (i : Nat) → (words_cut_ds i).D → exK R (words_cut_dx i) → Option R
  | 8, a, k => runC (words_cut_l8 n) n a k
  | _, _, _ => none
def words_cut_cx (R : Type) (n : Nat) : Cx R := ⟨Tryz.prog, Gof (words_cut_cs R n), words_cut_ds, words_cut_dx, words_cut_lp n, drawP Tryz.prog (Gof (words_cut_cs R n)), false, noJn, noFz⟩
theorem words_cut_ok [Esc R] (n : Nat) : Good Tryz.prog 15 (words_cut_g (R := R) n) := by
  unfold words_cut_g
  rw [words_cut_e]
  exact Good.fn (f := 15) (cx := words_cut_cx R n) (by kernel_rfl) (AllGood.cons (strings_IndexByte_ok n) (AllGood.nil)) rfl Tryz.func15 (by kernel_rfl) rfl (by
    have e : fnLoops noJn Tryz.f15 = [((fnLoops noJn Tryz.f15)[0]?).getD (false, .skip)] := by kernel_rfl
    show LoopRuns _ _ (fnLoops noJn _)
    rw [e]
    exact ⟨LoopRun.loop (by kernel_rfl) (i := 8) (m := n) (step := words_cut_l8 n) (by kernel_rfl) (fun a k1 k2 => by kernel_rfl) (fun _ _ => rfl), trivial⟩) 1 words_cut_d (by kernel_rfl) (fun x k => by kernel_rfl)
end
end Go.Proofs.YtcpimjekllkbkaaGreatDoor.E
set_option linter.unusedVariables false
set_option maxRecDepth 100000
namespace Go.Proofs.YtcpimjekllkbkaaGreatDoor.E
open Go.Proofs
noncomputable section
variable {R : Type}
/-! strconv.ParseInt: function 59 -/
@[reducible] def strconv_ParseInt_d : Desc := ⟨[(0, .d .str), (1, .d (.int .i64)), (2, .d (.int .i64))], []⟩
def strconv_ParseInt_Fi (n : Nat) (a0 : ByteArray) (a1 : Int) (a2 : Int) (k0 : Int → Bool → Option R) : Option R :=
  if a1 = 10 ∧ a2 = 64 ∧ a0.size ≤ 281474976710656 then (k0 (piV a0) (piE a0)) else none
def strconv_ParseInt_F {R : Type} := lazyN (@strconv_ParseInt_Fi R)
theorem strconv_ParseInt_e : @strconv_ParseInt_F R = @strconv_ParseInt_Fi R := lazyN_eq _
def strconv_ParseInt_g (n : Nat) : Gx R := typed 3 strconv_ParseInt_d fun x k => strconv_ParseInt_F n x.1 x.2.1 x.2.2.1 (fun y0 y1 => k (.tu [(.c (.i .i64 y0)), (.c (.er y1))]) [])
theorem strconv_ParseInt_ok [Esc R] (n : Nat) : Good Tryz.prog 59 (strconv_ParseInt_g (R := R) n) := by
  unfold strconv_ParseInt_g
  rw [strconv_ParseInt_e]
  exact Good.hand3 Tryz.func59 (by kernel_rfl) rfl rfl rfl rfl parse_back (fun x k => rfl)
end
end Go.Proofs.YtcpimjekllkbkaaGreatDoor.E
set_option linter.unusedVariables false
set_option maxRecDepth 100000
namespace Go.Proofs.YtcpimjekllkbkaaGreatDoor.E
open Go.Proofs
noncomputable section
variable {R : Type}
/-! verderer/value.next: function 76 -/
@[reducible] def value_next_d : Desc := ⟨[(0, .d .str)], []⟩
def value_next_Fi (n : Nat) (a0 : ByteArray) (k0 : Int → ByteArray → Bool → Option R) : Option R :=
  if (0 : Int) ≤ 0 then if 0 < (a0.size : Int) then (if ((byteAt a0 0) != 92) = true then (if (0 : Int) ≤ 0 then if 0 < (a0.size : Int) then (if (0 : Int) ≤ 1 ∧ 1 ≤ (a0.size : Int) then (k0 (byteAt a0 0) (a0.extract (Int.toNat 1) a0.size) true) else none) else none else none) else (if (decide ((a0.size : Int) > 1)) = true then (if (0 : Int) ≤ 1 then if 1 < (a0.size : Int) then (if ((byteAt a0 1) != 120) = true then (if (0 : Int) ≤ 1 then if 1 < (a0.size : Int) then (if (0 : Int) ≤ 2 ∧ 2 ≤ (a0.size : Int) then (k0 (byteAt a0 1) (a0.extract (Int.toNat 2) a0.size) true) else none) else none else none) else (if (decide ((a0.size : Int) < 4)) = true then (k0 0 (⟨#[]⟩ : ByteArray) false) else (if (0 : Int) ≤ 2 then if 2 < (a0.size : Int) then (strings_IndexByte_F n (⟨#[48, 49, 50, 51, 52, 53, 54, 55, 56, 57, 97, 98, 99, 100, 101, 102]⟩ : ByteArray) (byteAt a0 2) (fun y1 => if (0 : Int) ≤ 3 then if 3 < (a0.size : Int) then (strings_IndexByte_F n (⟨#[48, 49, 50, 51, 52, 53, 54, 55, 56, 57, 97, 98, 99, 100, 101, 102]⟩ : ByteArray) (byteAt a0 3) (fun y2 => if (0 : Int) ≤ 4 ∧ 4 ≤ (a0.size : Int) then (if (decide (y1 ≥ 0)) = true then (k0 (IntKind.u8.wrap (bitsI .or .i64 (shlI .i64 y1 4) y2)) (a0.extract (Int.toNat 4) a0.size) (decide (y2 ≥ 0))) else (k0 (IntKind.u8.wrap (bitsI .or .i64 (shlI .i64 y1 4) y2)) (a0.extract (Int.toNat 4) a0.size) false)) else none)) else none else none)) else none else none))) else none else none) else (if (decide ((a0.size : Int) < 4)) = true then (k0 0 (⟨#[]⟩ : ByteArray) false) else (if (0 : Int) ≤ 2 then if 2 < (a0.size : Int) then (strings_IndexByte_F n (⟨#[48, 49, 50, 51, 52, 53, 54, 55, 56, 57, 97, 98, 99, 100, 101, 102]⟩ : ByteArray) (byteAt a0 2) (fun y3 => if (0 : Int) ≤ 3 then if 3 < (a0.size : Int) then (strings_IndexByte_F n (⟨#[48, 49, 50, 51, 52, 53, 54, 55, 56, 57, 97, 98, 99, 100, 101, 102]⟩ : ByteArray) (byteAt a0 3) (fun y4 => if (0 : Int) ≤ 4 ∧ 4 ≤ (a0.size : Int) then (if (decide (y3 ≥ 0)) = true then (k0 (IntKind.u8.wrap (bitsI .or .i64 (shlI .i64 y3 4) y4)) (a0.extract (Int.toNat 4) a0.size) (decide (y4 ≥ 0))) else (k0 (IntKind.u8.wrap (bitsI .or .i64 (shlI .i64 y3 4) y4)) (a0.extract (Int.toNat 4) a0.size) false)) else none)) else none else none)) else none else none)))) else none else none
def value_next_F {R : Type} := lazyN (@value_next_Fi R)
theorem value_next_e : @value_next_F R = @value_next_Fi R := lazyN_eq _
def value_next_g (n : Nat) : Gx R := typed 1 value_next_d fun x k => value_next_F n x.1 (fun y0 y1 y2 => k (.tu [(.c (.i .u8 y0)), (.c (.s y1)), (.c (.b y2))]) [])
def value_next_cs (R : Type) (n : Nat) : List (Nat × Gx R) := [(34, strings_IndexByte_g n)]
def value_next_cx (R : Type) (n : Nat) : Cx R := ⟨Tryz.prog, Gof (value_next_cs R n), noDs, noDx, noLp, drawP Tryz.prog (Gof (value_next_cs R n)), false, noJn, noFz⟩
theorem value_next_ok [Esc R] (n : Nat) : Good Tryz.prog 76 (value_next_g (R := R) n) := by
  unfold value_next_g
  rw [value_next_e]
  exact Good.fn (f := 76) (cx := value_next_cx R n) (by kernel_rfl) (AllGood.cons (strings_IndexByte_ok n) (AllGood.nil)) rfl Tryz.func76 (by kernel_rfl) rfl trivial 1 value_next_d (by kernel_rfl) (fun x k => by kernel_rfl)
end
end Go.Proofs.YtcpimjekllkbkaaGreatDoor.E
set_option linter.unusedVariables false
set_option maxRecDepth 100000
namespace Go.Proofs.YtcpimjekllkbkaaGreatDoor.E
open Go.Proofs
noncomputable section
variable {R : Type}
/-! verderer/value.unquoted: function 60 -/
def value_unquoted_ds : Nat → Desc
  | 5 => ⟨[(0, .d .str), (4, .ow 0)], [.arr 5 (.int .u8)]⟩
  | _ => ⟨[], []⟩
def value_unquoted_dx : Nat → List (X × Desc)
  | 5 => [(.r, ⟨[(2, .d .str), (3, .d .bool)], []⟩), (.e 0, ⟨[(4, .ow 0)], [.arr 5 (.int .u8)]⟩)]
  | _ => []
def value_unquoted_s5 (n : Nat) (x0 : ByteArray) (x1 : (List Int)) (k1 : ByteArray → (List Int) → Option R) (qr : ByteArray → Bool → Option R) (qe0 : (List Int) → Option R) : Option R :=
  if (!(x0.toList == (⟨#[]⟩ : ByteArray).toList)) = true then (value_next_F n x0 (fun y1 y2 y3 => if (!y3) = true then (qr (⟨#[]⟩ : ByteArray) false) else (if (List.length x1 + List.length [y1]) * 1 ≤ 140737488355328 then (k1 y2 (x1 ++ [y1])) else none))) else (qe0 x1)
def value_unquoted_l5 (n : Nat) (a : (value_unquoted_ds 5).D) (k1 : (value_unquoted_ds 5).D → Option R) (k2 : exK R (value_unquoted_dx 5)) : Option R :=
  value_unquoted_s5 n a.1 a.2.1 (fun x0 x1 => k1 (x0, x1, ())) (fun x0 x1 => k2.1 (x0, x1, ())) (fun x0 => k2.2.1 (x0, ()))
@[reducible] def value_unquoted_d : Desc := ⟨[(0, .d .str)], []⟩
def value_unquoted_Fi (n : Nat) (a0 : ByteArray) (k0 : ByteArray → Bool → Option R) : Option R :=
  if (decide ((a0.size : Int) < 2)) = true then (k0 (⟨#[]⟩ : ByteArray) false) else (if (0 : Int) ≤ 0 then if 0 < (a0.size : Int) then (if ((byteAt a0 0) != 34) = true then (k0 (⟨#[]⟩ : ByteArray) false) else (if (0 : Int) ≤ (IntKind.i64.wrap ((a0.size : Int) - 1)) then if (IntKind.i64.wrap ((a0.size : Int) - 1)) < (a0.size : Int) then (if ((byteAt a0 (IntKind.i64.wrap ((a0.size : Int) - 1))) != 34) = true then (k0 (⟨#[]⟩ : ByteArray) false) else (if (0 : Int) ≤ (IntKind.i64.wrap ((a0.size : Int) - 1)) ∧ (IntKind.i64.wrap ((a0.size : Int) - 1)) ≤ (a0.size : Int) then (if (0 : Int) ≤ 1 ∧ 1 ≤ ((Int.toNat (IntKind.i64.wrap ((a0.size : Int) - 1))) : Int) then (runC (value_unquoted_l5 n) n ((a0.extract (Int.toNat 1) (Int.toNat (IntKind.i64.wrap ((a0.size : Int) - 1)))), ([] : List Int), ()) (fun b5 => k0 b5.1 b5.2.1, fun b6 => k0 (strOfNums b6.1) true, ())) else none) else none)) else none else none)) else none else none)
def value_unquoted_F {R : Type} := lazyN (@value_unquoted_Fi R)
theorem value_unquoted_e : @value_unquoted_F R = @value_unquoted_Fi R := lazyN_eq _
def value_unquoted_g (n : Nat) : Gx R := typed 1 value_unquoted_d fun x k => value_unquoted_F n x.1 (fun y0 y1 => k (.tu [(.c (.s y0)), (.c (.b y1))]) [])
def value_unquoted_cs (R : Type) (n : Nat) : List (Nat × Gx R) := [(76, value_next_g n)]
def value_unquoted_lp (n : Nat) : (i : Nat) → (value_unquoted_ds i).D → exK R (value_unquoted_dx i) → Option R
  | 5, a, k => runC (value_unquoted_l5 n) n a k
  | _, _, _ => none
def value_unquoted_cx (R : Type) (n : Nat) : Cx R := ⟨Tryz.prog, Gof (value_unquoted_cs R n), value_unquoted_ds, value_unquoted_dx, value_unquoted_lp n, drawP Tryz.prog (Gof (value_unquoted_cs R n)), false, noJn, noFz⟩
theorem value_unquoted_ok [Esc R] (n : Nat) : Good Tryz.prog 60 (value_unquoted_g (R := R) n) := by
  unfold value_unquoted_g
  rw [value_unquoted_e]
  exact Good.fn (f := 60) (cx := value_unquoted_cx R n) (by kernel_rfl) (AllGood.cons (value_next_ok n) (AllGood.nil)) rfl Tryz.func60 (by kernel_rfl) rfl (by
    have e : fnLoops noJn Tryz.f60 = [((fnLoops noJn Tryz.f60)[0]?).getD (false, .skip)] := by kernel_rfl
    show LoopRuns _ _ (fnLoops noJn _)
    rw [e]
    exact ⟨LoopRun.loop (by kernel_rfl) (i := 5) (m := n) (step := value_unquoted_l5 n) (by kernel_rfl) (fun a k1 k2 => by kernel_rfl) (fun _ _ => rfl), trivial⟩) 1 value_unquoted_d (by kernel_rfl) (fun x k => by kernel_rfl)
end
end Go.Proofs.YtcpimjekllkbkaaGreatDoor.E
set_option linter.unusedVariables false
set_option maxRecDepth 100000
namespace Go.Proofs.YtcpimjekllkbkaaGreatDoor.E
open Go.Proofs
noncomputable section
variable {R : Type}
/-! verderer/value.guess: function 35 -/
@[reducible] def value_guess_d : Desc := ⟨[(0, .d .str)], []⟩
def value_guess_Fi (n : Nat) (a0 : ByteArray) (k0 : ty25.D → Option R) : Option R :=
  if (a0.toList == (⟨#[116, 114, 117, 101]⟩ : ByteArray).toList) = true then (value_Bool_F n (a0.toList == (⟨#[116, 114, 117, 101]⟩ : ByteArray).toList) (fun y1 => k0 y1)) else (if (a0.toList == (⟨#[102, 97, 108, 115, 101]⟩ : ByteArray).toList) = true then (value_Bool_F n (a0.toList == (⟨#[116, 114, 117, 101]⟩ : ByteArray).toList) (fun y2 => k0 y2)) else (strconv_ParseInt_F n a0 10 64 (fun y3 y4 => if (!y4) = true then (value_Int_F n y3 (fun y5 => k0 y5)) else (value_unquoted_F n a0 (fun y6 y7 => if y7 = true then (value_Text_F n y6 (fun y8 => k0 y8)) else (value_Null_F n (fun y9 => k0 y9)))))))
def value_guess_F {R : Type} := lazyN (@value_guess_Fi R)
theorem value_guess_e : @value_guess_F R = @value_guess_Fi R := lazyN_eq _
def value_guess_g (n : Nat) : Gx R := typed 1 value_guess_d fun x k => value_guess_F n x.1 (fun y0 => k (.a (encA ty25 y0)) [])
def value_guess_cs (R : Type) (n : Nat) : List (Nat × Gx R) := [(48, value_Null_g n), (49, value_Bool_g n), (50, value_Int_g n), (51, value_Text_g n), (59, strconv_ParseInt_g n), (60, value_unquoted_g n)]
def value_guess_cx (R : Type) (n : Nat) : Cx R := ⟨Tryz.prog, Gof (value_guess_cs R n), noDs, noDx, noLp, drawP Tryz.prog (Gof (value_guess_cs R n)), false, noJn, noFz⟩
theorem value_guess_ok [Esc R] (n : Nat) : Good Tryz.prog 35 (value_guess_g (R := R) n) := by
  unfold value_guess_g
  rw [value_guess_e]
  exact Good.fn (f := 35) (cx := value_guess_cx R n) (by kernel_rfl) (AllGood.cons (value_Null_ok n) (AllGood.cons (value_Bool_ok n) (AllGood.cons (value_Int_ok n) (AllGood.cons (value_Text_ok n) (AllGood.cons (strconv_ParseInt_ok n) (AllGood.cons (value_unquoted_ok n) (AllGood.nil))))))) rfl Tryz.func35 (by kernel_rfl) rfl trivial 1 value_guess_d (by kernel_rfl) (fun x k => by kernel_rfl)
end
end Go.Proofs.YtcpimjekllkbkaaGreatDoor.E
set_option linter.unusedVariables false
set_option maxRecDepth 100000
namespace Go.Proofs.YtcpimjekllkbkaaGreatDoor.E
open Go.Proofs
noncomputable section
variable {R : Type}
/-! verderer/value.Read: function 16 -/
@[reducible] def value_Read_d : Desc := ⟨[(0, .d .str)], []⟩
def value_Read_Fi (n : Nat) (a0 : ByteArray) (k0 : ty25.D → Int → Option R) : Option R :=
  value_guess_F n a0 (fun y1 => if (a0.toList == (⟨#[]⟩ : ByteArray).toList) = true then (k0 (0, false, 0, (⟨#[]⟩ : ByteArray), ()) 7) else (value_Show_F n y1 (fun y2 => if (!(y2.toList == a0.toList)) = true then (k0 (0, false, 0, (⟨#[]⟩ : ByteArray), ()) 7) else (k0 y1 0))))
def value_Read_F {R : Type} := lazyN (@value_Read_Fi R)
theorem value_Read_e : @value_Read_F R = @value_Read_Fi R := lazyN_eq _
def value_Read_g (n : Nat) : Gx R := typed 1 value_Read_d fun x k => value_Read_F n x.1 (fun y0 y1 => k (.tu [(encA ty25 y0), (.c (.i .i64 y1))]) [])
def value_Read_cs (R : Type) (n : Nat) : List (Nat × Gx R) := [(12, value_Show_g n), (35, value_guess_g n)]
def value_Read_cx (R : Type) (n : Nat) : Cx R := ⟨Tryz.prog, Gof (value_Read_cs R n), noDs, noDx, noLp, drawP Tryz.prog (Gof (value_Read_cs R n)), false, noJn, noFz⟩
theorem value_Read_ok [Esc R] (n : Nat) : Good Tryz.prog 16 (value_Read_g (R := R) n) := by
  unfold value_Read_g
  rw [value_Read_e]
  exact Good.fn (f := 16) (cx := value_Read_cx R n) (by kernel_rfl) (AllGood.cons (value_Show_ok n) (AllGood.cons (value_guess_ok n) (AllGood.nil))) rfl Tryz.func16 (by kernel_rfl) rfl trivial 1 value_Read_d (by kernel_rfl) (fun x k => by kernel_rfl)
end
end Go.Proofs.YtcpimjekllkbkaaGreatDoor.E
set_option linter.unusedVariables false
set_option maxRecDepth 100000
namespace Go.Proofs.YtcpimjekllkbkaaGreatDoor.E
open Go.Proofs
noncomputable section
variable {R : Type}
/-! internal/stringslite.HasPrefix: function 61 -/
@[reducible] def stringslite_HasPrefix_d : Desc := ⟨[(0, .d .str), (1, .d .str)], []⟩
def stringslite_HasPrefix_Fi (n : Nat) (a0 : ByteArray) (a1 : ByteArray) (k0 : Bool → Option R) : Option R :=
  if (decide ((a0.size : Int) ≥ (a1.size : Int))) = true then (if (0 : Int) ≤ (a1.size : Int) ∧ (a1.size : Int) ≤ (a0.size : Int) then (k0 ((a0.extract 0 (Int.toNat (a1.size : Int))).toList == a1.toList)) else none) else (k0 false)
def stringslite_HasPrefix_F {R : Type} := lazyN (@stringslite_HasPrefix_Fi R)
theorem stringslite_HasPrefix_e : @stringslite_HasPrefix_F R = @stringslite_HasPrefix_Fi R := lazyN_eq _
def stringslite_HasPrefix_g (n : Nat) : Gx R := typed 2 stringslite_HasPrefix_d fun x k => stringslite_HasPrefix_F n x.1 x.2.1 (fun y0 => k (.a (.c (.b y0))) [])
def stringslite_HasPrefix_cs (R : Type) (n : Nat) : List (Nat × Gx R) := []
def stringslite_HasPrefix_cx (R : Type) (n : Nat) : Cx R := ⟨Tryz.prog, Gof (stringslite_HasPrefix_cs R n), noDs, noDx, noLp, drawP Tryz.prog (Gof (stringslite_HasPrefix_cs R n)), false, noJn, noFz⟩
theorem stringslite_HasPrefix_ok [Esc R] (n : Nat) : Good Tryz.prog 61 (stringslite_HasPrefix_g (R := R) n) := by
  unfold stringslite_HasPrefix_g
  rw [stringslite_HasPrefix_e]
  exact Good.fn (f := 61) (cx := stringslite_HasPrefix_cx R n) (by kernel_rfl) (AllGood.nil) rfl Tryz.func61 (by kernel_rfl) rfl trivial 2 stringslite_HasPrefix_d (by kernel_rfl) (fun x k => by kernel_rfl)
end
end Go.Proofs.YtcpimjekllkbkaaGreatDoor.E
set_option linter.unusedVariables false
set_option maxRecDepth 100000
namespace Go.Proofs.YtcpimjekllkbkaaGreatDoor.E
open Go.Proofs
noncomputable section
variable {R : Type}
/-! internal/stringslite.CutPrefix: function 36 -/
@[reducible] def stringslite_CutPrefix_d : Desc := ⟨[(0, .d .str), (1, .d .str)], []⟩
def stringslite_CutPrefix_Fi (n : Nat) (a0 : ByteArray) (a1 : ByteArray) (k0 : ByteArray → Bool → Option R) : Option R :=
  stringslite_HasPrefix_F n a0 a1 (fun y1 => if (!y1) = true then (k0 a0 false) else (if (0 : Int) ≤ (a1.size : Int) ∧ (a1.size : Int) ≤ (a0.size : Int) then (k0 (a0.extract (Int.toNat (a1.size : Int)) a0.size) true) else none))
def stringslite_CutPrefix_F {R : Type} := lazyN (@stringslite_CutPrefix_Fi R)
theorem stringslite_CutPrefix_e : @stringslite_CutPrefix_F R = @stringslite_CutPrefix_Fi R := lazyN_eq _
def stringslite_CutPrefix_g (n : Nat) : Gx R := typed 2 stringslite_CutPrefix_d fun x k => stringslite_CutPrefix_F n x.1 x.2.1 (fun y0 y1 => k (.tu [(.c (.s y0)), (.c (.b y1))]) [])
def stringslite_CutPrefix_cs (R : Type) (n : Nat) : List (Nat × Gx R) := [(61, stringslite_HasPrefix_g n)]
def stringslite_CutPrefix_cx (R : Type) (n : Nat) : Cx R := ⟨Tryz.prog, Gof (stringslite_CutPrefix_cs R n), noDs, noDx, noLp, drawP Tryz.prog (Gof (stringslite_CutPrefix_cs R n)), false, noJn, noFz⟩
theorem stringslite_CutPrefix_ok [Esc R] (n : Nat) : Good Tryz.prog 36 (stringslite_CutPrefix_g (R := R) n) := by
  unfold stringslite_CutPrefix_g
  rw [stringslite_CutPrefix_e]
  exact Good.fn (f := 36) (cx := stringslite_CutPrefix_cx R n) (by kernel_rfl) (AllGood.cons (stringslite_HasPrefix_ok n) (AllGood.nil)) rfl Tryz.func36 (by kernel_rfl) rfl trivial 2 stringslite_CutPrefix_d (by kernel_rfl) (fun x k => by kernel_rfl)
end
end Go.Proofs.YtcpimjekllkbkaaGreatDoor.E
set_option linter.unusedVariables false
set_option maxRecDepth 100000
namespace Go.Proofs.YtcpimjekllkbkaaGreatDoor.E
open Go.Proofs
noncomputable section
variable {R : Type}
/-! strings.CutPrefix: function 17 -/
@[reducible] def strings_CutPrefix_d : Desc := ⟨[(0, .d .str), (1, .d .str)], []⟩
def strings_CutPrefix_Fi (n : Nat) (a0 : ByteArray) (a1 : ByteArray) (k0 : ByteArray → Bool → Option R) : Option R :=
  stringslite_CutPrefix_F n a0 a1 (fun y1 y2 => k0 y1 y2)
def strings_CutPrefix_F {R : Type} := lazyN (@strings_CutPrefix_Fi R)
theorem strings_CutPrefix_e : @strings_CutPrefix_F R = @strings_CutPrefix_Fi R := lazyN_eq _
def strings_CutPrefix_g (n : Nat) : Gx R := typed 2 strings_CutPrefix_d fun x k => strings_CutPrefix_F n x.1 x.2.1 (fun y0 y1 => k (.tu [(.c (.s y0)), (.c (.b y1))]) [])
def strings_CutPrefix_cs (R : Type) (n : Nat) : List (Nat × Gx R) := [(36, stringslite_CutPrefix_g n)]
def strings_CutPrefix_cx (R : Type) (n : Nat) : Cx R := ⟨Tryz.prog, Gof (strings_CutPrefix_cs R n), noDs, noDx, noLp, drawP Tryz.prog (Gof (strings_CutPrefix_cs R n)), false, noJn, noFz⟩
theorem strings_CutPrefix_ok [Esc R] (n : Nat) : Good Tryz.prog 17 (strings_CutPrefix_g (R := R) n) := by
  unfold strings_CutPrefix_g
  rw [strings_CutPrefix_e]
  exact Good.fn (f := 17) (cx := strings_CutPrefix_cx R n) (by kernel_rfl) (AllGood.cons (stringslite_CutPrefix_ok n) (AllGood.nil)) rfl Tryz.func17 (by kernel_rfl) rfl trivial 2 strings_CutPrefix_d (by kernel_rfl) (fun x k => by kernel_rfl)
end
end Go.Proofs.YtcpimjekllkbkaaGreatDoor.E
set_option linter.unusedVariables false
set_option maxRecDepth 100000
namespace Go.Proofs.YtcpimjekllkbkaaGreatDoor.E
open Go.Proofs
noncomputable section
variable {R : Type}
/-! verderer/words.Back: function 7 -/
def words_Back_ds : Nat → Desc
  | 3 => ⟨[(0, .d .str), (4, .ow 1), (5, .d .bool)], [.no, .arr 25 ty25]⟩
  | _ => ⟨[], []⟩
def words_Back_dx : Nat → List (X × Desc)
  | 3 => [(.r, ⟨[(2, .ow 2), (3, .d (.int .i64))], [.no, .no, .arr 25 ty25]⟩), (.r, ⟨[(2, .ow 3), (3, .d (.int .i64))], [.no, .no, .no, .arr 25 ty25]⟩), (.e 0, ⟨[(4, .ow 1)], [.no, .arr 25 ty25]⟩), (.r, ⟨[(2, .ow 4), (3, .d (.int .i64))], [.no, .no, .no, .no, .arr 25 ty25]⟩)]
  | _ => []
def words_Back_s3 (n : Nat) (x0 : ByteArray) (x1 : Bool) (x2 : (List ty25.D)) (k1 : ByteArray → Bool → (List ty25.D) → Option R) (qr : Int → (List ty25.D) → Option R) (qr_1 : Int → (List ty25.D) → Option R) (qe0 : (List ty25.D) → Option R) (qr_2 : Int → (List ty25.D) → Option R) : Option R :=
  if x1 = true then (if (x0.toList == (⟨#[]⟩ : ByteArray).toList) = true then (qr 7 ([] : List ty25.D)) else (words_cut_F n x0 (fun y1 y2 => value_Read_F n y1 (fun y3 y4 => if (y4 != 0) = true then (qr_1 7 ([] : List ty25.D)) else (if (List.length x2 + List.length [y3]) * 40 ≤ 140737488355328 then (if (y2.toList == (⟨#[]⟩ : ByteArray).toList) = true then (qe0 (x2 ++ [y3])) else (strings_CutPrefix_F n y2 (⟨#[32]⟩ : ByteArray) (fun y5 y6 => if (!y6) = true then (qr_2 7 ([] : List ty25.D)) else (k1 y5 y6 (x2 ++ [y3]))))) else none))))) else (qe0 x2)
def words_Back_l3 (n : Nat) (a : (words_Back_ds 3).D) (k1 : (words_Back_ds 3).D → Option R) (k2 : exK R (words_Back_dx 3)) : Option R :=
  words_Back_s3 n a.1 a.2.1 a.2.2.1 (fun x0 x1 x2 => k1 (x0, x1, x2, ())) (fun x0 x1 => k2.1 (x0, x1, ())) (fun x0 x1 => k2.2.1 (x0, x1, ())) (fun x0 => k2.2.2.1 (x0, ())) (fun x0 x1 => k2.2.2.2.1 (x0, x1, ()))
@[reducible] def words_Back_d : Desc := ⟨[(0, .d .str)], []⟩
def words_Back_Fi (n : Nat) (a0 : ByteArray) (k0 : Int → (List ty25.D) → Option R) : Option R :=
  runC (words_Back_l3 n) n (a0, (!(a0.toList == (⟨#[]⟩ : ByteArray).toList)), ([] : List ty25.D), ()) (fun b8 => k0 b8.1 b8.2.1, fun b10 => k0 b10.1 b10.2.1, fun b11 => k0 0 b11.1, fun b13 => k0 b13.1 b13.2.1, ())
def words_Back_F {R : Type} := lazyN (@words_Back_Fi R)
theorem words_Back_e : @words_Back_F R = @words_Back_Fi R := lazyN_eq _
def words_Back_g (n : Nat) : Gx R := typed 1 words_Back_d fun x k => words_Back_F n x.1 (fun y0 y1 => k (.tu [(.c (.ow 0)), (.c (.i .i64 y0))]) [(.arr 25 ty25 y1)])
def words_Back_cs (R : Type) (n : Nat) : List (Nat × Gx R) := [(15, words_cut_g n), (16, value_Read_g n), (17, strings_CutPrefix_g n)]
def words_Back_lp (n : Nat) : (i : Nat) → (words_Back_ds i).D → exK R (words_Back_dx i) → Option R
  | 3, a, k => runC (words_Back_l3 n) n a k
  | _, _, _ => none
def words_Back_cx (R : Type) (n : Nat) : Cx R := ⟨Tryz.prog, Gof (words_Back_cs R n), words_Back_ds, words_Back_dx, words_Back_lp n, drawP Tryz.prog (Gof (words_Back_cs R n)), false, noJn, noFz⟩
theorem words_Back_ok [Esc R] (n : Nat) : Good Tryz.prog 7 (words_Back_g (R := R) n) := by
  unfold words_Back_g
  rw [words_Back_e]
  exact Good.fn (f := 7) (cx := words_Back_cx R n) (by kernel_rfl) (AllGood.cons (words_cut_ok n) (AllGood.cons (value_Read_ok n) (AllGood.cons (strings_CutPrefix_ok n) (AllGood.nil)))) rfl Tryz.func7 (by kernel_rfl) rfl (by
    have e : fnLoops noJn Tryz.f7 = [((fnLoops noJn Tryz.f7)[0]?).getD (false, .skip)] := by kernel_rfl
    show LoopRuns _ _ (fnLoops noJn _)
    rw [e]
    exact ⟨LoopRun.loop (by kernel_rfl) (i := 3) (m := n) (step := words_Back_l3 n) (by kernel_rfl) (fun a k1 k2 => by kernel_rfl) (fun _ _ => rfl), trivial⟩) 1 words_Back_d (by kernel_rfl) (fun x k => by kernel_rfl)
end
end Go.Proofs.YtcpimjekllkbkaaGreatDoor.E
set_option linter.unusedVariables false
set_option maxRecDepth 100000
namespace Go.Proofs.YtcpimjekllkbkaaGreatDoor.E
open Go.Proofs
noncomputable section
variable {R : Type}
/-! verderer/verdererref02.Equal: function 9 -/
def verdererref02_Equal_ds : Nat → Desc
  | 4 => ⟨[(0, .d (.sl ty25)), (1, .d (.sl ty25)), (5, .d (.int .i64))], []⟩
  | _ => ⟨[], []⟩
def verdererref02_Equal_dx : Nat → List (X × Desc)
  | 4 => [(.r, ⟨[(4, .d .bool)], []⟩), (.e 0, ⟨[], []⟩)]
  | _ => []
def verdererref02_Equal_s4 (n : Nat) (x0 : (List ty25.D)) (x1 : (List ty25.D)) (x2 : Int) (k1 : (List ty25.D) → (List ty25.D) → Int → Option R) (qr : Bool → Option R) (qe0 : Option R) : Option R :=
  if (decide (x2 < (x0.length : Int))) = true then (if (0 : Int) ≤ x2 ∧ x2 < (x0.length : Int) then (if (0 : Int) ≤ x2 ∧ x2 < (x1.length : Int) then (if (!(((x0.getD (Int.toNat x2) (Ty.z ty25)).1 == (x1.getD (Int.toNat x2) (Ty.z ty25)).1) && (((x0.getD (Int.toNat x2) (Ty.z ty25)).2.1 == (x1.getD (Int.toNat x2) (Ty.z ty25)).2.1) && (((x0.getD (Int.toNat x2) (Ty.z ty25)).2.2.1 == (x1.getD (Int.toNat x2) (Ty.z ty25)).2.2.1) && ((((x0.getD (Int.toNat x2) (Ty.z ty25)).2.2.2.1).toList == ((x1.getD (Int.toNat x2) (Ty.z ty25)).2.2.2.1).toList) && true))))) = true then (qr false) else (k1 x0 x1 (IntKind.i64.wrap (x2 + 1)))) else none) else none) else qe0
def verdererref02_Equal_l4 (n : Nat) (a : (verdererref02_Equal_ds 4).D) (k1 : (verdererref02_Equal_ds 4).D → Option R) (k2 : exK R (verdererref02_Equal_dx 4)) : Option R :=
  verdererref02_Equal_s4 n a.1 a.2.1 a.2.2.1 (fun x0 x1 x2 => k1 (x0, x1, x2, ())) (fun x0 => k2.1 (x0, ())) (k2.2.1 (()))
@[reducible] def verdererref02_Equal_d : Desc := ⟨[(0, .d (.sl ty25)), (1, .d (.sl ty25))], []⟩
def verdererref02_Equal_Fi (n : Nat) (a0 : (List ty25.D)) (a1 : (List ty25.D)) (k0 : Bool → Option R) : Option R :=
  if ((a0.length : Int) != (a1.length : Int)) = true then (k0 false) else (runC (verdererref02_Equal_l4 n) n (a0, a1, 0, ()) (fun b1 => k0 b1.1, fun b1 => k0 true, ()))
def verdererref02_Equal_F {R : Type} := lazyN (@verdererref02_Equal_Fi R)
theorem verdererref02_Equal_e : @verdererref02_Equal_F R = @verdererref02_Equal_Fi R := lazyN_eq _
def verdererref02_Equal_g (n : Nat) : Gx R := typed 2 verdererref02_Equal_d fun x k => verdererref02_Equal_F n x.1 x.2.1 (fun y0 => k (.a (.c (.b y0))) [])
def verdererref02_Equal_cs (R : Type) (n : Nat) : List (Nat × Gx R) := []
def verdererref02_Equal_lp (n : Nat) : (i : Nat) → (verdererref02_Equal_ds i).D → exK R (verdererref02_Equal_dx i) → Option R
  | 4, a, k => runC (verdererref02_Equal_l4 n) n a k
  | _, _, _ => none
def verdererref02_Equal_cx (R : Type) (n : Nat) : Cx R := ⟨Tryz.prog, Gof (verdererref02_Equal_cs R n), verdererref02_Equal_ds, verdererref02_Equal_dx, verdererref02_Equal_lp n, drawP Tryz.prog (Gof (verdererref02_Equal_cs R n)), false, noJn, noFz⟩
theorem verdererref02_Equal_ok [Esc R] (n : Nat) : Good Tryz.prog 9 (verdererref02_Equal_g (R := R) n) := by
  unfold verdererref02_Equal_g
  rw [verdererref02_Equal_e]
  exact Good.fn (f := 9) (cx := verdererref02_Equal_cx R n) (by kernel_rfl) (AllGood.nil) rfl Tryz.func9 (by kernel_rfl) rfl (by
    have e : fnLoops noJn Tryz.f9 = [((fnLoops noJn Tryz.f9)[0]?).getD (false, .skip)] := by kernel_rfl
    show LoopRuns _ _ (fnLoops noJn _)
    rw [e]
    exact ⟨LoopRun.loop (by kernel_rfl) (i := 4) (m := n) (step := verdererref02_Equal_l4 n) (by kernel_rfl) (fun a k1 k2 => by kernel_rfl) (fun _ _ => rfl), trivial⟩) 2 verdererref02_Equal_d (by kernel_rfl) (fun x k => by kernel_rfl)
end
end Go.Proofs.YtcpimjekllkbkaaGreatDoor.E
set_option linter.unusedVariables false
set_option maxRecDepth 100000
namespace Go.Proofs.YtcpimjekllkbkaaGreatDoor.E
open Go.Proofs
noncomputable section
variable {R : Type}
/-! verderer/words.kinds: function 40 -/
@[reducible] def words_kinds_d : Desc := ⟨[], []⟩
def words_kinds_Fi (n : Nat) (k0 : (List ByteArray) → Option R) : Option R :=
  k0 [(⟨#[]⟩ : ByteArray), (⟨#[105, 110, 115, 101, 114, 116]⟩ : ByteArray), (⟨#[117, 112, 100, 97, 116, 101]⟩ : ByteArray), (⟨#[100, 101, 108, 101, 116, 101]⟩ : ByteArray), (⟨#[116, 101, 110, 97, 110, 116]⟩ : ByteArray), (⟨#[109, 111, 118, 101]⟩ : ByteArray), (⟨#[100, 114, 111, 112]⟩ : ByteArray), (⟨#[114, 117, 108, 101]⟩ : ByteArray), (⟨#[114, 101, 112, 108, 97, 99, 101]⟩ : ByteArray), (⟨#[114, 101, 109, 111, 118, 101]⟩ : ByteArray), (⟨#[116, 114, 121]⟩ : ByteArray), (⟨#[100, 101, 110, 105, 101, 100]⟩ : ByteArray), (⟨#[117, 115, 97, 103, 101]⟩ : ByteArray), (⟨#[102, 101, 101, 100]⟩ : ByteArray), (⟨#[115, 116, 97, 116, 115]⟩ : ByteArray), (⟨#[103, 101, 116]⟩ : ByteArray)]
def words_kinds_F {R : Type} := lazyN (@words_kinds_Fi R)
theorem words_kinds_e : @words_kinds_F R = @words_kinds_Fi R := lazyN_eq _
def words_kinds_g (n : Nat) : Gx R := typed 0 words_kinds_d fun x k => words_kinds_F n (fun y0 => k (.a (.c (.ow 0))) [(.arr 9 .str y0)])
def words_kinds_cs (R : Type) (n : Nat) : List (Nat × Gx R) := []
def words_kinds_cx (R : Type) (n : Nat) : Cx R := ⟨Tryz.prog, Gof (words_kinds_cs R n), noDs, noDx, noLp, drawP Tryz.prog (Gof (words_kinds_cs R n)), false, noJn, noFz⟩
theorem words_kinds_ok [Esc R] (n : Nat) : Good Tryz.prog 40 (words_kinds_g (R := R) n) := by
  unfold words_kinds_g
  rw [words_kinds_e]
  exact Good.fn (f := 40) (cx := words_kinds_cx R n) (by kernel_rfl) (AllGood.nil) rfl Tryz.func40 (by kernel_rfl) rfl trivial 0 words_kinds_d (by kernel_rfl) (fun x k => by kernel_rfl)
end
end Go.Proofs.YtcpimjekllkbkaaGreatDoor.E
set_option linter.unusedVariables false
set_option maxRecDepth 100000
namespace Go.Proofs.YtcpimjekllkbkaaGreatDoor.E
open Go.Proofs
noncomputable section
variable {R : Type}
/-! internal/stringslite.Index: function 96 -/
@[reducible] def stringslite_Index_d : Desc := ⟨[(0, .d .str), (1, .d .str)], []⟩
def stringslite_Index_Fi (n : Nat) (a0 : ByteArray) (a1 : ByteArray) (k0 : Int → Option R) : Option R :=
  if ((a1.size : Int) == 0) = true then (k0 0) else (if (a1.toList == a0.toList) = true then (k0 0) else (if ((a1.size : Int) == 1) = true then (if (0 : Int) ≤ 0 then if 0 < (a1.size : Int) then (stringslite_IndexByte_F n a0 (byteAt a1 0) (fun y1 => k0 y1)) else none else none) else (if (decide ((a1.size : Int) ≥ (a0.size : Int))) = true then (k0 (-1)) else none)))
def stringslite_Index_F {R : Type} := lazyN (@stringslite_Index_Fi R)
theorem stringslite_Index_e : @stringslite_Index_F R = @stringslite_Index_Fi R := lazyN_eq _
def stringslite_Index_g (n : Nat) : Gx R := typed 2 stringslite_Index_d fun x k => stringslite_Index_F n x.1 x.2.1 (fun y0 => k (.a (.c (.i .i64 y0))) [])
def stringslite_Index_cs (R : Type) (n : Nat) : List (Nat × Gx R) := [(58, stringslite_IndexByte_g n)]
def stringslite_Index_cx (R : Type) (n : Nat) : Cx R := ⟨Tryz.prog, Gof (stringslite_Index_cs R n), noDs, noDx, noLp, drawP Tryz.prog (Gof (stringslite_Index_cs R n)), false, noJn, noFz⟩
theorem stringslite_Index_ok [Esc R] (n : Nat) : Good Tryz.prog 96 (stringslite_Index_g (R := R) n) := by
  unfold stringslite_Index_g
  rw [stringslite_Index_e]
  exact Good.fn (f := 96) (cx := stringslite_Index_cx R n) (by kernel_rfl) (AllGood.cons (stringslite_IndexByte_ok n) (AllGood.nil)) rfl Tryz.func96 (by kernel_rfl) rfl (by
    have e : fnLoops noJn Tryz.f96 = [((fnLoops noJn Tryz.f96)[0]?).getD (false, .skip)] := by kernel_rfl
    show LoopRuns _ _ (fnLoops noJn _)
    rw [e]
    exact ⟨LoopRun.no (by kernel_rfl) (i := 15) (by kernel_rfl) (fun _ _ => rfl), trivial⟩) 2 stringslite_Index_d (by kernel_rfl) (fun x k => by kernel_rfl)
end
end Go.Proofs.YtcpimjekllkbkaaGreatDoor.E
set_option linter.unusedVariables false
set_option maxRecDepth 100000
namespace Go.Proofs.YtcpimjekllkbkaaGreatDoor.E
open Go.Proofs
noncomputable section
variable {R : Type}
/-! internal/stringslite.Cut: function 77 -/
@[reducible] def stringslite_Cut_d : Desc := ⟨[(0, .d .str), (1, .d .str)], []⟩
def stringslite_Cut_Fi (n : Nat) (a0 : ByteArray) (a1 : ByteArray) (k0 : ByteArray → ByteArray → Bool → Option R) : Option R :=
  stringslite_Index_F n a0 a1 (fun y1 => if (decide (y1 ≥ 0)) = true then (if (0 : Int) ≤ y1 ∧ y1 ≤ (a0.size : Int) then (if (0 : Int) ≤ (IntKind.i64.wrap (y1 + (a1.size : Int))) ∧ (IntKind.i64.wrap (y1 + (a1.size : Int))) ≤ (a0.size : Int) then (k0 (a0.extract 0 (Int.toNat y1)) (a0.extract (Int.toNat (IntKind.i64.wrap (y1 + (a1.size : Int)))) a0.size) true) else none) else none) else (k0 a0 (⟨#[]⟩ : ByteArray) false))
def stringslite_Cut_F {R : Type} := lazyN (@stringslite_Cut_Fi R)
theorem stringslite_Cut_e : @stringslite_Cut_F R = @stringslite_Cut_Fi R := lazyN_eq _
def stringslite_Cut_g (n : Nat) : Gx R := typed 2 stringslite_Cut_d fun x k => stringslite_Cut_F n x.1 x.2.1 (fun y0 y1 y2 => k (.tu [(.c (.s y0)), (.c (.s y1)), (.c (.b y2))]) [])
def stringslite_Cut_cs (R : Type) (n : Nat) : List (Nat × Gx R) := [(96, stringslite_Index_g n)]
def stringslite_Cut_cx (R : Type) (n : Nat) : Cx R := ⟨Tryz.prog, Gof (stringslite_Cut_cs R n), noDs, noDx, noLp, drawP Tryz.prog (Gof (stringslite_Cut_cs R n)), false, noJn, noFz⟩
theorem stringslite_Cut_ok [Esc R] (n : Nat) : Good Tryz.prog 77 (stringslite_Cut_g (R := R) n) := by
  unfold stringslite_Cut_g
  rw [stringslite_Cut_e]
  exact Good.fn (f := 77) (cx := stringslite_Cut_cx R n) (by kernel_rfl) (AllGood.cons (stringslite_Index_ok n) (AllGood.nil)) rfl Tryz.func77 (by kernel_rfl) rfl trivial 2 stringslite_Cut_d (by kernel_rfl) (fun x k => by kernel_rfl)
end
end Go.Proofs.YtcpimjekllkbkaaGreatDoor.E
set_option linter.unusedVariables false
set_option maxRecDepth 100000
namespace Go.Proofs.YtcpimjekllkbkaaGreatDoor.E
open Go.Proofs
noncomputable section
variable {R : Type}
/-! strings.Cut: function 63 -/
@[reducible] def strings_Cut_d : Desc := ⟨[(0, .d .str), (1, .d .str)], []⟩
def strings_Cut_Fi (n : Nat) (a0 : ByteArray) (a1 : ByteArray) (k0 : ByteArray → ByteArray → Bool → Option R) : Option R :=
  stringslite_Cut_F n a0 a1 (fun y1 y2 y3 => k0 y1 y2 y3)
def strings_Cut_F {R : Type} := lazyN (@strings_Cut_Fi R)
theorem strings_Cut_e : @strings_Cut_F R = @strings_Cut_Fi R := lazyN_eq _
def strings_Cut_g (n : Nat) : Gx R := typed 2 strings_Cut_d fun x k => strings_Cut_F n x.1 x.2.1 (fun y0 y1 y2 => k (.tu [(.c (.s y0)), (.c (.s y1)), (.c (.b y2))]) [])
def strings_Cut_cs (R : Type) (n : Nat) : List (Nat × Gx R) := [(77, stringslite_Cut_g n)]
def strings_Cut_cx (R : Type) (n : Nat) : Cx R := ⟨Tryz.prog, Gof (strings_Cut_cs R n), noDs, noDx, noLp, drawP Tryz.prog (Gof (strings_Cut_cs R n)), false, noJn, noFz⟩
theorem strings_Cut_ok [Esc R] (n : Nat) : Good Tryz.prog 63 (strings_Cut_g (R := R) n) := by
  unfold strings_Cut_g
  rw [strings_Cut_e]
  exact Good.fn (f := 63) (cx := strings_Cut_cx R n) (by kernel_rfl) (AllGood.cons (stringslite_Cut_ok n) (AllGood.nil)) rfl Tryz.func63 (by kernel_rfl) rfl trivial 2 strings_Cut_d (by kernel_rfl) (fun x k => by kernel_rfl)
end
end Go.Proofs.YtcpimjekllkbkaaGreatDoor.E
set_option linter.unusedVariables false
set_option maxRecDepth 100000
namespace Go.Proofs.YtcpimjekllkbkaaGreatDoor.E
open Go.Proofs
noncomputable section
variable {R : Type}
/-! (*verderer/words.taker).word: function 41 -/
@[reducible] def words_taker_word_d : Desc := ⟨[(0, .pt 0 0)], [.box true 81 [.d .str]]⟩
def words_taker_word_Fi (n : Nat) (a0 : ByteArray) (k0 : ByteArray → ByteArray → Option R) : Option R :=
  strings_Cut_F n a0 (⟨#[32]⟩ : ByteArray) (fun y1 y2 y3 => k0 y1 y2)
def words_taker_word_F {R : Type} := lazyN (@words_taker_word_Fi R)
theorem words_taker_word_e : @words_taker_word_F R = @words_taker_word_Fi R := lazyN_eq _
def words_taker_word_g (n : Nat) : Gx R := typed 1 words_taker_word_d fun x k => words_taker_word_F n x.1 (fun y0 y1 => k (.a (.c (.s y0))) [(.box true 81 [(.s y1)])])
def words_taker_word_cs (R : Type) (n : Nat) : List (Nat × Gx R) := [(63, strings_Cut_g n)]
def words_taker_word_cx (R : Type) (n : Nat) : Cx R := ⟨Tryz.prog, Gof (words_taker_word_cs R n), noDs, noDx, noLp, drawP Tryz.prog (Gof (words_taker_word_cs R n)), false, noJn, noFz⟩
theorem words_taker_word_ok [Esc R] (n : Nat) : Good Tryz.prog 41 (words_taker_word_g (R := R) n) := by
  unfold words_taker_word_g
  rw [words_taker_word_e]
  exact Good.fn (f := 41) (cx := words_taker_word_cx R n) (by kernel_rfl) (AllGood.cons (strings_Cut_ok n) (AllGood.nil)) rfl Tryz.func41 (by kernel_rfl) rfl trivial 1 words_taker_word_d (by kernel_rfl) (fun x k => by kernel_rfl)
end
end Go.Proofs.YtcpimjekllkbkaaGreatDoor.E
set_option linter.unusedVariables false
set_option maxRecDepth 100000
namespace Go.Proofs.YtcpimjekllkbkaaGreatDoor.E
open Go.Proofs
noncomputable section
variable {R : Type}
/-! slices.Index[[]string,string]: function 39 -/
def slices_Index_39_ds : Nat → Desc
  | 2 => ⟨[(0, .d (.sl .str)), (1, .d .str), (7, .d (.int .i64)), (8, .d (.int .i64))], []⟩
  | _ => ⟨[], []⟩
def slices_Index_39_dx : Nat → List (X × Desc)
  | 2 => [(.r, ⟨[(4, .d (.int .i64))], []⟩), (.e 0, ⟨[], []⟩)]
  | _ => []
def slices_Index_39_s2 (n : Nat) (x0 : (List ByteArray)) (x1 : ByteArray) (x2 : Int) (x3 : Int) (k1 : (List ByteArray) → ByteArray → Int → Int → Option R) (qr : Int → Option R) (qe0 : Option R) : Option R :=
  if (decide (x3 < x2)) = true then (if (0 : Int) ≤ x3 ∧ x3 < (x0.length : Int) then (if (x1.toList == (x0.getD (Int.toNat x3) (Ty.z .str)).toList) = true then (qr x3) else (k1 x0 x1 x2 (IntKind.i64.wrap (x3 + 1)))) else none) else qe0
def slices_Index_39_l2 (n : Nat) (a : (slices_Index_39_ds 2).D) (k1 : (slices_Index_39_ds 2).D → Option R) (k2 : exK R (slices_Index_39_dx 2)) : Option R :=
  slices_Index_39_s2 n a.1 a.2.1 a.2.2.1 a.2.2.2.1 (fun x0 x1 x2 x3 => k1 (x0, x1, x2, x3, ())) (fun x0 => k2.1 (x0, ())) (k2.2.1 (()))
@[reducible] def slices_Index_39_d : Desc := ⟨[(0, .d (.sl .str)), (1, .d .str)], []⟩
def slices_Index_39_Fi (n : Nat) (a0 : (List ByteArray)) (a1 : ByteArray) (k0 : Int → Option R) : Option R :=
  runC (slices_Index_39_l2 n) n (a0, a1, (a0.length : Int), 0, ()) (fun b1 => k0 b1.1, fun b1 => k0 (-1), ())
def slices_Index_39_F {R : Type} := lazyN (@slices_Index_39_Fi R)
theorem slices_Index_39_e : @slices_Index_39_F R = @slices_Index_39_Fi R := lazyN_eq _
def slices_Index_39_g (n : Nat) : Gx R := typed 2 slices_Index_39_d fun x k => slices_Index_39_F n x.1 x.2.1 (fun y0 => k (.a (.c (.i .i64 y0))) [])
def slices_Index_39_cs (R : Type) (n : Nat) : List (Nat × Gx R) := []
def slices_Index_39_lp (n : Nat) : (i : Nat) → (slices_Index_39_ds i).D → exK R (slices_Index_39_dx i) → Option R
  | 2, a, k => runC (slices_Index_39_l2 n) n a k
  | _, _, _ => none
def slices_Index_39_cx (R : Type) (n : Nat) : Cx R := ⟨Tryz.prog, Gof (slices_Index_39_cs R n), slices_Index_39_ds, slices_Index_39_dx, slices_Index_39_lp n, drawP Tryz.prog (Gof (slices_Index_39_cs R n)), false, noJn, noFz⟩
theorem slices_Index_39_ok [Esc R] (n : Nat) : Good Tryz.prog 39 (slices_Index_39_g (R := R) n) := by
  unfold slices_Index_39_g
  rw [slices_Index_39_e]
  exact Good.fn (f := 39) (cx := slices_Index_39_cx R n) (by kernel_rfl) (AllGood.nil) rfl Tryz.func39 (by kernel_rfl) rfl (by
    have e : fnLoops noJn Tryz.f39 = [((fnLoops noJn Tryz.f39)[0]?).getD (false, .skip)] := by kernel_rfl
    show LoopRuns _ _ (fnLoops noJn _)
    rw [e]
    exact ⟨LoopRun.loop (by kernel_rfl) (i := 2) (m := n) (step := slices_Index_39_l2 n) (by kernel_rfl) (fun a k1 k2 => by kernel_rfl) (fun _ _ => rfl), trivial⟩) 2 slices_Index_39_d (by kernel_rfl) (fun x k => by kernel_rfl)
end
end Go.Proofs.YtcpimjekllkbkaaGreatDoor.E
set_option linter.unusedVariables false
set_option maxRecDepth 100000
namespace Go.Proofs.YtcpimjekllkbkaaGreatDoor.E
open Go.Proofs
noncomputable section
variable {R : Type}
/-! verderer/words.names: function 42 -/
@[reducible] def words_names_d : Desc := ⟨[(0, .d (.int .i64))], []⟩
def words_names_Fi (n : Nat) (a0 : Int) (k0 : Int → Option R) : Option R :=
  if (0 : Int) ≤ a0 ∧ a0 < (16 : Int) ∧ a0 < (List.length ([0, 5, 7, 3, 24, 24, 8, 32, 32, 64, 0, 0, 0, 128, 0, 1] : List Int) : Int) then (k0 (List.getD ([0, 5, 7, 3, 24, 24, 8, 32, 32, 64, 0, 0, 0, 128, 0, 1] : List Int) (Int.toNat a0) 0)) else none
def words_names_F {R : Type} := lazyN (@words_names_Fi R)
theorem words_names_e : @words_names_F R = @words_names_Fi R := lazyN_eq _
def words_names_g (n : Nat) : Gx R := typed 1 words_names_d fun x k => words_names_F n x.1 (fun y0 => k (.a (.c (.i .i64 y0))) [])
def words_names_cs (R : Type) (n : Nat) : List (Nat × Gx R) := []
def words_names_cx (R : Type) (n : Nat) : Cx R := ⟨Tryz.prog, Gof (words_names_cs R n), noDs, noDx, noLp, drawP Tryz.prog (Gof (words_names_cs R n)), false, noJn, noFz⟩
theorem words_names_ok [Esc R] (n : Nat) : Good Tryz.prog 42 (words_names_g (R := R) n) := by
  unfold words_names_g
  rw [words_names_e]
  exact Good.fn (f := 42) (cx := words_names_cx R n) (by kernel_rfl) (AllGood.nil) rfl Tryz.func42 (by kernel_rfl) rfl trivial 1 words_names_d (by kernel_rfl) (fun x k => by kernel_rfl)
end
end Go.Proofs.YtcpimjekllkbkaaGreatDoor.E
set_option linter.unusedVariables false
set_option maxRecDepth 100000
namespace Go.Proofs.YtcpimjekllkbkaaGreatDoor.E
open Go.Proofs
noncomputable section
variable {R : Type}
/-! verderer/words.guess: function 20 -/
@[reducible] def words_guess_d : Desc := ⟨[(0, .d .str)], []⟩
def words_guess_Fi (n : Nat) (a0 : ByteArray) (k0 : Int → Int → ByteArray → ByteArray → ByteArray → Int → ByteArray → ByteArray → ByteArray → Int → (List ty25.D) → Option R) : Option R :=
  words_kinds_F n (fun y1 => words_taker_word_F n a0 (fun y2 y3 => slices_Index_39_F n y1 y2 (fun y4 => if ((maxI 0 y4) == 0) = true then (k0 (maxI 0 y4) 0 (⟨#[]⟩ : ByteArray) (⟨#[]⟩ : ByteArray) (⟨#[]⟩ : ByteArray) 0 (⟨#[]⟩ : ByteArray) (⟨#[]⟩ : ByteArray) (⟨#[]⟩ : ByteArray) 0 ([] : List ty25.D)) else (if ((maxI 0 y4) == 10) = true then (k0 (maxI 0 y4) 0 (⟨#[]⟩ : ByteArray) (⟨#[]⟩ : ByteArray) (⟨#[]⟩ : ByteArray) 0 (⟨#[]⟩ : ByteArray) (⟨#[]⟩ : ByteArray) (⟨#[]⟩ : ByteArray) 0 ([] : List ty25.D)) else (words_names_F n (maxI 0 y4) (fun y5 => if ((bitsI .and .i64 y5 1) != 0) = true then (words_taker_word_F n y3 (fun y6 y7 => words_taker_word_F n y7 (fun y8 y9 => words_taker_word_F n y9 (fun y10 y11 => if ((bitsI .and .i64 y5 2) != 0) = true then none else (if ((bitsI .and .i64 y5 4) != 0) = true then (words_Back_F n y11 (fun y12 y13 => if ((bitsI .and .i64 y5 8) != 0) = true then (words_taker_word_F n y11 (fun y14 y15 => if ((bitsI .and .i64 y5 96) != 0) = true then (if ((bitsI .and .i64 y5 128) != 0) = true then none else (k0 (maxI 0 y4) 0 y6 y8 y10 0 y14 y15 y15 0 y13)) else (if ((bitsI .and .i64 y5 128) != 0) = true then none else (k0 (maxI 0 y4) 0 y6 y8 y10 0 y14 y15 (⟨#[]⟩ : ByteArray) 0 y13)))) else (if ((bitsI .and .i64 y5 96) != 0) = true then (if ((bitsI .and .i64 y5 128) != 0) = true then none else (k0 (maxI 0 y4) 0 y6 y8 y10 0 (⟨#[]⟩ : ByteArray) (⟨#[]⟩ : ByteArray) y11 0 y13)) else (if ((bitsI .and .i64 y5 128) != 0) = true then none else (k0 (maxI 0 y4) 0 y6 y8 y10 0 (⟨#[]⟩ : ByteArray) (⟨#[]⟩ : ByteArray) (⟨#[]⟩ : ByteArray) 0 y13))))) else (if ((bitsI .and .i64 y5 8) != 0) = true then (words_taker_word_F n y11 (fun y16 y17 => if ((bitsI .and .i64 y5 96) != 0) = true then (if ((bitsI .and .i64 y5 128) != 0) = true then none else (k0 (maxI 0 y4) 0 y6 y8 y10 0 y16 y17 y17 0 ([] : List ty25.D))) else (if ((bitsI .and .i64 y5 128) != 0) = true then none else (k0 (maxI 0 y4) 0 y6 y8 y10 0 y16 y17 (⟨#[]⟩ : ByteArray) 0 ([] : List ty25.D))))) else (if ((bitsI .and .i64 y5 96) != 0) = true then (if ((bitsI .and .i64 y5 128) != 0) = true then none else (k0 (maxI 0 y4) 0 y6 y8 y10 0 (⟨#[]⟩ : ByteArray) (⟨#[]⟩ : ByteArray) y11 0 ([] : List ty25.D))) else (if ((bitsI .and .i64 y5 128) != 0) = true then none else (k0 (maxI 0 y4) 0 y6 y8 y10 0 (⟨#[]⟩ : ByteArray) (⟨#[]⟩ : ByteArray) (⟨#[]⟩ : ByteArray) 0 ([] : List ty25.D)))))))))) else (if ((bitsI .and .i64 y5 2) != 0) = true then none else (if ((bitsI .and .i64 y5 4) != 0) = true then (words_Back_F n y3 (fun y18 y19 => if ((bitsI .and .i64 y5 8) != 0) = true then (words_taker_word_F n y3 (fun y20 y21 => if ((bitsI .and .i64 y5 96) != 0) = true then (if ((bitsI .and .i64 y5 128) != 0) = true then none else (k0 (maxI 0 y4) 0 (⟨#[]⟩ : ByteArray) (⟨#[]⟩ : ByteArray) (⟨#[]⟩ : ByteArray) 0 y20 y21 y21 0 y19)) else (if ((bitsI .and .i64 y5 128) != 0) = true then none else (k0 (maxI 0 y4) 0 (⟨#[]⟩ : ByteArray) (⟨#[]⟩ : ByteArray) (⟨#[]⟩ : ByteArray) 0 y20 y21 (⟨#[]⟩ : ByteArray) 0 y19)))) else (if ((bitsI .and .i64 y5 96) != 0) = true then (if ((bitsI .and .i64 y5 128) != 0) = true then none else (k0 (maxI 0 y4) 0 (⟨#[]⟩ : ByteArray) (⟨#[]⟩ : ByteArray) (⟨#[]⟩ : ByteArray) 0 (⟨#[]⟩ : ByteArray) (⟨#[]⟩ : ByteArray) y3 0 y19)) else (if ((bitsI .and .i64 y5 128) != 0) = true then none else (k0 (maxI 0 y4) 0 (⟨#[]⟩ : ByteArray) (⟨#[]⟩ : ByteArray) (⟨#[]⟩ : ByteArray) 0 (⟨#[]⟩ : ByteArray) (⟨#[]⟩ : ByteArray) (⟨#[]⟩ : ByteArray) 0 y19))))) else (if ((bitsI .and .i64 y5 8) != 0) = true then (words_taker_word_F n y3 (fun y22 y23 => if ((bitsI .and .i64 y5 96) != 0) = true then (if ((bitsI .and .i64 y5 128) != 0) = true then none else (k0 (maxI 0 y4) 0 (⟨#[]⟩ : ByteArray) (⟨#[]⟩ : ByteArray) (⟨#[]⟩ : ByteArray) 0 y22 y23 y23 0 ([] : List ty25.D))) else (if ((bitsI .and .i64 y5 128) != 0) = true then none else (k0 (maxI 0 y4) 0 (⟨#[]⟩ : ByteArray) (⟨#[]⟩ : ByteArray) (⟨#[]⟩ : ByteArray) 0 y22 y23 (⟨#[]⟩ : ByteArray) 0 ([] : List ty25.D))))) else (if ((bitsI .and .i64 y5 96) != 0) = true then (if ((bitsI .and .i64 y5 128) != 0) = true then none else (k0 (maxI 0 y4) 0 (⟨#[]⟩ : ByteArray) (⟨#[]⟩ : ByteArray) (⟨#[]⟩ : ByteArray) 0 (⟨#[]⟩ : ByteArray) (⟨#[]⟩ : ByteArray) y3 0 ([] : List ty25.D))) else (if ((bitsI .and .i64 y5 128) != 0) = true then none else (k0 (maxI 0 y4) 0 (⟨#[]⟩ : ByteArray) (⟨#[]⟩ : ByteArray) (⟨#[]⟩ : ByteArray) 0 (⟨#[]⟩ : ByteArray) (⟨#[]⟩ : ByteArray) (⟨#[]⟩ : ByteArray) 0 ([] : List ty25.D)))))))))))))
def words_guess_F {R : Type} := lazyN (@words_guess_Fi R)
theorem words_guess_e : @words_guess_F R = @words_guess_Fi R := lazyN_eq _
def words_guess_g (n : Nat) : Gx R := typed 1 words_guess_d fun x k => words_guess_F n x.1 (fun y0 y1 y2 y3 y4 y5 y6 y7 y8 y9 y10 => k (.a (.ag [(.i .i64 y0), (.i .i64 y1), (.s y2), (.s y3), (.s y4), (.i .i64 y5), (.ow 0), (.s y6), (.s y7), (.s y8), (.i .i64 y9)])) [(.arr 25 ty25 y10)])
def words_guess_cs (R : Type) (n : Nat) : List (Nat × Gx R) := [(7, words_Back_g n), (39, slices_Index_39_g n), (40, words_kinds_g n), (41, words_taker_word_g n), (42, words_names_g n)]
def words_guess_cx (R : Type) (n : Nat) : Cx R := ⟨Tryz.prog, Gof (words_guess_cs R n), noDs, noDx, noLp, drawP Tryz.prog (Gof (words_guess_cs R n)), false, noJn, noFz⟩
theorem words_guess_ok [Esc R] (n : Nat) : Good Tryz.prog 20 (words_guess_g (R := R) n) := by
  unfold words_guess_g
  rw [words_guess_e]
  exact Good.fn (f := 20) (cx := words_guess_cx R n) (by kernel_rfl) (AllGood.cons (words_Back_ok n) (AllGood.cons (slices_Index_39_ok n) (AllGood.cons (words_kinds_ok n) (AllGood.cons (words_taker_word_ok n) (AllGood.cons (words_names_ok n) (AllGood.nil)))))) rfl Tryz.func20 (by kernel_rfl) rfl trivial 1 words_guess_d (by kernel_rfl) (fun x k => by kernel_rfl)
end
end Go.Proofs.YtcpimjekllkbkaaGreatDoor.E
set_option linter.unusedVariables false
set_option maxRecDepth 100000
namespace Go.Proofs.YtcpimjekllkbkaaGreatDoor.E
open Go.Proofs
noncomputable section
variable {R : Type}
/-! (*verderer/words.maker).put: function 21 -/
@[reducible] def words_maker_put_d : Desc := ⟨[(0, .pt 0 0), (1, .d .str), (2, .d .bool)], [.box true 56 [.ow 1, .d .bool, .d (.int .i64), .d (.int .i64), .d .str, .d .str, .d .str, .d (.int .i64), .ow 2, .d .str, .d .str, .d .str, .d (.int .i64)], .arr 9 .str, .arr 25 ty25]⟩
def words_maker_put_Fi (n : Nat) (a0 : ByteArray) (a1 : Bool) (a2 : Bool) (a3 : Int) (a4 : Int) (a5 : ByteArray) (a6 : ByteArray) (a7 : ByteArray) (a8 : Int) (a9 : ByteArray) (a10 : ByteArray) (a11 : ByteArray) (a12 : Int) (a13 : (List ByteArray)) (a14 : (List ty25.D)) (k0 : Bool → Int → Int → ByteArray → ByteArray → ByteArray → Int → ByteArray → ByteArray → ByteArray → Int → (List ByteArray) → (List ty25.D) → Option R) : Option R :=
  if (List.length a13 + List.length [a0]) * 16 ≤ 140737488355328 then (if a2 = true then (k0 true a3 a4 a5 a6 a7 a8 a9 a10 a11 a12 (a13 ++ [a0]) a14) else (k0 (!a1) a3 a4 a5 a6 a7 a8 a9 a10 a11 a12 (a13 ++ [a0]) a14)) else none
def words_maker_put_F {R : Type} := lazyN (@words_maker_put_Fi R)
theorem words_maker_put_e : @words_maker_put_F R = @words_maker_put_Fi R := lazyN_eq _
def words_maker_put_g (n : Nat) : Gx R := typed 3 words_maker_put_d fun x k => words_maker_put_F n x.1 x.2.1 x.2.2.1 x.2.2.2.1 x.2.2.2.2.1 x.2.2.2.2.2.1 x.2.2.2.2.2.2.1 x.2.2.2.2.2.2.2.1 x.2.2.2.2.2.2.2.2.1 x.2.2.2.2.2.2.2.2.2.1 x.2.2.2.2.2.2.2.2.2.2.1 x.2.2.2.2.2.2.2.2.2.2.2.1 x.2.2.2.2.2.2.2.2.2.2.2.2.1 x.2.2.2.2.2.2.2.2.2.2.2.2.2.1 x.2.2.2.2.2.2.2.2.2.2.2.2.2.2.1 (fun y0 y1 y2 y3 y4 y5 y6 y7 y8 y9 y10 y11 y12 => k (.tu []) [(.box true 56 [(.ow 1), (.b y0), (.i .i64 y1), (.i .i64 y2), (.s y3), (.s y4), (.s y5), (.i .i64 y6), (.ow 2), (.s y7), (.s y8), (.s y9), (.i .i64 y10)]), (.arr 9 .str y11), (.arr 25 ty25 y12)])
def words_maker_put_cs (R : Type) (n : Nat) : List (Nat × Gx R) := []
def words_maker_put_cx (R : Type) (n : Nat) : Cx R := ⟨Tryz.prog, Gof (words_maker_put_cs R n), noDs, noDx, noLp, drawP Tryz.prog (Gof (words_maker_put_cs R n)), false, noJn, noFz⟩
theorem words_maker_put_ok [Esc R] (n : Nat) : Good Tryz.prog 21 (words_maker_put_g (R := R) n) := by
  unfold words_maker_put_g
  rw [words_maker_put_e]
  exact Good.fn (f := 21) (cx := words_maker_put_cx R n) (by kernel_rfl) (AllGood.nil) rfl Tryz.func21 (by kernel_rfl) rfl trivial 3 words_maker_put_d (by kernel_rfl) (fun x k => by kernel_rfl)
end
end Go.Proofs.YtcpimjekllkbkaaGreatDoor.E
set_option linter.unusedVariables false
set_option maxRecDepth 100000
namespace Go.Proofs.YtcpimjekllkbkaaGreatDoor.E
open Go.Proofs
noncomputable section
variable {R : Type}
/-! verderer/schema.letter: function 66 -/
@[reducible] def schema_letter_d : Desc := ⟨[(0, .d (.int .u8))], []⟩
def schema_letter_Fi (n : Nat) (a0 : Int) (k0 : Bool → Option R) : Option R :=
  if (decide (a0 ≥ 97)) = true then (k0 (decide (a0 ≤ 122))) else (k0 false)
def schema_letter_F {R : Type} := lazyN (@schema_letter_Fi R)
theorem schema_letter_e : @schema_letter_F R = @schema_letter_Fi R := lazyN_eq _
def schema_letter_g (n : Nat) : Gx R := typed 1 schema_letter_d fun x k => schema_letter_F n x.1 (fun y0 => k (.a (.c (.b y0))) [])
def schema_letter_cs (R : Type) (n : Nat) : List (Nat × Gx R) := []
def schema_letter_cx (R : Type) (n : Nat) : Cx R := ⟨Tryz.prog, Gof (schema_letter_cs R n), noDs, noDx, noLp, drawP Tryz.prog (Gof (schema_letter_cs R n)), false, noJn, noFz⟩
theorem schema_letter_ok [Esc R] (n : Nat) : Good Tryz.prog 66 (schema_letter_g (R := R) n) := by
  unfold schema_letter_g
  rw [schema_letter_e]
  exact Good.fn (f := 66) (cx := schema_letter_cx R n) (by kernel_rfl) (AllGood.nil) rfl Tryz.func66 (by kernel_rfl) rfl trivial 1 schema_letter_d (by kernel_rfl) (fun x k => by kernel_rfl)
end
end Go.Proofs.YtcpimjekllkbkaaGreatDoor.E
set_option linter.unusedVariables false
set_option maxRecDepth 100000
namespace Go.Proofs.YtcpimjekllkbkaaGreatDoor.E
open Go.Proofs
noncomputable section
variable {R : Type}
/-! verderer/schema.Name: function 47 -/
def schema_Name_ds : Nat → Desc
  | 4 => ⟨[(0, .d .str), (19, .d (.int .i64)), (20, .d (.int .i64))], []⟩
  | _ => ⟨[], []⟩
def schema_Name_dx : Nat → List (X × Desc)
  | 4 => [(.r, ⟨[(2, .d .bool)], []⟩), (.e 0, ⟨[], []⟩)]
  | _ => []
def schema_Name_s4 (n : Nat) (x0 : ByteArray) (x1 : Int) (x2 : Int) (k1 : ByteArray → Int → Int → Option R) (qr : Bool → Option R) (qe0 : Option R) : Option R :=
  if (decide (x2 < x1)) = true then (if (0 : Int) ≤ x2 then if x2 < (x0.size : Int) then (schema_letter_F n (byteAt x0 x2) (fun y2 => if (!y2) = true then (if (decide ((byteAt x0 x2) < 48)) = true then (if ((byteAt x0 x2) != 95) = true then (qr false) else (k1 x0 x1 (IntKind.i64.wrap (x2 + 1)))) else (if (decide ((byteAt x0 x2) > 57)) = true then (if ((byteAt x0 x2) != 95) = true then (qr false) else (k1 x0 x1 (IntKind.i64.wrap (x2 + 1)))) else (k1 x0 x1 (IntKind.i64.wrap (x2 + 1))))) else (k1 x0 x1 (IntKind.i64.wrap (x2 + 1))))) else none else none) else qe0
def schema_Name_l4 (n : Nat) (a : (schema_Name_ds 4).D) (k1 : (schema_Name_ds 4).D → Option R) (k2 : exK R (schema_Name_dx 4)) : Option R :=
  schema_Name_s4 n a.1 a.2.1 a.2.2.1 (fun x0 x1 x2 => k1 (x0, x1, x2, ())) (fun x0 => k2.1 (x0, ())) (k2.2.1 (()))
@[reducible] def schema_Name_d : Desc := ⟨[(0, .d .str)], []⟩
def schema_Name_Fi (n : Nat) (a0 : ByteArray) (k0 : Bool → Option R) : Option R :=
  if (a0.toList == (⟨#[]⟩ : ByteArray).toList) = true then (k0 false) else (if (decide ((a0.size : Int) > 16)) = true then (k0 false) else (if (0 : Int) ≤ 0 then if 0 < (a0.size : Int) then (schema_letter_F n (byteAt a0 0) (fun y1 => if (!y1) = true then (k0 false) else (runC (schema_Name_l4 n) n (a0, (a0.size : Int), 0, ()) (fun b3 => k0 b3.1, fun b3 => k0 true, ())))) else none else none))
def schema_Name_F {R : Type} := lazyN (@schema_Name_Fi R)
theorem schema_Name_e : @schema_Name_F R = @schema_Name_Fi R := lazyN_eq _
def schema_Name_g (n : Nat) : Gx R := typed 1 schema_Name_d fun x k => schema_Name_F n x.1 (fun y0 => k (.a (.c (.b y0))) [])
def schema_Name_cs (R : Type) (n : Nat) : List (Nat × Gx R) := [(66, schema_letter_g n)]
def schema_Name_lp (n : Nat) : (i : Nat) → (schema_Name_ds i).D → exK R (schema_Name_dx i) → Option R
  | 4, a, k => runC (schema_Name_l4 n) n a k
  | _, _, _ => none
def schema_Name_cx (R : Type) (n : Nat) : Cx R := ⟨Tryz.prog, Gof (schema_Name_cs R n), schema_Name_ds, schema_Name_dx, schema_Name_lp n, drawP Tryz.prog (Gof (schema_Name_cs R n)), false, noJn, noFz⟩
theorem schema_Name_ok [Esc R] (n : Nat) : Good Tryz.prog 47 (schema_Name_g (R := R) n) := by
  unfold schema_Name_g
  rw [schema_Name_e]
  exact Good.fn (f := 47) (cx := schema_Name_cx R n) (by kernel_rfl) (AllGood.cons (schema_letter_ok n) (AllGood.nil)) rfl Tryz.func47 (by kernel_rfl) rfl (by
    have e : fnLoops noJn Tryz.f47 = [((fnLoops noJn Tryz.f47)[0]?).getD (false, .skip)] := by kernel_rfl
    show LoopRuns _ _ (fnLoops noJn _)
    rw [e]
    exact ⟨LoopRun.loop (by kernel_rfl) (i := 4) (m := n) (step := schema_Name_l4 n) (by kernel_rfl) (fun a k1 k2 => by kernel_rfl) (fun _ _ => rfl), trivial⟩) 1 schema_Name_d (by kernel_rfl) (fun x k => by kernel_rfl)
end
end Go.Proofs.YtcpimjekllkbkaaGreatDoor.E
set_option linter.unusedVariables false
set_option maxRecDepth 100000
namespace Go.Proofs.YtcpimjekllkbkaaGreatDoor.E
open Go.Proofs
noncomputable section
variable {R : Type}
/-! (*verderer/words.maker).put: function 21 -/
@[reducible] def words_maker_put_v1_d : Desc := ⟨[(0, .pt 0 0), (1, .d .str), (2, .d .bool)], [.box true 56 [.ow 1, .d .bool, .d (.int .i64), .d (.int .i64), .d .str, .d .str, .d .str, .d (.int .i64), .d (.sl ty25), .d .str, .d .str, .d .str, .d (.int .i64)], .arr 9 .str]⟩
def words_maker_put_v1_Fi (n : Nat) (a0 : ByteArray) (a1 : Bool) (a2 : Bool) (a3 : Int) (a4 : Int) (a5 : ByteArray) (a6 : ByteArray) (a7 : ByteArray) (a8 : Int) (a9 : (List ty25.D)) (a10 : ByteArray) (a11 : ByteArray) (a12 : ByteArray) (a13 : Int) (a14 : (List ByteArray)) (k0 : Bool → Int → Int → ByteArray → ByteArray → ByteArray → Int → (List ty25.D) → ByteArray → ByteArray → ByteArray → Int → (List ByteArray) → Option R) : Option R :=
  if (List.length a14 + List.length [a0]) * 16 ≤ 140737488355328 then (if a2 = true then (k0 true a3 a4 a5 a6 a7 a8 a9 a10 a11 a12 a13 (a14 ++ [a0])) else (k0 (!a1) a3 a4 a5 a6 a7 a8 a9 a10 a11 a12 a13 (a14 ++ [a0]))) else none
def words_maker_put_v1_F {R : Type} := lazyN (@words_maker_put_v1_Fi R)
theorem words_maker_put_v1_e : @words_maker_put_v1_F R = @words_maker_put_v1_Fi R := lazyN_eq _
def words_maker_put_v1_g (n : Nat) : Gx R := typed 3 words_maker_put_v1_d fun x k => words_maker_put_v1_F n x.1 x.2.1 x.2.2.1 x.2.2.2.1 x.2.2.2.2.1 x.2.2.2.2.2.1 x.2.2.2.2.2.2.1 x.2.2.2.2.2.2.2.1 x.2.2.2.2.2.2.2.2.1 x.2.2.2.2.2.2.2.2.2.1 x.2.2.2.2.2.2.2.2.2.2.1 x.2.2.2.2.2.2.2.2.2.2.2.1 x.2.2.2.2.2.2.2.2.2.2.2.2.1 x.2.2.2.2.2.2.2.2.2.2.2.2.2.1 x.2.2.2.2.2.2.2.2.2.2.2.2.2.2.1 (fun y0 y1 y2 y3 y4 y5 y6 y7 y8 y9 y10 y11 y12 => k (.tu []) [(.box true 56 [(.ow 1), (.b y0), (.i .i64 y1), (.i .i64 y2), (.s y3), (.s y4), (.s y5), (.i .i64 y6), (.fz ty25 y7), (.s y8), (.s y9), (.s y10), (.i .i64 y11)]), (.arr 9 .str y12)])
def words_maker_put_v1_cs (R : Type) (n : Nat) : List (Nat × Gx R) := []
def words_maker_put_v1_cx (R : Type) (n : Nat) : Cx R := ⟨Tryz.prog, Gof (words_maker_put_v1_cs R n), noDs, noDx, noLp, drawP Tryz.prog (Gof (words_maker_put_v1_cs R n)), false, noJn, noFz⟩
theorem words_maker_put_v1_ok [Esc R] (n : Nat) : Good Tryz.prog 21 (words_maker_put_v1_g (R := R) n) := by
  unfold words_maker_put_v1_g
  rw [words_maker_put_v1_e]
  exact Good.fn (f := 21) (cx := words_maker_put_v1_cx R n) (by kernel_rfl) (AllGood.nil) rfl Tryz.func21 (by kernel_rfl) rfl trivial 3 words_maker_put_v1_d (by kernel_rfl) (fun x k => by kernel_rfl)
end
end Go.Proofs.YtcpimjekllkbkaaGreatDoor.E
set_option linter.unusedVariables false
set_option maxRecDepth 100000
namespace Go.Proofs.YtcpimjekllkbkaaGreatDoor.E
open Go.Proofs
noncomputable section
variable {R : Type}
/-! (*verderer/words.maker).object: function 44 -/
def words_maker_object_ds : Nat → Desc
  | 3 => ⟨[(0, .pt 0 0), (2, .d (.int .i64)), (4, .pt 3 0), (6, .pt 0 4), (21, .ow 4), (22, .d (.int .i64)), (23, .d (.int .i64))], [.box true 56 [.ow 1, .d .bool, .d (.int .i64), .d (.int .i64), .d .str, .d .str, .d .str, .d (.int .i64), .ow 2, .d .str, .d .str, .d .str, .d (.int .i64)], .arr 9 .str, .arr 25 ty25, .box false 35 [.d .str, .d .str, .d .str, .d (.int .i64), .d (.sl ty25)], .arr 9 .str]⟩
  | _ => ⟨[], []⟩
def words_maker_object_dx : Nat → List (X × Desc)
  | 3 => [(.e 0, ⟨[(0, .pt 0 0), (2, .d (.int .i64)), (4, .pt 3 0), (6, .pt 0 4)], [.box true 56 [.ow 1, .d .bool, .d (.int .i64), .d (.int .i64), .d .str, .d .str, .d .str, .d (.int .i64), .ow 2, .d .str, .d .str, .d .str, .d (.int .i64)], .arr 9 .str, .arr 25 ty25, .box false 35 [.d .str, .d .str, .d .str, .d (.int .i64), .d (.sl ty25)]]⟩)]
  | _ => []
def words_maker_object_s3 (n : Nat) (x0 : Int) (x1 : Int) (x2 : Int) (x3 : Bool) (x4 : Int) (x5 : Int) (x6 : ByteArray) (x7 : ByteArray) (x8 : ByteArray) (x9 : Int) (x10 : ByteArray) (x11 : ByteArray) (x12 : ByteArray) (x13 : Int) (x14 : (List ByteArray)) (x15 : (List ty25.D)) (x16 : ByteArray) (x17 : ByteArray) (x18 : ByteArray) (x19 : Int) (x20 : (List ty25.D)) (x21 : (List ByteArray)) (k1 : Int → Int → Int → Bool → Int → Int → ByteArray → ByteArray → ByteArray → Int → ByteArray → ByteArray → ByteArray → Int → (List ByteArray) → (List ty25.D) → ByteArray → ByteArray → ByteArray → Int → (List ty25.D) → (List ByteArray) → Option R) (qe0 : Int → Bool → Int → Int → ByteArray → ByteArray → ByteArray → Int → ByteArray → ByteArray → ByteArray → Int → (List ByteArray) → (List ty25.D) → ByteArray → ByteArray → ByteArray → Int → (List ty25.D) → Option R) : Option R :=
  if (decide (x2 < x1)) = true then (if (0 : Int) ≤ x2 ∧ x2 < (x21.length : Int) then (if (Int.toNat x2) < x21.length then (schema_Name_F n (x21.getD (Int.toNat x2) (Ty.z .str)) (fun y1 => words_maker_put_F n (x21.getD (Int.toNat x2) (Ty.z .str)) y1 x3 x4 x5 x6 x7 x8 x9 x10 x11 x12 x13 x14 x15 (fun y2 y3 y4 y5 y6 y7 y8 y9 y10 y11 y12 y13 y14 => k1 x0 x1 (IntKind.i64.wrap (x2 + 1)) y2 y3 y4 y5 y6 y7 y8 y9 y10 y11 y12 y13 y14 x16 x17 x18 x19 x20 x21))) else none) else none) else (qe0 x0 x3 x4 x5 x6 x7 x8 x9 x10 x11 x12 x13 x14 x15 x16 x17 x18 x19 x20)
def words_maker_object_l3 (n : Nat) (a : (words_maker_object_ds 3).D) (k1 : (words_maker_object_ds 3).D → Option R) (k2 : exK R (words_maker_object_dx 3)) : Option R :=
  words_maker_object_s3 n a.1 a.2.1 a.2.2.1 a.2.2.2.1 a.2.2.2.2.1 a.2.2.2.2.2.1 a.2.2.2.2.2.2.1 a.2.2.2.2.2.2.2.1 a.2.2.2.2.2.2.2.2.1 a.2.2.2.2.2.2.2.2.2.1 a.2.2.2.2.2.2.2.2.2.2.1 a.2.2.2.2.2.2.2.2.2.2.2.1 a.2.2.2.2.2.2.2.2.2.2.2.2.1 a.2.2.2.2.2.2.2.2.2.2.2.2.2.1 a.2.2.2.2.2.2.2.2.2.2.2.2.2.2.1 a.2.2.2.2.2.2.2.2.2.2.2.2.2.2.2.1 a.2.2.2.2.2.2.2.2.2.2.2.2.2.2.2.2.1 a.2.2.2.2.2.2.2.2.2.2.2.2.2.2.2.2.2.1 a.2.2.2.2.2.2.2.2.2.2.2.2.2.2.2.2.2.2.1 a.2.2.2.2.2.2.2.2.2.2.2.2.2.2.2.2.2.2.2.1 a.2.2.2.2.2.2.2.2.2.2.2.2.2.2.2.2.2.2.2.2.1 a.2.2.2.2.2.2.2.2.2.2.2.2.2.2.2.2.2.2.2.2.2.1 (fun x0 x1 x2 x3 x4 x5 x6 x7 x8 x9 x10 x11 x12 x13 x14 x15 x16 x17 x18 x19 x20 x21 => k1 (x0, x1, x2, x3, x4, x5, x6, x7, x8, x9, x10, x11, x12, x13, x14, x15, x16, x17, x18, x19, x20, x21, ())) (fun x0 x1 x2 x3 x4 x5 x6 x7 x8 x9 x10 x11 x12 x13 x14 x15 x16 x17 x18 => k2.1 (x0, x1, x2, x3, x4, x5, x6, x7, x8, x9, x10, x11, x12, x13, x14, x15, x16, x17, x18, ()))
@[reducible] def words_maker_object_d : Desc := ⟨[(0, .pt 0 0), (1, .d ty35), (2, .d (.int .i64))], [.box true 56 [.ow 1, .d .bool, .d (.int .i64), .d (.int .i64), .d .str, .d .str, .d .str, .d (.int .i64), .ow 2, .d .str, .d .str, .d .str, .d (.int .i64)], .arr 9 .str, .arr 25 ty25]⟩
def words_maker_object_Fi (n : Nat) (a0 : ty35.D) (a1 : Int) (a2 : Bool) (a3 : Int) (a4 : Int) (a5 : ByteArray) (a6 : ByteArray) (a7 : ByteArray) (a8 : Int) (a9 : ByteArray) (a10 : ByteArray) (a11 : ByteArray) (a12 : Int) (a13 : (List ByteArray)) (a14 : (List ty25.D)) (k0 : Bool → Int → Int → ByteArray → ByteArray → ByteArray → Int → (List ty25.D) → ByteArray → ByteArray → ByteArray → Int → (List ByteArray) → (List ty25.D) → Option R) (k1 : Bool → Int → Int → ByteArray → ByteArray → ByteArray → Int → ByteArray → ByteArray → ByteArray → Int → (List ByteArray) → (List ty25.D) → Option R) : Option R :=
  runC (words_maker_object_l3 n) n (a1, ([a0.1, a0.2.1, a0.2.2.1].length : Int), 0, a2, a3, a4, a5, a6, a7, a8, a9, a10, a11, a12, a13, a14, a0.1, a0.2.1, a0.2.2.1, a0.2.2.2.1, a0.2.2.2.2.1, [a0.1, a0.2.1, a0.2.2.1], ()) (fun b33 => if ((bitsI .and .i64 b33.1 2) != 0) = true then (strconv_FormatInt_F n b33.2.2.2.2.2.2.2.2.2.2.2.2.2.2.2.2.2.1 10 (fun y34 => words_maker_put_F n y34 true b33.2.1 b33.2.2.1 b33.2.2.2.1 b33.2.2.2.2.2.2.2.2.2.2.2.2.2.2.1 b33.2.2.2.2.2.2.2.2.2.2.2.2.2.2.2.1 b33.2.2.2.2.2.2.2.2.2.2.2.2.2.2.2.2.1 b33.2.2.2.2.2.2.2.2.2.2.2.2.2.2.2.2.2.1 b33.2.2.2.2.2.2.2.2.1 b33.2.2.2.2.2.2.2.2.2.1 b33.2.2.2.2.2.2.2.2.2.2.1 b33.2.2.2.2.2.2.2.2.2.2.2.1 b33.2.2.2.2.2.2.2.2.2.2.2.2.1 b33.2.2.2.2.2.2.2.2.2.2.2.2.2.1 (fun y35 y36 y37 y38 y39 y40 y41 y42 y43 y44 y45 y46 y47 => if ((bitsI .and .i64 b33.1 4) != 0) = true then (if (decide ((b33.2.2.2.2.2.2.2.2.2.2.2.2.2.2.2.2.2.2.1.length : Int) > 0)) = true then (words_Cells_F n b33.2.2.2.2.2.2.2.2.2.2.2.2.2.2.2.2.2.2.1 (fun y48 y49 => words_maker_put_v1_F n y48 (y49 == 0) y35 y36 y37 y38 y39 y40 y41 b33.2.2.2.2.2.2.2.2.2.2.2.2.2.2.2.2.2.2.1 y42 y43 y44 y45 y46 (fun y50 y51 y52 y53 y54 y55 y56 y57 y58 y59 y60 y61 y62 => k0 y50 y51 y52 y53 y54 y55 y56 y57 y58 y59 y60 y61 y62 y47))) else (k1 y35 y36 y37 y38 y39 y40 y41 y42 y43 y44 y45 y46 y47)) else (k1 y35 y36 y37 y38 y39 y40 y41 y42 y43 y44 y45 y46 y47)))) else (if ((bitsI .and .i64 b33.1 4) != 0) = true then (if (decide ((b33.2.2.2.2.2.2.2.2.2.2.2.2.2.2.2.2.2.2.1.length : Int) > 0)) = true then (words_Cells_F n b33.2.2.2.2.2.2.2.2.2.2.2.2.2.2.2.2.2.2.1 (fun y63 y64 => words_maker_put_v1_F n y63 (y64 == 0) b33.2.1 b33.2.2.1 b33.2.2.2.1 b33.2.2.2.2.2.2.2.2.2.2.2.2.2.2.1 b33.2.2.2.2.2.2.2.2.2.2.2.2.2.2.2.1 b33.2.2.2.2.2.2.2.2.2.2.2.2.2.2.2.2.1 b33.2.2.2.2.2.2.2.1 b33.2.2.2.2.2.2.2.2.2.2.2.2.2.2.2.2.2.2.1 b33.2.2.2.2.2.2.2.2.1 b33.2.2.2.2.2.2.2.2.2.1 b33.2.2.2.2.2.2.2.2.2.2.1 b33.2.2.2.2.2.2.2.2.2.2.2.1 b33.2.2.2.2.2.2.2.2.2.2.2.2.1 (fun y65 y66 y67 y68 y69 y70 y71 y72 y73 y74 y75 y76 y77 => k0 y65 y66 y67 y68 y69 y70 y71 y72 y73 y74 y75 y76 y77 b33.2.2.2.2.2.2.2.2.2.2.2.2.2.1))) else (k1 b33.2.1 b33.2.2.1 b33.2.2.2.1 b33.2.2.2.2.2.2.2.2.2.2.2.2.2.2.1 b33.2.2.2.2.2.2.2.2.2.2.2.2.2.2.2.1 b33.2.2.2.2.2.2.2.2.2.2.2.2.2.2.2.2.1 b33.2.2.2.2.2.2.2.1 b33.2.2.2.2.2.2.2.2.1 b33.2.2.2.2.2.2.2.2.2.1 b33.2.2.2.2.2.2.2.2.2.2.1 b33.2.2.2.2.2.2.2.2.2.2.2.1 b33.2.2.2.2.2.2.2.2.2.2.2.2.1 b33.2.2.2.2.2.2.2.2.2.2.2.2.2.1)) else (k1 b33.2.1 b33.2.2.1 b33.2.2.2.1 b33.2.2.2.2.2.2.2.2.2.2.2.2.2.2.1 b33.2.2.2.2.2.2.2.2.2.2.2.2.2.2.2.1 b33.2.2.2.2.2.2.2.2.2.2.2.2.2.2.2.2.1 b33.2.2.2.2.2.2.2.1 b33.2.2.2.2.2.2.2.2.1 b33.2.2.2.2.2.2.2.2.2.1 b33.2.2.2.2.2.2.2.2.2.2.1 b33.2.2.2.2.2.2.2.2.2.2.2.1 b33.2.2.2.2.2.2.2.2.2.2.2.2.1 b33.2.2.2.2.2.2.2.2.2.2.2.2.2.1)), ())
def words_maker_object_F {R : Type} := lazyN (@words_maker_object_Fi R)
theorem words_maker_object_e : @words_maker_object_F R = @words_maker_object_Fi R := lazyN_eq _
def words_maker_object_g (n : Nat) : Gx R := typed 3 words_maker_object_d fun x k => words_maker_object_F n x.1 x.2.1 x.2.2.1 x.2.2.2.1 x.2.2.2.2.1 x.2.2.2.2.2.1 x.2.2.2.2.2.2.1 x.2.2.2.2.2.2.2.1 x.2.2.2.2.2.2.2.2.1 x.2.2.2.2.2.2.2.2.2.1 x.2.2.2.2.2.2.2.2.2.2.1 x.2.2.2.2.2.2.2.2.2.2.2.1 x.2.2.2.2.2.2.2.2.2.2.2.2.1 x.2.2.2.2.2.2.2.2.2.2.2.2.2.1 x.2.2.2.2.2.2.2.2.2.2.2.2.2.2.1 (fun y0 y1 y2 y3 y4 y5 y6 y7 y8 y9 y10 y11 y12 y13 => k (.tu []) [(.box true 56 [(.ow 1), (.b y0), (.i .i64 y1), (.i .i64 y2), (.s y3), (.s y4), (.s y5), (.i .i64 y6), (.fz ty25 y7), (.s y8), (.s y9), (.s y10), (.i .i64 y11)]), (.arr 9 .str y12), (.arr 25 ty25 y13)]) (fun y0 y1 y2 y3 y4 y5 y6 y7 y8 y9 y10 y11 y12 => k (.tu []) [(.box true 56 [(.ow 1), (.b y0), (.i .i64 y1), (.i .i64 y2), (.s y3), (.s y4), (.s y5), (.i .i64 y6), (.ow 2), (.s y7), (.s y8), (.s y9), (.i .i64 y10)]), (.arr 9 .str y11), (.arr 25 ty25 y12)])
def words_maker_object_cs (R : Type) (n : Nat) : List (Nat × Gx R) := [(5, words_Cells_g n), (21, orG (words_maker_put_g n) (words_maker_put_v1_g n) (fits 3 words_maker_put_d)), (26, strconv_FormatInt_g n), (47, schema_Name_g n)]
def words_maker_object_lp (n : Nat) : (i : Nat) → (words_maker_object_ds i).D → exK R (words_maker_object_dx i) → Option R
  | 3, a, k => runC (words_maker_object_l3 n) n a k
  | _, _, _ => none
def words_maker_object_cx (R : Type) (n : Nat) : Cx R := ⟨Tryz.prog, Gof (words_maker_object_cs R n), words_maker_object_ds, words_maker_object_dx, words_maker_object_lp n, drawP Tryz.prog (Gof (words_maker_object_cs R n)), false, noJn, noFz⟩
theorem words_maker_object_ok [Esc R] (n : Nat) : Good Tryz.prog 44 (words_maker_object_g (R := R) n) := by
  unfold words_maker_object_g
  rw [words_maker_object_e]
  exact Good.fn (f := 44) (cx := words_maker_object_cx R n) (by kernel_rfl) (AllGood.cons (words_Cells_ok n) (AllGood.cons (Good.or (words_maker_put_ok n) (words_maker_put_v1_ok n) _) (AllGood.cons (strconv_FormatInt_ok n) (AllGood.cons (schema_Name_ok n) (AllGood.nil))))) rfl Tryz.func44 (by kernel_rfl) rfl (by
    have e : fnLoops noJn Tryz.f44 = [((fnLoops noJn Tryz.f44)[0]?).getD (false, .skip)] := by kernel_rfl
    show LoopRuns _ _ (fnLoops noJn _)
    rw [e]
    exact ⟨LoopRun.loop (by kernel_rfl) (i := 3) (m := n) (step := words_maker_object_l3 n) (by kernel_rfl) (fun a k1 k2 => by kernel_rfl) (fun _ _ => rfl), trivial⟩) 3 words_maker_object_d (by kernel_rfl) (fun x k => by kernel_rfl)
end
end Go.Proofs.YtcpimjekllkbkaaGreatDoor.E
set_option linter.unusedVariables false
set_option maxRecDepth 100000
namespace Go.Proofs.YtcpimjekllkbkaaGreatDoor.E
open Go.Proofs
noncomputable section
variable {R : Type}
/-! (*verderer/words.maker).tenant: function 45 -/
@[reducible] def words_maker_tenant_d : Desc := ⟨[(0, .pt 0 0), (1, .d ty37), (2, .d (.int .i64))], [.box true 56 [.ow 1, .d .bool, .d (.int .i64), .d (.int .i64), .d .str, .d .str, .d .str, .d (.int .i64), .d (.sl ty25), .d .str, .d .str, .d .str, .d (.int .i64)], .arr 9 .str]⟩
def words_maker_tenant_Fi (n : Nat) (a0 : ty37.D) (a1 : Int) (a2 : Bool) (a3 : Int) (a4 : Int) (a5 : ByteArray) (a6 : ByteArray) (a7 : ByteArray) (a8 : Int) (a9 : (List ty25.D)) (a10 : ByteArray) (a11 : ByteArray) (a12 : ByteArray) (a13 : Int) (a14 : (List ByteArray)) (k0 : Bool → Int → Int → ByteArray → ByteArray → ByteArray → Int → (List ty25.D) → ByteArray → ByteArray → ByteArray → Int → (List ByteArray) → Option R) : Option R :=
  schema_Name_F n a0.1 (fun y1 => words_maker_put_v1_F n a0.1 y1 a2 a3 a4 a5 a6 a7 a8 a9 a10 a11 a12 a13 a14 (fun y2 y3 y4 y5 y6 y7 y8 y9 y10 y11 y12 y13 y14 => if ((bitsI .and .i64 a1 16) != 0) = true then (if (!(a0.2.1.toList == (⟨#[]⟩ : ByteArray).toList)) = true then (schema_Name_F n a0.2.1 (fun y15 => words_maker_put_v1_F n a0.2.1 y15 y2 y3 y4 y5 y6 y7 y8 y9 a0.1 y11 y12 y13 y14 (fun y16 y17 y18 y19 y20 y21 y22 y23 y24 y25 y26 y27 y28 => k0 y16 y17 y18 y19 y20 y21 y22 y23 y24 a0.2.1 y26 y27 y28))) else (k0 y2 y3 y4 y5 y6 y7 y8 y9 a0.1 y11 y12 y13 y14)) else (k0 y2 y3 y4 y5 y6 y7 y8 y9 a0.1 y11 y12 y13 y14)))
def words_maker_tenant_F {R : Type} := lazyN (@words_maker_tenant_Fi R)
theorem words_maker_tenant_e : @words_maker_tenant_F R = @words_maker_tenant_Fi R := lazyN_eq _
def words_maker_tenant_g (n : Nat) : Gx R := typed 3 words_maker_tenant_d fun x k => words_maker_tenant_F n x.1 x.2.1 x.2.2.1 x.2.2.2.1 x.2.2.2.2.1 x.2.2.2.2.2.1 x.2.2.2.2.2.2.1 x.2.2.2.2.2.2.2.1 x.2.2.2.2.2.2.2.2.1 x.2.2.2.2.2.2.2.2.2.1 x.2.2.2.2.2.2.2.2.2.2.1 x.2.2.2.2.2.2.2.2.2.2.2.1 x.2.2.2.2.2.2.2.2.2.2.2.2.1 x.2.2.2.2.2.2.2.2.2.2.2.2.2.1 x.2.2.2.2.2.2.2.2.2.2.2.2.2.2.1 (fun y0 y1 y2 y3 y4 y5 y6 y7 y8 y9 y10 y11 y12 => k (.tu []) [(.box true 56 [(.ow 1), (.b y0), (.i .i64 y1), (.i .i64 y2), (.s y3), (.s y4), (.s y5), (.i .i64 y6), (.fz ty25 y7), (.s y8), (.s y9), (.s y10), (.i .i64 y11)]), (.arr 9 .str y12)])
def words_maker_tenant_cs (R : Type) (n : Nat) : List (Nat × Gx R) := [(21, words_maker_put_v1_g n), (47, schema_Name_g n)]
def words_maker_tenant_cx (R : Type) (n : Nat) : Cx R := ⟨Tryz.prog, Gof (words_maker_tenant_cs R n), noDs, noDx, noLp, drawP Tryz.prog (Gof (words_maker_tenant_cs R n)), false, noJn, noFz⟩
theorem words_maker_tenant_ok [Esc R] (n : Nat) : Good Tryz.prog 45 (words_maker_tenant_g (R := R) n) := by
  unfold words_maker_tenant_g
  rw [words_maker_tenant_e]
  exact Good.fn (f := 45) (cx := words_maker_tenant_cx R n) (by kernel_rfl) (AllGood.cons (words_maker_put_v1_ok n) (AllGood.cons (schema_Name_ok n) (AllGood.nil))) rfl Tryz.func45 (by kernel_rfl) rfl trivial 3 words_maker_tenant_d (by kernel_rfl) (fun x k => by kernel_rfl)
end
end Go.Proofs.YtcpimjekllkbkaaGreatDoor.E
set_option linter.unusedVariables false
set_option maxRecDepth 100000
namespace Go.Proofs.YtcpimjekllkbkaaGreatDoor.E
open Go.Proofs
noncomputable section
variable {R : Type}
/-! (*verderer/words.maker).tenant: function 45 -/
@[reducible] def words_maker_tenant_v1_d : Desc := ⟨[(0, .pt 0 0), (1, .d ty37), (2, .d (.int .i64))], [.box true 56 [.ow 1, .d .bool, .d (.int .i64), .d (.int .i64), .d .str, .d .str, .d .str, .d (.int .i64), .ow 2, .d .str, .d .str, .d .str, .d (.int .i64)], .arr 9 .str, .arr 25 ty25]⟩
def words_maker_tenant_v1_Fi (n : Nat) (a0 : ty37.D) (a1 : Int) (a2 : Bool) (a3 : Int) (a4 : Int) (a5 : ByteArray) (a6 : ByteArray) (a7 : ByteArray) (a8 : Int) (a9 : ByteArray) (a10 : ByteArray) (a11 : ByteArray) (a12 : Int) (a13 : (List ByteArray)) (a14 : (List ty25.D)) (k0 : Bool → Int → Int → ByteArray → ByteArray → ByteArray → Int → ByteArray → ByteArray → ByteArray → Int → (List ByteArray) → (List ty25.D) → Option R) : Option R :=
  schema_Name_F n a0.1 (fun y1 => words_maker_put_F n a0.1 y1 a2 a3 a4 a5 a6 a7 a8 a9 a10 a11 a12 a13 a14 (fun y2 y3 y4 y5 y6 y7 y8 y9 y10 y11 y12 y13 y14 => if ((bitsI .and .i64 a1 16) != 0) = true then (if (!(a0.2.1.toList == (⟨#[]⟩ : ByteArray).toList)) = true then (schema_Name_F n a0.2.1 (fun y15 => words_maker_put_F n a0.2.1 y15 y2 y3 y4 y5 y6 y7 y8 a0.1 y10 y11 y12 y13 y14 (fun y16 y17 y18 y19 y20 y21 y22 y23 y24 y25 y26 y27 y28 => k0 y16 y17 y18 y19 y20 y21 y22 y23 a0.2.1 y25 y26 y27 y28))) else (k0 y2 y3 y4 y5 y6 y7 y8 a0.1 y10 y11 y12 y13 y14)) else (k0 y2 y3 y4 y5 y6 y7 y8 a0.1 y10 y11 y12 y13 y14)))
def words_maker_tenant_v1_F {R : Type} := lazyN (@words_maker_tenant_v1_Fi R)
theorem words_maker_tenant_v1_e : @words_maker_tenant_v1_F R = @words_maker_tenant_v1_Fi R := lazyN_eq _
def words_maker_tenant_v1_g (n : Nat) : Gx R := typed 3 words_maker_tenant_v1_d fun x k => words_maker_tenant_v1_F n x.1 x.2.1 x.2.2.1 x.2.2.2.1 x.2.2.2.2.1 x.2.2.2.2.2.1 x.2.2.2.2.2.2.1 x.2.2.2.2.2.2.2.1 x.2.2.2.2.2.2.2.2.1 x.2.2.2.2.2.2.2.2.2.1 x.2.2.2.2.2.2.2.2.2.2.1 x.2.2.2.2.2.2.2.2.2.2.2.1 x.2.2.2.2.2.2.2.2.2.2.2.2.1 x.2.2.2.2.2.2.2.2.2.2.2.2.2.1 x.2.2.2.2.2.2.2.2.2.2.2.2.2.2.1 (fun y0 y1 y2 y3 y4 y5 y6 y7 y8 y9 y10 y11 y12 => k (.tu []) [(.box true 56 [(.ow 1), (.b y0), (.i .i64 y1), (.i .i64 y2), (.s y3), (.s y4), (.s y5), (.i .i64 y6), (.ow 2), (.s y7), (.s y8), (.s y9), (.i .i64 y10)]), (.arr 9 .str y11), (.arr 25 ty25 y12)])
def words_maker_tenant_v1_cs (R : Type) (n : Nat) : List (Nat × Gx R) := [(21, words_maker_put_g n), (47, schema_Name_g n)]
def words_maker_tenant_v1_cx (R : Type) (n : Nat) : Cx R := ⟨Tryz.prog, Gof (words_maker_tenant_v1_cs R n), noDs, noDx, noLp, drawP Tryz.prog (Gof (words_maker_tenant_v1_cs R n)), false, noJn, noFz⟩
theorem words_maker_tenant_v1_ok [Esc R] (n : Nat) : Good Tryz.prog 45 (words_maker_tenant_v1_g (R := R) n) := by
  unfold words_maker_tenant_v1_g
  rw [words_maker_tenant_v1_e]
  exact Good.fn (f := 45) (cx := words_maker_tenant_v1_cx R n) (by kernel_rfl) (AllGood.cons (words_maker_put_ok n) (AllGood.cons (schema_Name_ok n) (AllGood.nil))) rfl Tryz.func45 (by kernel_rfl) rfl trivial 3 words_maker_tenant_v1_d (by kernel_rfl) (fun x k => by kernel_rfl)
end
end Go.Proofs.YtcpimjekllkbkaaGreatDoor.E
set_option linter.unusedVariables false
set_option maxRecDepth 100000
namespace Go.Proofs.YtcpimjekllkbkaaGreatDoor.E
open Go.Proofs
noncomputable section
variable {R : Type}
/-! (*verderer/words.maker).step: function 22 -/
@[reducible] def words_maker_step_d : Desc := ⟨[(0, .pt 0 0), (1, .d ty39), (2, .d (.int .i64))], [.box true 56 [.ow 1, .d .bool, .d (.int .i64), .d (.int .i64), .d .str, .d .str, .d .str, .d (.int .i64), .ow 2, .d .str, .d .str, .d .str, .d (.int .i64)], .arr 9 .str, .arr 25 ty25]⟩
def words_maker_step_Fi (n : Nat) (a0 : ty39.D) (a1 : Int) (a2 : Bool) (a3 : Int) (a4 : Int) (a5 : ByteArray) (a6 : ByteArray) (a7 : ByteArray) (a8 : Int) (a9 : ByteArray) (a10 : ByteArray) (a11 : ByteArray) (a12 : Int) (a13 : (List ByteArray)) (a14 : (List ty25.D)) (k0 : Bool → Int → Int → ByteArray → ByteArray → ByteArray → Int → (List ty25.D) → ByteArray → ByteArray → ByteArray → Int → (List ByteArray) → (List ty25.D) → Option R) (k1 : Bool → Int → Int → ByteArray → ByteArray → ByteArray → Int → ByteArray → ByteArray → ByteArray → Int → (List ByteArray) → (List ty25.D) → Option R) : Option R :=
  words_names_F n a1 (fun y1 => words_kinds_F n (fun y2 => if (0 : Int) ≤ a1 ∧ a1 < (y2.length : Int) then (if (Int.toNat a1) < y2.length then (words_maker_put_F n (y2.getD (Int.toNat a1) (Ty.z .str)) true a2 a3 a4 a5 a6 a7 a8 a9 a10 a11 a12 a13 a14 (fun y3 y4 y5 y6 y7 y8 y9 y10 y11 y12 y13 y14 y15 => if ((bitsI .and .i64 y1 1) != 0) = true then (words_maker_object_F n a0.2.2.1 y1 y3 y4 y5 y6 y7 y8 y9 y10 y11 y12 y13 y14 y15 (fun y16 y17 y18 y19 y20 y21 y22 y23 y24 y25 y26 y27 y28 y29 => if ((bitsI .and .i64 y1 8) != 0) = true then (words_maker_tenant_F n a0.2.2.2.1 y1 y16 y17 y18 y19 y20 y21 y22 y23 y24 y25 y26 y27 y28 (fun y30 y31 y32 y33 y34 y35 y36 y37 y38 y39 y40 y41 y42 => if ((bitsI .and .i64 y1 96) != 0) = true then (if ((bitsI .and .i64 y1 32) != 0) = true then none else (if ((bitsI .and .i64 y1 64) != 0) = true then (schema_Name_F n a0.2.2.2.2.1 (fun y43 => words_maker_put_v1_F n a0.2.2.2.2.1 y43 y30 y31 y32 y33 y34 y35 y36 y37 y38 y39 y40 y41 y42 (fun y44 y45 y46 y47 y48 y49 y50 y51 y52 y53 y54 y55 y56 => if ((bitsI .and .i64 y1 128) != 0) = true then (strconv_FormatInt_F n a0.2.2.2.2.2.1 10 (fun y57 => words_maker_put_v1_F n y57 true y44 y45 y46 y47 y48 y49 y50 y51 y52 y53 a0.2.2.2.2.1 y55 y56 (fun y58 y59 y60 y61 y62 y63 y64 y65 y66 y67 y68 y69 y70 => k0 y58 y59 y60 y61 y62 y63 y64 y65 y66 y67 y68 a0.2.2.2.2.2.1 y70 y29))) else (k0 y44 y45 y46 y47 y48 y49 y50 y51 y52 y53 a0.2.2.2.2.1 y55 y56 y29)))) else (words_maker_put_v1_F n a0.2.2.2.2.1 false y30 y31 y32 y33 y34 y35 y36 y37 y38 y39 y40 y41 y42 (fun y71 y72 y73 y74 y75 y76 y77 y78 y79 y80 y81 y82 y83 => if ((bitsI .and .i64 y1 128) != 0) = true then (strconv_FormatInt_F n a0.2.2.2.2.2.1 10 (fun y84 => words_maker_put_v1_F n y84 true y71 y72 y73 y74 y75 y76 y77 y78 y79 y80 a0.2.2.2.2.1 y82 y83 (fun y85 y86 y87 y88 y89 y90 y91 y92 y93 y94 y95 y96 y97 => k0 y85 y86 y87 y88 y89 y90 y91 y92 y93 y94 y95 a0.2.2.2.2.2.1 y97 y29))) else (k0 y71 y72 y73 y74 y75 y76 y77 y78 y79 y80 a0.2.2.2.2.1 y82 y83 y29))))) else (if ((bitsI .and .i64 y1 128) != 0) = true then (strconv_FormatInt_F n a0.2.2.2.2.2.1 10 (fun y98 => words_maker_put_v1_F n y98 true y30 y31 y32 y33 y34 y35 y36 y37 y38 y39 y40 y41 y42 (fun y99 y100 y101 y102 y103 y104 y105 y106 y107 y108 y109 y110 y111 => k0 y99 y100 y101 y102 y103 y104 y105 y106 y107 y108 y109 a0.2.2.2.2.2.1 y111 y29))) else (k0 y30 y31 y32 y33 y34 y35 y36 y37 y38 y39 y40 y41 y42 y29)))) else (if ((bitsI .and .i64 y1 96) != 0) = true then (if ((bitsI .and .i64 y1 32) != 0) = true then none else (if ((bitsI .and .i64 y1 64) != 0) = true then (schema_Name_F n a0.2.2.2.2.1 (fun y112 => words_maker_put_v1_F n a0.2.2.2.2.1 y112 y16 y17 y18 y19 y20 y21 y22 y23 y24 y25 y26 y27 y28 (fun y113 y114 y115 y116 y117 y118 y119 y120 y121 y122 y123 y124 y125 => if ((bitsI .and .i64 y1 128) != 0) = true then (strconv_FormatInt_F n a0.2.2.2.2.2.1 10 (fun y126 => words_maker_put_v1_F n y126 true y113 y114 y115 y116 y117 y118 y119 y120 y121 y122 a0.2.2.2.2.1 y124 y125 (fun y127 y128 y129 y130 y131 y132 y133 y134 y135 y136 y137 y138 y139 => k0 y127 y128 y129 y130 y131 y132 y133 y134 y135 y136 y137 a0.2.2.2.2.2.1 y139 y29))) else (k0 y113 y114 y115 y116 y117 y118 y119 y120 y121 y122 a0.2.2.2.2.1 y124 y125 y29)))) else (words_maker_put_v1_F n a0.2.2.2.2.1 false y16 y17 y18 y19 y20 y21 y22 y23 y24 y25 y26 y27 y28 (fun y140 y141 y142 y143 y144 y145 y146 y147 y148 y149 y150 y151 y152 => if ((bitsI .and .i64 y1 128) != 0) = true then (strconv_FormatInt_F n a0.2.2.2.2.2.1 10 (fun y153 => words_maker_put_v1_F n y153 true y140 y141 y142 y143 y144 y145 y146 y147 y148 y149 a0.2.2.2.2.1 y151 y152 (fun y154 y155 y156 y157 y158 y159 y160 y161 y162 y163 y164 y165 y166 => k0 y154 y155 y156 y157 y158 y159 y160 y161 y162 y163 y164 a0.2.2.2.2.2.1 y166 y29))) else (k0 y140 y141 y142 y143 y144 y145 y146 y147 y148 y149 a0.2.2.2.2.1 y151 y152 y29))))) else (if ((bitsI .and .i64 y1 128) != 0) = true then (strconv_FormatInt_F n a0.2.2.2.2.2.1 10 (fun y167 => words_maker_put_v1_F n y167 true y16 y17 y18 y19 y20 y21 y22 y23 y24 y25 y26 y27 y28 (fun y168 y169 y170 y171 y172 y173 y174 y175 y176 y177 y178 y179 y180 => k0 y168 y169 y170 y171 y172 y173 y174 y175 y176 y177 y178 a0.2.2.2.2.2.1 y180 y29))) else (k0 y16 y17 y18 y19 y20 y21 y22 y23 y24 y25 y26 y27 y28 y29)))) (fun y181 y182 y183 y184 y185 y186 y187 y188 y189 y190 y191 y192 y193 => if ((bitsI .and .i64 y1 8) != 0) = true then (words_maker_tenant_v1_F n a0.2.2.2.1 y1 y181 y182 y183 y184 y185 y186 y187 y188 y189 y190 y191 y192 y193 (fun y194 y195 y196 y197 y198 y199 y200 y201 y202 y203 y204 y205 y206 => if ((bitsI .and .i64 y1 96) != 0) = true then (if ((bitsI .and .i64 y1 32) != 0) = true then none else (if ((bitsI .and .i64 y1 64) != 0) = true then (schema_Name_F n a0.2.2.2.2.1 (fun y207 => words_maker_put_F n a0.2.2.2.2.1 y207 y194 y195 y196 y197 y198 y199 y200 y201 y202 y203 y204 y205 y206 (fun y208 y209 y210 y211 y212 y213 y214 y215 y216 y217 y218 y219 y220 => if ((bitsI .and .i64 y1 128) != 0) = true then (strconv_FormatInt_F n a0.2.2.2.2.2.1 10 (fun y221 => words_maker_put_F n y221 true y208 y209 y210 y211 y212 y213 y214 y215 y216 a0.2.2.2.2.1 y218 y219 y220 (fun y222 y223 y224 y225 y226 y227 y228 y229 y230 y231 y232 y233 y234 => k1 y222 y223 y224 y225 y226 y227 y228 y229 y230 y231 a0.2.2.2.2.2.1 y233 y234))) else (k1 y208 y209 y210 y211 y212 y213 y214 y215 y216 a0.2.2.2.2.1 y218 y219 y220)))) else (words_maker_put_F n a0.2.2.2.2.1 false y194 y195 y196 y197 y198 y199 y200 y201 y202 y203 y204 y205 y206 (fun y235 y236 y237 y238 y239 y240 y241 y242 y243 y244 y245 y246 y247 => if ((bitsI .and .i64 y1 128) != 0) = true then (strconv_FormatInt_F n a0.2.2.2.2.2.1 10 (fun y248 => words_maker_put_F n y248 true y235 y236 y237 y238 y239 y240 y241 y242 y243 a0.2.2.2.2.1 y245 y246 y247 (fun y249 y250 y251 y252 y253 y254 y255 y256 y257 y258 y259 y260 y261 => k1 y249 y250 y251 y252 y253 y254 y255 y256 y257 y258 a0.2.2.2.2.2.1 y260 y261))) else (k1 y235 y236 y237 y238 y239 y240 y241 y242 y243 a0.2.2.2.2.1 y245 y246 y247))))) else (if ((bitsI .and .i64 y1 128) != 0) = true then (strconv_FormatInt_F n a0.2.2.2.2.2.1 10 (fun y262 => words_maker_put_F n y262 true y194 y195 y196 y197 y198 y199 y200 y201 y202 y203 y204 y205 y206 (fun y263 y264 y265 y266 y267 y268 y269 y270 y271 y272 y273 y274 y275 => k1 y263 y264 y265 y266 y267 y268 y269 y270 y271 y272 a0.2.2.2.2.2.1 y274 y275))) else (k1 y194 y195 y196 y197 y198 y199 y200 y201 y202 y203 y204 y205 y206)))) else (if ((bitsI .and .i64 y1 96) != 0) = true then (if ((bitsI .and .i64 y1 32) != 0) = true then none else (if ((bitsI .and .i64 y1 64) != 0) = true then (schema_Name_F n a0.2.2.2.2.1 (fun y276 => words_maker_put_F n a0.2.2.2.2.1 y276 y181 y182 y183 y184 y185 y186 y187 y188 y189 y190 y191 y192 y193 (fun y277 y278 y279 y280 y281 y282 y283 y284 y285 y286 y287 y288 y289 => if ((bitsI .and .i64 y1 128) != 0) = true then (strconv_FormatInt_F n a0.2.2.2.2.2.1 10 (fun y290 => words_maker_put_F n y290 true y277 y278 y279 y280 y281 y282 y283 y284 y285 a0.2.2.2.2.1 y287 y288 y289 (fun y291 y292 y293 y294 y295 y296 y297 y298 y299 y300 y301 y302 y303 => k1 y291 y292 y293 y294 y295 y296 y297 y298 y299 y300 a0.2.2.2.2.2.1 y302 y303))) else (k1 y277 y278 y279 y280 y281 y282 y283 y284 y285 a0.2.2.2.2.1 y287 y288 y289)))) else (words_maker_put_F n a0.2.2.2.2.1 false y181 y182 y183 y184 y185 y186 y187 y188 y189 y190 y191 y192 y193 (fun y304 y305 y306 y307 y308 y309 y310 y311 y312 y313 y314 y315 y316 => if ((bitsI .and .i64 y1 128) != 0) = true then (strconv_FormatInt_F n a0.2.2.2.2.2.1 10 (fun y317 => words_maker_put_F n y317 true y304 y305 y306 y307 y308 y309 y310 y311 y312 a0.2.2.2.2.1 y314 y315 y316 (fun y318 y319 y320 y321 y322 y323 y324 y325 y326 y327 y328 y329 y330 => k1 y318 y319 y320 y321 y322 y323 y324 y325 y326 y327 a0.2.2.2.2.2.1 y329 y330))) else (k1 y304 y305 y306 y307 y308 y309 y310 y311 y312 a0.2.2.2.2.1 y314 y315 y316))))) else (if ((bitsI .and .i64 y1 128) != 0) = true then (strconv_FormatInt_F n a0.2.2.2.2.2.1 10 (fun y331 => words_maker_put_F n y331 true y181 y182 y183 y184 y185 y186 y187 y188 y189 y190 y191 y192 y193 (fun y332 y333 y334 y335 y336 y337 y338 y339 y340 y341 y342 y343 y344 => k1 y332 y333 y334 y335 y336 y337 y338 y339 y340 y341 a0.2.2.2.2.2.1 y343 y344))) else (k1 y181 y182 y183 y184 y185 y186 y187 y188 y189 y190 y191 y192 y193))))) else (if ((bitsI .and .i64 y1 8) != 0) = true then (words_maker_tenant_v1_F n a0.2.2.2.1 y1 y3 y4 y5 y6 y7 y8 y9 y10 y11 y12 y13 y14 y15 (fun y345 y346 y347 y348 y349 y350 y351 y352 y353 y354 y355 y356 y357 => if ((bitsI .and .i64 y1 96) != 0) = true then (if ((bitsI .and .i64 y1 32) != 0) = true then none else (if ((bitsI .and .i64 y1 64) != 0) = true then (schema_Name_F n a0.2.2.2.2.1 (fun y358 => words_maker_put_F n a0.2.2.2.2.1 y358 y345 y346 y347 y348 y349 y350 y351 y352 y353 y354 y355 y356 y357 (fun y359 y360 y361 y362 y363 y364 y365 y366 y367 y368 y369 y370 y371 => if ((bitsI .and .i64 y1 128) != 0) = true then (strconv_FormatInt_F n a0.2.2.2.2.2.1 10 (fun y372 => words_maker_put_F n y372 true y359 y360 y361 y362 y363 y364 y365 y366 y367 a0.2.2.2.2.1 y369 y370 y371 (fun y373 y374 y375 y376 y377 y378 y379 y380 y381 y382 y383 y384 y385 => k1 y373 y374 y375 y376 y377 y378 y379 y380 y381 y382 a0.2.2.2.2.2.1 y384 y385))) else (k1 y359 y360 y361 y362 y363 y364 y365 y366 y367 a0.2.2.2.2.1 y369 y370 y371)))) else (words_maker_put_F n a0.2.2.2.2.1 false y345 y346 y347 y348 y349 y350 y351 y352 y353 y354 y355 y356 y357 (fun y386 y387 y388 y389 y390 y391 y392 y393 y394 y395 y396 y397 y398 => if ((bitsI .and .i64 y1 128) != 0) = true then (strconv_FormatInt_F n a0.2.2.2.2.2.1 10 (fun y399 => words_maker_put_F n y399 true y386 y387 y388 y389 y390 y391 y392 y393 y394 a0.2.2.2.2.1 y396 y397 y398 (fun y400 y401 y402 y403 y404 y405 y406 y407 y408 y409 y410 y411 y412 => k1 y400 y401 y402 y403 y404 y405 y406 y407 y408 y409 a0.2.2.2.2.2.1 y411 y412))) else (k1 y386 y387 y388 y389 y390 y391 y392 y393 y394 a0.2.2.2.2.1 y396 y397 y398))))) else (if ((bitsI .and .i64 y1 128) != 0) = true then (strconv_FormatInt_F n a0.2.2.2.2.2.1 10 (fun y413 => words_maker_put_F n y413 true y345 y346 y347 y348 y349 y350 y351 y352 y353 y354 y355 y356 y357 (fun y414 y415 y416 y417 y418 y419 y420 y421 y422 y423 y424 y425 y426 => k1 y414 y415 y416 y417 y418 y419 y420 y421 y422 y423 a0.2.2.2.2.2.1 y425 y426))) else (k1 y345 y346 y347 y348 y349 y350 y351 y352 y353 y354 y355 y356 y357)))) else (if ((bitsI .and .i64 y1 96) != 0) = true then (if ((bitsI .and .i64 y1 32) != 0) = true then none else (if ((bitsI .and .i64 y1 64) != 0) = true then (schema_Name_F n a0.2.2.2.2.1 (fun y427 => words_maker_put_F n a0.2.2.2.2.1 y427 y3 y4 y5 y6 y7 y8 y9 y10 y11 y12 y13 y14 y15 (fun y428 y429 y430 y431 y432 y433 y434 y435 y436 y437 y438 y439 y440 => if ((bitsI .and .i64 y1 128) != 0) = true then (strconv_FormatInt_F n a0.2.2.2.2.2.1 10 (fun y441 => words_maker_put_F n y441 true y428 y429 y430 y431 y432 y433 y434 y435 y436 a0.2.2.2.2.1 y438 y439 y440 (fun y442 y443 y444 y445 y446 y447 y448 y449 y450 y451 y452 y453 y454 => k1 y442 y443 y444 y445 y446 y447 y448 y449 y450 y451 a0.2.2.2.2.2.1 y453 y454))) else (k1 y428 y429 y430 y431 y432 y433 y434 y435 y436 a0.2.2.2.2.1 y438 y439 y440)))) else (words_maker_put_F n a0.2.2.2.2.1 false y3 y4 y5 y6 y7 y8 y9 y10 y11 y12 y13 y14 y15 (fun y455 y456 y457 y458 y459 y460 y461 y462 y463 y464 y465 y466 y467 => if ((bitsI .and .i64 y1 128) != 0) = true then (strconv_FormatInt_F n a0.2.2.2.2.2.1 10 (fun y468 => words_maker_put_F n y468 true y455 y456 y457 y458 y459 y460 y461 y462 y463 a0.2.2.2.2.1 y465 y466 y467 (fun y469 y470 y471 y472 y473 y474 y475 y476 y477 y478 y479 y480 y481 => k1 y469 y470 y471 y472 y473 y474 y475 y476 y477 y478 a0.2.2.2.2.2.1 y480 y481))) else (k1 y455 y456 y457 y458 y459 y460 y461 y462 y463 a0.2.2.2.2.1 y465 y466 y467))))) else (if ((bitsI .and .i64 y1 128) != 0) = true then (strconv_FormatInt_F n a0.2.2.2.2.2.1 10 (fun y482 => words_maker_put_F n y482 true y3 y4 y5 y6 y7 y8 y9 y10 y11 y12 y13 y14 y15 (fun y483 y484 y485 y486 y487 y488 y489 y490 y491 y492 y493 y494 y495 => k1 y483 y484 y485 y486 y487 y488 y489 y490 y491 y492 a0.2.2.2.2.2.1 y494 y495))) else (k1 y3 y4 y5 y6 y7 y8 y9 y10 y11 y12 y13 y14 y15)))))) else none) else none))
def words_maker_step_F {R : Type} := lazyN (@words_maker_step_Fi R)
theorem words_maker_step_e : @words_maker_step_F R = @words_maker_step_Fi R := lazyN_eq _
def words_maker_step_g (n : Nat) : Gx R := typed 3 words_maker_step_d fun x k => words_maker_step_F n x.1 x.2.1 x.2.2.1 x.2.2.2.1 x.2.2.2.2.1 x.2.2.2.2.2.1 x.2.2.2.2.2.2.1 x.2.2.2.2.2.2.2.1 x.2.2.2.2.2.2.2.2.1 x.2.2.2.2.2.2.2.2.2.1 x.2.2.2.2.2.2.2.2.2.2.1 x.2.2.2.2.2.2.2.2.2.2.2.1 x.2.2.2.2.2.2.2.2.2.2.2.2.1 x.2.2.2.2.2.2.2.2.2.2.2.2.2.1 x.2.2.2.2.2.2.2.2.2.2.2.2.2.2.1 (fun y0 y1 y2 y3 y4 y5 y6 y7 y8 y9 y10 y11 y12 y13 => k (.tu []) [(.box true 56 [(.ow 1), (.b y0), (.i .i64 y1), (.i .i64 y2), (.s y3), (.s y4), (.s y5), (.i .i64 y6), (.fz ty25 y7), (.s y8), (.s y9), (.s y10), (.i .i64 y11)]), (.arr 9 .str y12), (.arr 25 ty25 y13)]) (fun y0 y1 y2 y3 y4 y5 y6 y7 y8 y9 y10 y11 y12 => k (.tu []) [(.box true 56 [(.ow 1), (.b y0), (.i .i64 y1), (.i .i64 y2), (.s y3), (.s y4), (.s y5), (.i .i64 y6), (.ow 2), (.s y7), (.s y8), (.s y9), (.i .i64 y10)]), (.arr 9 .str y11), (.arr 25 ty25 y12)])
def words_maker_step_cs (R : Type) (n : Nat) : List (Nat × Gx R) := [(21, orG (words_maker_put_g n) (words_maker_put_v1_g n) (fits 3 words_maker_put_d)), (26, strconv_FormatInt_g n), (40, words_kinds_g n), (42, words_names_g n), (44, words_maker_object_g n), (45, orG (words_maker_tenant_g n) (words_maker_tenant_v1_g n) (fits 3 words_maker_tenant_d)), (47, schema_Name_g n)]
def words_maker_step_cx (R : Type) (n : Nat) : Cx R := ⟨Tryz.prog, Gof (words_maker_step_cs R n), noDs, noDx, noLp, drawP Tryz.prog (Gof (words_maker_step_cs R n)), false, noJn, noFz⟩
theorem words_maker_step_ok [Esc R] (n : Nat) : Good Tryz.prog 22 (words_maker_step_g (R := R) n) := by
  unfold words_maker_step_g
  rw [words_maker_step_e]
  exact Good.fn (f := 22) (cx := words_maker_step_cx R n) (by kernel_rfl) (AllGood.cons (Good.or (words_maker_put_ok n) (words_maker_put_v1_ok n) _) (AllGood.cons (strconv_FormatInt_ok n) (AllGood.cons (words_kinds_ok n) (AllGood.cons (words_names_ok n) (AllGood.cons (words_maker_object_ok n) (AllGood.cons (Good.or (words_maker_tenant_ok n) (words_maker_tenant_v1_ok n) _) (AllGood.cons (schema_Name_ok n) (AllGood.nil)))))))) rfl Tryz.func22 (by kernel_rfl) rfl trivial 3 words_maker_step_d (by kernel_rfl) (fun x k => by kernel_rfl)
end
end Go.Proofs.YtcpimjekllkbkaaGreatDoor.E
set_option linter.unusedVariables false
set_option maxRecDepth 100000
namespace Go.Proofs.YtcpimjekllkbkaaGreatDoor.E
open Go.Proofs
noncomputable section
variable {R : Type}
/-! verderer/words.same: function 23 -/
def words_same_ds : Nat → Desc
  | 4 => ⟨[(2, .pt 0 0), (3, .pt 1 0), (20, .d (.sl ty25)), (21, .d (.int .i64)), (22, .d (.int .i64))], [.box false 39 [.d (.int .i64), .d (.int .i64), .d .str, .d .str, .d .str, .d (.int .i64), .d (.sl ty25), .d .str, .d .str, .d .str, .d (.int .i64)], .box false 39 [.d (.int .i64), .d (.int .i64), .d .str, .d .str, .d .str, .d (.int .i64), .d (.sl ty25), .d .str, .d .str, .d .str, .d (.int .i64)]]⟩
  | _ => ⟨[], []⟩
def words_same_dx : Nat → List (X × Desc)
  | 4 => [(.r, ⟨[(4, .d .bool)], []⟩), (.e 0, ⟨[(2, .pt 0 0), (3, .pt 1 0)], [.box false 39 [.d (.int .i64), .d (.int .i64), .d .str, .d .str, .d .str, .d (.int .i64), .d (.sl ty25), .d .str, .d .str, .d .str, .d (.int .i64)], .box false 39 [.d (.int .i64), .d (.int .i64), .d .str, .d .str, .d .str, .d (.int .i64), .d (.sl ty25), .d .str, .d .str, .d .str, .d (.int .i64)]]⟩)]
  | _ => []
def words_same_s4 (n : Nat) (x0 : (List ty25.D)) (x1 : Int) (x2 : Int) (x3 : Int) (x4 : Int) (x5 : ByteArray) (x6 : ByteArray) (x7 : ByteArray) (x8 : Int) (x9 : (List ty25.D)) (x10 : ByteArray) (x11 : ByteArray) (x12 : ByteArray) (x13 : Int) (x14 : Int) (x15 : Int) (x16 : ByteArray) (x17 : ByteArray) (x18 : ByteArray) (x19 : Int) (x20 : (List ty25.D)) (x21 : ByteArray) (x22 : ByteArray) (x23 : ByteArray) (x24 : Int) (k1 : (List ty25.D) → Int → Int → Int → Int → ByteArray → ByteArray → ByteArray → Int → (List ty25.D) → ByteArray → ByteArray → ByteArray → Int → Int → Int → ByteArray → ByteArray → ByteArray → Int → (List ty25.D) → ByteArray → ByteArray → ByteArray → Int → Option R) (qr : Bool → Option R) (qe0 : Int → Int → ByteArray → ByteArray → ByteArray → Int → (List ty25.D) → ByteArray → ByteArray → ByteArray → Int → Int → Int → ByteArray → ByteArray → ByteArray → Int → (List ty25.D) → ByteArray → ByteArray → ByteArray → Int → Option R) : Option R :=
  if (decide (x2 < x1)) = true then (if (0 : Int) ≤ x2 ∧ x2 < (x0.length : Int) then (if (0 : Int) ≤ x2 ∧ x2 < (x20.length : Int) then (if (!(((x0.getD (Int.toNat x2) (Ty.z ty25)).1 == (x20.getD (Int.toNat x2) (Ty.z ty25)).1) && (((x0.getD (Int.toNat x2) (Ty.z ty25)).2.1 == (x20.getD (Int.toNat x2) (Ty.z ty25)).2.1) && (((x0.getD (Int.toNat x2) (Ty.z ty25)).2.2.1 == (x20.getD (Int.toNat x2) (Ty.z ty25)).2.2.1) && ((((x0.getD (Int.toNat x2) (Ty.z ty25)).2.2.2.1).toList == ((x20.getD (Int.toNat x2) (Ty.z ty25)).2.2.2.1).toList) && true))))) = true then (qr false) else (k1 x0 x1 (IntKind.i64.wrap (x2 + 1)) x3 x4 x5 x6 x7 x8 x9 x10 x11 x12 x13 x14 x15 x16 x17 x18 x19 x20 x21 x22 x23 x24)) else none) else none) else (qe0 x3 x4 x5 x6 x7 x8 x9 x10 x11 x12 x13 x14 x15 x16 x17 x18 x19 x20 x21 x22 x23 x24)
def words_same_l4 (n : Nat) (a : (words_same_ds 4).D) (k1 : (words_same_ds 4).D → Option R) (k2 : exK R (words_same_dx 4)) : Option R :=
  words_same_s4 n a.1 a.2.1 a.2.2.1 a.2.2.2.1 a.2.2.2.2.1 a.2.2.2.2.2.1 a.2.2.2.2.2.2.1 a.2.2.2.2.2.2.2.1 a.2.2.2.2.2.2.2.2.1 a.2.2.2.2.2.2.2.2.2.1 a.2.2.2.2.2.2.2.2.2.2.1 a.2.2.2.2.2.2.2.2.2.2.2.1 a.2.2.2.2.2.2.2.2.2.2.2.2.1 a.2.2.2.2.2.2.2.2.2.2.2.2.2.1 a.2.2.2.2.2.2.2.2.2.2.2.2.2.2.1 a.2.2.2.2.2.2.2.2.2.2.2.2.2.2.2.1 a.2.2.2.2.2.2.2.2.2.2.2.2.2.2.2.2.1 a.2.2.2.2.2.2.2.2.2.2.2.2.2.2.2.2.2.1 a.2.2.2.2.2.2.2.2.2.2.2.2.2.2.2.2.2.2.1 a.2.2.2.2.2.2.2.2.2.2.2.2.2.2.2.2.2.2.2.1 a.2.2.2.2.2.2.2.2.2.2.2.2.2.2.2.2.2.2.2.2.1 a.2.2.2.2.2.2.2.2.2.2.2.2.2.2.2.2.2.2.2.2.2.1 a.2.2.2.2.2.2.2.2.2.2.2.2.2.2.2.2.2.2.2.2.2.2.1 a.2.2.2.2.2.2.2.2.2.2.2.2.2.2.2.2.2.2.2.2.2.2.2.1 a.2.2.2.2.2.2.2.2.2.2.2.2.2.2.2.2.2.2.2.2.2.2.2.2.1 (fun x0 x1 x2 x3 x4 x5 x6 x7 x8 x9 x10 x11 x12 x13 x14 x15 x16 x17 x18 x19 x20 x21 x22 x23 x24 => k1 (x0, x1, x2, x3, x4, x5, x6, x7, x8, x9, x10, x11, x12, x13, x14, x15, x16, x17, x18, x19, x20, x21, x22, x23, x24, ())) (fun x0 => k2.1 (x0, ())) (fun x0 x1 x2 x3 x4 x5 x6 x7 x8 x9 x10 x11 x12 x13 x14 x15 x16 x17 x18 x19 x20 x21 => k2.2.1 (x0, x1, x2, x3, x4, x5, x6, x7, x8, x9, x10, x11, x12, x13, x14, x15, x16, x17, x18, x19, x20, x21, ()))
@[reducible] def words_same_d : Desc := ⟨[(0, .d ty39), (1, .d ty39)], []⟩
def words_same_Fi (n : Nat) (a0 : ty39.D) (a1 : ty39.D) (k0 : Bool → Option R) : Option R :=
  if ((a0.2.2.1.2.2.2.2.1.length : Int) != (a1.2.2.1.2.2.2.2.1.length : Int)) = true then (k0 false) else (runC (words_same_l4 n) n (a0.2.2.1.2.2.2.2.1, (a0.2.2.1.2.2.2.2.1.length : Int), 0, a0.1, a0.2.1, a0.2.2.1.1, a0.2.2.1.2.1, a0.2.2.1.2.2.1, a0.2.2.1.2.2.2.1, a0.2.2.1.2.2.2.2.1, a0.2.2.2.1.1, a0.2.2.2.1.2.1, a0.2.2.2.2.1, a0.2.2.2.2.2.1, a1.1, a1.2.1, a1.2.2.1.1, a1.2.2.1.2.1, a1.2.2.1.2.2.1, a1.2.2.1.2.2.2.1, a1.2.2.1.2.2.2.2.1, a1.2.2.2.1.1, a1.2.2.2.1.2.1, a1.2.2.2.2.1, a1.2.2.2.2.2.1, ()) (fun b1 => k0 b1.1, fun b23 => if (b23.1 == b23.2.2.2.2.2.2.2.2.2.2.2.1) = true then (if (b23.2.1 == b23.2.2.2.2.2.2.2.2.2.2.2.2.1) = true then (if ((b23.2.2.2.2.2.2.2.1.toList == b23.2.2.2.2.2.2.2.2.2.2.2.2.2.2.2.2.2.2.1.toList) && ((b23.2.2.2.2.2.2.2.2.1.toList == b23.2.2.2.2.2.2.2.2.2.2.2.2.2.2.2.2.2.2.2.1.toList) && true)) = true then (if (b23.2.2.2.2.2.2.2.2.2.1.toList == b23.2.2.2.2.2.2.2.2.2.2.2.2.2.2.2.2.2.2.2.2.1.toList) = true then (if (b23.2.2.2.2.2.2.2.2.2.2.1 == b23.2.2.2.2.2.2.2.2.2.2.2.2.2.2.2.2.2.2.2.2.2.1) = true then (if (b23.2.2.1.toList == b23.2.2.2.2.2.2.2.2.2.2.2.2.2.1.toList) = true then (if (b23.2.2.2.1.toList == b23.2.2.2.2.2.2.2.2.2.2.2.2.2.2.1.toList) = true then (if (b23.2.2.2.2.1.toList == b23.2.2.2.2.2.2.2.2.2.2.2.2.2.2.2.1.toList) = true then (k0 (b23.2.2.2.2.2.1 == b23.2.2.2.2.2.2.2.2.2.2.2.2.2.2.2.2.1)) else (k0 false)) else (k0 false)) else (k0 false)) else (k0 false)) else (k0 false)) else (k0 false)) else (k0 false)) else (k0 false), ()))
def words_same_F {R : Type} := lazyN (@words_same_Fi R)
theorem words_same_e : @words_same_F R = @words_same_Fi R := lazyN_eq _
def words_same_g (n : Nat) : Gx R := typed 2 words_same_d fun x k => words_same_F n x.1 x.2.1 (fun y0 => k (.a (.c (.b y0))) [])
def words_same_cs (R : Type) (n : Nat) : List (Nat × Gx R) := []
def words_same_lp (n : Nat) : (i : Nat) → (words_same_ds i).D → exK R (words_same_dx i) → Option R
  | 4, a, k => runC (words_same_l4 n) n a k
  | _, _, _ => none
def words_same_cx (R : Type) (n : Nat) : Cx R := ⟨Tryz.prog, Gof (words_same_cs R n), words_same_ds, words_same_dx, words_same_lp n, drawP Tryz.prog (Gof (words_same_cs R n)), false, noJn, noFz⟩
theorem words_same_ok [Esc R] (n : Nat) : Good Tryz.prog 23 (words_same_g (R := R) n) := by
  unfold words_same_g
  rw [words_same_e]
  exact Good.fn (f := 23) (cx := words_same_cx R n) (by kernel_rfl) (AllGood.nil) rfl Tryz.func23 (by kernel_rfl) rfl (by
    have e : fnLoops noJn Tryz.f23 = [((fnLoops noJn Tryz.f23)[0]?).getD (false, .skip)] := by kernel_rfl
    show LoopRuns _ _ (fnLoops noJn _)
    rw [e]
    exact ⟨LoopRun.loop (by kernel_rfl) (i := 4) (m := n) (step := words_same_l4 n) (by kernel_rfl) (fun a k1 k2 => by kernel_rfl) (fun _ _ => rfl), trivial⟩) 2 words_same_d (by kernel_rfl) (fun x k => by kernel_rfl)
end
end Go.Proofs.YtcpimjekllkbkaaGreatDoor.E
set_option linter.unusedVariables false
set_option maxRecDepth 100000
namespace Go.Proofs.YtcpimjekllkbkaaGreatDoor.E
open Go.Proofs
noncomputable section
variable {R : Type}
/-! verderer/words.Line: function 11 -/
def words_Line_ds : Nat → Desc
  | 1000006 => ⟨[(1, .pt 0 0), (4, .d (.int .i64)), (5, .pt 3 0)], [.box false 39 [.d (.int .i64), .d (.int .i64), .d .str, .d .str, .d .str, .d (.int .i64), .d (.sl ty25), .d .str, .d .str, .d .str, .d (.int .i64)], .arr 9 .str, .arr 25 ty25, .box false 56 [.ow 1, .d .bool, .d (.int .i64), .d (.int .i64), .d .str, .d .str, .d .str, .d (.int .i64), .ow 2, .d .str, .d .str, .d .str, .d (.int .i64)]]⟩
  | _ => ⟨[], []⟩
def words_Line_dx : Nat → List (X × Desc)
  | 1000006 => [(.r, ⟨[(2, .d .str), (3, .d (.int .i64))], []⟩)]
  | _ => []
def words_Line_s1000006 (n : Nat) (x0 : Int) (x1 : Int) (x2 : Int) (x3 : ByteArray) (x4 : ByteArray) (x5 : ByteArray) (x6 : Int) (x7 : (List ty25.D)) (x8 : ByteArray) (x9 : ByteArray) (x10 : ByteArray) (x11 : Int) (x12 : (List ByteArray)) (x13 : (List ty25.D)) (x14 : Bool) (x15 : Int) (x16 : Int) (x17 : ByteArray) (x18 : ByteArray) (x19 : ByteArray) (x20 : Int) (x21 : ByteArray) (x22 : ByteArray) (x23 : ByteArray) (x24 : Int) (qr : ByteArray → Int → Option R) : Option R :=
  if (decide (x0 < 1)) = true then (qr (⟨#[]⟩ : ByteArray) 7) else (if (decide (x0 > 15)) = true then (qr (⟨#[]⟩ : ByteArray) 7) else (if x14 = true then (qr (⟨#[]⟩ : ByteArray) 7) else (words_maker_step_F n (x1, x2, (x3, x4, x5, x6, x7, ()), (x8, x9, ()), x10, x11, ()) x0 x14 x15 x16 x17 x18 x19 x20 x21 x22 x23 x24 x12 x13 (fun y14 y15 y16 y17 y18 y19 y20 y21 y22 y23 y24 y25 y26 y27 => if y14 = true then (qr (⟨#[]⟩ : ByteArray) 7) else (words_same_F n (x1, x2, (x3, x4, x5, x6, x7, ()), (x8, x9, ()), x10, x11, ()) (y15, y16, (y17, y18, y19, y20, y21, ()), (y22, y23, ()), y24, y25, ()) (fun y28 => if (!y28) = true then (qr (⟨#[]⟩ : ByteArray) 7) else (strings_Join_F n y26 (⟨#[32]⟩ : ByteArray) (fun y29 => if (decide ((y29.size : Int) > 400)) = true then (qr (⟨#[]⟩ : ByteArray) 9) else (qr y29 0)))))) (fun y30 y31 y32 y33 y34 y35 y36 y37 y38 y39 y40 y41 y42 => if y30 = true then (qr (⟨#[]⟩ : ByteArray) 7) else (words_same_F n (x1, x2, (x3, x4, x5, x6, x7, ()), (x8, x9, ()), x10, x11, ()) (y31, y32, (y33, y34, y35, y36, y42, ()), (y37, y38, ()), y39, y40, ()) (fun y43 => if (!y43) = true then (qr (⟨#[]⟩ : ByteArray) 7) else (strings_Join_F n y41 (⟨#[32]⟩ : ByteArray) (fun y44 => if (decide ((y44.size : Int) > 400)) = true then (qr (⟨#[]⟩ : ByteArray) 9) else (qr y44 0)))))))))
def words_Line_li1000006 (n : Nat) (a : (words_Line_ds 1000006).D) (k2 : exK R (words_Line_dx 1000006)) : Option R :=
  words_Line_s1000006 n a.1 a.2.1 a.2.2.1 a.2.2.2.1 a.2.2.2.2.1 a.2.2.2.2.2.1 a.2.2.2.2.2.2.1 a.2.2.2.2.2.2.2.1 a.2.2.2.2.2.2.2.2.1 a.2.2.2.2.2.2.2.2.2.1 a.2.2.2.2.2.2.2.2.2.2.1 a.2.2.2.2.2.2.2.2.2.2.2.1 a.2.2.2.2.2.2.2.2.2.2.2.2.1 a.2.2.2.2.2.2.2.2.2.2.2.2.2.1 a.2.2.2.2.2.2.2.2.2.2.2.2.2.2.1 a.2.2.2.2.2.2.2.2.2.2.2.2.2.2.2.1 a.2.2.2.2.2.2.2.2.2.2.2.2.2.2.2.2.1 a.2.2.2.2.2.2.2.2.2.2.2.2.2.2.2.2.2.1 a.2.2.2.2.2.2.2.2.2.2.2.2.2.2.2.2.2.2.1 a.2.2.2.2.2.2.2.2.2.2.2.2.2.2.2.2.2.2.2.1 a.2.2.2.2.2.2.2.2.2.2.2.2.2.2.2.2.2.2.2.2.1 a.2.2.2.2.2.2.2.2.2.2.2.2.2.2.2.2.2.2.2.2.2.1 a.2.2.2.2.2.2.2.2.2.2.2.2.2.2.2.2.2.2.2.2.2.2.1 a.2.2.2.2.2.2.2.2.2.2.2.2.2.2.2.2.2.2.2.2.2.2.2.1 a.2.2.2.2.2.2.2.2.2.2.2.2.2.2.2.2.2.2.2.2.2.2.2.2.1 (fun x0 x1 => k2.1 (x0, x1, ()))
def words_Line_l1000006 {R : Type} := lazyN (@words_Line_li1000006 R)
theorem words_Line_e1000006 : @words_Line_l1000006 R = @words_Line_li1000006 R := lazyN_eq _
@[reducible] def words_Line_d : Desc := ⟨[(0, .d ty39)], []⟩
def words_Line_Fi (n : Nat) (a0 : ty39.D) (k0 : ByteArray → Int → Option R) : Option R :=
  if (a0.1 == 10) = true then (if (decide (a0.2.1 ≥ 1)) = true then (words_maker_put_F n (⟨#[116, 114, 121]⟩ : ByteArray) (decide (a0.2.1 ≤ 9)) false a0.1 a0.2.1 (⟨#[]⟩ : ByteArray) (⟨#[]⟩ : ByteArray) (⟨#[]⟩ : ByteArray) 0 (⟨#[]⟩ : ByteArray) (⟨#[]⟩ : ByteArray) (⟨#[]⟩ : ByteArray) 0 ([] : List ByteArray) ([] : List ty25.D) (fun y1 y2 y3 y4 y5 y6 y7 y8 y9 y10 y11 y12 y13 => words_Line_l1000006 n (a0.2.1, a0.1, a0.2.1, a0.2.2.1.1, a0.2.2.1.2.1, a0.2.2.1.2.2.1, a0.2.2.1.2.2.2.1, a0.2.2.1.2.2.2.2.1, a0.2.2.2.1.1, a0.2.2.2.1.2.1, a0.2.2.2.2.1, a0.2.2.2.2.2.1, y12, y13, y1, y2, y3, y4, y5, y6, y7, y8, y9, y10, y11, ()) (fun b46 => k0 b46.1 b46.2.1, ()))) else (words_maker_put_F n (⟨#[116, 114, 121]⟩ : ByteArray) false false a0.1 a0.2.1 (⟨#[]⟩ : ByteArray) (⟨#[]⟩ : ByteArray) (⟨#[]⟩ : ByteArray) 0 (⟨#[]⟩ : ByteArray) (⟨#[]⟩ : ByteArray) (⟨#[]⟩ : ByteArray) 0 ([] : List ByteArray) ([] : List ty25.D) (fun y47 y48 y49 y50 y51 y52 y53 y54 y55 y56 y57 y58 y59 => words_Line_l1000006 n (a0.2.1, a0.1, a0.2.1, a0.2.2.1.1, a0.2.2.1.2.1, a0.2.2.1.2.2.1, a0.2.2.1.2.2.2.1, a0.2.2.1.2.2.2.2.1, a0.2.2.2.1.1, a0.2.2.2.1.2.1, a0.2.2.2.2.1, a0.2.2.2.2.2.1, y58, y59, y47, y48, y49, y50, y51, y52, y53, y54, y55, y56, y57, ()) (fun b61 => k0 b61.1 b61.2.1, ())))) else (words_Line_l1000006 n (a0.1, a0.1, a0.2.1, a0.2.2.1.1, a0.2.2.1.2.1, a0.2.2.1.2.2.1, a0.2.2.1.2.2.2.1, a0.2.2.1.2.2.2.2.1, a0.2.2.2.1.1, a0.2.2.2.1.2.1, a0.2.2.2.2.1, a0.2.2.2.2.2.1, ([] : List ByteArray), ([] : List ty25.D), false, a0.1, 0, (⟨#[]⟩ : ByteArray), (⟨#[]⟩ : ByteArray), (⟨#[]⟩ : ByteArray), 0, (⟨#[]⟩ : ByteArray), (⟨#[]⟩ : ByteArray), (⟨#[]⟩ : ByteArray), 0, ()) (fun b63 => k0 b63.1 b63.2.1, ()))
def words_Line_F {R : Type} := lazyN (@words_Line_Fi R)
theorem words_Line_e : @words_Line_F R = @words_Line_Fi R := lazyN_eq _
def words_Line_g (n : Nat) : Gx R := typed 1 words_Line_d fun x k => words_Line_F n x.1 (fun y0 y1 => k (.tu [(.c (.s y0)), (.c (.i .i64 y1))]) [])
def words_Line_cs (R : Type) (n : Nat) : List (Nat × Gx R) := [(13, strings_Join_g n), (21, words_maker_put_g n), (22, words_maker_step_g n), (23, words_same_g n)]
def words_Line_lp (n : Nat) : (i : Nat) → (words_Line_ds i).D → exK R (words_Line_dx i) → Option R
  | 1000006, a, k => words_Line_l1000006 n a k
  | _, _, _ => none
def words_Line_cx (R : Type) (n : Nat) : Cx R := ⟨Tryz.prog, Gof (words_Line_cs R n), words_Line_ds, words_Line_dx, words_Line_lp n, drawP Tryz.prog (Gof (words_Line_cs R n)), false, (memN [6]), noFz⟩
theorem words_Line_ok [Esc R] (n : Nat) : Good Tryz.prog 11 (words_Line_g (R := R) n) := by
  unfold words_Line_g
  rw [words_Line_e]
  exact Good.fn (f := 11) (cx := words_Line_cx R n) (by kernel_rfl) (AllGood.cons (strings_Join_ok n) (AllGood.cons (words_maker_put_ok n) (AllGood.cons (words_maker_step_ok n) (AllGood.cons (words_same_ok n) (AllGood.nil))))) rfl Tryz.func11 (by kernel_rfl) rfl (by
    have e : fnLoops (memN [6]) Tryz.f11 = [((fnLoops (memN [6]) Tryz.f11)[0]?).getD (false, .skip)] := by kernel_rfl
    show LoopRuns _ _ (fnLoops (memN [6]) _)
    rw [e]
    exact ⟨LoopRun.joinS (by kernel_rfl) (i := 6) (L := words_Line_l1000006 n) (Li := words_Line_li1000006 n) (by rw [words_Line_e1000006]) (by kernel_rfl) (fun a k => by kernel_rfl) (fun a k => by kernel_rfl), trivial⟩) 1 words_Line_d (by kernel_rfl) (fun x k => by kernel_rfl)
end
end Go.Proofs.YtcpimjekllkbkaaGreatDoor.E
set_option linter.unusedVariables false
set_option maxRecDepth 100000
namespace Go.Proofs.YtcpimjekllkbkaaGreatDoor.E
open Go.Proofs
noncomputable section
variable {R : Type}
/-! verderer/words.Parse: function 10 -/
@[reducible] def words_Parse_d : Desc := ⟨[(0, .d .str)], []⟩
def words_Parse_Fi (n : Nat) (a0 : ByteArray) (k0 : Int → Int → ByteArray → ByteArray → ByteArray → Int → ByteArray → ByteArray → ByteArray → Int → Int → (List ty25.D) → Option R) : Option R :=
  if (decide ((a0.size : Int) > 400)) = true then (k0 0 0 (⟨#[]⟩ : ByteArray) (⟨#[]⟩ : ByteArray) (⟨#[]⟩ : ByteArray) 0 (⟨#[]⟩ : ByteArray) (⟨#[]⟩ : ByteArray) (⟨#[]⟩ : ByteArray) 0 9 ([] : List ty25.D)) else (words_guess_F n a0 (fun y1 y2 y3 y4 y5 y6 y7 y8 y9 y10 y11 => strings_CutPrefix_F n a0 (⟨#[116, 114, 121, 32]⟩ : ByteArray) (fun y12 y13 => if y13 = true then (words_guess_F n y12 (fun y14 y15 y16 y17 y18 y19 y20 y21 y22 y23 y24 => words_Line_F n (10, y14, (y16, y17, y18, y19, y24, ()), (y20, y21, ()), y22, y23, ()) (fun y25 y26 => if (y26 != 0) = true then (k0 0 0 (⟨#[]⟩ : ByteArray) (⟨#[]⟩ : ByteArray) (⟨#[]⟩ : ByteArray) 0 (⟨#[]⟩ : ByteArray) (⟨#[]⟩ : ByteArray) (⟨#[]⟩ : ByteArray) 0 7 ([] : List ty25.D)) else (if (!(y25.toList == a0.toList)) = true then (k0 0 0 (⟨#[]⟩ : ByteArray) (⟨#[]⟩ : ByteArray) (⟨#[]⟩ : ByteArray) 0 (⟨#[]⟩ : ByteArray) (⟨#[]⟩ : ByteArray) (⟨#[]⟩ : ByteArray) 0 7 ([] : List ty25.D)) else (k0 10 y14 y16 y17 y18 y19 y20 y21 y22 y23 0 y24))))) else (words_Line_F n (y1, y2, (y3, y4, y5, y6, y11, ()), (y7, y8, ()), y9, y10, ()) (fun y27 y28 => if (y28 != 0) = true then (k0 0 0 (⟨#[]⟩ : ByteArray) (⟨#[]⟩ : ByteArray) (⟨#[]⟩ : ByteArray) 0 (⟨#[]⟩ : ByteArray) (⟨#[]⟩ : ByteArray) (⟨#[]⟩ : ByteArray) 0 7 ([] : List ty25.D)) else (if (!(y27.toList == a0.toList)) = true then (k0 0 0 (⟨#[]⟩ : ByteArray) (⟨#[]⟩ : ByteArray) (⟨#[]⟩ : ByteArray) 0 (⟨#[]⟩ : ByteArray) (⟨#[]⟩ : ByteArray) (⟨#[]⟩ : ByteArray) 0 7 ([] : List ty25.D)) else (k0 y1 y2 y3 y4 y5 y6 y7 y8 y9 y10 0 y11)))))))
def words_Parse_F {R : Type} := lazyN (@words_Parse_Fi R)
theorem words_Parse_e : @words_Parse_F R = @words_Parse_Fi R := lazyN_eq _
def words_Parse_g (n : Nat) : Gx R := typed 1 words_Parse_d fun x k => words_Parse_F n x.1 (fun y0 y1 y2 y3 y4 y5 y6 y7 y8 y9 y10 y11 => k (.tu [(.ag [(.i .i64 y0), (.i .i64 y1), (.s y2), (.s y3), (.s y4), (.i .i64 y5), (.ow 0), (.s y6), (.s y7), (.s y8), (.i .i64 y9)]), (.c (.i .i64 y10))]) [(.arr 25 ty25 y11)])
def words_Parse_cs (R : Type) (n : Nat) : List (Nat × Gx R) := [(11, words_Line_g n), (17, strings_CutPrefix_g n), (20, words_guess_g n)]
def words_Parse_cx (R : Type) (n : Nat) : Cx R := ⟨Tryz.prog, Gof (words_Parse_cs R n), noDs, noDx, noLp, drawP Tryz.prog (Gof (words_Parse_cs R n)), false, noJn, noFz⟩
theorem words_Parse_ok [Esc R] (n : Nat) : Good Tryz.prog 10 (words_Parse_g (R := R) n) := by
  unfold words_Parse_g
  rw [words_Parse_e]
  exact Good.fn (f := 10) (cx := words_Parse_cx R n) (by kernel_rfl) (AllGood.cons (words_Line_ok n) (AllGood.cons (strings_CutPrefix_ok n) (AllGood.cons (words_guess_ok n) (AllGood.nil)))) rfl Tryz.func10 (by kernel_rfl) rfl trivial 1 words_Parse_d (by kernel_rfl) (fun x k => by kernel_rfl)
end
end Go.Proofs.YtcpimjekllkbkaaGreatDoor.E
set_option linter.unusedVariables false
set_option maxRecDepth 100000
namespace Go.Proofs.YtcpimjekllkbkaaGreatDoor.E
open Go.Proofs
noncomputable section
variable {R : Type}
/-! verderer/verdererlaw32.known: function 4 -/
@[reducible] def verdererlaw32_known_d : Desc := ⟨[], []⟩
def verdererlaw32_known_Fi (n : Nat) (k0 : Bool → Option R) : Option R :=
  words_Parse_F n (⟨#[105, 110, 115, 101, 114, 116, 32, 112, 111, 100, 32, 97, 32, 112, 32, 34, 119, 101, 98, 34, 32, 51, 32, 110, 117, 108, 108]⟩ : ByteArray) (fun y1 y2 y3 y4 y5 y6 y7 y8 y9 y10 y11 y12 => words_Line_F n (10, 5, ((⟨#[]⟩ : ByteArray), (⟨#[]⟩ : ByteArray), (⟨#[]⟩ : ByteArray), 0, [], ()), ((⟨#[97]⟩ : ByteArray), (⟨#[98]⟩ : ByteArray), ()), (⟨#[]⟩ : ByteArray), 0, ()) (fun y13 y14 => words_Parse_F n (⟨#[105, 110, 115, 101, 114, 116, 32, 112, 111, 100]⟩ : ByteArray) (fun y15 y16 y17 y18 y19 y20 y21 y22 y23 y24 y25 y26 => words_Back_F n (⟨#[49, 32, 34, 97, 32, 98, 34]⟩ : ByteArray) (fun y27 y28 => if (y11 == 0) = true then (if (y1 == 1) = true then (if ((y12.length : Int) == 3) = true then (if (y13.toList == (⟨#[116, 114, 121, 32, 109, 111, 118, 101, 32, 97, 32, 98]⟩ : ByteArray).toList) = true then (if (y14 == 0) = true then (if (y25 == 7) = true then (if ((y28.length : Int) == 2) = true then (k0 (y27 == 0)) else (k0 false)) else (k0 false)) else (k0 false)) else (k0 false)) else (k0 false)) else (k0 false)) else (k0 false)))))
def verdererlaw32_known_F {R : Type} := lazyN (@verdererlaw32_known_Fi R)
theorem verdererlaw32_known_e : @verdererlaw32_known_F R = @verdererlaw32_known_Fi R := lazyN_eq _
def verdererlaw32_known_g (n : Nat) : Gx R := typed 0 verdererlaw32_known_d fun x k => verdererlaw32_known_F n (fun y0 => k (.a (.c (.b y0))) [])
def verdererlaw32_known_cs (R : Type) (n : Nat) : List (Nat × Gx R) := [(7, words_Back_g n), (10, words_Parse_g n), (11, words_Line_g n)]
def verdererlaw32_known_cx (R : Type) (n : Nat) : Cx R := ⟨Tryz.prog, Gof (verdererlaw32_known_cs R n), noDs, noDx, noLp, drawP Tryz.prog (Gof (verdererlaw32_known_cs R n)), false, noJn, noFz⟩
theorem verdererlaw32_known_ok [Esc R] (n : Nat) : Good Tryz.prog 4 (verdererlaw32_known_g (R := R) n) := by
  unfold verdererlaw32_known_g
  rw [verdererlaw32_known_e]
  exact Good.fn (f := 4) (cx := verdererlaw32_known_cx R n) (by kernel_rfl) (AllGood.cons (words_Back_ok n) (AllGood.cons (words_Parse_ok n) (AllGood.cons (words_Line_ok n) (AllGood.nil)))) rfl Tryz.func4 (by kernel_rfl) rfl trivial 0 verdererlaw32_known_d (by kernel_rfl) (fun x k => by kernel_rfl)
end
end Go.Proofs.YtcpimjekllkbkaaGreatDoor.E
set_option linter.unusedVariables false
set_option maxRecDepth 100000
namespace Go.Proofs.YtcpimjekllkbkaaGreatDoor.E
open Go.Proofs
noncomputable section
variable {R : Type}
/-! verderer/verdererlaw32.WordsCells: function 3 -/
def verdererlaw32_WordsCells_ds : Nat → Desc
  | 4 => ⟨[(0, .d (.sl ty25)), (1, .d .str), (5, .d (.int .i64))], []⟩
  | _ => ⟨[], []⟩
def verdererlaw32_WordsCells_dx : Nat → List (X × Desc)
  | 4 => [(.r, ⟨[(4, .d .bool)], []⟩), (.e 0, ⟨[(0, .d (.sl ty25)), (1, .d .str)], []⟩)]
  | _ => []
def verdererlaw32_WordsCells_s4 (n : Nat) (x0 : (List ty25.D)) (x1 : ByteArray) (x2 : Int) (k1 : (List ty25.D) → ByteArray → Int → Option R) (qr : Bool → Option R) (qe0 : (List ty25.D) → ByteArray → Option R) : Option R :=
  if (decide (x2 < (x0.length : Int))) = true then (if (0 : Int) ≤ x2 ∧ x2 < (x0.length : Int) then (if (decide ((((x0.getD (Int.toNat x2) (Ty.z ty25)).2.2.2.1).size : Int) > 300)) = true then (verdererlaw32_known_F n (fun y3 => qr y3)) else (k1 x0 x1 (IntKind.i64.wrap (x2 + 1)))) else none) else (qe0 x0 x1)
def verdererlaw32_WordsCells_l4 (n : Nat) (a : (verdererlaw32_WordsCells_ds 4).D) (k1 : (verdererlaw32_WordsCells_ds 4).D → Option R) (k2 : exK R (verdererlaw32_WordsCells_dx 4)) : Option R :=
  verdererlaw32_WordsCells_s4 n a.1 a.2.1 a.2.2.1 (fun x0 x1 x2 => k1 (x0, x1, x2, ())) (fun x0 => k2.1 (x0, ())) (fun x0 x1 => k2.2.1 (x0, x1, ()))
@[reducible] def verdererlaw32_WordsCells_d : Desc := ⟨[(0, .d (.sl ty25)), (1, .d .str)], []⟩
def verdererlaw32_WordsCells_Fi (n : Nat) (a0 : (List ty25.D)) (a1 : ByteArray) (k0 : Bool → Option R) : Option R :=
  if (decide ((a0.length : Int) > 60)) = true then (verdererlaw32_known_F n (fun y1 => k0 y1)) else (if (decide ((a1.size : Int) > 1000)) = true then (verdererlaw32_known_F n (fun y2 => k0 y2)) else (runC (verdererlaw32_WordsCells_l4 n) n (a0, a1, 0, ()) (fun b4 => k0 b4.1, fun b6 => words_Cells_F n b6.1 (fun y7 y8 => verdererref32_Cells_F n b6.1 (fun y9 y10 => words_Back_F n b6.2.1 (fun y11 y12 => verdererref32_Back_F n b6.2.1 (fun y13 y14 => if (!(y7.toList == y9.toList)) = true then (k0 false) else (if (y8 != y10) = true then (k0 false) else (verdererref02_Equal_F n y12 y14 (fun y15 => if (!y15) = true then (k0 false) else (if (y11 != y13) = true then (k0 false) else (if (y10 != 0) = true then (verdererlaw32_known_F n (fun y16 => k0 y16)) else (words_Back_F n y7 (fun y17 y18 => verdererref02_Equal_F n y18 b6.1 (fun y19 => if y19 = true then (if (y17 == 0) = true then (verdererlaw32_known_F n (fun y20 => k0 y20)) else (k0 false)) else (k0 false))))))))))))), ())))
def verdererlaw32_WordsCells_F {R : Type} := lazyN (@verdererlaw32_WordsCells_Fi R)
theorem verdererlaw32_WordsCells_e : @verdererlaw32_WordsCells_F R = @verdererlaw32_WordsCells_Fi R := lazyN_eq _
def verdererlaw32_WordsCells_g (n : Nat) : Gx R := typed 2 verdererlaw32_WordsCells_d fun x k => verdererlaw32_WordsCells_F n x.1 x.2.1 (fun y0 => k (.a (.c (.b y0))) [])
def verdererlaw32_WordsCells_cs (R : Type) (n : Nat) : List (Nat × Gx R) := [(4, verdererlaw32_known_g n), (5, words_Cells_g n), (6, verdererref32_Cells_g n), (7, words_Back_g n), (8, verdererref32_Back_g n), (9, verdererref02_Equal_g n)]
def verdererlaw32_WordsCells_lp (n : Nat) : (i : Nat) → (verdererlaw32_WordsCells_ds i).D → exK R (verdererlaw32_WordsCells_dx i) → Option R
  | 4, a, k => runC (verdererlaw32_WordsCells_l4 n) n a k
  | _, _, _ => none
def verdererlaw32_WordsCells_cx (R : Type) (n : Nat) : Cx R := ⟨Tryz.prog, Gof (verdererlaw32_WordsCells_cs R n), verdererlaw32_WordsCells_ds, verdererlaw32_WordsCells_dx, verdererlaw32_WordsCells_lp n, drawP Tryz.prog (Gof (verdererlaw32_WordsCells_cs R n)), false, noJn, noFz⟩
theorem verdererlaw32_WordsCells_ok [Esc R] (n : Nat) : Good Tryz.prog 3 (verdererlaw32_WordsCells_g (R := R) n) := by
  unfold verdererlaw32_WordsCells_g
  rw [verdererlaw32_WordsCells_e]
  exact Good.fn (f := 3) (cx := verdererlaw32_WordsCells_cx R n) (by kernel_rfl) (AllGood.cons (verdererlaw32_known_ok n) (AllGood.cons (words_Cells_ok n) (AllGood.cons (verdererref32_Cells_ok n) (AllGood.cons (words_Back_ok n) (AllGood.cons (verdererref32_Back_ok n) (AllGood.cons (verdererref02_Equal_ok n) (AllGood.nil))))))) rfl Tryz.func3 (by kernel_rfl) rfl (by
    have e : fnLoops noJn Tryz.f3 = [((fnLoops noJn Tryz.f3)[0]?).getD (false, .skip)] := by kernel_rfl
    show LoopRuns _ _ (fnLoops noJn _)
    rw [e]
    exact ⟨LoopRun.loop (by kernel_rfl) (i := 4) (m := n) (step := verdererlaw32_WordsCells_l4 n) (by kernel_rfl) (fun a k1 k2 => by kernel_rfl) (fun _ _ => rfl), trivial⟩) 2 verdererlaw32_WordsCells_d (by kernel_rfl) (fun x k => by kernel_rfl)
end
end Go.Proofs.YtcpimjekllkbkaaGreatDoor.E
namespace Go.Proofs.YtcpimjekllkbkaaGreatDoor.E
open Go.RowKit
/-! # 15. From the form's reading of an argument to data, and from a function's row to its calls -/
/-- what a reading pays -/
def Fine : (t : Ty) → t.D → Prop
  | .bool, _ => True
  | .int k, n => (Lit.int k n).wf = true
  | .str, s => s.size ≤ 9223372036854775807
  | .sl e, l => l.length ≤ 9223372036854775807 ∧ ∀ x ∈ l, Fine e x
  | .pr a b, x => Fine a x.1 ∧ Fine b x.2
  | .un, _ => True
def chkF (q : Nat → Ty → Bool) (P : Program) : List Field → Nat → Ty → Bool
  | f :: fs, off, .pr a b => Nat.beq f.offset off && q f.type a && Nat.beq (P.cellsOf f.type) a.sz && chkF q P fs (off + a.sz) b
  | [], _, .un => true
  | _, _, _ => false
def chkTy (P : Program) : Nat → Nat → Ty → Bool
  | 0, _, _ => false
  | d + 1, t, ty => match P.underlying t, ty with
    | some .bool, .bool => true
    | some (.int k), .int k' => decide (k = k')
    | some .string, .str => true
    | some (.slice e), .sl x => chkTy P d e x && Nat.beq (P.cellsOf e) x.sz && Nat.blt 0 x.sz
    | some (.struct fs), ty => chkF (chkTy P d) P fs.toList 0 ty && Nat.beq (P.cellsOf t) ty.sz
    | _, _ => false
theorem mapM_mem {α β : Type} {f : α → Option β} : ∀ {l : List α} {r : List β}, l.mapM f = some r → r.length = l.length ∧ ∀ (i : Nat) (a : α), l[i]? = some a → ∃ b, r[i]? = some b ∧ f a = some b
  | [], r, h => by
    simp only [List.mapM_nil] at h
    injection h with h
    subst h
    exact ⟨rfl, fun i a ha => by simp at ha⟩
  | x :: l, r, h => by
    simp only [List.mapM_cons, Option.bind_eq_bind] at h
    obtain ⟨b, hb, h⟩ := Option.bind_eq_some_iff.1 h
    obtain ⟨bs, hbs, h⟩ := Option.bind_eq_some_iff.1 h
    injection h with h
    subst h
    obtain ⟨hl, hi⟩ := mapM_mem hbs
    refine ⟨by simp [hl], fun i a ha => ?_⟩
    cases i with
    | zero => simp at ha; subst ha; exact ⟨b, rfl, hb⟩
    | succ i => simpa using hi i a (by simpa using ha)
theorem exists_list {α : Type} (Q : Nat → α → Prop) : ∀ n, (∀ i, i < n → ∃ x, Q i x) → ∃ l : List α, l.length = n ∧ ∀ i x, l[i]? = some x → Q i x
  | 0, _ => ⟨[], rfl, fun i x h => by simp at h⟩
  | n + 1, h => by
    obtain ⟨l, hl, hq⟩ := exists_list Q n (fun i hi => h i (by omega))
    obtain ⟨x, hx⟩ := h n (by omega)
    refine ⟨l ++ [x], by simp [hl], fun i y hy => ?_⟩
    rcases Nat.lt_or_ge i l.length with hi | hi
    · rw [List.getElem?_append_left hi] at hy; exact hq i y hy
    · rw [List.getElem?_append_right hi] at hy
      have : i - l.length = 0 := by
        rcases Nat.eq_zero_or_pos (i - l.length) with h0 | h0
        · exact h0
        · rw [List.getElem?_eq_none (by simp; omega)] at hy; cases hy
      rw [this] at hy
      simp at hy
      subst hy
      have : i = n := by omega
      rw [this]; exact hx
theorem cells_at {w : World} {base : Nat} {a : Addr} {n : Nat} {cs : List Value} (h : w.cells? base a n = some cs) : cs.length = n ∧ ∀ i u, cs[i]? = some u → w.cell? (a.add i) = some u := by
  unfold World.cells? at h
  split at h
  · obtain ⟨hl, hi⟩ := mapM_mem h
    simp only [List.length_range] at hl
    refine ⟨hl, fun i u hu => ?_⟩
    have hlt : i < n := by rw [← hl]; exact (List.getElem?_eq_some_iff.1 hu).1
    obtain ⟨b, hb, hc⟩ := hi i i (by rw [List.getElem?_range hlt])
    rw [hu] at hb
    injection hb with hb
    subst hb
    exact hc
  · cases h
theorem add_add (a : Addr) (i j : Nat) : (a.add i).add j = a.add (i + j) := by
  unfold Addr.add
  by_cases hi : i = 0
  · subst hi; simp
  · by_cases hj : j = 0
    · subst hj; simp [hi]
    · simp [hi, hj, Nat.add_assoc]
theorem cell_spot {w : World} {a : Addr} {u : Value} (h : w.cell? a = some u) : a.spot = none ∧ a.block < w.heap.size := by
  unfold World.cell? at h
  split at h
  · rename_i c e f hb
    split at h
    · cases h
    · rename_i hs
      refine ⟨?_, (Array.getElem?_eq_some_iff.1 hb).1⟩
      cases hsp : a.spot with
      | none => rfl
      | some _ => rw [hsp] at hs; simp at hs
  · cases h
/-- whatever reads at a type is data of it, and good -/
theorem trod_chk {P : Program} : ∀ (d t : Nat) (ty : Ty), chkTy P d t ty = true → ∀ (H : Type) (enc : TypeId × Value → H) (w : World) (sp : Nat → Bool) (fuel : Nat) (cs : List Value) (y : DataW H × List MemPlace),
    DataW.trod enc P w 0 sp true fuel t cs = some y → ∃ x : ty.D, DRep w (fun b => b < w.heap.size) ty x cs ∧ Fine ty x
  | 0, _, _, h => by cases h
  | d + 1, t, ty, h => by
    intro H enc w sp fuel cs y hy
    simp only [chkTy] at h
    split at h
    · rename_i hu
      obtain ⟨n, rfl, _⟩ := DataW.trod_bool hu hy
      exact ⟨n, rfl, trivial⟩
    · rename_i k k' hu
      have : k = k' := by simpa using h
      subst this
      obtain ⟨n, rfl, _, hw⟩ := DataW.trod_int hu hy
      exact ⟨n, rfl, hw⟩
    · rename_i hu
      obtain ⟨s, rfl, _, hs⟩ := DataW.trod_string hu hy
      exact ⟨s, rfl, by unfold maxLen at hs; exact hs⟩
    · rename_i e x hu
      simp only [Bool.and_eq_true] at h
      obtain ⟨⟨h1, h2⟩, h3⟩ := h
      have hs := Nat.eq_of_beq_eq_true h2
      have hpos : 0 < x.sz := Nat.le_of_ble_eq_true h3
      rcases DataW.trod_slice hu hy with ⟨rfl, _⟩ | ⟨a, len, cap, elems, rest, n, _, rfl, _, _, hlc, hcm, hel, hi, _⟩
      · exact ⟨[], ⟨none, 0, rfl, ⟨Nat.le_refl _, fun _ => rfl⟩, fun i hi => by simp at hi⟩, by simp [Fine]⟩
      · obtain ⟨l, hl, hq⟩ := exists_list (fun i (v : x.D) => (∃ c, c.length = x.sz ∧ DRep w (fun b => b < w.heap.size) x v c ∧ ∀ j u, c[j]? = some u → w.cell? (a.add (i * x.sz + j)) = some u) ∧ Fine x v) len (fun i hlt => by
          have hb := hi i hlt
          obtain ⟨z, hz⟩ : ∃ z, elems[i]? = some z := ⟨elems[i]'(by omega), List.getElem?_eq_getElem _⟩
          rw [hz] at hb
          obtain ⟨c, hc, hz'⟩ := Option.bind_eq_some_iff.1 hb
          obtain ⟨v, hK, hG⟩ := trod_chk d e x h1 H enc w sp n c z hz'
          obtain ⟨hcl, hcell⟩ := cells_at hc
          refine ⟨v, ⟨c, by rw [hcl, hs], hK, fun j u hu => ?_⟩, hG⟩
          have := hcell j u hu
          rw [hs, add_add] at this
          exact this)
        refine ⟨l, ⟨some a, cap, by rw [hl], ⟨by omega, fun h => by cases h⟩, fun i hi => ?_⟩, by unfold maxLen at hcm; omega, fun v hv => ?_⟩
        · obtain ⟨⟨c, hcl, hK, hcell⟩, _⟩ := hq i _ (List.getElem?_eq_getElem hi)
          obtain ⟨⟨c0, hcl0, _, hcell0⟩, _⟩ := hq 0 _ (List.getElem?_eq_getElem (by omega))
          have h0 := hcell0 0 (c0[0]'(by omega)) (List.getElem?_eq_getElem _)
          have ha0 : a.add (0 * x.sz + 0) = a := by simp [Addr.add]
          rw [ha0] at h0
          obtain ⟨sp1, sp2⟩ := cell_spot h0
          obtain ⟨b, o, s⟩ := a
          simp only at sp1 sp2
          subst sp1
          refine ⟨b, o, c, rfl, sp2, fun j u hu => ?_, hK⟩
          have := hcell j u hu
          rw [Addr.add_mid] at this
          rw [← this, Nat.add_assoc]
        · obtain ⟨j, hj⟩ := List.getElem?_of_mem hv
          exact (hq j v hj).2
    · rename_i fs hu
      simp only [Bool.and_eq_true] at h
      obtain ⟨h1, h2⟩ := h
      have hsz := Nat.eq_of_beq_eq_true h2
      obtain ⟨xs, n, _, _, hl, hx, hi⟩ := DataW.trod_struct hu hy
      have each : ∀ f ∈ fs.toList, ∃ y, DataW.trod enc P w 0 sp true n f.type ((cs.drop f.offset).take (P.cellsOf f.type)) = some y := by
        intro f hf
        obtain ⟨i, hf⟩ := List.getElem?_of_mem hf
        have hlt : i < fs.size := by have := (List.getElem?_eq_some_iff.1 hf).1; simpa using this
        have := hi i f (by simpa using hf)
        rw [List.getElem?_eq_getElem (by omega)] at this
        exact ⟨_, this⟩
      have key : ∀ (l : List Field) (off : Nat) (ty : Ty), chkF (chkTy P d) P l off ty = true → (∀ f ∈ l, ∃ y, DataW.trod enc P w 0 sp true n f.type ((cs.drop f.offset).take (P.cellsOf f.type)) = some y) →
          ∃ x : ty.D, DRep w (fun b => b < w.heap.size) ty x ((cs.drop off).take ty.sz) ∧ Fine ty x := by
        intro l
        induction l with
        | nil =>
          intro off ty h _
          cases ty <;> first | cases h | skip
          exact ⟨(), by simp [DRep, Ty.sz], trivial⟩
        | cons f l ih =>
          intro off ty h hf
          cases ty with
          | pr a b =>
            simp only [chkF, Bool.and_eq_true] at h
            obtain ⟨⟨⟨g1, g2⟩, g3⟩, g4⟩ := h
            have e1 := Nat.eq_of_beq_eq_true g1
            have e3 := Nat.eq_of_beq_eq_true g3
            obtain ⟨y1, hy1⟩ := hf f (by simp)
            rw [e1, e3] at hy1
            obtain ⟨x1, k1, f1⟩ := trod_chk d f.type a g2 H enc w sp n _ y1 hy1
            obtain ⟨x2, k2, f2⟩ := ih (off + a.sz) b g4 fun f hm => hf f (List.mem_cons_of_mem _ hm)
            refine ⟨(x1, x2), ⟨_, _, ?_, k1, k2⟩, f1, f2⟩
            show (cs.drop off).take (a.sz + b.sz) = _
            rw [List.take_add, List.drop_drop]
          | _ => cases h
      obtain ⟨x, hk, hg⟩ := key fs.toList 0 _ h1 each
      refine ⟨x, ?_, hg⟩
      rw [List.drop_zero, List.take_of_length_le (by omega)] at hk
      exact hk
    · cases h
section
variable {P : Program} {w : World} {F : Nat → Prop}
theorem repA_row (a b : Ty) {x : (Ty.pr a b).D} {cs : List Value} (h : DRep w F (.pr a b) x cs) : RepA w F [] (.agg cs.toArray) (encA (.pr a b) x) :=
  ⟨_, rfl, enc_rep h⟩
def LayW (W : World) : Prop := LayC W ∧ ∀ g ∈ layG, g < W.heap.size
/-- where no panic may be -/
instance escU : Esc Unit := ⟨fun _ => none⟩
/-- a law: it comes to true, and leaves all that there was -/
theorem law_calls {f : Nat} {g : Gx Unit} (h : Good P f g) {fn : Func} (hf : P.funcs[f]? = some fn) (hname : (fn.name == "runtime.NumGoroutine") = false) (hb : fn.body.isSome = true) {args : List A} {vs : List Value} {W : World} (ha : All2 (RepA W (fun b => b < W.heap.size) []) vs args)
    (ht : g args [] (fun x _ => match x with | .a (.c (.b b)) => (bif b then some () else none) | _ => none) = some ()) (hl : LayW W := by exact ⟨trivial, fun g hg => by cases hg⟩) : Calls P f vs.toArray W fun e W' => e = .returned (.bool true) ∧ Below W.heap.size W W' := by
  have hd := h.1 args [] _ () ht vs W _ [] (Inv.nil (fun _ h => h) hl.1 hl.2) ha
  rcases hd with ⟨_, hd⟩ | ⟨v, hd, _⟩
  rotate_left
  · have h1 : ¬ fn.name = "runtime.NumGoroutine" := by simpa using hname
    have h2 : ¬ fn.body = none := by intro e; rw [e] at hb; cases hb
    simp [callFunc, hf, h1, h2, Sem.run_pure] at hd
  refine hd.mono ?_
  rintro e W' (⟨x, HN, v, F', hvN, hk, rfl, iN, hx⟩ | ⟨pv, rfl, hp, _⟩)
  rotate_left
  · cases hp
  have hv : v = .bool true := by
    split at hk
    · rename_i b
      cases b with
      | true => exact hx
      | false => cases hk
    · cases hk
  subst hv
  exact ⟨rfl, iN.os, iN.tape, iN.output, iN.size, fun k hk => iN.old k hk noU⟩
end
end Go.Proofs.YtcpimjekllkbkaaGreatDoor.E
namespace Go.Proofs.YtcpimjekllkbkaaGreatDoor.E
open Go.RowKit
/-! # 16. Plain lemmas -/
theorem wrap_i64 {x : Int} (h1 : -9223372036854775808 ≤ x) (h2 : x < 9223372036854775808) : IntKind.i64.wrap x = x := by
  simp [IntKind.wrap, IntKind.bits, IntKind.signed]
  split <;> omega
theorem wrap_succ (i : Nat) (h : i < 9223372036854775807) : IntKind.i64.wrap ((i : Int) + 1) = ((i + 1 : Nat) : Int) := by
  rw [wrap_i64 (by omega) (by omega)]
  rfl
theorem runC_st {α β R : Type} {step : α → (α → Option R) → β → Option R} (k : β) (r : Option R) (st : Nat → α) (m : Nat)
    (hs : ∀ i, i < m → (∀ k1, step (st i) k1 k = k1 (st (i + 1))) ∨ ∀ k1, step (st i) k1 k = r) (he : ∀ k1, step (st m) k1 k = r) {n : Nat} (hn : m < n) : runC step n (st 0) k = r := by
  have go : ∀ (d i n : Nat), i + d = m → d < n → runC step n (st i) k = r := by
    intro d
    induction d with
    | zero =>
      intro i n hi hn
      obtain ⟨n, rfl⟩ : ∃ q, n = q + 1 := ⟨n - 1, by omega⟩
      have : i = m := by omega
      subst this
      exact he _
    | succ d ih =>
      intro i n hi hn
      obtain ⟨n, rfl⟩ : ∃ q, n = q + 1 := ⟨n - 1, by omega⟩
      rcases hs i (by omega) with h | h
      · exact (h _).trans (ih (i + 1) n (by omega) (by omega))
      · exact h _
  exact go m 0 n (by omega) hn
theorem runC_up {α β R : Type} {step : α → (α → Option R) → β → Option R} (k : β) (r : Option R) (I : Nat → α → Prop) (m : Nat)
    (hs : ∀ i a, i < m → I i a → (∃ a', I (i + 1) a' ∧ ∀ k1, step a k1 k = k1 a') ∨ ∀ k1, step a k1 k = r) (he : ∀ a, I m a → ∀ k1, step a k1 k = r) {n : Nat} {a : α} (hn : m < n) (ha : I 0 a) : runC step n a k = r := by
  have go : ∀ (d i n : Nat) (a : α), i + d = m → d < n → I i a → runC step n a k = r := by
    intro d
    induction d with
    | zero =>
      intro i n a hi hn ha
      obtain ⟨n, rfl⟩ : ∃ q, n = q + 1 := ⟨n - 1, by omega⟩
      have : i = m := by omega
      subst this
      exact he a ha _
    | succ d ih =>
      intro i n a hi hn ha
      obtain ⟨n, rfl⟩ : ∃ q, n = q + 1 := ⟨n - 1, by omega⟩
      rcases hs i a (by omega) ha with ⟨a', h1, h2⟩ | h
      · exact (h2 _).trans (ih (i + 1) n a' (by omega) (by omega) h1)
      · exact h _
  exact go m 0 n a (by omega) hn ha
theorem runC_ex {α β γ R : Type} {step : α → (α → Option R) → β → Option R} (out : γ → β → Option R) (Q : Nat → γ → Prop) (st : Nat → α) (m : Nat)
    (hs : ∀ i, i < m → ((∀ k1 k2, step (st i) k1 k2 = k1 (st (i + 1))) ∧ ∀ y, Q (i + 1) y → Q i y) ∨ ∃ y, Q i y ∧ ∀ k1 k2, step (st i) k1 k2 = out y k2)
    (he : ∃ y, Q m y ∧ ∀ k1 k2, step (st m) k1 k2 = out y k2) {n : Nat} (hn : m < n) : ∃ y, Q 0 y ∧ ∀ k2, runC step n (st 0) k2 = out y k2 := by
  have go : ∀ (d i n : Nat), i + d = m → d < n → ∃ y, Q i y ∧ ∀ k2, runC step n (st i) k2 = out y k2 := by
    intro d
    induction d with
    | zero =>
      intro i n hi hn
      obtain ⟨n, rfl⟩ : ∃ q, n = q + 1 := ⟨n - 1, by omega⟩
      have : i = m := by omega
      subst this
      obtain ⟨y, h1, h2⟩ := he
      exact ⟨y, h1, fun k2 => h2 _ k2⟩
    | succ d ih =>
      intro i n hi hn
      obtain ⟨n, rfl⟩ : ∃ q, n = q + 1 := ⟨n - 1, by omega⟩
      rcases hs i (by omega) with ⟨h1, h2⟩ | ⟨y, h1, h2⟩
      · obtain ⟨y, h3, h4⟩ := ih (i + 1) n (by omega) (by omega)
        exact ⟨y, h2 y h3, fun k2 => (h1 _ k2).trans (h4 k2)⟩
      · exact ⟨y, h1, fun k2 => h2 _ k2⟩
  exact go m 0 n (by omega) hn
theorem beqB (a b : ByteArray) : (a.toList == b.toList) = decide (a = b) := by
  rw [← beq_toListBytes]
  by_cases h : a = b
  · subst h; simpa using (MapKept.bytes_beq a a).2 rfl
  · rw [decide_eq_false h]
    cases e : (a == b) with
    | false => rfl
    | true => exact absurd ((MapKept.bytes_beq a b).1 e) h
instance decMem (s : ByteArray) (l : List ByteArray) : Decidable (s ∈ l) := decidable_of_iff (l.any (fun y => decide (y = s)) = true) (by simp)
theorem getD_nat {α : Type} (l : List α) (i : Nat) (h : i < l.length) (z : α) : l.getD i z = l[i] := by
  rw [List.getD_eq_getElem?_getD, List.getElem?_eq_getElem h]
  rfl
theorem in_nat {i m : Nat} (h : i < m) : (0 ≤ (i : Int) ∧ (i : Int) < (m : Int)) = True := by simp; omega
theorem lt_nat {i m : Nat} : (decide ((i : Int) < (m : Int))) = decide (i < m) := by simp
theorem take_snoc {α : Type} (l : List α) (i : Nat) (h : i < l.length) : l.take (i + 1) = l.take i ++ [l[i]] := by
  rw [List.take_add_one, List.getElem?_eq_getElem h]
  rfl
end Go.Proofs.YtcpimjekllkbkaaGreatDoor.E
namespace Go.Proofs.YtcpimjekllkbkaaGreatDoor.E
open Go.RowKit
variable {R : Type}
/-! numbers and texts as words: what the document's layer 1 answers -/
theorem ba_eq {s t : ByteArray} (h : s.data.toList = t.data.toList) : s = t := ByteArray.ext (Array.toList_inj.1 h)
theorem ba_size (s : ByteArray) : s.size = s.data.toList.length := by simp
theorem mk_sz (l : List UInt8) : (⟨l.toArray⟩ : ByteArray).size = l.length := by show l.toArray.size = _; simp
theorem u64w (x : Int) (h0 : 0 ≤ x) (h1 : x < 18446744073709551616) : IntKind.u64.wrap x = x := by
  simp only [IntKind.wrap, IntKind.bits, IntKind.signed]
  simp
  omega
theorem u8w (x : Int) (h0 : 0 ≤ x) (h1 : x < 256) : IntKind.u8.wrap x = x := by
  simp only [IntKind.wrap, IntKind.bits, IntKind.signed]
  simp
  omega
theorem u64n (x : Nat) (h0 : 1 ≤ x) (h1 : x ≤ 9223372036854775808) : IntKind.u64.wrap (0 - (IntKind.u64.wrap (-(x : Int)))) = x := by
  simp only [IntKind.wrap, IntKind.bits, IntKind.signed]
  simp
  omega
def dval (acc : Nat) : List UInt8 → Nat
  | [] => acc
  | c :: r => dval (acc * 10 + (c.toNat - 48)) r
def dig (c : UInt8) : Prop := 48 ≤ c.toNat ∧ c.toNat ≤ 57
theorem dval_le : ∀ (l : List UInt8) (acc : Nat), acc ≤ dval acc l
  | [], _ => Nat.le_refl _
  | c :: r, acc => Nat.le_trans (by omega) (dval_le r (acc * 10 + (c.toNat - 48)))
theorem dval_app : ∀ (l m : List UInt8) (acc : Nat), dval acc (l ++ m) = dval (dval acc l) m
  | [], _, _ => rfl
  | c :: r, m, acc => dval_app r m _
theorem dec_dig (u : Nat) : ∀ c ∈ Lib.decDigits u, dig c := by
  induction u using Nat.strongRecOn with
  | _ u ih =>
    rw [Lib.decDigits]
    have h8 : ∀ j, j < 10 → dig (UInt8.ofNat (48 + j)) := by unfold dig; decide
    split
    · rename_i h
      intro c hc
      rw [List.mem_singleton] at hc; subst hc; exact h8 u h
    · rename_i h
      intro c hc
      rcases List.mem_append.1 hc with hc | hc
      · exact ih (u / 10) (by omega) c hc
      · rw [List.mem_singleton] at hc; subst hc; exact h8 (u % 10) (by omega)
theorem dval_dec (u : Nat) : dval 0 (Lib.decDigits u) = u := by
  induction u using Nat.strongRecOn with
  | _ u ih =>
    have h8 : ∀ j, j < 10 → (UInt8.ofNat (48 + j)).toNat = 48 + j := by decide
    rw [Lib.decDigits]
    split
    · rename_i h
      show 0 * 10 + ((UInt8.ofNat (48 + u)).toNat - 48) = u
      rw [h8 u h]; omega
    · rename_i h
      rw [dval_app, ih (u / 10) (by omega)]
      show u / 10 * 10 + ((UInt8.ofNat (48 + u % 10)).toNat - 48) = u
      rw [h8 (u % 10) (by omega)]; omega
theorem dec_ne (u : Nat) : Lib.decDigits u ≠ [] := by
  rw [Lib.decDigits]; split <;> simp
theorem dig_one (d : Nat) (h : d < 10) : (⟨#[48, 49, 50, 51, 52, 53, 54, 55, 56, 57]⟩ : ByteArray).extract d (d + 1) = ⟨#[UInt8.ofNat (48 + d)]⟩ := by
  have : ∀ d : Fin 10, ((⟨#[48, 49, 50, 51, 52, 53, 54, 55, 56, 57]⟩ : ByteArray).extract d.val (d.val + 1)).data.toList = [UInt8.ofNat (48 + d.val)] := by decide +kernel
  exact ba_eq (this ⟨d, h⟩)
theorem dig_step (n u : Nat) (acc : ByteArray) (i : Nat) (hu : u < 18446744073709551616) (hi : i < 20) (h0 : i = 0 ∨ 0 < u) (ha : acc.size ≤ i) (k1 : (verdererref01_digits_ds 3).D → Option R) (k2 : exK R (verdererref01_digits_dx 3)) :
    verdererref01_digits_l3 n ((u : Int), acc, (i : Int), ()) k1 k2 = k1 (((u / 10 : Nat) : Int), (⟨#[UInt8.ofNat (48 + u % 10)]⟩ ++ acc : ByteArray), ((i + 1 : Nat) : Int), ()) := by
  have e1 : Int.tmod (u : Int) 10 = ((u % 10 : Nat) : Int) := by rw [Int.tmod_eq_emod_of_nonneg (by omega)]; omega
  have e2 : Int.tdiv (u : Int) 10 = ((u / 10 : Nat) : Int) := by rw [Int.tdiv_eq_ediv_of_nonneg (by omega)]; omega
  have e3 : IntKind.u64.wrap (((u % 10 : Nat) : Int) + 1) = ((u % 10 + 1 : Nat) : Int) := by rw [u64w _ (by omega) (by omega)]; omega
  have e4 : IntKind.u64.wrap ((u / 10 : Nat) : Int) = ((u / 10 : Nat) : Int) := u64w _ (by omega) (by omega)
  have s0 : (⟨#[48, 49, 50, 51, 52, 53, 54, 55, 56, 57]⟩ : ByteArray).size = 10 := rfl
  have s1 : (⟨#[UInt8.ofNat (48 + u % 10)]⟩ : ByteArray).size = 1 := rfl
  have c1 : ((i : Int) < 20) := by omega
  have c2 : (0 : Int) ≤ ((u % 10 + 1 : Nat) : Int) ∧ ((u % 10 + 1 : Nat) : Int) ≤ ((10 : Nat) : Int) := by omega
  have c3 : (0 : Int) ≤ ((u % 10 : Nat) : Int) ∧ ((u % 10 : Nat) : Int) ≤ ((u % 10 + 1 : Nat) : Int) := by omega
  have c4 : 1 + acc.size ≤ 9223372036854775807 := by omega
  simp only [verdererref01_digits_l3, verdererref01_digits_s3, e1, e2, e3, e4, wrap_succ i (by omega), Int.toNat_natCast, dig_one (u % 10) (by omega), s0, s1, c1, c2, c3, c4, decide_true, if_true, and_self]
  by_cases hz : i = 0
  · have : ((i : Int) == 0) = true := by simp [hz]
    rw [if_pos this]
  · have : ((i : Int) == 0) = false := by simp [hz]
    have hp : (u : Int) > 0 := by omega
    rw [if_neg (by rw [this]; decide), if_pos (decide_eq_true hp)]
theorem dig_end (n : Nat) (acc : ByteArray) (i : Nat) (hi : 1 ≤ i) (k1 : (verdererref01_digits_ds 3).D → Option R) (k2 : exK R (verdererref01_digits_dx 3)) : verdererref01_digits_l3 n ((0 : Int), acc, (i : Int), ()) k1 k2 = k2.1 (acc, ()) := by
  simp only [verdererref01_digits_l3, verdererref01_digits_s3]
  by_cases h : (i : Int) < 20
  · have : ((i : Int) == 0) = false := by simp; omega
    rw [if_pos (decide_eq_true h), if_neg (by rw [this]; decide), if_neg (by simp)]
  · rw [if_neg (by simpa using h)]
theorem digits_l (k2 : exK R (verdererref01_digits_dx 3)) (n : Nat) : ∀ (j u : Nat) (acc : ByteArray) (m i : Nat), 1 ≤ j → i + j = 20 → u < 10 ^ j → u < 18446744073709551616 → (i = 0 ∨ 0 < u) → acc.size ≤ i → j < m →
    runC (verdererref01_digits_l3 n) m ((u : Int), acc, (i : Int), ()) k2 = k2.1 ((⟨(Lib.decDigits u).toArray⟩ ++ acc : ByteArray), ())
  | 0, u, acc, m, i, h, _, _, _, _, _, _ => by omega
  | j + 1, u, acc, m, i, _, hij, hp, hu, h0, ha, hm => by
    obtain ⟨m, rfl⟩ : ∃ q, m = q + 1 := ⟨m - 1, by omega⟩
    show verdererref01_digits_l3 n ((u : Int), acc, (i : Int), ()) (fun b => runC (verdererref01_digits_l3 n) m b k2) k2 = _
    rw [dig_step n u acc i hu (by omega) h0 ha]
    by_cases hz : u / 10 = 0
    · obtain ⟨m, rfl⟩ : ∃ q, m = q + 1 := ⟨m - 1, by omega⟩
      rw [hz]
      show verdererref01_digits_l3 n ((0 : Int), _, ((i + 1 : Nat) : Int), ()) (fun b => runC (verdererref01_digits_l3 n) m b k2) k2 = _
      rw [dig_end n _ (i + 1) (by omega), Lib.decDigits, dif_pos (by omega), show u % 10 = u by omega]
    · have hj : 1 ≤ j := by
        rcases Nat.eq_zero_or_pos j with e | e
        · subst e; simp at hp; omega
        · exact e
      rw [digits_l k2 n j (u / 10) _ m (i + 1) hj (by omega) (by rw [Nat.pow_succ] at hp; omega) (by omega) (Or.inr (by omega)) (by
        have : (⟨#[UInt8.ofNat (48 + u % 10)]⟩ ++ acc : ByteArray).size = 1 + acc.size := by rw [ByteArray.size_append]; rfl
        omega) (by omega)]
      have : Lib.decDigits u = Lib.decDigits (u / 10) ++ [UInt8.ofNat (48 + u % 10)] := by
        conv => lhs; rw [Lib.decDigits]
        rw [dif_neg (by omega)]
      have e2 : (⟨(Lib.decDigits (u / 10)).toArray⟩ ++ (⟨#[UInt8.ofNat (48 + u % 10)]⟩ ++ acc) : ByteArray) = ⟨(Lib.decDigits (u / 10) ++ [UInt8.ofNat (48 + u % 10)]).toArray⟩ ++ acc := by
        apply ByteArray.ext
        simp
      rw [this, e2]
theorem digits_F (n u : Nat) (hu : u < 18446744073709551616) (hn : 20 < n) (k : ByteArray → Option R) : verdererref01_digits_F n (u : Int) k = k ⟨(Lib.decDigits u).toArray⟩ := by
  rw [verdererref01_digits_e]
  unfold verdererref01_digits_Fi
  have := digits_l (R := R) (fun b1 => k b1.1, ()) n 20 u ⟨#[]⟩ n 0 (by omega) (by omega) (by omega) hu (Or.inl rfl) (by decide) (by omega)
  refine this.trans ?_
  have e2 : (⟨(Lib.decDigits u).toArray⟩ ++ ⟨#[]⟩ : ByteArray) = ⟨(Lib.decDigits u).toArray⟩ := by
    apply ByteArray.ext
    simp
  simp only [e2]
theorem nd_le : ∀ (k u : Nat), 1 ≤ k → u < 10 ^ k → Lib.nDigits u ≤ k
  | 0, _, h, _ => by omega
  | k + 1, u, _, hu => by
    rw [Lib.nDigits]
    split
    · omega
    · rename_i h
      have hk : 1 ≤ k := by
        rcases Nat.eq_zero_or_pos k with e | e
        · subst e; simp at hu; omega
        · exact e
      have := nd_le k (u / 10) hk (by rw [Nat.pow_succ] at hu; omega)
      omega
/-- a number of 64 bits -/
def inR (x : Int) : Prop := -9223372036854775808 ≤ x ∧ x ≤ 9223372036854775807
/-- a number as a word -/
def numS (x : Int) : ByteArray := ⟨(Lib.itoa x).toArray⟩
theorem dec_len (u : Nat) (h : u < 100000000000000000000) : (Lib.decDigits u).length ≤ 20 := by rw [Lib.decDigits_length]; exact nd_le 20 _ (by omega) (by omega)
theorem num_F (n : Nat) (x : Int) (h : inR x) (hn : 20 < n) (k : ByteArray → Option R) : verdererref01_Num_F n x k = k (numS x) := by
  obtain ⟨h0, h1⟩ := h
  rw [verdererref01_Num_e]
  unfold verdererref01_Num_Fi numS Lib.itoa
  by_cases h : x < 0
  · rw [if_pos (decide_eq_true h), if_pos h]
    have e : IntKind.u64.wrap (0 - (IntKind.u64.wrap x)) = ((x.natAbs : Nat) : Int) := by
      have := u64n x.natAbs (by omega) (by omega)
      rw [show -((x.natAbs : Nat) : Int) = x by omega] at this; exact this
    rw [e, digits_F n _ (by omega) hn]
    have hl := dec_len x.natAbs (by omega)
    simp only [mk_sz]
    rw [if_pos (by show 1 + _ ≤ _; omega)]
    congr 1
  · rw [if_neg (by simpa using h), if_neg h]
    have e : IntKind.u64.wrap x = ((x.toNat : Nat) : Int) := by rw [u64w _ (by omega) (by omega)]; omega
    rw [e, digits_F n _ (by omega) hn]
theorem numS_size (x : Int) (h : inR x) : (numS x).size ≤ 20 := by
  obtain ⟨h0, h1⟩ := h
  unfold numS Lib.itoa
  rw [mk_sz]
  split
  · have : (Lib.decDigits x.natAbs).length ≤ 19 := by rw [Lib.decDigits_length]; exact nd_le 19 _ (by omega) (by omega)
    simp; omega
  · exact dec_len _ (by omega)
end Go.Proofs.YtcpimjekllkbkaaGreatDoor.E
namespace Go.Proofs.YtcpimjekllkbkaaGreatDoor.E
open Go.RowKit
variable {R : Type}
theorem byteAt_nat (s : ByteArray) (i : Nat) (h : i < s.data.toList.length) : byteAt s (i : Int) = ((s.data.toList[i]).toNat : Int) := by
  unfold byteAt
  rw [Int.toNat_natCast, List.getD_eq_getElem?_getD, List.getElem?_eq_getElem h]
  rfl
theorem byteAt_q (s : ByteArray) (i : Nat) (c : UInt8) (h : s.data.toList[i]? = some c) : byteAt s (i : Int) = (c.toNat : Int) := by
  obtain ⟨h1, h2⟩ := List.getElem?_eq_some_iff.1 h
  rw [byteAt_nat s i h1, h2]
theorem byteAt_rng (s : ByteArray) (i : Int) : 0 ≤ byteAt s i ∧ byteAt s i < 256 := by
  unfold byteAt
  have := (s.data.toList.getD i.toNat 0).toNat_lt
  omega
def hexd (i : Nat) : UInt8 := ([48, 49, 50, 51, 52, 53, 54, 55, 56, 57, 97, 98, 99, 100, 101, 102] : List UInt8).getD i 0
/-- what a byte of a quoted text is written as -/
def qByte (c : UInt8) : List UInt8 := if c = 34 ∨ c = 92 then [92, c] else if c < 32 ∨ c > 126 then [92, 120, hexd (c.toNat / 16), hexd (c.toNat % 16)] else [c]
def quotedL (l : List UInt8) : List UInt8 := 34 :: (l.flatMap qByte ++ [34])
theorem qByte_cases (c : UInt8) : (qByte c = [92, c] ∧ (c = 34 ∨ c = 92)) ∨ (qByte c = [92, 120, hexd (c.toNat / 16), hexd (c.toNat % 16)]) ∨ (qByte c = [c] ∧ c ≠ 92 ∧ c ≠ 34) := by
  unfold qByte
  by_cases h : c = 34 ∨ c = 92
  · exact Or.inl ⟨if_pos h, h⟩
  · by_cases h2 : c < 32 ∨ c > 126
    · exact Or.inr (Or.inl (by rw [if_neg h, if_pos h2]))
    · exact Or.inr (Or.inr ⟨by rw [if_neg h, if_neg h2], fun e => h (Or.inr e), fun e => h (Or.inl e)⟩)
theorem qByte_len (c : UInt8) : (qByte c).length ≤ 4 := by rcases qByte_cases c with ⟨e, h⟩ | e | ⟨e, h, _⟩ <;> rw [e] <;> simp
theorem flat_len (t : List UInt8) : (t.flatMap qByte).length ≤ 4 * t.length := by
  induction t with
  | nil => simp
  | cons c t ih =>
    rw [List.flatMap_cons, List.length_append]
    have := qByte_len c
    simp only [List.length_cons]; omega
theorem hexd_nat (i : Nat) (h : i < 16) : (hexd i).toNat = if i < 10 then 48 + i else 87 + i := by
  have : ∀ i : Fin 16, (hexd i.val).toNat = if i.val < 10 then 48 + i.val else 87 + i.val := by decide +kernel
  exact this ⟨i, h⟩
theorem hex_one (d : Nat) (h : d < 16) : (⟨#[48, 49, 50, 51, 52, 53, 54, 55, 56, 57, 97, 98, 99, 100, 101, 102]⟩ : ByteArray).extract d (d + 1) = ⟨#[hexd d]⟩ := by
  have : ∀ d : Fin 16, ((⟨#[48, 49, 50, 51, 52, 53, 54, 55, 56, 57, 97, 98, 99, 100, 101, 102]⟩ : ByteArray).extract d.val (d.val + 1)).data.toList = [hexd d.val] := by decide +kernel
  exact ba_eq (this ⟨d, h⟩)
theorem ext_one (s : ByteArray) (i : Nat) (h : i < s.data.toList.length) : s.extract i (i + 1) = ⟨#[s.data.toList[i]]⟩ := by
  apply ba_eq
  simp only [ByteArray.data_extract, Array.toList_extract, List.extract_eq_take_drop, Nat.add_sub_cancel_left]
  rw [List.drop_eq_getElem_cons h, List.take_succ_cons, List.take_zero]
def mkB (l : List UInt8) : ByteArray := ⟨l.toArray⟩
theorem mkB_app (l m : List UInt8) : mkB l ++ mkB m = mkB (l ++ m) := by
  apply ByteArray.ext
  simp [mkB]
theorem mkB_size (l : List UInt8) : (mkB l).size = l.length := mk_sz l
theorem mkB_id (s : ByteArray) : mkB s.data.toList = s := by apply ByteArray.ext; simp [mkB]
/-- one byte more -/
theorem quoted_step (n : Nat) (t : ByteArray) (i : Nat) (hi : i < t.data.toList.length) (ht : t.size ≤ 1000000) (acc : List UInt8) (ha : acc.length ≤ 4 * i + 1) (k1 : (verdererref01_quoted_ds 3).D → Option R) (k2 : exK R (verdererref01_quoted_dx 3)) :
    verdererref01_quoted_l3 n (t, mkB acc, (i : Int), ()) k1 k2 = k1 (t, mkB (acc ++ qByte t.data.toList[i]), ((i + 1 : Nat) : Int), ()) := by
  have hsz := ba_size t
  have hb := byteAt_nat t i hi
  have hx := ext_one t i hi
  generalize t.data.toList[i] = c at hb hx
  have hc := c.toNat_lt
  have c1 : ((i : Int) < (t.size : Int)) := by omega
  have e34 : c = 34 ↔ c.toNat = 34 := by rw [← UInt8.toNat_inj]; rfl
  have e92 : c = 92 ↔ c.toNat = 92 := by rw [← UInt8.toNat_inj]; rfl
  have e32 : c < 32 ↔ c.toNat < 32 := by rw [UInt8.lt_iff_toNat_lt]; rfl
  have e126 : c > 126 ↔ 126 < c.toNat := by rw [gt_iff_lt, UInt8.lt_iff_toNat_lt]; rfl
  have j7 : ∀ (b : Bool) (k3 : exK R (verdererref01_quoted_dx 1000007)), b = decide (c = 34 ∨ c = 92) → verdererref01_quoted_l1000007 n (t, mkB acc, (i : Int), (c.toNat : Int), b, ()) k3 = k3.1 (t, mkB (acc ++ qByte c), (i : Int), ()) := by
    intro b k3 hbv
    rw [verdererref01_quoted_e1000007]
    unfold verdererref01_quoted_li1000007 verdererref01_quoted_s1000007
    have w1 : IntKind.i64.wrap ((i : Int) + 1) = ((i + 1 : Nat) : Int) := wrap_succ i (by omega)
    have b1 : (0 : Int) ≤ ((i + 1 : Nat) : Int) ∧ ((i + 1 : Nat) : Int) ≤ (t.size : Int) := by omega
    have b2 : (0 : Int) ≤ (i : Int) ∧ (i : Int) ≤ ((i + 1 : Nat) : Int) := by omega
    have s1 : (⟨#[c]⟩ : ByteArray) = mkB [c] := rfl
    have s2 : (⟨#[92]⟩ : ByteArray) = mkB [92] := rfl
    have s3 : (⟨#[92, 120]⟩ : ByteArray) = mkB [92, 120] := rfl
    simp only [w1, Int.toNat_natCast, b1, b2, and_self, if_true, hx, s1, s2, mkB_app, mkB_size, List.length_append, List.length_cons, List.length_nil]
    cases b with
    | true =>
      have h := of_decide_eq_true hbv.symm
      simp only [if_true]
      rw [if_pos (by omega), if_pos (by omega)]
      unfold qByte
      rw [if_pos h]
      simp
    | false =>
      have h : ¬ (c = 34 ∨ c = 92) := of_decide_eq_false hbv.symm
      simp only [Bool.false_eq_true, if_false]
      have j9 : ∀ (b : Bool) (k4 : exK R (verdererref01_quoted_dx 1000009)), b = decide (c < 32 ∨ c > 126) → verdererref01_quoted_l1000009 n (t, mkB acc, (i : Int), (c.toNat : Int), b, ()) k4 = k4.1 (t, mkB (acc ++ qByte c), (i : Int), ()) := by
        intro b k4 hb9
        rw [verdererref01_quoted_e1000009]
        unfold verdererref01_quoted_li1000009 verdererref01_quoted_s1000009
        have d1 : Int.tdiv (c.toNat : Int) 16 = ((c.toNat / 16 : Nat) : Int) := by rw [Int.tdiv_eq_ediv_of_nonneg (by omega)]; omega
        have d2 : Int.tmod (c.toNat : Int) 16 = ((c.toNat % 16 : Nat) : Int) := by rw [Int.tmod_eq_emod_of_nonneg (by omega)]; omega
        have d3 : IntKind.u8.wrap ((c.toNat / 16 : Nat) : Int) = ((c.toNat / 16 : Nat) : Int) := u8w _ (by omega) (by omega)
        have d4 : IntKind.u8.wrap (((c.toNat / 16 : Nat) : Int) + 1) = ((c.toNat / 16 + 1 : Nat) : Int) := by rw [u8w _ (by omega) (by omega)]; omega
        have d5 : IntKind.u8.wrap (((c.toNat % 16 : Nat) : Int) + 1) = ((c.toNat % 16 + 1 : Nat) : Int) := by rw [u8w _ (by omega) (by omega)]; omega
        have s0 : (⟨#[48, 49, 50, 51, 52, 53, 54, 55, 56, 57, 97, 98, 99, 100, 101, 102]⟩ : ByteArray).size = 16 := rfl
        have s4 : ∀ d, (⟨#[hexd d]⟩ : ByteArray) = mkB [hexd d] := fun d => rfl
        simp only [d1, d2, d3, d4, d5, w1, Int.toNat_natCast, b1, b2, and_self, if_true, hx, s0, s1, s3, hex_one (c.toNat / 16) (by omega), hex_one (c.toNat % 16) (by omega), s4, mkB_app, mkB_size, List.length_append, List.length_cons, List.length_nil]
        cases b with
        | true =>
          have h2 := of_decide_eq_true hb9.symm
          simp only [if_true]
          rw [if_pos (by omega), if_pos (by omega), if_pos (by omega), if_pos (by omega), if_pos (by omega), if_pos (by omega), if_pos (by omega)]
          unfold qByte
          rw [if_neg h, if_pos h2]
          simp
        | false =>
          have h2 : ¬ (c < 32 ∨ c > 126) := of_decide_eq_false hb9.symm
          simp only [Bool.false_eq_true, if_false]
          rw [if_pos (by omega)]
          unfold qByte
          rw [if_neg h, if_neg h2]
      by_cases h32 : (c.toNat : Int) < 32
      · rw [if_pos (decide_eq_true h32)]
        exact j9 true _ (decide_eq_true (Or.inl (e32.2 (by omega)))).symm
      · rw [if_neg (by simpa using h32)]
        refine j9 _ _ ?_
        rw [decide_eq_decide, e32, e126]
        omega
  simp only [verdererref01_quoted_l3, verdererref01_quoted_s3, c1, decide_true, if_true, hb, wrap_succ i (by omega)]
  rw [if_pos (by omega)]
  by_cases h34 : c.toNat = 34
  · have : ((c.toNat : Int) == 34) = true := by simp [h34]
    rw [if_pos this]
    refine (j7 true _ (decide_eq_true (Or.inl (e34.2 h34))).symm).trans ?_
    simp only [wrap_succ i (by omega)]
  · have : ((c.toNat : Int) == 34) = false := by simp; omega
    rw [if_neg (by rw [this]; decide)]
    refine (j7 _ _ ?_).trans ?_
    · rw [Bool.eq_iff_iff, decide_eq_true_eq, beq_iff_eq, e34, e92]
      omega
    · simp only [wrap_succ i (by omega)]
theorem quoted_F (n : Nat) (t : ByteArray) (ht : t.size ≤ 1000000) (hn : t.size < n) (k : ByteArray → Option R) : verdererref01_quoted_F n t k = k (mkB (quotedL t.data.toList)) := by
  rw [verdererref01_quoted_e]
  unfold verdererref01_quoted_Fi
  have hsz := ba_size t
  have hf := flat_len t.data.toList
  have e0 : (⟨#[34]⟩ : ByteArray) = mkB [34] := rfl
  rw [e0]
  refine runC_st (R := R) (step := verdererref01_quoted_l3 n) _ (k (mkB (quotedL t.data.toList))) (fun i => (t, mkB ([34] ++ (t.data.toList.take i).flatMap qByte), (i : Int), ())) t.data.toList.length (fun i hi => .inl fun k1 => ?_) (fun k1 => ?_) (n := n) (by omega)
  · have hfi := flat_len (t.data.toList.take i)
    rw [List.length_take] at hfi
    refine (quoted_step n t i hi ht ([34] ++ (t.data.toList.take i).flatMap qByte) (by simp only [List.length_append, List.length_cons, List.length_nil]; omega) k1 _).trans ?_
    rw [take_snoc _ i hi, List.flatMap_append]
    simp
  · simp only [verdererref01_quoted_l3, verdererref01_quoted_s3, ← hsz, Int.lt_irrefl, decide_false, Bool.false_eq_true, if_false, mkB_app, mkB_size]
    rw [if_pos (by simp only [List.length_append, List.length_cons, List.length_nil, List.length_take, hsz, List.take_length]; omega), hsz, List.take_length]
    simp [quotedL]
/-- can a value be? -/
def rightV (v : ty25.D) : Bool := decide ((v.1 = 0 ∧ v.2.1 = false ∧ v.2.2.1 = 0 ∧ v.2.2.2.1.size = 0) ∨ (v.1 = 1 ∧ v.2.2.1 = 0 ∧ v.2.2.2.1.size = 0) ∨ (v.1 = 2 ∧ v.2.1 = false ∧ v.2.2.2.1.size = 0) ∨ (v.1 = 3 ∧ v.2.1 = false ∧ v.2.2.1 = 0 ∧ v.2.2.2.1.size ≤ 60))
theorem nil_size (t : ByteArray) : (t = (⟨#[]⟩ : ByteArray)) ↔ t.size = 0 := ⟨fun h => by rw [h]; rfl, fun h => ByteArray.size_eq_zero_iff.1 h⟩
theorem refRightV_F (n : Nat) (v : ty25.D) (k : Bool → Option R) : verdererref01_Right_F n v k = k (rightV v) := by
  rw [verdererref01_Right_e]
  unfold verdererref01_Right_Fi rightV
  simp only [beqB, nil_size]
  generalize ha : v.1 = a
  generalize v.2.1 = b
  generalize v.2.2.1 = x
  generalize v.2.2.2.1.size = t
  clear ha
  change Int at a x
  change Bool at b
  by_cases h0 : a < 0
  · simp only [h0, decide_true, if_true]
    congr 1; symm; rw [decide_eq_false_iff_not]; rintro (⟨h, _⟩ | ⟨h, _⟩ | ⟨h, _⟩ | ⟨h, _⟩) <;> (rw [h] at h0; revert h0; decide)
  by_cases h3 : a > 3
  · simp only [h0, h3, decide_true, decide_false, Bool.false_eq_true, if_false, if_true]
    congr 1; symm; rw [decide_eq_false_iff_not]; rintro (⟨h, _⟩ | ⟨h, _⟩ | ⟨h, _⟩ | ⟨h, _⟩) <;> (rw [h] at h3; revert h3; decide)
  have ha : a = 0 ∨ a = 1 ∨ a = 2 ∨ a = 3 := by omega
  have hs : ((t : Int) ≤ 60) ↔ t ≤ 60 := by omega
  rcases ha with rfl | rfl | rfl | rfl <;> cases b <;> by_cases hx : x = 0 <;> by_cases ht : t = 0 <;> simp [hx, ht, hs]
/-- a value as a word -/
def showS (v : ty25.D) : ByteArray :=
  if rightV v = true then (if v.1 = 0 then ⟨#[110, 117, 108, 108]⟩ else if v.1 = 1 then (if v.2.1 = true then ⟨#[116, 114, 117, 101]⟩ else ⟨#[102, 97, 108, 115, 101]⟩) else if v.1 = 2 then numS v.2.2.1 else mkB (quotedL v.2.2.2.1.data.toList)) else ⟨#[]⟩
theorem right_size (v : ty25.D) (h : rightV v = true) : v.2.2.2.1.size ≤ 60 := by
  unfold rightV at h
  rw [decide_eq_true_eq] at h
  omega
theorem show_F (n : Nat) (v : ty25.D) (hv : inR v.2.2.1) (hn : 100 < n) (k : ByteArray → Option R) : verdererref01_Show_F n v k = k (showS v) := by
  rw [verdererref01_Show_e]
  unfold verdererref01_Show_Fi showS
  rw [refRightV_F]
  cases hr : rightV v with
  | false => simp
  | true =>
    have hs := right_size v hr
    simp only [Bool.not_true, Bool.false_eq_true, if_false, if_true]
    by_cases h0 : v.1 = 0
    · simp only [h0, beq_self_eq_true, if_true]
    have b0 : (v.1 == 0) = false := by simp [h0]
    by_cases h1 : v.1 = 1
    · have b1 : (v.1 == 1) = true := by simp [h1]
      simp only [b0, b1, h0, h1, Bool.false_eq_true, if_false, if_true]
      cases v.2.1 <;> simp
    have b1 : (v.1 == 1) = false := by simp [h1]
    by_cases h2 : v.1 = 2
    · have b2 : (v.1 == 2) = true := by simp [h2]
      simp only [b0, b1, b2, h0, h1, h2, Bool.false_eq_true, if_false, if_true]
      rw [num_F n _ hv (by omega)]
      rfl
    · have b2 : (v.1 == 2) = false := by simp [h2]
      simp only [b0, b1, b2, h0, h1, h2, Bool.false_eq_true, if_false]
      rw [quoted_F n _ (by omega) (by omega)]
end Go.Proofs.YtcpimjekllkbkaaGreatDoor.E
