/- A text of the proof that the law ParseTokens returns true: nothing is assumed in it. -/
import Derived.Test.YtnnbinmomendnaaDoorMParseTokens3
import Derived.Test.YtnnbinmomendnaaDoorProg
import Derived.KernelRfl
import Derived.Test.YtnnbinmomendnaaDoorMParseTokens4
import Derived.ChangeArms
import Derived.ChangeSame
import Derived.WideLaws
import Derived.Deep.Slices
import Derived.Laws.Bits64
import Derived.Lib.ItoaNum
import Derived.Lib.ParseIntB
set_option linter.unusedVariables false
set_option linter.unusedSimpArgs false
set_option linter.unusedSectionVars false
set_option linter.unusedVariables false
set_option maxRecDepth 100000
namespace Go.Proofs.YtnnbinmomendnaaDoor.E
open Go.Proofs
noncomputable section
variable {R : Type}
@[reducible] def ty34 : Ty := (.pr (.int .i64) (.pr .bool (.pr (.int .i64) (.pr .str .un))))
@[reducible] def ty36 : Ty := (.pr (.int .i64) (.pr .str (.pr ty34 (.pr (.int .i64) .un))))
@[reducible] def ty58 : Ty := (.pr .str (.pr .bool (.pr ty34 .un)))
@[reducible] def ty61 : Ty := (.pr .bool (.pr .str (.pr (.sl ty58) (.pr (.int .i64) .un))))
@[reducible] def ty44 : Ty := (.pr (.int .i64) (.pr .str (.pr (.sl .str) (.pr (.int .i64) (.pr .str (.pr (.int .i64) (.pr (.sl ty61) .un)))))))
@[reducible] def ty52 : Ty := (.pr (.int .i64) (.pr .str (.pr ty34 (.pr (.int .i64) .un))))
end
end Go.Proofs.YtnnbinmomendnaaDoor.E
set_option linter.unusedVariables false
set_option maxRecDepth 100000
namespace Go.Proofs.YtnnbinmomendnaaDoor.E
open Go.Proofs
noncomputable section
variable {R : Type}
/-! verderer/verdererref01.digits: function 76 -/
def verdererref01_digits_ds : Nat → Desc
  | 3 => ⟨[(0, .d (.int .u64)), (3, .d .str), (4, .d (.int .i64))], []⟩
  | _ => ⟨[], []⟩
def verdererref01_digits_dx : Nat → List (X × Desc)
  | 3 => [(.e 0, ⟨[(3, .d .str)], []⟩)]
  | _ => []
def verdererref01_digits_s3 (n : Nat) (x0 : Int) (x1 : ByteArray) (x2 : Int) (k1 : Int → ByteArray → Int → Option R) (qe0 : ByteArray → Option R) : Option R :=
  if (decide (x2 < 20)) = true then (if (x2 == 0) = true then (if (0 : Int) ≤ (IntKind.u64.wrap ((Int.tmod x0 10) + 1)) ∧ (IntKind.u64.wrap ((Int.tmod x0 10) + 1)) ≤ ((⟨#[48, 49, 50, 51, 52, 53, 54, 55, 56, 57]⟩ : ByteArray).size : Int) then (if (0 : Int) ≤ (Int.tmod x0 10) ∧ (Int.tmod x0 10) ≤ ((Int.toNat (IntKind.u64.wrap ((Int.tmod x0 10) + 1))) : Int) then (if ((⟨#[48, 49, 50, 51, 52, 53, 54, 55, 56, 57]⟩ : ByteArray).extract (Int.toNat (Int.tmod x0 10)) (Int.toNat (IntKind.u64.wrap ((Int.tmod x0 10) + 1)))).size + x1.size ≤ 9223372036854775807 then (k1 (IntKind.u64.wrap (Int.tdiv x0 10)) (((⟨#[48, 49, 50, 51, 52, 53, 54, 55, 56, 57]⟩ : ByteArray).extract (Int.toNat (Int.tmod x0 10)) (Int.toNat (IntKind.u64.wrap ((Int.tmod x0 10) + 1)))) ++ x1) (IntKind.i64.wrap (x2 + 1))) else none) else none) else none) else (if (decide (x0 > 0)) = true then (if (0 : Int) ≤ (IntKind.u64.wrap ((Int.tmod x0 10) + 1)) ∧ (IntKind.u64.wrap ((Int.tmod x0 10) + 1)) ≤ ((⟨#[48, 49, 50, 51, 52, 53, 54, 55, 56, 57]⟩ : ByteArray).size : Int) then (if (0 : Int) ≤ (Int.tmod x0 10) ∧ (Int.tmod x0 10) ≤ ((Int.toNat (IntKind.u64.wrap ((Int.tmod x0 10) + 1))) : Int) then (if ((⟨#[48, 49, 50, 51, 52, 53, 54, 55, 56, 57]⟩ : ByteArray).extract (Int.toNat (Int.tmod x0 10)) (Int.toNat (IntKind.u64.wrap ((Int.tmod x0 10) + 1)))).size + x1.size ≤ 9223372036854775807 then (k1 (IntKind.u64.wrap (Int.tdiv x0 10)) (((⟨#[48, 49, 50, 51, 52, 53, 54, 55, 56, 57]⟩ : ByteArray).extract (Int.toNat (Int.tmod x0 10)) (Int.toNat (IntKind.u64.wrap ((Int.tmod x0 10) + 1)))) ++ x1) (IntKind.i64.wrap (x2 + 1))) else none) else none) else none) else (qe0 x1))) else (qe0 x1)
def verdererref01_digits_l3 (n : Nat) (a : (verdererref01_digits_ds 3).D) (k1 : (verdererref01_digits_ds 3).D → Option R) (k2 : exK R (verdererref01_digits_dx 3)) : Option R :=
  verdererref01_digits_s3 n a.1 a.2.1 a.2.2.1 (fun x0 x1 x2 => k1 (x0, x1, x2, ())) (fun x0 => k2.1 (x0, ()))
@[reducible] def verdererref01_digits_d : Desc := ⟨[(0, .d (.int .u64))], []⟩
def verdererref01_digits_Fi (n : Nat) (a0 : Int) (k0 : ByteArray → Option R) : Option R :=
  runC (verdererref01_digits_l3 n) n (a0, (⟨#[]⟩ : ByteArray), 0, ()) (fun b1 => k0 b1.1, ())
def verdererref01_digits_F {R : Type} := lazyN (@verdererref01_digits_Fi R)
theorem verdererref01_digits_e : @verdererref01_digits_F R = @verdererref01_digits_Fi R := lazyN_eq _
end
end Go.Proofs.YtnnbinmomendnaaDoor.E
set_option linter.unusedVariables false
set_option maxRecDepth 100000
namespace Go.Proofs.YtnnbinmomendnaaDoor.E
open Go.Proofs
noncomputable section
variable {R : Type}
/-! verderer/verdererref01.Num: function 65 -/
@[reducible] def verdererref01_Num_d : Desc := ⟨[(0, .d (.int .i64))], []⟩
def verdererref01_Num_Fi (n : Nat) (a0 : Int) (k0 : ByteArray → Option R) : Option R :=
  if (decide (a0 < 0)) = true then (verdererref01_digits_F n (IntKind.u64.wrap (0 - (IntKind.u64.wrap a0))) (fun y1 => if (⟨#[45]⟩ : ByteArray).size + y1.size ≤ 9223372036854775807 then (k0 ((⟨#[45]⟩ : ByteArray) ++ y1)) else none)) else (verdererref01_digits_F n (IntKind.u64.wrap a0) (fun y2 => k0 y2))
def verdererref01_Num_F {R : Type} := lazyN (@verdererref01_Num_Fi R)
theorem verdererref01_Num_e : @verdererref01_Num_F R = @verdererref01_Num_Fi R := lazyN_eq _
end
end Go.Proofs.YtnnbinmomendnaaDoor.E
set_option linter.unusedVariables false
set_option maxRecDepth 100000
namespace Go.Proofs.YtnnbinmomendnaaDoor.E
open Go.Proofs
noncomputable section
variable {R : Type}
/-! verderer/verdererref01.Number: function 53 -/
def verdererref01_Number_ds : Nat → Desc
  | 8 => ⟨[(0, .d .str), (4, .d (.int .u64)), (5, .d (.int .i64)), (6, .d (.int .i64))], []⟩
  | 1000005 => ⟨[(0, .d .str), (4, .d (.int .u64)), (5, .d (.int .i64))], []⟩
  | _ => ⟨[], []⟩
def verdererref01_Number_dx : Nat → List (X × Desc)
  | 8 => [(.r, ⟨[(2, .d (.int .i64)), (3, .d .bool)], []⟩), (.e 0, ⟨[(0, .d .str), (4, .d (.int .u64)), (5, .d (.int .i64))], []⟩)]
  | 1000005 => [(.r, ⟨[(2, .d (.int .i64)), (3, .d .bool)], []⟩)]
  | _ => []
def verdererref01_Number_s8 (n : Nat) (x0 : ByteArray) (x1 : Int) (x2 : Int) (x3 : Int) (k1 : ByteArray → Int → Int → Int → Option R) (qr : Int → Bool → Option R) (qe0 : ByteArray → Int → Int → Option R) : Option R :=
  if (decide (x3 < (x0.size : Int))) = true then (if (0 : Int) ≤ x3 then if x3 < (x0.size : Int) then (if (decide ((byteAt x0 x3) < 48)) = true then (qr 0 false) else (if (0 : Int) ≤ x3 then if x3 < (x0.size : Int) then (if (decide ((byteAt x0 x3) > 57)) = true then (qr 0 false) else (if (0 : Int) ≤ x3 then if x3 < (x0.size : Int) then (k1 x0 (IntKind.u64.wrap ((IntKind.u64.wrap (x1 * 10)) + (IntKind.u64.wrap (IntKind.u8.wrap ((byteAt x0 x3) - 48))))) x2 (IntKind.i64.wrap (x3 + 1))) else none else none)) else none else none)) else none else none) else (qe0 x0 x1 x2)
def verdererref01_Number_l8 (n : Nat) (a : (verdererref01_Number_ds 8).D) (k1 : (verdererref01_Number_ds 8).D → Option R) (k2 : exK R (verdererref01_Number_dx 8)) : Option R :=
  verdererref01_Number_s8 n a.1 a.2.1 a.2.2.1 a.2.2.2.1 (fun x0 x1 x2 x3 => k1 (x0, x1, x2, x3, ())) (fun x0 x1 => k2.1 (x0, x1, ())) (fun x0 x1 x2 => k2.2.1 (x0, x1, x2, ()))
def verdererref01_Number_s1000005 (n : Nat) (x0 : ByteArray) (x1 : Int) (x2 : Int) (qr : Int → Bool → Option R) : Option R :=
  if ((x0.size : Int) == x2) = true then (qr 0 false) else (if (decide ((IntKind.i64.wrap ((x0.size : Int) - x2)) > 19)) = true then (qr 0 false) else (runC (verdererref01_Number_l8 n) n (x0, x1, x2, x2, ()) (fun b2 => qr b2.1 b2.2.1, fun b5 => if (b5.2.2.1 == 1) = true then (verdererref01_Num_F n (IntKind.i64.wrap (IntKind.u64.wrap (0 - b5.2.1))) (fun y6 => qr (IntKind.i64.wrap (IntKind.u64.wrap (0 - b5.2.1))) (y6.toList == b5.1.toList))) else (verdererref01_Num_F n (IntKind.i64.wrap b5.2.1) (fun y7 => qr (IntKind.i64.wrap b5.2.1) (y7.toList == b5.1.toList))), ())))
def verdererref01_Number_li1000005 (n : Nat) (a : (verdererref01_Number_ds 1000005).D) (k2 : exK R (verdererref01_Number_dx 1000005)) : Option R :=
  verdererref01_Number_s1000005 n a.1 a.2.1 a.2.2.1 (fun x0 x1 => k2.1 (x0, x1, ()))
def verdererref01_Number_l1000005 {R : Type} := lazyN (@verdererref01_Number_li1000005 R)
theorem verdererref01_Number_e1000005 : @verdererref01_Number_l1000005 R = @verdererref01_Number_li1000005 R := lazyN_eq _
@[reducible] def verdererref01_Number_d : Desc := ⟨[(0, .d .str)], []⟩
def verdererref01_Number_Fi (n : Nat) (a0 : ByteArray) (k0 : Int → Bool → Option R) : Option R :=
  if (decide ((a0.size : Int) > 0)) = true then (if (0 : Int) ≤ 0 then if 0 < (a0.size : Int) then (if ((byteAt a0 0) == 45) = true then (verdererref01_Number_l1000005 n (a0, 0, 1, ()) (fun b9 => k0 b9.1 b9.2.1, ())) else (verdererref01_Number_l1000005 n (a0, 0, 0, ()) (fun b11 => k0 b11.1 b11.2.1, ()))) else none else none) else (verdererref01_Number_l1000005 n (a0, 0, 0, ()) (fun b13 => k0 b13.1 b13.2.1, ()))
def verdererref01_Number_F {R : Type} := lazyN (@verdererref01_Number_Fi R)
theorem verdererref01_Number_e : @verdererref01_Number_F R = @verdererref01_Number_Fi R := lazyN_eq _
end
end Go.Proofs.YtnnbinmomendnaaDoor.E
set_option linter.unusedVariables false
set_option maxRecDepth 100000
namespace Go.Proofs.YtnnbinmomendnaaDoor.E
open Go.Proofs
noncomputable section
variable {R : Type}
/-! verderer/verdererref01.Right: function 67 -/
@[reducible] def verdererref01_Right_d : Desc := ⟨[(0, .d ty34)], []⟩
def verdererref01_Right_Fi (n : Nat) (a0 : ty34.D) (k0 : Bool → Option R) : Option R :=
  if (decide (a0.1 < 0)) = true then (k0 false) else (if (decide (a0.1 > 3)) = true then (k0 false) else (if (a0.1 != 1) = true then (if a0.2.1 = true then (k0 false) else (if (a0.1 != 2) = true then (if (a0.2.2.1 != 0) = true then (k0 false) else (if (a0.1 != 3) = true then (if (!(a0.2.2.2.1.toList == (⟨#[]⟩ : ByteArray).toList)) = true then (k0 false) else (k0 (decide ((a0.2.2.2.1.size : Int) ≤ 60)))) else (k0 (decide ((a0.2.2.2.1.size : Int) ≤ 60))))) else (if (a0.1 != 3) = true then (if (!(a0.2.2.2.1.toList == (⟨#[]⟩ : ByteArray).toList)) = true then (k0 false) else (k0 (decide ((a0.2.2.2.1.size : Int) ≤ 60)))) else (k0 (decide ((a0.2.2.2.1.size : Int) ≤ 60)))))) else (if (a0.1 != 2) = true then (if (a0.2.2.1 != 0) = true then (k0 false) else (if (a0.1 != 3) = true then (if (!(a0.2.2.2.1.toList == (⟨#[]⟩ : ByteArray).toList)) = true then (k0 false) else (k0 (decide ((a0.2.2.2.1.size : Int) ≤ 60)))) else (k0 (decide ((a0.2.2.2.1.size : Int) ≤ 60))))) else (if (a0.1 != 3) = true then (if (!(a0.2.2.2.1.toList == (⟨#[]⟩ : ByteArray).toList)) = true then (k0 false) else (k0 (decide ((a0.2.2.2.1.size : Int) ≤ 60)))) else (k0 (decide ((a0.2.2.2.1.size : Int) ≤ 60)))))))
def verdererref01_Right_F {R : Type} := lazyN (@verdererref01_Right_Fi R)
theorem verdererref01_Right_e : @verdererref01_Right_F R = @verdererref01_Right_Fi R := lazyN_eq _
end
end Go.Proofs.YtnnbinmomendnaaDoor.E
set_option linter.unusedVariables false
set_option maxRecDepth 100000
namespace Go.Proofs.YtnnbinmomendnaaDoor.E
open Go.Proofs
noncomputable section
variable {R : Type}
/-! verderer/verdererref01.quoted: function 68 -/
def verdererref01_quoted_ds : Nat → Desc
  | 1000009 => ⟨[(0, .d .str), (3, .d .str), (4, .d (.int .i64)), (5, .d (.int .u8)), (35, .d .bool)], []⟩
  | 1000007 => ⟨[(0, .d .str), (3, .d .str), (4, .d (.int .i64)), (5, .d (.int .u8)), (21, .d .bool)], []⟩
  | 3 => ⟨[(0, .d .str), (3, .d .str), (4, .d (.int .i64))], []⟩
  | _ => ⟨[], []⟩
def verdererref01_quoted_dx : Nat → List (X × Desc)
  | 1000009 => [(.n, ⟨[(0, .d .str), (3, .d .str), (4, .d (.int .i64))], []⟩)]
  | 1000007 => [(.n, ⟨[(0, .d .str), (3, .d .str), (4, .d (.int .i64))], []⟩)]
  | 3 => [(.e 0, ⟨[(3, .d .str)], []⟩)]
  | _ => []
def verdererref01_quoted_s1000009 (n : Nat) (x0 : ByteArray) (x1 : ByteArray) (x2 : Int) (x3 : Int) (x4 : Bool) (qn : ByteArray → ByteArray → Int → Option R) : Option R :=
  if x4 = true then (if x1.size + (⟨#[92, 120]⟩ : ByteArray).size ≤ 9223372036854775807 then (if (0 : Int) ≤ (IntKind.u8.wrap ((IntKind.u8.wrap (Int.tdiv x3 16)) + 1)) ∧ (IntKind.u8.wrap ((IntKind.u8.wrap (Int.tdiv x3 16)) + 1)) ≤ ((⟨#[48, 49, 50, 51, 52, 53, 54, 55, 56, 57, 97, 98, 99, 100, 101, 102]⟩ : ByteArray).size : Int) then (if (0 : Int) ≤ (IntKind.u8.wrap (Int.tdiv x3 16)) ∧ (IntKind.u8.wrap (Int.tdiv x3 16)) ≤ ((Int.toNat (IntKind.u8.wrap ((IntKind.u8.wrap (Int.tdiv x3 16)) + 1))) : Int) then (if (x1 ++ (⟨#[92, 120]⟩ : ByteArray)).size + ((⟨#[48, 49, 50, 51, 52, 53, 54, 55, 56, 57, 97, 98, 99, 100, 101, 102]⟩ : ByteArray).extract (Int.toNat (IntKind.u8.wrap (Int.tdiv x3 16))) (Int.toNat (IntKind.u8.wrap ((IntKind.u8.wrap (Int.tdiv x3 16)) + 1)))).size ≤ 9223372036854775807 then (if (0 : Int) ≤ (IntKind.u8.wrap ((Int.tmod x3 16) + 1)) ∧ (IntKind.u8.wrap ((Int.tmod x3 16) + 1)) ≤ ((⟨#[48, 49, 50, 51, 52, 53, 54, 55, 56, 57, 97, 98, 99, 100, 101, 102]⟩ : ByteArray).size : Int) then (if (0 : Int) ≤ (Int.tmod x3 16) ∧ (Int.tmod x3 16) ≤ ((Int.toNat (IntKind.u8.wrap ((Int.tmod x3 16) + 1))) : Int) then (if ((x1 ++ (⟨#[92, 120]⟩ : ByteArray)) ++ ((⟨#[48, 49, 50, 51, 52, 53, 54, 55, 56, 57, 97, 98, 99, 100, 101, 102]⟩ : ByteArray).extract (Int.toNat (IntKind.u8.wrap (Int.tdiv x3 16))) (Int.toNat (IntKind.u8.wrap ((IntKind.u8.wrap (Int.tdiv x3 16)) + 1))))).size + ((⟨#[48, 49, 50, 51, 52, 53, 54, 55, 56, 57, 97, 98, 99, 100, 101, 102]⟩ : ByteArray).extract (Int.toNat (Int.tmod x3 16)) (Int.toNat (IntKind.u8.wrap ((Int.tmod x3 16) + 1)))).size ≤ 9223372036854775807 then (qn x0 (((x1 ++ (⟨#[92, 120]⟩ : ByteArray)) ++ ((⟨#[48, 49, 50, 51, 52, 53, 54, 55, 56, 57, 97, 98, 99, 100, 101, 102]⟩ : ByteArray).extract (Int.toNat (IntKind.u8.wrap (Int.tdiv x3 16))) (Int.toNat (IntKind.u8.wrap ((IntKind.u8.wrap (Int.tdiv x3 16)) + 1))))) ++ ((⟨#[48, 49, 50, 51, 52, 53, 54, 55, 56, 57, 97, 98, 99, 100, 101, 102]⟩ : ByteArray).extract (Int.toNat (Int.tmod x3 16)) (Int.toNat (IntKind.u8.wrap ((Int.tmod x3 16) + 1))))) x2) else none) else none) else none) else none) else none) else none) else none) else (if (0 : Int) ≤ (IntKind.i64.wrap (x2 + 1)) ∧ (IntKind.i64.wrap (x2 + 1)) ≤ (x0.size : Int) then (if (0 : Int) ≤ x2 ∧ x2 ≤ ((Int.toNat (IntKind.i64.wrap (x2 + 1))) : Int) then (if x1.size + (x0.extract (Int.toNat x2) (Int.toNat (IntKind.i64.wrap (x2 + 1)))).size ≤ 9223372036854775807 then (qn x0 (x1 ++ (x0.extract (Int.toNat x2) (Int.toNat (IntKind.i64.wrap (x2 + 1))))) x2) else none) else none) else none)
def verdererref01_quoted_li1000009 (n : Nat) (a : (verdererref01_quoted_ds 1000009).D) (k2 : exK R (verdererref01_quoted_dx 1000009)) : Option R :=
  verdererref01_quoted_s1000009 n a.1 a.2.1 a.2.2.1 a.2.2.2.1 a.2.2.2.2.1 (fun x0 x1 x2 => k2.1 (x0, x1, x2, ()))
def verdererref01_quoted_l1000009 {R : Type} := lazyN (@verdererref01_quoted_li1000009 R)
theorem verdererref01_quoted_e1000009 : @verdererref01_quoted_l1000009 R = @verdererref01_quoted_li1000009 R := lazyN_eq _
def verdererref01_quoted_s1000007 (n : Nat) (x0 : ByteArray) (x1 : ByteArray) (x2 : Int) (x3 : Int) (x4 : Bool) (qn : ByteArray → ByteArray → Int → Option R) : Option R :=
  if x4 = true then (if x1.size + (⟨#[92]⟩ : ByteArray).size ≤ 9223372036854775807 then (if (0 : Int) ≤ (IntKind.i64.wrap (x2 + 1)) ∧ (IntKind.i64.wrap (x2 + 1)) ≤ (x0.size : Int) then (if (0 : Int) ≤ x2 ∧ x2 ≤ ((Int.toNat (IntKind.i64.wrap (x2 + 1))) : Int) then (if (x1 ++ (⟨#[92]⟩ : ByteArray)).size + (x0.extract (Int.toNat x2) (Int.toNat (IntKind.i64.wrap (x2 + 1)))).size ≤ 9223372036854775807 then (qn x0 ((x1 ++ (⟨#[92]⟩ : ByteArray)) ++ (x0.extract (Int.toNat x2) (Int.toNat (IntKind.i64.wrap (x2 + 1))))) x2) else none) else none) else none) else none) else (if (decide (x3 < 32)) = true then (verdererref01_quoted_l1000009 n (x0, x1, x2, x3, true, ()) (fun b3 => qn b3.1 b3.2.1 b3.2.2.1, ())) else (verdererref01_quoted_l1000009 n (x0, x1, x2, x3, (decide (x3 > 126)), ()) (fun b6 => qn b6.1 b6.2.1 b6.2.2.1, ())))
def verdererref01_quoted_li1000007 (n : Nat) (a : (verdererref01_quoted_ds 1000007).D) (k2 : exK R (verdererref01_quoted_dx 1000007)) : Option R :=
  verdererref01_quoted_s1000007 n a.1 a.2.1 a.2.2.1 a.2.2.2.1 a.2.2.2.2.1 (fun x0 x1 x2 => k2.1 (x0, x1, x2, ()))
def verdererref01_quoted_l1000007 {R : Type} := lazyN (@verdererref01_quoted_li1000007 R)
theorem verdererref01_quoted_e1000007 : @verdererref01_quoted_l1000007 R = @verdererref01_quoted_li1000007 R := lazyN_eq _
def verdererref01_quoted_s3 (n : Nat) (x0 : ByteArray) (x1 : ByteArray) (x2 : Int) (k1 : ByteArray → ByteArray → Int → Option R) (qe0 : ByteArray → Option R) : Option R :=
  if (decide (x2 < (x0.size : Int))) = true then (if (0 : Int) ≤ x2 then if x2 < (x0.size : Int) then (if ((byteAt x0 x2) == 34) = true then (verdererref01_quoted_l1000007 n (x0, x1, x2, (byteAt x0 x2), true, ()) (fun b9 => k1 b9.1 b9.2.1 (IntKind.i64.wrap (b9.2.2.1 + 1)), ())) else (verdererref01_quoted_l1000007 n (x0, x1, x2, (byteAt x0 x2), ((byteAt x0 x2) == 92), ()) (fun b12 => k1 b12.1 b12.2.1 (IntKind.i64.wrap (b12.2.2.1 + 1)), ()))) else none else none) else (qe0 x1)
def verdererref01_quoted_l3 (n : Nat) (a : (verdererref01_quoted_ds 3).D) (k1 : (verdererref01_quoted_ds 3).D → Option R) (k2 : exK R (verdererref01_quoted_dx 3)) : Option R :=
  verdererref01_quoted_s3 n a.1 a.2.1 a.2.2.1 (fun x0 x1 x2 => k1 (x0, x1, x2, ())) (fun x0 => k2.1 (x0, ()))
@[reducible] def verdererref01_quoted_d : Desc := ⟨[(0, .d .str)], []⟩
def verdererref01_quoted_Fi (n : Nat) (a0 : ByteArray) (k0 : ByteArray → Option R) : Option R :=
  runC (verdererref01_quoted_l3 n) n (a0, (⟨#[34]⟩ : ByteArray), 0, ()) (fun b13 => if b13.1.size + (⟨#[34]⟩ : ByteArray).size ≤ 9223372036854775807 then (k0 (b13.1 ++ (⟨#[34]⟩ : ByteArray))) else none, ())
def verdererref01_quoted_F {R : Type} := lazyN (@verdererref01_quoted_Fi R)
theorem verdererref01_quoted_e : @verdererref01_quoted_F R = @verdererref01_quoted_Fi R := lazyN_eq _
end
end Go.Proofs.YtnnbinmomendnaaDoor.E
set_option linter.unusedVariables false
set_option maxRecDepth 100000
namespace Go.Proofs.YtnnbinmomendnaaDoor.E
open Go.Proofs
noncomputable section
variable {R : Type}
/-! verderer/verdererref01.Show: function 55 -/
@[reducible] def verdererref01_Show_d : Desc := ⟨[(0, .d ty34)], []⟩
def verdererref01_Show_Fi (n : Nat) (a0 : ty34.D) (k0 : ByteArray → Option R) : Option R :=
  verdererref01_Right_F n a0 (fun y1 => if (!y1) = true then (k0 (⟨#[]⟩ : ByteArray)) else (if (a0.1 == 0) = true then (k0 (⟨#[110, 117, 108, 108]⟩ : ByteArray)) else (if (a0.1 == 1) = true then (if a0.2.1 = true then (k0 (⟨#[116, 114, 117, 101]⟩ : ByteArray)) else (k0 (⟨#[102, 97, 108, 115, 101]⟩ : ByteArray))) else (if (a0.1 == 2) = true then (verdererref01_Num_F n a0.2.2.1 (fun y2 => k0 y2)) else (verdererref01_quoted_F n a0.2.2.2.1 (fun y3 => k0 y3))))))
def verdererref01_Show_F {R : Type} := lazyN (@verdererref01_Show_Fi R)
theorem verdererref01_Show_e : @verdererref01_Show_F R = @verdererref01_Show_Fi R := lazyN_eq _
end
end Go.Proofs.YtnnbinmomendnaaDoor.E
set_option linter.unusedVariables false
set_option maxRecDepth 100000
namespace Go.Proofs.YtnnbinmomendnaaDoor.E
open Go.Proofs
noncomputable section
variable {R : Type}
/-! verderer/verdererref01.hex: function 66 -/
@[reducible] def verdererref01_hex_d : Desc := ⟨[(0, .d (.int .u8))], []⟩
def verdererref01_hex_Fi (n : Nat) (a0 : Int) (k0 : Int → Option R) : Option R :=
  if (decide (a0 ≥ 48)) = true then (if (decide (a0 ≤ 57)) = true then (k0 (IntKind.i64.wrap (IntKind.u8.wrap (a0 - 48)))) else (if (decide (a0 ≥ 97)) = true then (if (decide (a0 ≤ 102)) = true then (k0 (IntKind.i64.wrap ((IntKind.i64.wrap (IntKind.u8.wrap (a0 - 97))) + 10))) else (k0 (-1))) else (k0 (-1)))) else (if (decide (a0 ≥ 97)) = true then (if (decide (a0 ≤ 102)) = true then (k0 (IntKind.i64.wrap ((IntKind.i64.wrap (IntKind.u8.wrap (a0 - 97))) + 10))) else (k0 (-1))) else (k0 (-1)))
def verdererref01_hex_F {R : Type} := lazyN (@verdererref01_hex_Fi R)
theorem verdererref01_hex_e : @verdererref01_hex_F R = @verdererref01_hex_Fi R := lazyN_eq _
end
end Go.Proofs.YtnnbinmomendnaaDoor.E
set_option linter.unusedVariables false
set_option maxRecDepth 100000
namespace Go.Proofs.YtnnbinmomendnaaDoor.E
open Go.Proofs
noncomputable section
variable {R : Type}
/-! verderer/verdererref01.unquoted: function 54 -/
def verdererref01_unquoted_ds : Nat → Desc
  | 3 => ⟨[(0, .d .str), (3, .ow 0), (4, .d (.int .i64))], [.arr 5 (.int .u8)]⟩
  | _ => ⟨[], []⟩
def verdererref01_unquoted_dx : Nat → List (X × Desc)
  | 3 => [(.r, ⟨[(2, .d .str)], []⟩), (.e 0, ⟨[(3, .ow 0)], [.arr 5 (.int .u8)]⟩)]
  | _ => []
def verdererref01_unquoted_s3 (n : Nat) (x0 : ByteArray) (x1 : Int) (x2 : (List Int)) (k1 : ByteArray → Int → (List Int) → Option R) (qr : ByteArray → Option R) (qe0 : (List Int) → Option R) : Option R :=
  if (decide (x1 < (IntKind.i64.wrap ((x0.size : Int) - 1)))) = true then (if (0 : Int) ≤ x1 then if x1 < (x0.size : Int) then (if ((byteAt x0 x1) != 92) = true then (if (0 : Int) ≤ x1 then if x1 < (x0.size : Int) then (if (List.length x2 + List.length [(byteAt x0 x1)]) * 1 ≤ 140737488355328 then (k1 x0 (IntKind.i64.wrap (x1 + 1)) (x2 ++ [(byteAt x0 x1)])) else none) else none else none) else (if (0 : Int) ≤ (IntKind.i64.wrap (x1 + 1)) then if (IntKind.i64.wrap (x1 + 1)) < (x0.size : Int) then (if ((byteAt x0 (IntKind.i64.wrap (x1 + 1))) != 120) = true then (if (0 : Int) ≤ (IntKind.i64.wrap (x1 + 1)) then if (IntKind.i64.wrap (x1 + 1)) < (x0.size : Int) then (if (List.length x2 + List.length [(byteAt x0 (IntKind.i64.wrap (x1 + 1)))]) * 1 ≤ 140737488355328 then (k1 x0 (IntKind.i64.wrap ((IntKind.i64.wrap (x1 + 1)) + 1)) (x2 ++ [(byteAt x0 (IntKind.i64.wrap (x1 + 1)))])) else none) else none else none) else (if (decide ((IntKind.i64.wrap (x1 + 3)) ≥ (IntKind.i64.wrap ((x0.size : Int) - 1)))) = true then (qr (strOfNums x2)) else (if (0 : Int) ≤ (IntKind.i64.wrap (x1 + 2)) then if (IntKind.i64.wrap (x1 + 2)) < (x0.size : Int) then (verdererref01_hex_F n (byteAt x0 (IntKind.i64.wrap (x1 + 2))) (fun y1 => if (0 : Int) ≤ (IntKind.i64.wrap (x1 + 3)) then if (IntKind.i64.wrap (x1 + 3)) < (x0.size : Int) then (verdererref01_hex_F n (byteAt x0 (IntKind.i64.wrap (x1 + 3))) (fun y2 => if (List.length x2 + List.length [(IntKind.u8.wrap (IntKind.i64.wrap ((IntKind.i64.wrap (16 * y1)) + y2)))]) * 1 ≤ 140737488355328 then (k1 x0 (IntKind.i64.wrap ((IntKind.i64.wrap (x1 + 3)) + 1)) (x2 ++ [(IntKind.u8.wrap (IntKind.i64.wrap ((IntKind.i64.wrap (16 * y1)) + y2)))])) else none)) else none else none)) else none else none))) else none else none)) else none else none) else (qe0 x2)
def verdererref01_unquoted_l3 (n : Nat) (a : (verdererref01_unquoted_ds 3).D) (k1 : (verdererref01_unquoted_ds 3).D → Option R) (k2 : exK R (verdererref01_unquoted_dx 3)) : Option R :=
  verdererref01_unquoted_s3 n a.1 a.2.1 a.2.2.1 (fun x0 x1 x2 => k1 (x0, x1, x2, ())) (fun x0 => k2.1 (x0, ())) (fun x0 => k2.2.1 (x0, ()))
@[reducible] def verdererref01_unquoted_d : Desc := ⟨[(0, .d .str)], []⟩
def verdererref01_unquoted_Fi (n : Nat) (a0 : ByteArray) (k0 : ByteArray → Option R) : Option R :=
  runC (verdererref01_unquoted_l3 n) n (a0, 1, ([] : List Int), ()) (fun b3 => k0 b3.1, fun b4 => k0 (strOfNums b4.1), ())
def verdererref01_unquoted_F {R : Type} := lazyN (@verdererref01_unquoted_Fi R)
theorem verdererref01_unquoted_e : @verdererref01_unquoted_F R = @verdererref01_unquoted_Fi R := lazyN_eq _
end
end Go.Proofs.YtnnbinmomendnaaDoor.E
set_option linter.unusedVariables false
set_option maxRecDepth 100000
namespace Go.Proofs.YtnnbinmomendnaaDoor.E
open Go.Proofs
noncomputable section
variable {R : Type}
/-! verderer/verdererref01.Read: function 33 -/
def verdererref01_Read_ds : Nat → Desc
  | 1000009 => ⟨[(0, .d .str), (2, .pt 0 0), (4, .pt 1 0)], [.box false 34 [.d (.int .i64), .d .bool, .d (.int .i64), .d .str], .box false 34 [.d (.int .i64), .d .bool, .d (.int .i64), .d .str]]⟩
  | _ => ⟨[], []⟩
def verdererref01_Read_dx : Nat → List (X × Desc)
  | 1000009 => [(.r, ⟨[(2, .pt 0 0), (3, .d (.int .i64))], [.box false 34 [.d (.int .i64), .d .bool, .d (.int .i64), .d .str]]⟩)]
  | _ => []
def verdererref01_Read_s1000009 (n : Nat) (x0 : ByteArray) (x1 : Int) (x2 : Bool) (x3 : Int) (x4 : ByteArray) (x5 : Int) (x6 : Bool) (x7 : Int) (x8 : ByteArray) (qr : Int → Int → Bool → Int → ByteArray → Option R) : Option R :=
  if (x0.toList == (⟨#[]⟩ : ByteArray).toList) = true then (qr 7 0 false 0 (⟨#[]⟩ : ByteArray)) else (verdererref01_Show_F n (x5, x6, x7, x8, ()) (fun y3 => if (!(y3.toList == x0.toList)) = true then (qr 7 0 false 0 (⟨#[]⟩ : ByteArray)) else (qr 0 x5 x6 x7 x8)))
def verdererref01_Read_li1000009 (n : Nat) (a : (verdererref01_Read_ds 1000009).D) (k2 : exK R (verdererref01_Read_dx 1000009)) : Option R :=
  verdererref01_Read_s1000009 n a.1 a.2.1 a.2.2.1 a.2.2.2.1 a.2.2.2.2.1 a.2.2.2.2.2.1 a.2.2.2.2.2.2.1 a.2.2.2.2.2.2.2.1 a.2.2.2.2.2.2.2.2.1 (fun x0 x1 x2 x3 x4 => k2.1 (x0, x1, x2, x3, x4, ()))
def verdererref01_Read_l1000009 {R : Type} := lazyN (@verdererref01_Read_li1000009 R)
theorem verdererref01_Read_e1000009 : @verdererref01_Read_l1000009 R = @verdererref01_Read_li1000009 R := lazyN_eq _
@[reducible] def verdererref01_Read_d : Desc := ⟨[(0, .d .str)], []⟩
def verdererref01_Read_Fi (n : Nat) (a0 : ByteArray) (k0 : ty34.D → Int → Option R) : Option R :=
  verdererref01_Number_F n a0 (fun y1 y2 => if (a0.toList == (⟨#[116, 114, 117, 101]⟩ : ByteArray).toList) = true then (verdererref01_Read_l1000009 n (a0, 0, false, 0, (⟨#[]⟩ : ByteArray), 1, (a0.toList == (⟨#[116, 114, 117, 101]⟩ : ByteArray).toList), 0, (⟨#[]⟩ : ByteArray), ()) (fun b8 => k0 (b8.2.1, b8.2.2.1, b8.2.2.2.1, b8.2.2.2.2.1, ()) b8.1, ())) else (if (a0.toList == (⟨#[102, 97, 108, 115, 101]⟩ : ByteArray).toList) = true then (verdererref01_Read_l1000009 n (a0, 0, false, 0, (⟨#[]⟩ : ByteArray), 1, (a0.toList == (⟨#[116, 114, 117, 101]⟩ : ByteArray).toList), 0, (⟨#[]⟩ : ByteArray), ()) (fun b13 => k0 (b13.2.1, b13.2.2.1, b13.2.2.2.1, b13.2.2.2.2.1, ()) b13.1, ())) else (if y2 = true then (verdererref01_Read_l1000009 n (a0, 0, false, 0, (⟨#[]⟩ : ByteArray), 2, false, y1, (⟨#[]⟩ : ByteArray), ()) (fun b18 => k0 (b18.2.1, b18.2.2.1, b18.2.2.2.1, b18.2.2.2.2.1, ()) b18.1, ())) else (if (decide ((a0.size : Int) ≥ 2)) = true then (if (0 : Int) ≤ 0 then if 0 < (a0.size : Int) then (if ((byteAt a0 0) == 34) = true then (if (decide ((a0.size : Int) ≤ 300)) = true then (verdererref01_unquoted_F n a0 (fun y19 => verdererref01_Read_l1000009 n (a0, 0, false, 0, (⟨#[]⟩ : ByteArray), 3, false, 0, y19, ()) (fun b24 => k0 (b24.2.1, b24.2.2.1, b24.2.2.2.1, b24.2.2.2.2.1, ()) b24.1, ()))) else (verdererref01_Read_l1000009 n (a0, 0, false, 0, (⟨#[]⟩ : ByteArray), 0, false, 0, (⟨#[]⟩ : ByteArray), ()) (fun b29 => k0 (b29.2.1, b29.2.2.1, b29.2.2.2.1, b29.2.2.2.2.1, ()) b29.1, ()))) else (verdererref01_Read_l1000009 n (a0, 0, false, 0, (⟨#[]⟩ : ByteArray), 0, false, 0, (⟨#[]⟩ : ByteArray), ()) (fun b34 => k0 (b34.2.1, b34.2.2.1, b34.2.2.2.1, b34.2.2.2.2.1, ()) b34.1, ()))) else none else none) else (verdererref01_Read_l1000009 n (a0, 0, false, 0, (⟨#[]⟩ : ByteArray), 0, false, 0, (⟨#[]⟩ : ByteArray), ()) (fun b39 => k0 (b39.2.1, b39.2.2.1, b39.2.2.2.1, b39.2.2.2.2.1, ()) b39.1, ()))))))
def verdererref01_Read_F {R : Type} := lazyN (@verdererref01_Read_Fi R)
theorem verdererref01_Read_e : @verdererref01_Read_F R = @verdererref01_Read_Fi R := lazyN_eq _
end
end Go.Proofs.YtnnbinmomendnaaDoor.E
set_option linter.unusedVariables false
set_option maxRecDepth 100000
namespace Go.Proofs.YtnnbinmomendnaaDoor.E
open Go.Proofs
noncomputable section
variable {R : Type}
/-! verderer/verdererref11.letter: function 31 -/
@[reducible] def verdererref11_letter_d : Desc := ⟨[(0, .d (.int .u8))], []⟩
def verdererref11_letter_Fi (n : Nat) (a0 : Int) (k0 : Bool → Option R) : Option R :=
  if (decide (a0 ≥ 97)) = true then (k0 (decide (a0 ≤ 122))) else (k0 false)
def verdererref11_letter_F {R : Type} := lazyN (@verdererref11_letter_Fi R)
theorem verdererref11_letter_e : @verdererref11_letter_F R = @verdererref11_letter_Fi R := lazyN_eq _
end
end Go.Proofs.YtnnbinmomendnaaDoor.E
set_option linter.unusedVariables false
set_option maxRecDepth 100000
namespace Go.Proofs.YtnnbinmomendnaaDoor.E
open Go.Proofs
noncomputable section
variable {R : Type}
/-! verderer/verdererref11.digit: function 34 -/
@[reducible] def verdererref11_digit_d : Desc := ⟨[(0, .d (.int .u8))], []⟩
def verdererref11_digit_Fi (n : Nat) (a0 : Int) (k0 : Bool → Option R) : Option R :=
  if (decide (a0 ≥ 48)) = true then (k0 (decide (a0 ≤ 57))) else (k0 false)
def verdererref11_digit_F {R : Type} := lazyN (@verdererref11_digit_Fi R)
theorem verdererref11_digit_e : @verdererref11_digit_F R = @verdererref11_digit_Fi R := lazyN_eq _
end
end Go.Proofs.YtnnbinmomendnaaDoor.E
set_option linter.unusedVariables false
set_option maxRecDepth 100000
namespace Go.Proofs.YtnnbinmomendnaaDoor.E
open Go.Proofs
noncomputable section
variable {R : Type}
/-! verderer/verdererref11.word: function 32 -/
def verdererref11_word_ds : Nat → Desc
  | 2 => ⟨[(0, .d .str), (3, .d (.int .i64))], []⟩
  | _ => ⟨[], []⟩
def verdererref11_word_dx : Nat → List (X × Desc)
  | 2 => [(.e 0, ⟨[(3, .d (.int .i64))], []⟩)]
  | _ => []
def verdererref11_word_s2 (n : Nat) (x0 : ByteArray) (x1 : Int) (k1 : ByteArray → Int → Option R) (qe0 : Int → Option R) : Option R :=
  if (decide (x1 < (x0.size : Int))) = true then (if (0 : Int) ≤ x1 then if x1 < (x0.size : Int) then (verdererref11_letter_F n (byteAt x0 x1) (fun y1 => if y1 = true then (k1 x0 (IntKind.i64.wrap (x1 + 1))) else (if (decide (x1 > 0)) = true then (if (0 : Int) ≤ x1 then if x1 < (x0.size : Int) then (verdererref11_digit_F n (byteAt x0 x1) (fun y2 => if y2 = true then (k1 x0 (IntKind.i64.wrap (x1 + 1))) else (if (0 : Int) ≤ x1 then if x1 < (x0.size : Int) then (if ((byteAt x0 x1) == 95) = true then (k1 x0 (IntKind.i64.wrap (x1 + 1))) else (qe0 x1)) else none else none))) else none else none) else (qe0 x1)))) else none else none) else (qe0 x1)
def verdererref11_word_l2 (n : Nat) (a : (verdererref11_word_ds 2).D) (k1 : (verdererref11_word_ds 2).D → Option R) (k2 : exK R (verdererref11_word_dx 2)) : Option R :=
  verdererref11_word_s2 n a.1 a.2.1 (fun x0 x1 => k1 (x0, x1, ())) (fun x0 => k2.1 (x0, ()))
@[reducible] def verdererref11_word_d : Desc := ⟨[(0, .d .str)], []⟩
def verdererref11_word_Fi (n : Nat) (a0 : ByteArray) (k0 : Int → Option R) : Option R :=
  runC (verdererref11_word_l2 n) n (a0, 0, ()) (fun b3 => k0 b3.1, ())
def verdererref11_word_F {R : Type} := lazyN (@verdererref11_word_Fi R)
theorem verdererref11_word_e : @verdererref11_word_F R = @verdererref11_word_Fi R := lazyN_eq _
end
end Go.Proofs.YtnnbinmomendnaaDoor.E
set_option linter.unusedVariables false
set_option maxRecDepth 100000
namespace Go.Proofs.YtnnbinmomendnaaDoor.E
open Go.Proofs
noncomputable section
variable {R : Type}
/-! verderer/verdererref11.number: function 35 -/
def verdererref11_number_ds : Nat → Desc
  | 4 => ⟨[(0, .d .str), (3, .d (.int .i64))], []⟩
  | _ => ⟨[], []⟩
def verdererref11_number_dx : Nat → List (X × Desc)
  | 4 => [(.e 0, ⟨[(3, .d (.int .i64))], []⟩)]
  | _ => []
def verdererref11_number_s4 (n : Nat) (x0 : ByteArray) (x1 : Int) (k1 : ByteArray → Int → Option R) (qe0 : Int → Option R) : Option R :=
  if (decide (x1 < (x0.size : Int))) = true then (if (0 : Int) ≤ x1 then if x1 < (x0.size : Int) then (verdererref11_digit_F n (byteAt x0 x1) (fun y1 => if y1 = true then (k1 x0 (IntKind.i64.wrap (x1 + 1))) else (qe0 x1))) else none else none) else (qe0 x1)
def verdererref11_number_l4 (n : Nat) (a : (verdererref11_number_ds 4).D) (k1 : (verdererref11_number_ds 4).D → Option R) (k2 : exK R (verdererref11_number_dx 4)) : Option R :=
  verdererref11_number_s4 n a.1 a.2.1 (fun x0 x1 => k1 (x0, x1, ())) (fun x0 => k2.1 (x0, ()))
@[reducible] def verdererref11_number_d : Desc := ⟨[(0, .d .str)], []⟩
def verdererref11_number_Fi (n : Nat) (a0 : ByteArray) (k0 : Int → Option R) : Option R :=
  if (decide ((a0.size : Int) > 0)) = true then (if (0 : Int) ≤ 0 then if 0 < (a0.size : Int) then (if ((byteAt a0 0) == 45) = true then (runC (verdererref11_number_l4 n) n (a0, 1, ()) (fun b2 => k0 b2.1, ())) else (runC (verdererref11_number_l4 n) n (a0, 0, ()) (fun b3 => k0 b3.1, ()))) else none else none) else (runC (verdererref11_number_l4 n) n (a0, 0, ()) (fun b4 => k0 b4.1, ()))
def verdererref11_number_F {R : Type} := lazyN (@verdererref11_number_Fi R)
theorem verdererref11_number_e : @verdererref11_number_F R = @verdererref11_number_Fi R := lazyN_eq _
end
end Go.Proofs.YtnnbinmomendnaaDoor.E
set_option linter.unusedVariables false
set_option maxRecDepth 100000
namespace Go.Proofs.YtnnbinmomendnaaDoor.E
open Go.Proofs
noncomputable section
variable {R : Type}
/-! verderer/verdererref11.sign: function 37 -/
@[reducible] def verdererref11_sign_d : Desc := ⟨[(0, .d .str)], []⟩
def verdererref11_sign_Fi (n : Nat) (a0 : ByteArray) (k0 : Int → Option R) : Option R :=
  if (decide ((a0.size : Int) ≥ 2)) = true then (if (0 : Int) ≤ 1 then if 1 < (a0.size : Int) then (if ((byteAt a0 1) == 61) = true then (if (0 : Int) ≤ 0 then if 0 < (a0.size : Int) then (if ((byteAt a0 0) == 61) = true then (k0 2) else (if (0 : Int) ≤ 0 then if 0 < (a0.size : Int) then (if ((byteAt a0 0) == 33) = true then (k0 2) else (if (0 : Int) ≤ 0 then if 0 < (a0.size : Int) then (if ((byteAt a0 0) == 60) = true then (k0 2) else (if (0 : Int) ≤ 0 then if 0 < (a0.size : Int) then (if ((byteAt a0 0) == 62) = true then (k0 2) else (if (0 : Int) ≤ 0 then if 0 < (a0.size : Int) then (if ((byteAt a0 0) == 40) = true then (k0 1) else (if ((byteAt a0 0) == 41) = true then (k0 1) else (if ((byteAt a0 0) == 44) = true then (k0 1) else (if ((byteAt a0 0) == 95) = true then (k0 1) else (if ((byteAt a0 0) == 60) = true then (k0 1) else (if ((byteAt a0 0) == 62) = true then (k0 1) else (k0 0))))))) else none else none)) else none else none)) else none else none)) else none else none)) else none else none) else (if (0 : Int) ≤ 0 then if 0 < (a0.size : Int) then (if ((byteAt a0 0) == 40) = true then (k0 1) else (if ((byteAt a0 0) == 41) = true then (k0 1) else (if ((byteAt a0 0) == 44) = true then (k0 1) else (if ((byteAt a0 0) == 95) = true then (k0 1) else (if ((byteAt a0 0) == 60) = true then (k0 1) else (if ((byteAt a0 0) == 62) = true then (k0 1) else (k0 0))))))) else none else none)) else none else none) else (if (0 : Int) ≤ 0 then if 0 < (a0.size : Int) then (if ((byteAt a0 0) == 40) = true then (k0 1) else (if ((byteAt a0 0) == 41) = true then (k0 1) else (if ((byteAt a0 0) == 44) = true then (k0 1) else (if ((byteAt a0 0) == 95) = true then (k0 1) else (if ((byteAt a0 0) == 60) = true then (k0 1) else (if ((byteAt a0 0) == 62) = true then (k0 1) else (k0 0))))))) else none else none)
def verdererref11_sign_F {R : Type} := lazyN (@verdererref11_sign_Fi R)
theorem verdererref11_sign_e : @verdererref11_sign_F R = @verdererref11_sign_Fi R := lazyN_eq _
end
end Go.Proofs.YtnnbinmomendnaaDoor.E
set_option linter.unusedVariables false
set_option maxRecDepth 100000
namespace Go.Proofs.YtnnbinmomendnaaDoor.E
open Go.Proofs
noncomputable section
variable {R : Type}
/-! verderer/verdererref11.text: function 36 -/
def verdererref11_text_ds : Nat → Desc
  | 2 => ⟨[(0, .d .str), (3, .d (.int .i64))], []⟩
  | _ => ⟨[], []⟩
def verdererref11_text_dx : Nat → List (X × Desc)
  | 2 => [(.r, ⟨[(2, .d (.int .i64))], []⟩), (.e 0, ⟨[], []⟩)]
  | _ => []
def verdererref11_text_s2 (n : Nat) (x0 : ByteArray) (x1 : Int) (k1 : ByteArray → Int → Option R) (qr : Int → Option R) (qe0 : Option R) : Option R :=
  if (decide (x1 < (x0.size : Int))) = true then (if (0 : Int) ≤ x1 then if x1 < (x0.size : Int) then (if ((byteAt x0 x1) == 92) = true then (k1 x0 (IntKind.i64.wrap ((IntKind.i64.wrap (x1 + 1)) + 1))) else (if (0 : Int) ≤ x1 then if x1 < (x0.size : Int) then (if ((byteAt x0 x1) == 34) = true then (qr (IntKind.i64.wrap (x1 + 1))) else (k1 x0 (IntKind.i64.wrap (x1 + 1)))) else none else none)) else none else none) else qe0
def verdererref11_text_l2 (n : Nat) (a : (verdererref11_text_ds 2).D) (k1 : (verdererref11_text_ds 2).D → Option R) (k2 : exK R (verdererref11_text_dx 2)) : Option R :=
  verdererref11_text_s2 n a.1 a.2.1 (fun x0 x1 => k1 (x0, x1, ())) (fun x0 => k2.1 (x0, ())) (k2.2.1 (()))
@[reducible] def verdererref11_text_d : Desc := ⟨[(0, .d .str)], []⟩
def verdererref11_text_Fi (n : Nat) (a0 : ByteArray) (k0 : Int → Option R) : Option R :=
  runC (verdererref11_text_l2 n) n (a0, 1, ()) (fun b1 => k0 b1.1, fun b1 => k0 0, ())
def verdererref11_text_F {R : Type} := lazyN (@verdererref11_text_Fi R)
theorem verdererref11_text_e : @verdererref11_text_F R = @verdererref11_text_Fi R := lazyN_eq _
end
end Go.Proofs.YtnnbinmomendnaaDoor.E
set_option linter.unusedVariables false
set_option maxRecDepth 100000
namespace Go.Proofs.YtnnbinmomendnaaDoor.E
open Go.Proofs
noncomputable section
variable {R : Type}
/-! verderer/verdererref11.one: function 22 -/
def verdererref11_one_ds : Nat → Desc
  | 1000015 => ⟨[(0, .d .str), (2, .pt 0 0), (7, .d (.int .i64))], [.box false 52 [.d (.int .i64), .d .str, .d (.int .i64), .d .bool, .d (.int .i64), .d .str, .d (.int .i64)]]⟩
  | _ => ⟨[], []⟩
def verdererref11_one_dx : Nat → List (X × Desc)
  | 1000015 => [(.r, ⟨[(2, .pt 0 0), (3, .d .bool)], [.box false 52 [.d (.int .i64), .d .str, .d (.int .i64), .d .bool, .d (.int .i64), .d .str, .d (.int .i64)]]⟩)]
  | _ => []
def verdererref11_one_s1000015 (n : Nat) (x0 : ByteArray) (x1 : Int) (x2 : Int) (x3 : ByteArray) (x4 : Int) (x5 : Bool) (x6 : Int) (x7 : ByteArray) (x8 : Int) (qr : Bool → Int → ByteArray → Int → Bool → Int → ByteArray → Int → Option R) : Option R :=
  if (decide (x1 > 0)) = true then (if (0 : Int) ≤ x1 ∧ x1 ≤ (x0.size : Int) then (verdererref01_Read_F n (x0.extract 0 (Int.toNat x1)) (fun y8 y9 => if (0 : Int) ≤ x1 ∧ x1 ≤ (x0.size : Int) then (qr (y9 == 0) 2 (x0.extract 0 (Int.toNat x1)) y8.1 y8.2.1 y8.2.2.1 y8.2.2.2.1 0) else none)) else none) else (if (0 : Int) ≤ 0 then if 0 < (x0.size : Int) then (if ((byteAt x0 0) == 34) = true then (qr false 0 (⟨#[]⟩ : ByteArray) 0 false 0 (⟨#[]⟩ : ByteArray) 0) else (verdererref11_sign_F n x0 (fun y10 => if (0 : Int) ≤ y10 ∧ y10 ≤ (x0.size : Int) then (qr (decide (y10 > 0)) 3 (x0.extract 0 (Int.toNat y10)) 0 false 0 (⟨#[]⟩ : ByteArray) 0) else none))) else none else none)
def verdererref11_one_li1000015 (n : Nat) (a : (verdererref11_one_ds 1000015).D) (k2 : exK R (verdererref11_one_dx 1000015)) : Option R :=
  verdererref11_one_s1000015 n a.1 a.2.1 a.2.2.1 a.2.2.2.1 a.2.2.2.2.1 a.2.2.2.2.2.1 a.2.2.2.2.2.2.1 a.2.2.2.2.2.2.2.1 a.2.2.2.2.2.2.2.2.1 (fun x0 x1 x2 x3 x4 x5 x6 x7 => k2.1 (x0, x1, x2, x3, x4, x5, x6, x7, ()))
def verdererref11_one_l1000015 {R : Type} := lazyN (@verdererref11_one_li1000015 R)
theorem verdererref11_one_e1000015 : @verdererref11_one_l1000015 R = @verdererref11_one_li1000015 R := lazyN_eq _
@[reducible] def verdererref11_one_d : Desc := ⟨[(0, .d .str)], []⟩
def verdererref11_one_Fi (n : Nat) (a0 : ByteArray) (k0 : ty52.D → Bool → Option R) : Option R :=
  if (0 : Int) ≤ 0 then if 0 < (a0.size : Int) then (verdererref11_letter_F n (byteAt a0 0) (fun y1 => if y1 = true then (verdererref11_word_F n a0 (fun y2 => if (0 : Int) ≤ y2 ∧ y2 ≤ (a0.size : Int) then (verdererref01_Read_F n (a0.extract 0 (Int.toNat y2)) (fun y3 y4 => if ((a0.extract 0 (Int.toNat y2)).toList == (⟨#[110, 117, 108, 108]⟩ : ByteArray).toList) = true then (k0 (2, (a0.extract 0 (Int.toNat y2)), y3, 0, ()) true) else (if (y4 == 0) = true then (k0 (2, (a0.extract 0 (Int.toNat y2)), y3, 0, ()) true) else (k0 (1, (a0.extract 0 (Int.toNat y2)), (0, false, 0, (⟨#[]⟩ : ByteArray), ()), 0, ()) true)))) else none)) else (if (0 : Int) ≤ 0 then if 0 < (a0.size : Int) then (verdererref11_digit_F n (byteAt a0 0) (fun y5 => if y5 = true then (verdererref11_number_F n a0 (fun y6 => if (decide (y6 < (a0.size : Int))) = true then (if (0 : Int) ≤ y6 then if y6 < (a0.size : Int) then (verdererref11_letter_F n (byteAt a0 y6) (fun y7 => if y7 = true then (k0 (0, (⟨#[]⟩ : ByteArray), (0, false, 0, (⟨#[]⟩ : ByteArray), ()), 0, ()) false) else (if (0 : Int) ≤ y6 then if y6 < (a0.size : Int) then (if ((byteAt a0 y6) == 95) = true then (k0 (0, (⟨#[]⟩ : ByteArray), (0, false, 0, (⟨#[]⟩ : ByteArray), ()), 0, ()) false) else (verdererref11_one_l1000015 n (a0, y6, 0, (⟨#[]⟩ : ByteArray), 0, false, 0, (⟨#[]⟩ : ByteArray), 0, ()) (fun b18 => k0 (b18.2.1, b18.2.2.1, (b18.2.2.2.1, b18.2.2.2.2.1, b18.2.2.2.2.2.1, b18.2.2.2.2.2.2.1, ()), b18.2.2.2.2.2.2.2.1, ()) b18.1, ()))) else none else none))) else none else none) else (verdererref11_one_l1000015 n (a0, y6, 0, (⟨#[]⟩ : ByteArray), 0, false, 0, (⟨#[]⟩ : ByteArray), 0, ()) (fun b26 => k0 (b26.2.1, b26.2.2.1, (b26.2.2.2.1, b26.2.2.2.2.1, b26.2.2.2.2.2.1, b26.2.2.2.2.2.2.1, ()), b26.2.2.2.2.2.2.2.1, ()) b26.1, ())))) else (if (0 : Int) ≤ 0 then if 0 < (a0.size : Int) then (if ((byteAt a0 0) == 45) = true then (verdererref11_number_F n a0 (fun y27 => if (decide (y27 < (a0.size : Int))) = true then (if (0 : Int) ≤ y27 then if y27 < (a0.size : Int) then (verdererref11_letter_F n (byteAt a0 y27) (fun y28 => if y28 = true then (k0 (0, (⟨#[]⟩ : ByteArray), (0, false, 0, (⟨#[]⟩ : ByteArray), ()), 0, ()) false) else (if (0 : Int) ≤ y27 then if y27 < (a0.size : Int) then (if ((byteAt a0 y27) == 95) = true then (k0 (0, (⟨#[]⟩ : ByteArray), (0, false, 0, (⟨#[]⟩ : ByteArray), ()), 0, ()) false) else (verdererref11_one_l1000015 n (a0, y27, 0, (⟨#[]⟩ : ByteArray), 0, false, 0, (⟨#[]⟩ : ByteArray), 0, ()) (fun b36 => k0 (b36.2.1, b36.2.2.1, (b36.2.2.2.1, b36.2.2.2.2.1, b36.2.2.2.2.2.1, b36.2.2.2.2.2.2.1, ()), b36.2.2.2.2.2.2.2.1, ()) b36.1, ()))) else none else none))) else none else none) else (verdererref11_one_l1000015 n (a0, y27, 0, (⟨#[]⟩ : ByteArray), 0, false, 0, (⟨#[]⟩ : ByteArray), 0, ()) (fun b44 => k0 (b44.2.1, b44.2.2.1, (b44.2.2.2.1, b44.2.2.2.2.1, b44.2.2.2.2.2.1, b44.2.2.2.2.2.2.1, ()), b44.2.2.2.2.2.2.2.1, ()) b44.1, ())))) else (if (0 : Int) ≤ 0 then if 0 < (a0.size : Int) then (if ((byteAt a0 0) == 34) = true then (verdererref11_text_F n a0 (fun y45 => verdererref11_one_l1000015 n (a0, y45, 0, (⟨#[]⟩ : ByteArray), 0, false, 0, (⟨#[]⟩ : ByteArray), 0, ()) (fun b53 => k0 (b53.2.1, b53.2.2.1, (b53.2.2.2.1, b53.2.2.2.2.1, b53.2.2.2.2.2.1, b53.2.2.2.2.2.2.1, ()), b53.2.2.2.2.2.2.2.1, ()) b53.1, ()))) else (verdererref11_one_l1000015 n (a0, 0, 0, (⟨#[]⟩ : ByteArray), 0, false, 0, (⟨#[]⟩ : ByteArray), 0, ()) (fun b61 => k0 (b61.2.1, b61.2.2.1, (b61.2.2.2.1, b61.2.2.2.2.1, b61.2.2.2.2.2.1, b61.2.2.2.2.2.2.1, ()), b61.2.2.2.2.2.2.2.1, ()) b61.1, ()))) else none else none)) else none else none))) else none else none))) else none else none
def verdererref11_one_F {R : Type} := lazyN (@verdererref11_one_Fi R)
theorem verdererref11_one_e : @verdererref11_one_F R = @verdererref11_one_Fi R := lazyN_eq _
end
end Go.Proofs.YtnnbinmomendnaaDoor.E
set_option linter.unusedVariables false
set_option maxRecDepth 100000
namespace Go.Proofs.YtnnbinmomendnaaDoor.E
open Go.Proofs
noncomputable section
variable {R : Type}
/-! verderer/verdererref11.Read: function 9 -/
def verdererref11_Read_ds : Nat → Desc
  | 5 => ⟨[(0, .d .str), (5, .ow 1), (6, .d (.int .i64))], [.no, .arr 52 ty52]⟩
  | _ => ⟨[], []⟩
def verdererref11_Read_dx : Nat → List (X × Desc)
  | 5 => [(.r, ⟨[(2, .ow 3), (3, .d (.int .i64)), (4, .d (.int .i64))], [.no, .no, .no, .arr 52 ty52]⟩), (.e 0, ⟨[(0, .d .str), (5, .ow 1)], [.no, .arr 52 ty52]⟩)]
  | _ => []
def verdererref11_Read_s5 (n : Nat) (x0 : ByteArray) (x1 : Int) (x2 : (List ty52.D)) (k1 : ByteArray → Int → (List ty52.D) → Option R) (qr : Int → Int → (List ty52.D) → Option R) (qe0 : ByteArray → (List ty52.D) → Option R) : Option R :=
  if (decide (x1 < (x0.size : Int))) = true then (if (0 : Int) ≤ x1 then if x1 < (x0.size : Int) then (if ((byteAt x0 x1) == 32) = true then (k1 x0 (IntKind.i64.wrap (x1 + 1)) x2) else (if (0 : Int) ≤ x1 then if x1 < (x0.size : Int) then (if ((byteAt x0 x1) == 10) = true then (k1 x0 (IntKind.i64.wrap (x1 + 1)) x2) else (if (0 : Int) ≤ x1 ∧ x1 ≤ (x0.size : Int) then (verdererref11_one_F n (x0.extract (Int.toNat x1) x0.size) (fun y1 y2 => if (!y2) = true then (qr x1 7 ([] : List ty52.D)) else (if (List.length x2 + List.length [(y1.1, y1.2.1, y1.2.2.1, x1, ())]) * 72 ≤ 140737488355328 then (k1 x0 (IntKind.i64.wrap (x1 + (y1.2.1.size : Int))) (x2 ++ [(y1.1, y1.2.1, y1.2.2.1, x1, ())])) else none))) else none)) else none else none)) else none else none) else (qe0 x0 x2)
def verdererref11_Read_l5 (n : Nat) (a : (verdererref11_Read_ds 5).D) (k1 : (verdererref11_Read_ds 5).D → Option R) (k2 : exK R (verdererref11_Read_dx 5)) : Option R :=
  verdererref11_Read_s5 n a.1 a.2.1 a.2.2.1 (fun x0 x1 x2 => k1 (x0, x1, x2, ())) (fun x0 x1 x2 => k2.1 (x0, x1, x2, ())) (fun x0 x1 => k2.2.1 (x0, x1, ()))
@[reducible] def verdererref11_Read_d : Desc := ⟨[(0, .d .str)], []⟩
def verdererref11_Read_Fi (n : Nat) (a0 : ByteArray) (k0 : Int → Int → (List ty52.D) → Option R) : Option R :=
  if (decide ((a0.size : Int) > 300)) = true then (k0 0 9 ([] : List ty52.D)) else (runC (verdererref11_Read_l5 n) n (a0, 0, ([] : List ty52.D), ()) (fun b5 => k0 b5.1 b5.2.1 b5.2.2.1, fun b7 => if (List.length b7.2.1 + List.length [(4, (⟨#[]⟩ : ByteArray), (0, false, 0, (⟨#[]⟩ : ByteArray), ()), (b7.1.size : Int), ())]) * 72 ≤ 140737488355328 then (k0 0 0 (b7.2.1 ++ [(4, (⟨#[]⟩ : ByteArray), (0, false, 0, (⟨#[]⟩ : ByteArray), ()), (b7.1.size : Int), ())])) else none, ()))
def verdererref11_Read_F {R : Type} := lazyN (@verdererref11_Read_Fi R)
theorem verdererref11_Read_e : @verdererref11_Read_F R = @verdererref11_Read_Fi R := lazyN_eq _
end
end Go.Proofs.YtnnbinmomendnaaDoor.E
set_option linter.unusedVariables false
set_option maxRecDepth 100000
namespace Go.Proofs.YtnnbinmomendnaaDoor.E
open Go.Proofs
noncomputable section
variable {R : Type}
/-! verderer/verdererref11.Reserved: function 13 -/
@[reducible] def verdererref11_Reserved_d : Desc := ⟨[(0, .d .str)], []⟩
end
end Go.Proofs.YtnnbinmomendnaaDoor.E
set_option linter.unusedVariables false
set_option maxRecDepth 100000
namespace Go.Proofs.YtnnbinmomendnaaDoor.E
open Go.Proofs
noncomputable section
variable {R : Type}
/-! verderer/verdererref11.Sgn: function 17 -/
@[reducible] def verdererref11_Sgn_d : Desc := ⟨[(0, .d (.int .i64))], []⟩
end
end Go.Proofs.YtnnbinmomendnaaDoor.E
set_option linter.unusedVariables false
set_option maxRecDepth 100000
namespace Go.Proofs.YtnnbinmomendnaaDoor.E
open Go.Proofs
noncomputable section
variable {R : Type}
/-! verderer/verdererref11.Op: function 15 -/
@[reducible] def verdererref11_Op_d : Desc := ⟨[(0, .d .str)], []⟩
end
end Go.Proofs.YtnnbinmomendnaaDoor.E
set_option linter.unusedVariables false
set_option maxRecDepth 100000
namespace Go.Proofs.YtnnbinmomendnaaDoor.E
open Go.Proofs
noncomputable section
variable {R : Type}
/-! verderer/lex.letter: function 47 -/
@[reducible] def lex_letter_d : Desc := ⟨[(0, .d (.int .u8))], []⟩
def lex_letter_Fi (n : Nat) (a0 : Int) (k0 : Bool → Option R) : Option R :=
  if (decide (a0 ≥ 97)) = true then (k0 (decide (a0 ≤ 122))) else (k0 false)
def lex_letter_F {R : Type} := lazyN (@lex_letter_Fi R)
theorem lex_letter_e : @lex_letter_F R = @lex_letter_Fi R := lazyN_eq _
def lex_letter_g (n : Nat) : Gx R := typed 1 lex_letter_d fun x k => lex_letter_F n x.1 (fun y0 => k (.a (.c (.b y0))) [])
def lex_letter_cs (R : Type) (n : Nat) : List (Nat × Gx R) := []
def lex_letter_cx (R : Type) (n : Nat) : Cx R := ⟨Tryd.prog, Gof (lex_letter_cs R n), noDs, noDx, noLp, drawP Tryd.prog (Gof (lex_letter_cs R n)), false, noJn, noFz⟩
theorem lex_letter_ok [Esc R] (n : Nat) : Good Tryd.prog 47 (lex_letter_g (R := R) n) := by
  unfold lex_letter_g
  rw [lex_letter_e]
  exact Good.fn (f := 47) (cx := lex_letter_cx R n) (by kernel_rfl) (AllGood.nil) rfl Tryd.func47 (by kernel_rfl) rfl trivial 1 lex_letter_d (by kernel_rfl) (fun x k => by kernel_rfl)
end
end Go.Proofs.YtnnbinmomendnaaDoor.E
set_option linter.unusedVariables false
set_option maxRecDepth 100000
namespace Go.Proofs.YtnnbinmomendnaaDoor.E
open Go.Proofs
noncomputable section
variable {R : Type}
/-! verderer/lex.digit: function 49 -/
@[reducible] def lex_digit_d : Desc := ⟨[(0, .d (.int .u8))], []⟩
def lex_digit_Fi (n : Nat) (a0 : Int) (k0 : Bool → Option R) : Option R :=
  if (decide (a0 ≥ 48)) = true then (k0 (decide (a0 ≤ 57))) else (k0 false)
def lex_digit_F {R : Type} := lazyN (@lex_digit_Fi R)
theorem lex_digit_e : @lex_digit_F R = @lex_digit_Fi R := lazyN_eq _
def lex_digit_g (n : Nat) : Gx R := typed 1 lex_digit_d fun x k => lex_digit_F n x.1 (fun y0 => k (.a (.c (.b y0))) [])
def lex_digit_cs (R : Type) (n : Nat) : List (Nat × Gx R) := []
def lex_digit_cx (R : Type) (n : Nat) : Cx R := ⟨Tryd.prog, Gof (lex_digit_cs R n), noDs, noDx, noLp, drawP Tryd.prog (Gof (lex_digit_cs R n)), false, noJn, noFz⟩
theorem lex_digit_ok [Esc R] (n : Nat) : Good Tryd.prog 49 (lex_digit_g (R := R) n) := by
  unfold lex_digit_g
  rw [lex_digit_e]
  exact Good.fn (f := 49) (cx := lex_digit_cx R n) (by kernel_rfl) (AllGood.nil) rfl Tryd.func49 (by kernel_rfl) rfl trivial 1 lex_digit_d (by kernel_rfl) (fun x k => by kernel_rfl)
end
end Go.Proofs.YtnnbinmomendnaaDoor.E
set_option linter.unusedVariables false
set_option maxRecDepth 100000
namespace Go.Proofs.YtnnbinmomendnaaDoor.E
open Go.Proofs
noncomputable section
variable {R : Type}
/-! verderer/lex.word$1: function 61 -/
@[reducible] def lex_word_1_d : Desc := ⟨[(0, .d (.int .u8))], []⟩
def lex_word_1_Fi (n : Nat) (a0 : Int) (k0 : Bool → Option R) : Option R :=
  lex_letter_F n a0 (fun y1 => if y1 = true then (k0 true) else (lex_digit_F n a0 (fun y2 => if y2 = true then (k0 true) else (k0 (a0 == 95)))))
def lex_word_1_F {R : Type} := lazyN (@lex_word_1_Fi R)
theorem lex_word_1_e : @lex_word_1_F R = @lex_word_1_Fi R := lazyN_eq _
def lex_word_1_g (n : Nat) : Gx R := typed 1 lex_word_1_d fun x k => lex_word_1_F n x.1 (fun y0 => k (.a (.c (.b y0))) [])
def lex_word_1_cs (R : Type) (n : Nat) : List (Nat × Gx R) := [(47, lex_letter_g n), (49, lex_digit_g n)]
def lex_word_1_cx (R : Type) (n : Nat) : Cx R := ⟨Tryd.prog, Gof (lex_word_1_cs R n), noDs, noDx, noLp, drawP Tryd.prog (Gof (lex_word_1_cs R n)), false, noJn, noFz⟩
theorem lex_word_1_ok [Esc R] (n : Nat) : Good Tryd.prog 61 (lex_word_1_g (R := R) n) := by
  unfold lex_word_1_g
  rw [lex_word_1_e]
  exact Good.fn (f := 61) (cx := lex_word_1_cx R n) (by kernel_rfl) (AllGood.cons (lex_letter_ok n) (AllGood.cons (lex_digit_ok n) (AllGood.nil))) rfl Tryd.func61 (by kernel_rfl) rfl trivial 1 lex_word_1_d (by kernel_rfl) (fun x k => by kernel_rfl)
end
end Go.Proofs.YtnnbinmomendnaaDoor.E
set_option linter.unusedVariables false
set_option maxRecDepth 100000
namespace Go.Proofs.YtnnbinmomendnaaDoor.E
open Go.Proofs
noncomputable section
variable {R : Type}
/-! verderer/lex.run: function 28 -/
def lex_run_ds : Nat → Desc
  | 1 => ⟨[(0, .d .str), (1, .d (.int .i64)), (2, .fn 61 [])], []⟩
  | _ => ⟨[], []⟩
def lex_run_dx : Nat → List (X × Desc)
  | 1 => [(.e 0, ⟨[(1, .d (.int .i64))], []⟩)]
  | _ => []
def lex_run_s1 (n : Nat) (x0 : ByteArray) (x1 : Int) (k1 : ByteArray → Int → Option R) (qe0 : Int → Option R) : Option R :=
  if (decide (x1 < (x0.size : Int))) = true then (if (0 : Int) ≤ x1 then if x1 < (x0.size : Int) then (lex_word_1_F n (byteAt x0 x1) (fun y1 => if y1 = true then (k1 x0 (IntKind.i64.wrap (x1 + 1))) else (qe0 x1))) else none else none) else (qe0 x1)
def lex_run_l1 (n : Nat) (a : (lex_run_ds 1).D) (k1 : (lex_run_ds 1).D → Option R) (k2 : exK R (lex_run_dx 1)) : Option R :=
  lex_run_s1 n a.1 a.2.1 (fun x0 x1 => k1 (x0, x1, ())) (fun x0 => k2.1 (x0, ()))
@[reducible] def lex_run_d : Desc := ⟨[(0, .d .str), (1, .d (.int .i64)), (2, .fn 61 [])], []⟩
def lex_run_Fi (n : Nat) (a0 : ByteArray) (a1 : Int) (k0 : Int → Option R) : Option R :=
  runC (lex_run_l1 n) n (a0, a1, ()) (fun b2 => k0 b2.1, ())
def lex_run_F {R : Type} := lazyN (@lex_run_Fi R)
theorem lex_run_e : @lex_run_F R = @lex_run_Fi R := lazyN_eq _
def lex_run_g (n : Nat) : Gx R := typed 3 lex_run_d fun x k => lex_run_F n x.1 x.2.1 (fun y0 => k (.a (.c (.i .i64 y0))) [])
def lex_run_cs (R : Type) (n : Nat) : List (Nat × Gx R) := [(61, lex_word_1_g n)]
def lex_run_lp (n : Nat) : (i : Nat) → (lex_run_ds i).D → exK R (lex_run_dx i) → Option R
  | 1, a, k => runC (lex_run_l1 n) n a k
  | _, _, _ => none
def lex_run_cx (R : Type) (n : Nat) : Cx R := ⟨Tryd.prog, Gof (lex_run_cs R n), lex_run_ds, lex_run_dx, lex_run_lp n, drawP Tryd.prog (Gof (lex_run_cs R n)), false, noJn, noFz⟩
theorem lex_run_ok [Esc R] (n : Nat) : Good Tryd.prog 28 (lex_run_g (R := R) n) := by
  unfold lex_run_g
  rw [lex_run_e]
  exact Good.fn (f := 28) (cx := lex_run_cx R n) (by kernel_rfl) (AllGood.cons (lex_word_1_ok n) (AllGood.nil)) rfl Tryd.func28 (by kernel_rfl) rfl (by
    have e : fnLoops noJn Tryd.f28 = [((fnLoops noJn Tryd.f28)[0]?).getD (false, .skip)] := by kernel_rfl
    show LoopRuns _ _ (fnLoops noJn _)
    rw [e]
    exact ⟨LoopRun.loop (by kernel_rfl) (i := 1) (m := n) (step := lex_run_l1 n) (by kernel_rfl) (fun a k1 k2 => by kernel_rfl) (fun _ _ => rfl), trivial⟩) 3 lex_run_d (by kernel_rfl) (fun x k => by kernel_rfl)
end
end Go.Proofs.YtnnbinmomendnaaDoor.E
set_option linter.unusedVariables false
set_option maxRecDepth 100000
namespace Go.Proofs.YtnnbinmomendnaaDoor.E
open Go.Proofs
noncomputable section
variable {R : Type}
/-! verderer/value.Bool: function 79 -/
@[reducible] def value_Bool_d : Desc := ⟨[(0, .d .bool)], []⟩
def value_Bool_Fi (n : Nat) (a0 : Bool) (k0 : ty34.D → Option R) : Option R :=
  k0 (1, a0, 0, (⟨#[]⟩ : ByteArray), ())
def value_Bool_F {R : Type} := lazyN (@value_Bool_Fi R)
theorem value_Bool_e : @value_Bool_F R = @value_Bool_Fi R := lazyN_eq _
def value_Bool_g (n : Nat) : Gx R := typed 1 value_Bool_d fun x k => value_Bool_F n x.1 (fun y0 => k (.a (encA ty34 y0)) [])
def value_Bool_cs (R : Type) (n : Nat) : List (Nat × Gx R) := []
def value_Bool_cx (R : Type) (n : Nat) : Cx R := ⟨Tryd.prog, Gof (value_Bool_cs R n), noDs, noDx, noLp, drawP Tryd.prog (Gof (value_Bool_cs R n)), false, noJn, noFz⟩
theorem value_Bool_ok [Esc R] (n : Nat) : Good Tryd.prog 79 (value_Bool_g (R := R) n) := by
  unfold value_Bool_g
  rw [value_Bool_e]
  exact Good.fn (f := 79) (cx := value_Bool_cx R n) (by kernel_rfl) (AllGood.nil) rfl Tryd.func79 (by kernel_rfl) rfl trivial 1 value_Bool_d (by kernel_rfl) (fun x k => by kernel_rfl)
end
end Go.Proofs.YtnnbinmomendnaaDoor.E
set_option linter.unusedVariables false
set_option maxRecDepth 100000
namespace Go.Proofs.YtnnbinmomendnaaDoor.E
open Go.Proofs
noncomputable section
variable {R : Type}
/-! strconv.ParseInt: function 80 -/
@[reducible] def strconv_ParseInt_d : Desc := ⟨[(0, .d .str), (1, .d (.int .i64)), (2, .d (.int .i64))], []⟩
def strconv_ParseInt_Fi (n : Nat) (a0 : ByteArray) (a1 : Int) (a2 : Int) (k0 : Int → Bool → Option R) : Option R :=
  if a1 = 10 ∧ a2 = 64 ∧ a0.size ≤ 281474976710656 then (k0 (piV a0) (piE a0)) else none
def strconv_ParseInt_F {R : Type} := lazyN (@strconv_ParseInt_Fi R)
theorem strconv_ParseInt_e : @strconv_ParseInt_F R = @strconv_ParseInt_Fi R := lazyN_eq _
def strconv_ParseInt_g (n : Nat) : Gx R := typed 3 strconv_ParseInt_d fun x k => strconv_ParseInt_F n x.1 x.2.1 x.2.2.1 (fun y0 y1 => k (.tu [(.c (.i .i64 y0)), (.c (.er y1))]) [])
theorem strconv_ParseInt_ok [Esc R] (n : Nat) : Good Tryd.prog 80 (strconv_ParseInt_g (R := R) n) := by
  unfold strconv_ParseInt_g
  rw [strconv_ParseInt_e]
  exact Good.hand3 Tryd.func80 (by kernel_rfl) rfl rfl rfl rfl parse_back (fun x k => rfl)
end
end Go.Proofs.YtnnbinmomendnaaDoor.E
set_option linter.unusedVariables false
set_option maxRecDepth 100000
namespace Go.Proofs.YtnnbinmomendnaaDoor.E
open Go.Proofs
noncomputable section
variable {R : Type}
/-! verderer/value.Int: function 81 -/
@[reducible] def value_Int_d : Desc := ⟨[(0, .d (.int .i64))], []⟩
def value_Int_Fi (n : Nat) (a0 : Int) (k0 : ty34.D → Option R) : Option R :=
  k0 (2, false, a0, (⟨#[]⟩ : ByteArray), ())
def value_Int_F {R : Type} := lazyN (@value_Int_Fi R)
theorem value_Int_e : @value_Int_F R = @value_Int_Fi R := lazyN_eq _
def value_Int_g (n : Nat) : Gx R := typed 1 value_Int_d fun x k => value_Int_F n x.1 (fun y0 => k (.a (encA ty34 y0)) [])
def value_Int_cs (R : Type) (n : Nat) : List (Nat × Gx R) := []
def value_Int_cx (R : Type) (n : Nat) : Cx R := ⟨Tryd.prog, Gof (value_Int_cs R n), noDs, noDx, noLp, drawP Tryd.prog (Gof (value_Int_cs R n)), false, noJn, noFz⟩
theorem value_Int_ok [Esc R] (n : Nat) : Good Tryd.prog 81 (value_Int_g (R := R) n) := by
  unfold value_Int_g
  rw [value_Int_e]
  exact Good.fn (f := 81) (cx := value_Int_cx R n) (by kernel_rfl) (AllGood.nil) rfl Tryd.func81 (by kernel_rfl) rfl trivial 1 value_Int_d (by kernel_rfl) (fun x k => by kernel_rfl)
end
end Go.Proofs.YtnnbinmomendnaaDoor.E
set_option linter.unusedVariables false
set_option maxRecDepth 100000
namespace Go.Proofs.YtnnbinmomendnaaDoor.E
open Go.Proofs
noncomputable section
variable {R : Type}
/-! internal/bytealg.IndexByteString: function 122 -/
@[reducible] def bytealg_IndexByteString_d : Desc := ⟨[(0, .d .str), (1, .d (.int .u8))], []⟩
def bytealg_IndexByteString_Fi (n : Nat) (a0 : ByteArray) (a1 : Int) (k0 : Int → Option R) : Option R :=
  k0 (idxB a0 a1)
def bytealg_IndexByteString_F {R : Type} := lazyN (@bytealg_IndexByteString_Fi R)
theorem bytealg_IndexByteString_e : @bytealg_IndexByteString_F R = @bytealg_IndexByteString_Fi R := lazyN_eq _
def bytealg_IndexByteString_g (n : Nat) : Gx R := typed 2 bytealg_IndexByteString_d fun x k => bytealg_IndexByteString_F n x.1 x.2.1 (fun y0 => k (.a (.c (.i .i64 y0))) [])
theorem bytealg_IndexByteString_ok [Esc R] (n : Nat) : Good Tryd.prog 122 (bytealg_IndexByteString_g (R := R) n) := by
  unfold bytealg_IndexByteString_g
  rw [bytealg_IndexByteString_e]
  exact Good.ext2 Tryd.func122 (by kernel_rfl) rfl (by kernel_rfl) (by kernel_rfl) idxB idxB_run (fun x k => rfl)
end
end Go.Proofs.YtnnbinmomendnaaDoor.E
set_option linter.unusedVariables false
set_option maxRecDepth 100000
namespace Go.Proofs.YtnnbinmomendnaaDoor.E
open Go.Proofs
noncomputable section
variable {R : Type}
/-! internal/stringslite.IndexByte: function 114 -/
@[reducible] def stringslite_IndexByte_d : Desc := ⟨[(0, .d .str), (1, .d (.int .u8))], []⟩
def stringslite_IndexByte_Fi (n : Nat) (a0 : ByteArray) (a1 : Int) (k0 : Int → Option R) : Option R :=
  bytealg_IndexByteString_F n a0 a1 (fun y1 => k0 y1)
def stringslite_IndexByte_F {R : Type} := lazyN (@stringslite_IndexByte_Fi R)
theorem stringslite_IndexByte_e : @stringslite_IndexByte_F R = @stringslite_IndexByte_Fi R := lazyN_eq _
def stringslite_IndexByte_g (n : Nat) : Gx R := typed 2 stringslite_IndexByte_d fun x k => stringslite_IndexByte_F n x.1 x.2.1 (fun y0 => k (.a (.c (.i .i64 y0))) [])
def stringslite_IndexByte_cs (R : Type) (n : Nat) : List (Nat × Gx R) := [(122, bytealg_IndexByteString_g n)]
def stringslite_IndexByte_cx (R : Type) (n : Nat) : Cx R := ⟨Tryd.prog, Gof (stringslite_IndexByte_cs R n), noDs, noDx, noLp, drawP Tryd.prog (Gof (stringslite_IndexByte_cs R n)), false, noJn, noFz⟩
theorem stringslite_IndexByte_ok [Esc R] (n : Nat) : Good Tryd.prog 114 (stringslite_IndexByte_g (R := R) n) := by
  unfold stringslite_IndexByte_g
  rw [stringslite_IndexByte_e]
  exact Good.fn (f := 114) (cx := stringslite_IndexByte_cx R n) (by kernel_rfl) (AllGood.cons (bytealg_IndexByteString_ok n) (AllGood.nil)) rfl Tryd.func114 (by kernel_rfl) rfl trivial 2 stringslite_IndexByte_d (by kernel_rfl) (fun x k => by kernel_rfl)
end
end Go.Proofs.YtnnbinmomendnaaDoor.E
set_option linter.unusedVariables false
set_option maxRecDepth 100000
namespace Go.Proofs.YtnnbinmomendnaaDoor.E
open Go.Proofs
noncomputable section
variable {R : Type}
/-! strings.IndexByte: function 103 -/
@[reducible] def strings_IndexByte_d : Desc := ⟨[(0, .d .str), (1, .d (.int .u8))], []⟩
def strings_IndexByte_Fi (n : Nat) (a0 : ByteArray) (a1 : Int) (k0 : Int → Option R) : Option R :=
  stringslite_IndexByte_F n a0 a1 (fun y1 => k0 y1)
def strings_IndexByte_F {R : Type} := lazyN (@strings_IndexByte_Fi R)
theorem strings_IndexByte_e : @strings_IndexByte_F R = @strings_IndexByte_Fi R := lazyN_eq _
def strings_IndexByte_g (n : Nat) : Gx R := typed 2 strings_IndexByte_d fun x k => strings_IndexByte_F n x.1 x.2.1 (fun y0 => k (.a (.c (.i .i64 y0))) [])
def strings_IndexByte_cs (R : Type) (n : Nat) : List (Nat × Gx R) := [(114, stringslite_IndexByte_g n)]
def strings_IndexByte_cx (R : Type) (n : Nat) : Cx R := ⟨Tryd.prog, Gof (strings_IndexByte_cs R n), noDs, noDx, noLp, drawP Tryd.prog (Gof (strings_IndexByte_cs R n)), false, noJn, noFz⟩
theorem strings_IndexByte_ok [Esc R] (n : Nat) : Good Tryd.prog 103 (strings_IndexByte_g (R := R) n) := by
  unfold strings_IndexByte_g
  rw [strings_IndexByte_e]
  exact Good.fn (f := 103) (cx := strings_IndexByte_cx R n) (by kernel_rfl) (AllGood.cons (stringslite_IndexByte_ok n) (AllGood.nil)) rfl Tryd.func103 (by kernel_rfl) rfl trivial 2 strings_IndexByte_d (by kernel_rfl) (fun x k => by kernel_rfl)
end
end Go.Proofs.YtnnbinmomendnaaDoor.E
set_option linter.unusedVariables false
set_option maxRecDepth 100000
namespace Go.Proofs.YtnnbinmomendnaaDoor.E
open Go.Proofs
noncomputable section
variable {R : Type}
/-! verderer/value.next: function 92 -/
@[reducible] def value_next_d : Desc := ⟨[(0, .d .str)], []⟩
def value_next_Fi (n : Nat) (a0 : ByteArray) (k0 : Int → ByteArray → Bool → Option R) : Option R :=
  if (0 : Int) ≤ 0 then if 0 < (a0.size : Int) then (if ((byteAt a0 0) != 92) = true then (if (0 : Int) ≤ 0 then if 0 < (a0.size : Int) then (if (0 : Int) ≤ 1 ∧ 1 ≤ (a0.size : Int) then (k0 (byteAt a0 0) (a0.extract (Int.toNat 1) a0.size) true) else none) else none else none) else (if (decide ((a0.size : Int) > 1)) = true then (if (0 : Int) ≤ 1 then if 1 < (a0.size : Int) then (if ((byteAt a0 1) != 120) = true then (if (0 : Int) ≤ 1 then if 1 < (a0.size : Int) then (if (0 : Int) ≤ 2 ∧ 2 ≤ (a0.size : Int) then (k0 (byteAt a0 1) (a0.extract (Int.toNat 2) a0.size) true) else none) else none else none) else (if (decide ((a0.size : Int) < 4)) = true then (k0 0 (⟨#[]⟩ : ByteArray) false) else (if (0 : Int) ≤ 2 then if 2 < (a0.size : Int) then (strings_IndexByte_F n (⟨#[48, 49, 50, 51, 52, 53, 54, 55, 56, 57, 97, 98, 99, 100, 101, 102]⟩ : ByteArray) (byteAt a0 2) (fun y1 => if (0 : Int) ≤ 3 then if 3 < (a0.size : Int) then (strings_IndexByte_F n (⟨#[48, 49, 50, 51, 52, 53, 54, 55, 56, 57, 97, 98, 99, 100, 101, 102]⟩ : ByteArray) (byteAt a0 3) (fun y2 => if (0 : Int) ≤ 4 ∧ 4 ≤ (a0.size : Int) then (if (decide (y1 ≥ 0)) = true then (k0 (IntKind.u8.wrap (bitsI .or .i64 (shlI .i64 y1 4) y2)) (a0.extract (Int.toNat 4) a0.size) (decide (y2 ≥ 0))) else (k0 (IntKind.u8.wrap (bitsI .or .i64 (shlI .i64 y1 4) y2)) (a0.extract (Int.toNat 4) a0.size) false)) else none)) else none else none)) else none else none))) else none else none) else (if (decide ((a0.size : Int) < 4)) = true then (k0 0 (⟨#[]⟩ : ByteArray) false) else (if (0 : Int) ≤ 2 then if 2 < (a0.size : Int) then (strings_IndexByte_F n (⟨#[48, 49, 50, 51, 52, 53, 54, 55, 56, 57, 97, 98, 99, 100, 101, 102]⟩ : ByteArray) (byteAt a0 2) (fun y3 => if (0 : Int) ≤ 3 then if 3 < (a0.size : Int) then (strings_IndexByte_F n (⟨#[48, 49, 50, 51, 52, 53, 54, 55, 56, 57, 97, 98, 99, 100, 101, 102]⟩ : ByteArray) (byteAt a0 3) (fun y4 => if (0 : Int) ≤ 4 ∧ 4 ≤ (a0.size : Int) then (if (decide (y3 ≥ 0)) = true then (k0 (IntKind.u8.wrap (bitsI .or .i64 (shlI .i64 y3 4) y4)) (a0.extract (Int.toNat 4) a0.size) (decide (y4 ≥ 0))) else (k0 (IntKind.u8.wrap (bitsI .or .i64 (shlI .i64 y3 4) y4)) (a0.extract (Int.toNat 4) a0.size) false)) else none)) else none else none)) else none else none)))) else none else none
def value_next_F {R : Type} := lazyN (@value_next_Fi R)
theorem value_next_e : @value_next_F R = @value_next_Fi R := lazyN_eq _
def value_next_g (n : Nat) : Gx R := typed 1 value_next_d fun x k => value_next_F n x.1 (fun y0 y1 y2 => k (.tu [(.c (.i .u8 y0)), (.c (.s y1)), (.c (.b y2))]) [])
def value_next_cs (R : Type) (n : Nat) : List (Nat × Gx R) := [(103, strings_IndexByte_g n)]
def value_next_cx (R : Type) (n : Nat) : Cx R := ⟨Tryd.prog, Gof (value_next_cs R n), noDs, noDx, noLp, drawP Tryd.prog (Gof (value_next_cs R n)), false, noJn, noFz⟩
theorem value_next_ok [Esc R] (n : Nat) : Good Tryd.prog 92 (value_next_g (R := R) n) := by
  unfold value_next_g
  rw [value_next_e]
  exact Good.fn (f := 92) (cx := value_next_cx R n) (by kernel_rfl) (AllGood.cons (strings_IndexByte_ok n) (AllGood.nil)) rfl Tryd.func92 (by kernel_rfl) rfl trivial 1 value_next_d (by kernel_rfl) (fun x k => by kernel_rfl)
end
end Go.Proofs.YtnnbinmomendnaaDoor.E
set_option linter.unusedVariables false
set_option maxRecDepth 100000
namespace Go.Proofs.YtnnbinmomendnaaDoor.E
open Go.Proofs
noncomputable section
variable {R : Type}
/-! verderer/value.unquoted: function 82 -/
def value_unquoted_ds : Nat → Desc
  | 5 => ⟨[(0, .d .str), (4, .ow 0)], [.arr 5 (.int .u8)]⟩
  | _ => ⟨[], []⟩
def value_unquoted_dx : Nat → List (X × Desc)
  | 5 => [(.r, ⟨[(2, .d .str), (3, .d .bool)], []⟩), (.e 0, ⟨[(4, .ow 0)], [.arr 5 (.int .u8)]⟩)]
  | _ => []
def value_unquoted_s5 (n : Nat) (x0 : ByteArray) (x1 : (List Int)) (k1 : ByteArray → (List Int) → Option R) (qr : ByteArray → Bool → Option R) (qe0 : (List Int) → Option R) : Option R :=
  if (!(x0.toList == (⟨#[]⟩ : ByteArray).toList)) = true then (value_next_F n x0 (fun y1 y2 y3 => if (!y3) = true then (qr (⟨#[]⟩ : ByteArray) false) else (if (List.length x1 + List.length [y1]) * 1 ≤ 140737488355328 then (k1 y2 (x1 ++ [y1])) else none))) else (qe0 x1)
def value_unquoted_l5 (n : Nat) (a : (value_unquoted_ds 5).D) (k1 : (value_unquoted_ds 5).D → Option R) (k2 : exK R (value_unquoted_dx 5)) : Option R :=
  value_unquoted_s5 n a.1 a.2.1 (fun x0 x1 => k1 (x0, x1, ())) (fun x0 x1 => k2.1 (x0, x1, ())) (fun x0 => k2.2.1 (x0, ()))
@[reducible] def value_unquoted_d : Desc := ⟨[(0, .d .str)], []⟩
def value_unquoted_Fi (n : Nat) (a0 : ByteArray) (k0 : ByteArray → Bool → Option R) : Option R :=
  if (decide ((a0.size : Int) < 2)) = true then (k0 (⟨#[]⟩ : ByteArray) false) else (if (0 : Int) ≤ 0 then if 0 < (a0.size : Int) then (if ((byteAt a0 0) != 34) = true then (k0 (⟨#[]⟩ : ByteArray) false) else (if (0 : Int) ≤ (IntKind.i64.wrap ((a0.size : Int) - 1)) then if (IntKind.i64.wrap ((a0.size : Int) - 1)) < (a0.size : Int) then (if ((byteAt a0 (IntKind.i64.wrap ((a0.size : Int) - 1))) != 34) = true then (k0 (⟨#[]⟩ : ByteArray) false) else (if (0 : Int) ≤ (IntKind.i64.wrap ((a0.size : Int) - 1)) ∧ (IntKind.i64.wrap ((a0.size : Int) - 1)) ≤ (a0.size : Int) then (if (0 : Int) ≤ 1 ∧ 1 ≤ ((Int.toNat (IntKind.i64.wrap ((a0.size : Int) - 1))) : Int) then (runC (value_unquoted_l5 n) n ((a0.extract (Int.toNat 1) (Int.toNat (IntKind.i64.wrap ((a0.size : Int) - 1)))), ([] : List Int), ()) (fun b5 => k0 b5.1 b5.2.1, fun b6 => k0 (strOfNums b6.1) true, ())) else none) else none)) else none else none)) else none else none)
def value_unquoted_F {R : Type} := lazyN (@value_unquoted_Fi R)
theorem value_unquoted_e : @value_unquoted_F R = @value_unquoted_Fi R := lazyN_eq _
def value_unquoted_g (n : Nat) : Gx R := typed 1 value_unquoted_d fun x k => value_unquoted_F n x.1 (fun y0 y1 => k (.tu [(.c (.s y0)), (.c (.b y1))]) [])
def value_unquoted_cs (R : Type) (n : Nat) : List (Nat × Gx R) := [(92, value_next_g n)]
def value_unquoted_lp (n : Nat) : (i : Nat) → (value_unquoted_ds i).D → exK R (value_unquoted_dx i) → Option R
  | 5, a, k => runC (value_unquoted_l5 n) n a k
  | _, _, _ => none
def value_unquoted_cx (R : Type) (n : Nat) : Cx R := ⟨Tryd.prog, Gof (value_unquoted_cs R n), value_unquoted_ds, value_unquoted_dx, value_unquoted_lp n, drawP Tryd.prog (Gof (value_unquoted_cs R n)), false, noJn, noFz⟩
theorem value_unquoted_ok [Esc R] (n : Nat) : Good Tryd.prog 82 (value_unquoted_g (R := R) n) := by
  unfold value_unquoted_g
  rw [value_unquoted_e]
  exact Good.fn (f := 82) (cx := value_unquoted_cx R n) (by kernel_rfl) (AllGood.cons (value_next_ok n) (AllGood.nil)) rfl Tryd.func82 (by kernel_rfl) rfl (by
    have e : fnLoops noJn Tryd.f82 = [((fnLoops noJn Tryd.f82)[0]?).getD (false, .skip)] := by kernel_rfl
    show LoopRuns _ _ (fnLoops noJn _)
    rw [e]
    exact ⟨LoopRun.loop (by kernel_rfl) (i := 5) (m := n) (step := value_unquoted_l5 n) (by kernel_rfl) (fun a k1 k2 => by kernel_rfl) (fun _ _ => rfl), trivial⟩) 1 value_unquoted_d (by kernel_rfl) (fun x k => by kernel_rfl)
end
end Go.Proofs.YtnnbinmomendnaaDoor.E
set_option linter.unusedVariables false
set_option maxRecDepth 100000
namespace Go.Proofs.YtnnbinmomendnaaDoor.E
open Go.Proofs
noncomputable section
variable {R : Type}
/-! verderer/value.Text: function 83 -/
@[reducible] def value_Text_d : Desc := ⟨[(0, .d .str)], []⟩
def value_Text_Fi (n : Nat) (a0 : ByteArray) (k0 : ty34.D → Option R) : Option R :=
  k0 (3, false, 0, a0, ())
def value_Text_F {R : Type} := lazyN (@value_Text_Fi R)
theorem value_Text_e : @value_Text_F R = @value_Text_Fi R := lazyN_eq _
def value_Text_g (n : Nat) : Gx R := typed 1 value_Text_d fun x k => value_Text_F n x.1 (fun y0 => k (.a (encA ty34 y0)) [])
def value_Text_cs (R : Type) (n : Nat) : List (Nat × Gx R) := []
def value_Text_cx (R : Type) (n : Nat) : Cx R := ⟨Tryd.prog, Gof (value_Text_cs R n), noDs, noDx, noLp, drawP Tryd.prog (Gof (value_Text_cs R n)), false, noJn, noFz⟩
theorem value_Text_ok [Esc R] (n : Nat) : Good Tryd.prog 83 (value_Text_g (R := R) n) := by
  unfold value_Text_g
  rw [value_Text_e]
  exact Good.fn (f := 83) (cx := value_Text_cx R n) (by kernel_rfl) (AllGood.nil) rfl Tryd.func83 (by kernel_rfl) rfl trivial 1 value_Text_d (by kernel_rfl) (fun x k => by kernel_rfl)
end
end Go.Proofs.YtnnbinmomendnaaDoor.E
set_option linter.unusedVariables false
set_option maxRecDepth 100000
namespace Go.Proofs.YtnnbinmomendnaaDoor.E
open Go.Proofs
noncomputable section
variable {R : Type}
/-! verderer/value.Null: function 84 -/
@[reducible] def value_Null_d : Desc := ⟨[], []⟩
def value_Null_Fi (n : Nat) (k0 : ty34.D → Option R) : Option R :=
  k0 (0, false, 0, (⟨#[]⟩ : ByteArray), ())
def value_Null_F {R : Type} := lazyN (@value_Null_Fi R)
theorem value_Null_e : @value_Null_F R = @value_Null_Fi R := lazyN_eq _
def value_Null_g (n : Nat) : Gx R := typed 0 value_Null_d fun x k => value_Null_F n (fun y0 => k (.a (encA ty34 y0)) [])
def value_Null_cs (R : Type) (n : Nat) : List (Nat × Gx R) := []
def value_Null_cx (R : Type) (n : Nat) : Cx R := ⟨Tryd.prog, Gof (value_Null_cs R n), noDs, noDx, noLp, drawP Tryd.prog (Gof (value_Null_cs R n)), false, noJn, noFz⟩
theorem value_Null_ok [Esc R] (n : Nat) : Good Tryd.prog 84 (value_Null_g (R := R) n) := by
  unfold value_Null_g
  rw [value_Null_e]
  exact Good.fn (f := 84) (cx := value_Null_cx R n) (by kernel_rfl) (AllGood.nil) rfl Tryd.func84 (by kernel_rfl) rfl trivial 0 value_Null_d (by kernel_rfl) (fun x k => by kernel_rfl)
end
end Go.Proofs.YtnnbinmomendnaaDoor.E
set_option linter.unusedVariables false
set_option maxRecDepth 100000
namespace Go.Proofs.YtnnbinmomendnaaDoor.E
open Go.Proofs
noncomputable section
variable {R : Type}
/-! verderer/value.guess: function 73 -/
@[reducible] def value_guess_d : Desc := ⟨[(0, .d .str)], []⟩
def value_guess_Fi (n : Nat) (a0 : ByteArray) (k0 : ty34.D → Option R) : Option R :=
  if (a0.toList == (⟨#[116, 114, 117, 101]⟩ : ByteArray).toList) = true then (value_Bool_F n (a0.toList == (⟨#[116, 114, 117, 101]⟩ : ByteArray).toList) (fun y1 => k0 y1)) else (if (a0.toList == (⟨#[102, 97, 108, 115, 101]⟩ : ByteArray).toList) = true then (value_Bool_F n (a0.toList == (⟨#[116, 114, 117, 101]⟩ : ByteArray).toList) (fun y2 => k0 y2)) else (strconv_ParseInt_F n a0 10 64 (fun y3 y4 => if (!y4) = true then (value_Int_F n y3 (fun y5 => k0 y5)) else (value_unquoted_F n a0 (fun y6 y7 => if y7 = true then (value_Text_F n y6 (fun y8 => k0 y8)) else (value_Null_F n (fun y9 => k0 y9)))))))
def value_guess_F {R : Type} := lazyN (@value_guess_Fi R)
theorem value_guess_e : @value_guess_F R = @value_guess_Fi R := lazyN_eq _
def value_guess_g (n : Nat) : Gx R := typed 1 value_guess_d fun x k => value_guess_F n x.1 (fun y0 => k (.a (encA ty34 y0)) [])
def value_guess_cs (R : Type) (n : Nat) : List (Nat × Gx R) := [(79, value_Bool_g n), (80, strconv_ParseInt_g n), (81, value_Int_g n), (82, value_unquoted_g n), (83, value_Text_g n), (84, value_Null_g n)]
def value_guess_cx (R : Type) (n : Nat) : Cx R := ⟨Tryd.prog, Gof (value_guess_cs R n), noDs, noDx, noLp, drawP Tryd.prog (Gof (value_guess_cs R n)), false, noJn, noFz⟩
theorem value_guess_ok [Esc R] (n : Nat) : Good Tryd.prog 73 (value_guess_g (R := R) n) := by
  unfold value_guess_g
  rw [value_guess_e]
  exact Good.fn (f := 73) (cx := value_guess_cx R n) (by kernel_rfl) (AllGood.cons (value_Bool_ok n) (AllGood.cons (strconv_ParseInt_ok n) (AllGood.cons (value_Int_ok n) (AllGood.cons (value_unquoted_ok n) (AllGood.cons (value_Text_ok n) (AllGood.cons (value_Null_ok n) (AllGood.nil))))))) rfl Tryd.func73 (by kernel_rfl) rfl trivial 1 value_guess_d (by kernel_rfl) (fun x k => by kernel_rfl)
end
end Go.Proofs.YtnnbinmomendnaaDoor.E
set_option linter.unusedVariables false
set_option maxRecDepth 100000
namespace Go.Proofs.YtnnbinmomendnaaDoor.E
open Go.Proofs
noncomputable section
variable {R : Type}
/-! verderer/value.Right: function 85 -/
@[reducible] def value_Right_d : Desc := ⟨[(0, .d ty34)], []⟩
def value_Right_Fi (n : Nat) (a0 : ty34.D) (k0 : Bool → Option R) : Option R :=
  if (a0.1 == 0) = true then (value_Null_F n (fun y1 => k0 ((a0.1 == y1.1) && ((a0.2.1 == y1.2.1) && ((a0.2.2.1 == y1.2.2.1) && ((a0.2.2.2.1.toList == y1.2.2.2.1.toList) && true)))))) else (if (a0.1 == 1) = true then (value_Bool_F n a0.2.1 (fun y2 => k0 ((a0.1 == y2.1) && ((a0.2.1 == y2.2.1) && ((a0.2.2.1 == y2.2.2.1) && ((a0.2.2.2.1.toList == y2.2.2.2.1.toList) && true)))))) else (if (a0.1 == 2) = true then (value_Int_F n a0.2.2.1 (fun y3 => k0 ((a0.1 == y3.1) && ((a0.2.1 == y3.2.1) && ((a0.2.2.1 == y3.2.2.1) && ((a0.2.2.2.1.toList == y3.2.2.2.1.toList) && true)))))) else (if (a0.1 == 3) = true then (value_Text_F n a0.2.2.2.1 (fun y4 => if ((a0.1 == y4.1) && ((a0.2.1 == y4.2.1) && ((a0.2.2.1 == y4.2.2.1) && ((a0.2.2.2.1.toList == y4.2.2.2.1.toList) && true)))) = true then (k0 (decide ((a0.2.2.2.1.size : Int) ≤ 60))) else (k0 false))) else (k0 false))))
def value_Right_F {R : Type} := lazyN (@value_Right_Fi R)
theorem value_Right_e : @value_Right_F R = @value_Right_Fi R := lazyN_eq _
def value_Right_g (n : Nat) : Gx R := typed 1 value_Right_d fun x k => value_Right_F n x.1 (fun y0 => k (.a (.c (.b y0))) [])
def value_Right_cs (R : Type) (n : Nat) : List (Nat × Gx R) := [(79, value_Bool_g n), (81, value_Int_g n), (83, value_Text_g n), (84, value_Null_g n)]
def value_Right_cx (R : Type) (n : Nat) : Cx R := ⟨Tryd.prog, Gof (value_Right_cs R n), noDs, noDx, noLp, drawP Tryd.prog (Gof (value_Right_cs R n)), false, noJn, noFz⟩
theorem value_Right_ok [Esc R] (n : Nat) : Good Tryd.prog 85 (value_Right_g (R := R) n) := by
  unfold value_Right_g
  rw [value_Right_e]
  exact Good.fn (f := 85) (cx := value_Right_cx R n) (by kernel_rfl) (AllGood.cons (value_Bool_ok n) (AllGood.cons (value_Int_ok n) (AllGood.cons (value_Text_ok n) (AllGood.cons (value_Null_ok n) (AllGood.nil))))) rfl Tryd.func85 (by kernel_rfl) rfl trivial 1 value_Right_d (by kernel_rfl) (fun x k => by kernel_rfl)
end
end Go.Proofs.YtnnbinmomendnaaDoor.E
set_option linter.unusedVariables false
set_option maxRecDepth 100000
namespace Go.Proofs.YtnnbinmomendnaaDoor.E
open Go.Proofs
noncomputable section
variable {R : Type}
/-! internal/strconv.FormatBool: function 93 -/
@[reducible] def strconv_FormatBool_93_d : Desc := ⟨[(0, .d .bool)], []⟩
def strconv_FormatBool_93_Fi (n : Nat) (a0 : Bool) (k0 : ByteArray → Option R) : Option R :=
  if a0 = true then (k0 (⟨#[116, 114, 117, 101]⟩ : ByteArray)) else (k0 (⟨#[102, 97, 108, 115, 101]⟩ : ByteArray))
def strconv_FormatBool_93_F {R : Type} := lazyN (@strconv_FormatBool_93_Fi R)
theorem strconv_FormatBool_93_e : @strconv_FormatBool_93_F R = @strconv_FormatBool_93_Fi R := lazyN_eq _
def strconv_FormatBool_93_g (n : Nat) : Gx R := typed 1 strconv_FormatBool_93_d fun x k => strconv_FormatBool_93_F n x.1 (fun y0 => k (.a (.c (.s y0))) [])
def strconv_FormatBool_93_cs (R : Type) (n : Nat) : List (Nat × Gx R) := []
def strconv_FormatBool_93_cx (R : Type) (n : Nat) : Cx R := ⟨Tryd.prog, Gof (strconv_FormatBool_93_cs R n), noDs, noDx, noLp, drawP Tryd.prog (Gof (strconv_FormatBool_93_cs R n)), false, noJn, noFz⟩
theorem strconv_FormatBool_93_ok [Esc R] (n : Nat) : Good Tryd.prog 93 (strconv_FormatBool_93_g (R := R) n) := by
  unfold strconv_FormatBool_93_g
  rw [strconv_FormatBool_93_e]
  exact Good.fn (f := 93) (cx := strconv_FormatBool_93_cx R n) (by kernel_rfl) (AllGood.nil) rfl Tryd.func93 (by kernel_rfl) rfl trivial 1 strconv_FormatBool_93_d (by kernel_rfl) (fun x k => by kernel_rfl)
end
end Go.Proofs.YtnnbinmomendnaaDoor.E
set_option linter.unusedVariables false
set_option maxRecDepth 100000
namespace Go.Proofs.YtnnbinmomendnaaDoor.E
open Go.Proofs
noncomputable section
variable {R : Type}
/-! strconv.FormatBool: function 86 -/
@[reducible] def strconv_FormatBool_d : Desc := ⟨[(0, .d .bool)], []⟩
def strconv_FormatBool_Fi (n : Nat) (a0 : Bool) (k0 : ByteArray → Option R) : Option R :=
  strconv_FormatBool_93_F n a0 (fun y1 => k0 y1)
def strconv_FormatBool_F {R : Type} := lazyN (@strconv_FormatBool_Fi R)
theorem strconv_FormatBool_e : @strconv_FormatBool_F R = @strconv_FormatBool_Fi R := lazyN_eq _
def strconv_FormatBool_g (n : Nat) : Gx R := typed 1 strconv_FormatBool_d fun x k => strconv_FormatBool_F n x.1 (fun y0 => k (.a (.c (.s y0))) [])
def strconv_FormatBool_cs (R : Type) (n : Nat) : List (Nat × Gx R) := [(93, strconv_FormatBool_93_g n)]
def strconv_FormatBool_cx (R : Type) (n : Nat) : Cx R := ⟨Tryd.prog, Gof (strconv_FormatBool_cs R n), noDs, noDx, noLp, drawP Tryd.prog (Gof (strconv_FormatBool_cs R n)), false, noJn, noFz⟩
theorem strconv_FormatBool_ok [Esc R] (n : Nat) : Good Tryd.prog 86 (strconv_FormatBool_g (R := R) n) := by
  unfold strconv_FormatBool_g
  rw [strconv_FormatBool_e]
  exact Good.fn (f := 86) (cx := strconv_FormatBool_cx R n) (by kernel_rfl) (AllGood.cons (strconv_FormatBool_93_ok n) (AllGood.nil)) rfl Tryd.func86 (by kernel_rfl) rfl trivial 1 strconv_FormatBool_d (by kernel_rfl) (fun x k => by kernel_rfl)
end
end Go.Proofs.YtnnbinmomendnaaDoor.E
set_option linter.unusedVariables false
set_option maxRecDepth 100000
namespace Go.Proofs.YtnnbinmomendnaaDoor.E
open Go.Proofs
noncomputable section
variable {R : Type}
/-! strconv.FormatInt: function 87 -/
@[reducible] def strconv_FormatInt_d : Desc := ⟨[(0, .d (.int .i64)), (1, .d (.int .i64))], []⟩
def strconv_FormatInt_Fi (n : Nat) (a0 : Int) (a1 : Int) (k0 : ByteArray → Option R) : Option R :=
  if a1 = 10 ∧ -9223372036854775808 ≤ a0 ∧ a0 ≤ 9223372036854775807 then (k0 (fmtB a0)) else none
def strconv_FormatInt_F {R : Type} := lazyN (@strconv_FormatInt_Fi R)
theorem strconv_FormatInt_e : @strconv_FormatInt_F R = @strconv_FormatInt_Fi R := lazyN_eq _
def strconv_FormatInt_g (n : Nat) : Gx R := typed 2 strconv_FormatInt_d fun x k => strconv_FormatInt_F n x.1 x.2.1 (fun y0 => k (.a (.c (.s y0))) [])
theorem strconv_FormatInt_ok [Esc R] (n : Nat) : Good Tryd.prog 87 (strconv_FormatInt_g (R := R) n) := by
  unfold strconv_FormatInt_g
  rw [strconv_FormatInt_e]
  exact Good.hand2 Tryd.func87 (by kernel_rfl) rfl rfl rfl fmt_back (fun x k => rfl)
end
end Go.Proofs.YtnnbinmomendnaaDoor.E
set_option linter.unusedVariables false
set_option maxRecDepth 100000
namespace Go.Proofs.YtnnbinmomendnaaDoor.E
open Go.Proofs
noncomputable section
variable {R : Type}
/-! verderer/value.quoted: function 88 -/
@[reducible] def value_quoted_d : Desc := ⟨[(0, .d .str)], []⟩
def value_quoted_Fi (n : Nat) (a0 : ByteArray) (k0 : ByteArray → Option R) : Option R :=
  if a0.size ≤ 1048576 then (k0 (quB a0)) else none
def value_quoted_F {R : Type} := lazyN (@value_quoted_Fi R)
theorem value_quoted_e : @value_quoted_F R = @value_quoted_Fi R := lazyN_eq _
def value_quoted_g (n : Nat) : Gx R := typed 1 value_quoted_d fun x k => value_quoted_F n x.1 (fun y0 => k (.a (.c (.s y0))) [])
theorem value_quoted_ok [Esc R] (n : Nat) : Good Tryd.prog 88 (value_quoted_g (R := R) n) := by
  unfold value_quoted_g
  rw [value_quoted_e]
  exact Good.hand1 Tryd.func88 (by kernel_rfl) rfl rfl quoted_back (fun x k => rfl)
end
end Go.Proofs.YtnnbinmomendnaaDoor.E
set_option linter.unusedVariables false
set_option maxRecDepth 100000
namespace Go.Proofs.YtnnbinmomendnaaDoor.E
open Go.Proofs
noncomputable section
variable {R : Type}
/-! verderer/value.Show: function 74 -/
@[reducible] def value_Show_d : Desc := ⟨[(0, .d ty34)], []⟩
def value_Show_Fi (n : Nat) (a0 : ty34.D) (k0 : ByteArray → Option R) : Option R :=
  value_Right_F n a0 (fun y1 => if (!y1) = true then (k0 (⟨#[]⟩ : ByteArray)) else (if (a0.1 == 1) = true then (strconv_FormatBool_F n a0.2.1 (fun y2 => k0 y2)) else (if (a0.1 == 2) = true then (strconv_FormatInt_F n a0.2.2.1 10 (fun y3 => k0 y3)) else (if (a0.1 == 3) = true then (value_quoted_F n a0.2.2.2.1 (fun y4 => k0 y4)) else (k0 (⟨#[110, 117, 108, 108]⟩ : ByteArray))))))
def value_Show_F {R : Type} := lazyN (@value_Show_Fi R)
theorem value_Show_e : @value_Show_F R = @value_Show_Fi R := lazyN_eq _
def value_Show_g (n : Nat) : Gx R := typed 1 value_Show_d fun x k => value_Show_F n x.1 (fun y0 => k (.a (.c (.s y0))) [])
def value_Show_cs (R : Type) (n : Nat) : List (Nat × Gx R) := [(85, value_Right_g n), (86, strconv_FormatBool_g n), (87, strconv_FormatInt_g n), (88, value_quoted_g n)]
def value_Show_cx (R : Type) (n : Nat) : Cx R := ⟨Tryd.prog, Gof (value_Show_cs R n), noDs, noDx, noLp, drawP Tryd.prog (Gof (value_Show_cs R n)), false, noJn, noFz⟩
theorem value_Show_ok [Esc R] (n : Nat) : Good Tryd.prog 74 (value_Show_g (R := R) n) := by
  unfold value_Show_g
  rw [value_Show_e]
  exact Good.fn (f := 74) (cx := value_Show_cx R n) (by kernel_rfl) (AllGood.cons (value_Right_ok n) (AllGood.cons (strconv_FormatBool_ok n) (AllGood.cons (strconv_FormatInt_ok n) (AllGood.cons (value_quoted_ok n) (AllGood.nil))))) rfl Tryd.func74 (by kernel_rfl) rfl trivial 1 value_Show_d (by kernel_rfl) (fun x k => by kernel_rfl)
end
end Go.Proofs.YtnnbinmomendnaaDoor.E
set_option linter.unusedVariables false
set_option maxRecDepth 100000
namespace Go.Proofs.YtnnbinmomendnaaDoor.E
open Go.Proofs
noncomputable section
variable {R : Type}
/-! verderer/value.Read: function 62 -/
@[reducible] def value_Read_d : Desc := ⟨[(0, .d .str)], []⟩
def value_Read_Fi (n : Nat) (a0 : ByteArray) (k0 : ty34.D → Int → Option R) : Option R :=
  value_guess_F n a0 (fun y1 => if (a0.toList == (⟨#[]⟩ : ByteArray).toList) = true then (k0 (0, false, 0, (⟨#[]⟩ : ByteArray), ()) 7) else (value_Show_F n y1 (fun y2 => if (!(y2.toList == a0.toList)) = true then (k0 (0, false, 0, (⟨#[]⟩ : ByteArray), ()) 7) else (k0 y1 0))))
def value_Read_F {R : Type} := lazyN (@value_Read_Fi R)
theorem value_Read_e : @value_Read_F R = @value_Read_Fi R := lazyN_eq _
def value_Read_g (n : Nat) : Gx R := typed 1 value_Read_d fun x k => value_Read_F n x.1 (fun y0 y1 => k (.tu [(encA ty34 y0), (.c (.i .i64 y1))]) [])
def value_Read_cs (R : Type) (n : Nat) : List (Nat × Gx R) := [(73, value_guess_g n), (74, value_Show_g n)]
def value_Read_cx (R : Type) (n : Nat) : Cx R := ⟨Tryd.prog, Gof (value_Read_cs R n), noDs, noDx, noLp, drawP Tryd.prog (Gof (value_Read_cs R n)), false, noJn, noFz⟩
theorem value_Read_ok [Esc R] (n : Nat) : Good Tryd.prog 62 (value_Read_g (R := R) n) := by
  unfold value_Read_g
  rw [value_Read_e]
  exact Good.fn (f := 62) (cx := value_Read_cx R n) (by kernel_rfl) (AllGood.cons (value_guess_ok n) (AllGood.cons (value_Show_ok n) (AllGood.nil))) rfl Tryd.func62 (by kernel_rfl) rfl trivial 1 value_Read_d (by kernel_rfl) (fun x k => by kernel_rfl)
end
end Go.Proofs.YtnnbinmomendnaaDoor.E
set_option linter.unusedVariables false
set_option maxRecDepth 100000
namespace Go.Proofs.YtnnbinmomendnaaDoor.E
open Go.Proofs
noncomputable section
variable {R : Type}
/-! verderer/lex.word: function 48 -/
@[reducible] def lex_word_d : Desc := ⟨[(0, .d .str)], []⟩
def lex_word_Fi (n : Nat) (a0 : ByteArray) (k0 : ty36.D → Option R) : Option R :=
  lex_run_F n a0 1 (fun y1 => if (0 : Int) ≤ y1 ∧ y1 ≤ (a0.size : Int) then (value_Read_F n (a0.extract 0 (Int.toNat y1)) (fun y2 y3 => if (y3 == 0) = true then (k0 (2, (a0.extract 0 (Int.toNat y1)), y2, 0, ())) else (k0 (1, (a0.extract 0 (Int.toNat y1)), (0, false, 0, (⟨#[]⟩ : ByteArray), ()), 0, ())))) else none)
def lex_word_F {R : Type} := lazyN (@lex_word_Fi R)
theorem lex_word_e : @lex_word_F R = @lex_word_Fi R := lazyN_eq _
def lex_word_g (n : Nat) : Gx R := typed 1 lex_word_d fun x k => lex_word_F n x.1 (fun y0 => k (.a (encA ty36 y0)) [])
def lex_word_cs (R : Type) (n : Nat) : List (Nat × Gx R) := [(28, lex_run_g n), (62, value_Read_g n)]
def lex_word_cx (R : Type) (n : Nat) : Cx R := ⟨Tryd.prog, Gof (lex_word_cs R n), noDs, noDx, noLp, drawP Tryd.prog (Gof (lex_word_cs R n)), false, noJn, noFz⟩
theorem lex_word_ok [Esc R] (n : Nat) : Good Tryd.prog 48 (lex_word_g (R := R) n) := by
  unfold lex_word_g
  rw [lex_word_e]
  exact Good.fn (f := 48) (cx := lex_word_cx R n) (by kernel_rfl) (AllGood.cons (lex_run_ok n) (AllGood.cons (value_Read_ok n) (AllGood.nil))) rfl Tryd.func48 (by kernel_rfl) rfl trivial 1 lex_word_d (by kernel_rfl) (fun x k => by kernel_rfl)
end
end Go.Proofs.YtnnbinmomendnaaDoor.E
set_option linter.unusedVariables false
set_option maxRecDepth 100000
namespace Go.Proofs.YtnnbinmomendnaaDoor.E
open Go.Proofs
noncomputable section
variable {R : Type}
/-! verderer/lex.run: function 28 -/
def lex_run_v1_ds : Nat → Desc
  | 1 => ⟨[(0, .d .str), (1, .d (.int .i64)), (2, .fn 49 [])], []⟩
  | _ => ⟨[], []⟩
def lex_run_v1_dx : Nat → List (X × Desc)
  | 1 => [(.e 0, ⟨[(1, .d (.int .i64))], []⟩)]
  | _ => []
def lex_run_v1_s1 (n : Nat) (x0 : ByteArray) (x1 : Int) (k1 : ByteArray → Int → Option R) (qe0 : Int → Option R) : Option R :=
  if (decide (x1 < (x0.size : Int))) = true then (if (0 : Int) ≤ x1 then if x1 < (x0.size : Int) then (lex_digit_F n (byteAt x0 x1) (fun y1 => if y1 = true then (k1 x0 (IntKind.i64.wrap (x1 + 1))) else (qe0 x1))) else none else none) else (qe0 x1)
def lex_run_v1_l1 (n : Nat) (a : (lex_run_v1_ds 1).D) (k1 : (lex_run_v1_ds 1).D → Option R) (k2 : exK R (lex_run_v1_dx 1)) : Option R :=
  lex_run_v1_s1 n a.1 a.2.1 (fun x0 x1 => k1 (x0, x1, ())) (fun x0 => k2.1 (x0, ()))
@[reducible] def lex_run_v1_d : Desc := ⟨[(0, .d .str), (1, .d (.int .i64)), (2, .fn 49 [])], []⟩
def lex_run_v1_Fi (n : Nat) (a0 : ByteArray) (a1 : Int) (k0 : Int → Option R) : Option R :=
  runC (lex_run_v1_l1 n) n (a0, a1, ()) (fun b2 => k0 b2.1, ())
def lex_run_v1_F {R : Type} := lazyN (@lex_run_v1_Fi R)
theorem lex_run_v1_e : @lex_run_v1_F R = @lex_run_v1_Fi R := lazyN_eq _
def lex_run_v1_g (n : Nat) : Gx R := typed 3 lex_run_v1_d fun x k => lex_run_v1_F n x.1 x.2.1 (fun y0 => k (.a (.c (.i .i64 y0))) [])
def lex_run_v1_cs (R : Type) (n : Nat) : List (Nat × Gx R) := [(49, lex_digit_g n)]
def lex_run_v1_lp (n : Nat) : (i : Nat) → (lex_run_v1_ds i).D → exK R (lex_run_v1_dx i) → Option R
  | 1, a, k => runC (lex_run_v1_l1 n) n a k
  | _, _, _ => none
def lex_run_v1_cx (R : Type) (n : Nat) : Cx R := ⟨Tryd.prog, Gof (lex_run_v1_cs R n), lex_run_v1_ds, lex_run_v1_dx, lex_run_v1_lp n, drawP Tryd.prog (Gof (lex_run_v1_cs R n)), false, noJn, noFz⟩
theorem lex_run_v1_ok [Esc R] (n : Nat) : Good Tryd.prog 28 (lex_run_v1_g (R := R) n) := by
  unfold lex_run_v1_g
  rw [lex_run_v1_e]
  exact Good.fn (f := 28) (cx := lex_run_v1_cx R n) (by kernel_rfl) (AllGood.cons (lex_digit_ok n) (AllGood.nil)) rfl Tryd.func28 (by kernel_rfl) rfl (by
    have e : fnLoops noJn Tryd.f28 = [((fnLoops noJn Tryd.f28)[0]?).getD (false, .skip)] := by kernel_rfl
    show LoopRuns _ _ (fnLoops noJn _)
    rw [e]
    exact ⟨LoopRun.loop (by kernel_rfl) (i := 1) (m := n) (step := lex_run_v1_l1 n) (by kernel_rfl) (fun a k1 k2 => by kernel_rfl) (fun _ _ => rfl), trivial⟩) 3 lex_run_v1_d (by kernel_rfl) (fun x k => by kernel_rfl)
end
end Go.Proofs.YtnnbinmomendnaaDoor.E
set_option linter.unusedVariables false
set_option maxRecDepth 100000
namespace Go.Proofs.YtnnbinmomendnaaDoor.E
open Go.Proofs
noncomputable section
variable {R : Type}
/-! verderer/lex.constant: function 63 -/
@[reducible] def lex_constant_d : Desc := ⟨[(0, .d .str), (1, .d (.int .i64))], []⟩
def lex_constant_Fi (n : Nat) (a0 : ByteArray) (a1 : Int) (k0 : ty36.D → Bool → Option R) : Option R :=
  if (0 : Int) ≤ a1 ∧ a1 ≤ (a0.size : Int) then (value_Read_F n (a0.extract 0 (Int.toNat a1)) (fun y1 y2 => if (0 : Int) ≤ a1 ∧ a1 ≤ (a0.size : Int) then (k0 (2, (a0.extract 0 (Int.toNat a1)), y1, 0, ()) (y2 == 0)) else none)) else none
def lex_constant_F {R : Type} := lazyN (@lex_constant_Fi R)
theorem lex_constant_e : @lex_constant_F R = @lex_constant_Fi R := lazyN_eq _
def lex_constant_g (n : Nat) : Gx R := typed 2 lex_constant_d fun x k => lex_constant_F n x.1 x.2.1 (fun y0 y1 => k (.tu [(encA ty36 y0), (.c (.b y1))]) [])
def lex_constant_cs (R : Type) (n : Nat) : List (Nat × Gx R) := [(62, value_Read_g n)]
def lex_constant_cx (R : Type) (n : Nat) : Cx R := ⟨Tryd.prog, Gof (lex_constant_cs R n), noDs, noDx, noLp, drawP Tryd.prog (Gof (lex_constant_cs R n)), false, noJn, noFz⟩
theorem lex_constant_ok [Esc R] (n : Nat) : Good Tryd.prog 63 (lex_constant_g (R := R) n) := by
  unfold lex_constant_g
  rw [lex_constant_e]
  exact Good.fn (f := 63) (cx := lex_constant_cx R n) (by kernel_rfl) (AllGood.cons (value_Read_ok n) (AllGood.nil)) rfl Tryd.func63 (by kernel_rfl) rfl trivial 2 lex_constant_d (by kernel_rfl) (fun x k => by kernel_rfl)
end
end Go.Proofs.YtnnbinmomendnaaDoor.E
set_option linter.unusedVariables false
set_option maxRecDepth 100000
namespace Go.Proofs.YtnnbinmomendnaaDoor.E
open Go.Proofs
noncomputable section
variable {R : Type}
/-! verderer/lex.number: function 50 -/
@[reducible] def lex_number_d : Desc := ⟨[(0, .d .str)], []⟩
def lex_number_Fi (n : Nat) (a0 : ByteArray) (k0 : ty36.D → Bool → Option R) : Option R :=
  lex_run_v1_F n a0 1 (fun y1 => if (decide (y1 < (a0.size : Int))) = true then (if (0 : Int) ≤ y1 then if y1 < (a0.size : Int) then (lex_letter_F n (byteAt a0 y1) (fun y2 => if y2 = true then (k0 (0, (⟨#[]⟩ : ByteArray), (0, false, 0, (⟨#[]⟩ : ByteArray), ()), 0, ()) false) else (if (0 : Int) ≤ y1 then if y1 < (a0.size : Int) then (if ((byteAt a0 y1) == 95) = true then (k0 (0, (⟨#[]⟩ : ByteArray), (0, false, 0, (⟨#[]⟩ : ByteArray), ()), 0, ()) false) else (lex_constant_F n a0 y1 (fun y3 y4 => k0 y3 y4))) else none else none))) else none else none) else (lex_constant_F n a0 y1 (fun y5 y6 => k0 y5 y6)))
def lex_number_F {R : Type} := lazyN (@lex_number_Fi R)
theorem lex_number_e : @lex_number_F R = @lex_number_Fi R := lazyN_eq _
def lex_number_g (n : Nat) : Gx R := typed 1 lex_number_d fun x k => lex_number_F n x.1 (fun y0 y1 => k (.tu [(encA ty36 y0), (.c (.b y1))]) [])
def lex_number_cs (R : Type) (n : Nat) : List (Nat × Gx R) := [(28, lex_run_v1_g n), (47, lex_letter_g n), (63, lex_constant_g n)]
def lex_number_cx (R : Type) (n : Nat) : Cx R := ⟨Tryd.prog, Gof (lex_number_cs R n), noDs, noDx, noLp, drawP Tryd.prog (Gof (lex_number_cs R n)), false, noJn, noFz⟩
theorem lex_number_ok [Esc R] (n : Nat) : Good Tryd.prog 50 (lex_number_g (R := R) n) := by
  unfold lex_number_g
  rw [lex_number_e]
  exact Good.fn (f := 50) (cx := lex_number_cx R n) (by kernel_rfl) (AllGood.cons (lex_run_v1_ok n) (AllGood.cons (lex_letter_ok n) (AllGood.cons (lex_constant_ok n) (AllGood.nil)))) rfl Tryd.func50 (by kernel_rfl) rfl trivial 1 lex_number_d (by kernel_rfl) (fun x k => by kernel_rfl)
end
end Go.Proofs.YtnnbinmomendnaaDoor.E
set_option linter.unusedVariables false
set_option maxRecDepth 100000
namespace Go.Proofs.YtnnbinmomendnaaDoor.E
open Go.Proofs
noncomputable section
variable {R : Type}
/-! verderer/lex.quoted: function 51 -/
def lex_quoted_ds : Nat → Desc
  | 2 => ⟨[(0, .d .str), (2, .pt 0 0), (4, .d (.int .i64))], [.box false 36 [.d (.int .i64), .d .str, .d (.int .i64), .d .bool, .d (.int .i64), .d .str, .d (.int .i64)]]⟩
  | _ => ⟨[], []⟩
def lex_quoted_dx : Nat → List (X × Desc)
  | 2 => [(.r, ⟨[(2, .pt 0 0), (3, .d .bool)], [.box false 36 [.d (.int .i64), .d .str, .d (.int .i64), .d .bool, .d (.int .i64), .d .str, .d (.int .i64)]]⟩), (.e 0, ⟨[(2, .pt 0 0)], [.box false 36 [.d (.int .i64), .d .str, .d (.int .i64), .d .bool, .d (.int .i64), .d .str, .d (.int .i64)]]⟩)]
  | _ => []
def lex_quoted_s2 (n : Nat) (x0 : ByteArray) (x1 : Int) (x2 : Int) (x3 : ByteArray) (x4 : Int) (x5 : Bool) (x6 : Int) (x7 : ByteArray) (x8 : Int) (k1 : ByteArray → Int → Int → ByteArray → Int → Bool → Int → ByteArray → Int → Option R) (qr : Bool → Int → ByteArray → Int → Bool → Int → ByteArray → Int → Option R) (qe0 : Int → ByteArray → Int → Bool → Int → ByteArray → Int → Option R) : Option R :=
  if (decide (x1 < (x0.size : Int))) = true then (if (0 : Int) ≤ x1 then if x1 < (x0.size : Int) then (if ((byteAt x0 x1) == 34) = true then (lex_constant_F n x0 (IntKind.i64.wrap (x1 + 1)) (fun y1 y2 => qr y2 y1.1 y1.2.1 y1.2.2.1.1 y1.2.2.1.2.1 y1.2.2.1.2.2.1 y1.2.2.1.2.2.2.1 y1.2.2.2.1)) else (if ((byteAt x0 x1) == 92) = true then (k1 x0 (IntKind.i64.wrap ((IntKind.i64.wrap (x1 + 1)) + 1)) x2 x3 x4 x5 x6 x7 x8) else (k1 x0 (IntKind.i64.wrap (x1 + 1)) x2 x3 x4 x5 x6 x7 x8))) else none else none) else (qe0 x2 x3 x4 x5 x6 x7 x8)
def lex_quoted_l2 (n : Nat) (a : (lex_quoted_ds 2).D) (k1 : (lex_quoted_ds 2).D → Option R) (k2 : exK R (lex_quoted_dx 2)) : Option R :=
  lex_quoted_s2 n a.1 a.2.1 a.2.2.1 a.2.2.2.1 a.2.2.2.2.1 a.2.2.2.2.2.1 a.2.2.2.2.2.2.1 a.2.2.2.2.2.2.2.1 a.2.2.2.2.2.2.2.2.1 (fun x0 x1 x2 x3 x4 x5 x6 x7 x8 => k1 (x0, x1, x2, x3, x4, x5, x6, x7, x8, ())) (fun x0 x1 x2 x3 x4 x5 x6 x7 => k2.1 (x0, x1, x2, x3, x4, x5, x6, x7, ())) (fun x0 x1 x2 x3 x4 x5 x6 => k2.2.1 (x0, x1, x2, x3, x4, x5, x6, ()))
@[reducible] def lex_quoted_d : Desc := ⟨[(0, .d .str)], []⟩
def lex_quoted_Fi (n : Nat) (a0 : ByteArray) (k0 : ty36.D → Bool → Option R) : Option R :=
  runC (lex_quoted_l2 n) n (a0, 1, 0, (⟨#[]⟩ : ByteArray), 0, false, 0, (⟨#[]⟩ : ByteArray), 0, ()) (fun b10 => k0 (b10.2.1, b10.2.2.1, (b10.2.2.2.1, b10.2.2.2.2.1, b10.2.2.2.2.2.1, b10.2.2.2.2.2.2.1, ()), b10.2.2.2.2.2.2.2.1, ()) b10.1, fun b17 => k0 (0, (⟨#[]⟩ : ByteArray), (0, false, 0, (⟨#[]⟩ : ByteArray), ()), 0, ()) false, ())
def lex_quoted_F {R : Type} := lazyN (@lex_quoted_Fi R)
theorem lex_quoted_e : @lex_quoted_F R = @lex_quoted_Fi R := lazyN_eq _
def lex_quoted_g (n : Nat) : Gx R := typed 1 lex_quoted_d fun x k => lex_quoted_F n x.1 (fun y0 y1 => k (.tu [(encA ty36 y0), (.c (.b y1))]) [])
def lex_quoted_cs (R : Type) (n : Nat) : List (Nat × Gx R) := [(63, lex_constant_g n)]
def lex_quoted_lp (n : Nat) : (i : Nat) → (lex_quoted_ds i).D → exK R (lex_quoted_dx i) → Option R
  | 2, a, k => runC (lex_quoted_l2 n) n a k
  | _, _, _ => none
def lex_quoted_cx (R : Type) (n : Nat) : Cx R := ⟨Tryd.prog, Gof (lex_quoted_cs R n), lex_quoted_ds, lex_quoted_dx, lex_quoted_lp n, drawP Tryd.prog (Gof (lex_quoted_cs R n)), false, noJn, noFz⟩
theorem lex_quoted_ok [Esc R] (n : Nat) : Good Tryd.prog 51 (lex_quoted_g (R := R) n) := by
  unfold lex_quoted_g
  rw [lex_quoted_e]
  exact Good.fn (f := 51) (cx := lex_quoted_cx R n) (by kernel_rfl) (AllGood.cons (lex_constant_ok n) (AllGood.nil)) rfl Tryd.func51 (by kernel_rfl) rfl (by
    have e : fnLoops noJn Tryd.f51 = [((fnLoops noJn Tryd.f51)[0]?).getD (false, .skip)] := by kernel_rfl
    show LoopRuns _ _ (fnLoops noJn _)
    rw [e]
    exact ⟨LoopRun.loop (by kernel_rfl) (i := 2) (m := n) (step := lex_quoted_l2 n) (by kernel_rfl) (fun a k1 k2 => by kernel_rfl) (fun _ _ => rfl), trivial⟩) 1 lex_quoted_d (by kernel_rfl) (fun x k => by kernel_rfl)
end
end Go.Proofs.YtnnbinmomendnaaDoor.E
set_option linter.unusedVariables false
set_option maxRecDepth 100000
namespace Go.Proofs.YtnnbinmomendnaaDoor.E
open Go.Proofs
noncomputable section
variable {R : Type}
/-! internal/stringslite.HasPrefix: function 75 -/
@[reducible] def stringslite_HasPrefix_d : Desc := ⟨[(0, .d .str), (1, .d .str)], []⟩
def stringslite_HasPrefix_Fi (n : Nat) (a0 : ByteArray) (a1 : ByteArray) (k0 : Bool → Option R) : Option R :=
  if (decide ((a0.size : Int) ≥ (a1.size : Int))) = true then (if (0 : Int) ≤ (a1.size : Int) ∧ (a1.size : Int) ≤ (a0.size : Int) then (k0 ((a0.extract 0 (Int.toNat (a1.size : Int))).toList == a1.toList)) else none) else (k0 false)
def stringslite_HasPrefix_F {R : Type} := lazyN (@stringslite_HasPrefix_Fi R)
theorem stringslite_HasPrefix_e : @stringslite_HasPrefix_F R = @stringslite_HasPrefix_Fi R := lazyN_eq _
def stringslite_HasPrefix_g (n : Nat) : Gx R := typed 2 stringslite_HasPrefix_d fun x k => stringslite_HasPrefix_F n x.1 x.2.1 (fun y0 => k (.a (.c (.b y0))) [])
def stringslite_HasPrefix_cs (R : Type) (n : Nat) : List (Nat × Gx R) := []
def stringslite_HasPrefix_cx (R : Type) (n : Nat) : Cx R := ⟨Tryd.prog, Gof (stringslite_HasPrefix_cs R n), noDs, noDx, noLp, drawP Tryd.prog (Gof (stringslite_HasPrefix_cs R n)), false, noJn, noFz⟩
theorem stringslite_HasPrefix_ok [Esc R] (n : Nat) : Good Tryd.prog 75 (stringslite_HasPrefix_g (R := R) n) := by
  unfold stringslite_HasPrefix_g
  rw [stringslite_HasPrefix_e]
  exact Good.fn (f := 75) (cx := stringslite_HasPrefix_cx R n) (by kernel_rfl) (AllGood.nil) rfl Tryd.func75 (by kernel_rfl) rfl trivial 2 stringslite_HasPrefix_d (by kernel_rfl) (fun x k => by kernel_rfl)
end
end Go.Proofs.YtnnbinmomendnaaDoor.E
set_option linter.unusedVariables false
set_option maxRecDepth 100000
namespace Go.Proofs.YtnnbinmomendnaaDoor.E
open Go.Proofs
noncomputable section
variable {R : Type}
/-! strings.HasPrefix: function 64 -/
@[reducible] def strings_HasPrefix_d : Desc := ⟨[(0, .d .str), (1, .d .str)], []⟩
def strings_HasPrefix_Fi (n : Nat) (a0 : ByteArray) (a1 : ByteArray) (k0 : Bool → Option R) : Option R :=
  stringslite_HasPrefix_F n a0 a1 (fun y1 => k0 y1)
def strings_HasPrefix_F {R : Type} := lazyN (@strings_HasPrefix_Fi R)
theorem strings_HasPrefix_e : @strings_HasPrefix_F R = @strings_HasPrefix_Fi R := lazyN_eq _
def strings_HasPrefix_g (n : Nat) : Gx R := typed 2 strings_HasPrefix_d fun x k => strings_HasPrefix_F n x.1 x.2.1 (fun y0 => k (.a (.c (.b y0))) [])
def strings_HasPrefix_cs (R : Type) (n : Nat) : List (Nat × Gx R) := [(75, stringslite_HasPrefix_g n)]
def strings_HasPrefix_cx (R : Type) (n : Nat) : Cx R := ⟨Tryd.prog, Gof (strings_HasPrefix_cs R n), noDs, noDx, noLp, drawP Tryd.prog (Gof (strings_HasPrefix_cs R n)), false, noJn, noFz⟩
theorem strings_HasPrefix_ok [Esc R] (n : Nat) : Good Tryd.prog 64 (strings_HasPrefix_g (R := R) n) := by
  unfold strings_HasPrefix_g
  rw [strings_HasPrefix_e]
  exact Good.fn (f := 64) (cx := strings_HasPrefix_cx R n) (by kernel_rfl) (AllGood.cons (stringslite_HasPrefix_ok n) (AllGood.nil)) rfl Tryd.func64 (by kernel_rfl) rfl trivial 2 strings_HasPrefix_d (by kernel_rfl) (fun x k => by kernel_rfl)
end
end Go.Proofs.YtnnbinmomendnaaDoor.E
set_option linter.unusedVariables false
set_option maxRecDepth 100000
namespace Go.Proofs.YtnnbinmomendnaaDoor.E
open Go.Proofs
noncomputable section
variable {R : Type}
/-! verderer/lex.sign: function 52 -/
def lex_sign_ds : Nat → Desc
  | 2 => ⟨[(0, .d .str), (2, .pt 0 0), (6, .ow 1), (7, .d (.int .i64)), (8, .d (.int .i64))], [.box false 36 [.d (.int .i64), .d .str, .d (.int .i64), .d .bool, .d (.int .i64), .d .str, .d (.int .i64)], .arr 9 .str]⟩
  | _ => ⟨[], []⟩
def lex_sign_dx : Nat → List (X × Desc)
  | 2 => [(.r, ⟨[(2, .pt 0 0), (3, .d .bool)], [.box false 36 [.d (.int .i64), .d .str, .d (.int .i64), .d .bool, .d (.int .i64), .d .str, .d (.int .i64)]]⟩), (.e 0, ⟨[(2, .pt 0 0)], [.box false 36 [.d (.int .i64), .d .str, .d (.int .i64), .d .bool, .d (.int .i64), .d .str, .d (.int .i64)]]⟩)]
  | _ => []
def lex_sign_s2 (n : Nat) (x0 : ByteArray) (x1 : Int) (x2 : Int) (x3 : Int) (x4 : ByteArray) (x5 : Int) (x6 : Bool) (x7 : Int) (x8 : ByteArray) (x9 : Int) (x10 : (List ByteArray)) (k1 : ByteArray → Int → Int → Int → ByteArray → Int → Bool → Int → ByteArray → Int → (List ByteArray) → Option R) (qr : Bool → Int → ByteArray → Int → Bool → Int → ByteArray → Int → Option R) (qe0 : Int → ByteArray → Int → Bool → Int → ByteArray → Int → Option R) : Option R :=
  if (decide (x2 < x1)) = true then (if (0 : Int) ≤ x2 ∧ x2 < (x10.length : Int) then (if (Int.toNat x2) < x10.length then (strings_HasPrefix_F n x0 (x10.getD (Int.toNat x2) (Ty.z .str)) (fun y1 => if y1 = true then (qr true 3 (x10.getD (Int.toNat x2) (Ty.z .str)) 0 false 0 (⟨#[]⟩ : ByteArray) 0) else (k1 x0 x1 (IntKind.i64.wrap (x2 + 1)) x3 x4 x5 x6 x7 x8 x9 x10))) else none) else none) else (qe0 x3 x4 x5 x6 x7 x8 x9)
def lex_sign_l2 (n : Nat) (a : (lex_sign_ds 2).D) (k1 : (lex_sign_ds 2).D → Option R) (k2 : exK R (lex_sign_dx 2)) : Option R :=
  lex_sign_s2 n a.1 a.2.1 a.2.2.1 a.2.2.2.1 a.2.2.2.2.1 a.2.2.2.2.2.1 a.2.2.2.2.2.2.1 a.2.2.2.2.2.2.2.1 a.2.2.2.2.2.2.2.2.1 a.2.2.2.2.2.2.2.2.2.1 a.2.2.2.2.2.2.2.2.2.2.1 (fun x0 x1 x2 x3 x4 x5 x6 x7 x8 x9 x10 => k1 (x0, x1, x2, x3, x4, x5, x6, x7, x8, x9, x10, ())) (fun x0 x1 x2 x3 x4 x5 x6 x7 => k2.1 (x0, x1, x2, x3, x4, x5, x6, x7, ())) (fun x0 x1 x2 x3 x4 x5 x6 => k2.2.1 (x0, x1, x2, x3, x4, x5, x6, ()))
@[reducible] def lex_sign_d : Desc := ⟨[(0, .d .str)], []⟩
def lex_sign_Fi (n : Nat) (a0 : ByteArray) (k0 : ty36.D → Bool → Option R) : Option R :=
  runC (lex_sign_l2 n) n (a0, ([(⟨#[61, 61]⟩ : ByteArray), (⟨#[33, 61]⟩ : ByteArray), (⟨#[60, 61]⟩ : ByteArray), (⟨#[62, 61]⟩ : ByteArray), (⟨#[60]⟩ : ByteArray), (⟨#[62]⟩ : ByteArray), (⟨#[40]⟩ : ByteArray), (⟨#[41]⟩ : ByteArray), (⟨#[44]⟩ : ByteArray), (⟨#[95]⟩ : ByteArray)].length : Int), 0, 0, (⟨#[]⟩ : ByteArray), 0, false, 0, (⟨#[]⟩ : ByteArray), 0, [(⟨#[61, 61]⟩ : ByteArray), (⟨#[33, 61]⟩ : ByteArray), (⟨#[60, 61]⟩ : ByteArray), (⟨#[62, 61]⟩ : ByteArray), (⟨#[60]⟩ : ByteArray), (⟨#[62]⟩ : ByteArray), (⟨#[40]⟩ : ByteArray), (⟨#[41]⟩ : ByteArray), (⟨#[44]⟩ : ByteArray), (⟨#[95]⟩ : ByteArray)], ()) (fun b9 => k0 (b9.2.1, b9.2.2.1, (b9.2.2.2.1, b9.2.2.2.2.1, b9.2.2.2.2.2.1, b9.2.2.2.2.2.2.1, ()), b9.2.2.2.2.2.2.2.1, ()) b9.1, fun b16 => k0 (0, (⟨#[]⟩ : ByteArray), (0, false, 0, (⟨#[]⟩ : ByteArray), ()), 0, ()) false, ())
def lex_sign_F {R : Type} := lazyN (@lex_sign_Fi R)
theorem lex_sign_e : @lex_sign_F R = @lex_sign_Fi R := lazyN_eq _
def lex_sign_g (n : Nat) : Gx R := typed 1 lex_sign_d fun x k => lex_sign_F n x.1 (fun y0 y1 => k (.tu [(encA ty36 y0), (.c (.b y1))]) [])
def lex_sign_cs (R : Type) (n : Nat) : List (Nat × Gx R) := [(64, strings_HasPrefix_g n)]
def lex_sign_lp (n : Nat) : (i : Nat) → (lex_sign_ds i).D → exK R (lex_sign_dx i) → Option R
  | 2, a, k => runC (lex_sign_l2 n) n a k
  | _, _, _ => none
def lex_sign_cx (R : Type) (n : Nat) : Cx R := ⟨Tryd.prog, Gof (lex_sign_cs R n), lex_sign_ds, lex_sign_dx, lex_sign_lp n, drawP Tryd.prog (Gof (lex_sign_cs R n)), false, noJn, noFz⟩
theorem lex_sign_ok [Esc R] (n : Nat) : Good Tryd.prog 52 (lex_sign_g (R := R) n) := by
  unfold lex_sign_g
  rw [lex_sign_e]
  exact Good.fn (f := 52) (cx := lex_sign_cx R n) (by kernel_rfl) (AllGood.cons (strings_HasPrefix_ok n) (AllGood.nil)) rfl Tryd.func52 (by kernel_rfl) rfl (by
    have e : fnLoops noJn Tryd.f52 = [((fnLoops noJn Tryd.f52)[0]?).getD (false, .skip)] := by kernel_rfl
    show LoopRuns _ _ (fnLoops noJn _)
    rw [e]
    exact ⟨LoopRun.loop (by kernel_rfl) (i := 2) (m := n) (step := lex_sign_l2 n) (by kernel_rfl) (fun a k1 k2 => by kernel_rfl) (fun _ _ => rfl), trivial⟩) 1 lex_sign_d (by kernel_rfl) (fun x k => by kernel_rfl)
end
end Go.Proofs.YtnnbinmomendnaaDoor.E
set_option linter.unusedVariables false
set_option maxRecDepth 100000
namespace Go.Proofs.YtnnbinmomendnaaDoor.E
open Go.Proofs
noncomputable section
variable {R : Type}
/-! verderer/lex.first: function 30 -/
@[reducible] def lex_first_d : Desc := ⟨[(0, .d .str)], []⟩
def lex_first_Fi (n : Nat) (a0 : ByteArray) (k0 : ty36.D → Bool → Option R) : Option R :=
  if (0 : Int) ≤ 0 then if 0 < (a0.size : Int) then (lex_letter_F n (byteAt a0 0) (fun y1 => if y1 = true then (lex_word_F n a0 (fun y2 => k0 y2 true)) else (lex_digit_F n (byteAt a0 0) (fun y3 => if y3 = true then (lex_number_F n a0 (fun y4 y5 => k0 y4 y5)) else (if ((byteAt a0 0) == 45) = true then (lex_number_F n a0 (fun y6 y7 => k0 y6 y7)) else (if ((byteAt a0 0) == 34) = true then (lex_quoted_F n a0 (fun y8 y9 => k0 y8 y9)) else (lex_sign_F n a0 (fun y10 y11 => k0 y10 y11)))))))) else none else none
def lex_first_F {R : Type} := lazyN (@lex_first_Fi R)
theorem lex_first_e : @lex_first_F R = @lex_first_Fi R := lazyN_eq _
def lex_first_g (n : Nat) : Gx R := typed 1 lex_first_d fun x k => lex_first_F n x.1 (fun y0 y1 => k (.tu [(encA ty36 y0), (.c (.b y1))]) [])
def lex_first_cs (R : Type) (n : Nat) : List (Nat × Gx R) := [(47, lex_letter_g n), (48, lex_word_g n), (49, lex_digit_g n), (50, lex_number_g n), (51, lex_quoted_g n), (52, lex_sign_g n)]
def lex_first_cx (R : Type) (n : Nat) : Cx R := ⟨Tryd.prog, Gof (lex_first_cs R n), noDs, noDx, noLp, drawP Tryd.prog (Gof (lex_first_cs R n)), false, noJn, noFz⟩
theorem lex_first_ok [Esc R] (n : Nat) : Good Tryd.prog 30 (lex_first_g (R := R) n) := by
  unfold lex_first_g
  rw [lex_first_e]
  exact Good.fn (f := 30) (cx := lex_first_cx R n) (by kernel_rfl) (AllGood.cons (lex_letter_ok n) (AllGood.cons (lex_word_ok n) (AllGood.cons (lex_digit_ok n) (AllGood.cons (lex_number_ok n) (AllGood.cons (lex_quoted_ok n) (AllGood.cons (lex_sign_ok n) (AllGood.nil))))))) rfl Tryd.func30 (by kernel_rfl) rfl trivial 1 lex_first_d (by kernel_rfl) (fun x k => by kernel_rfl)
end
end Go.Proofs.YtnnbinmomendnaaDoor.E
set_option linter.unusedVariables false
set_option maxRecDepth 100000
namespace Go.Proofs.YtnnbinmomendnaaDoor.E
open Go.Proofs
noncomputable section
variable {R : Type}
/-! verderer/lex.blank: function 29 -/
@[reducible] def lex_blank_d : Desc := ⟨[(0, .d (.int .u8))], []⟩
def lex_blank_Fi (n : Nat) (a0 : Int) (k0 : Bool → Option R) : Option R :=
  if (a0 == 32) = true then (k0 true) else (k0 (a0 == 10))
def lex_blank_F {R : Type} := lazyN (@lex_blank_Fi R)
theorem lex_blank_e : @lex_blank_F R = @lex_blank_Fi R := lazyN_eq _
def lex_blank_g (n : Nat) : Gx R := typed 1 lex_blank_d fun x k => lex_blank_F n x.1 (fun y0 => k (.a (.c (.b y0))) [])
def lex_blank_cs (R : Type) (n : Nat) : List (Nat × Gx R) := []
def lex_blank_cx (R : Type) (n : Nat) : Cx R := ⟨Tryd.prog, Gof (lex_blank_cs R n), noDs, noDx, noLp, drawP Tryd.prog (Gof (lex_blank_cs R n)), false, noJn, noFz⟩
theorem lex_blank_ok [Esc R] (n : Nat) : Good Tryd.prog 29 (lex_blank_g (R := R) n) := by
  unfold lex_blank_g
  rw [lex_blank_e]
  exact Good.fn (f := 29) (cx := lex_blank_cx R n) (by kernel_rfl) (AllGood.nil) rfl Tryd.func29 (by kernel_rfl) rfl trivial 1 lex_blank_d (by kernel_rfl) (fun x k => by kernel_rfl)
end
end Go.Proofs.YtnnbinmomendnaaDoor.E
set_option linter.unusedVariables false
set_option maxRecDepth 100000
namespace Go.Proofs.YtnnbinmomendnaaDoor.E
open Go.Proofs
noncomputable section
variable {R : Type}
/-! verderer/lex.run: function 28 -/
def lex_run_v2_ds : Nat → Desc
  | 1 => ⟨[(0, .d .str), (1, .d (.int .i64)), (2, .fn 29 [])], []⟩
  | _ => ⟨[], []⟩
def lex_run_v2_dx : Nat → List (X × Desc)
  | 1 => [(.e 0, ⟨[(1, .d (.int .i64))], []⟩)]
  | _ => []
def lex_run_v2_s1 (n : Nat) (x0 : ByteArray) (x1 : Int) (k1 : ByteArray → Int → Option R) (qe0 : Int → Option R) : Option R :=
  if (decide (x1 < (x0.size : Int))) = true then (if (0 : Int) ≤ x1 then if x1 < (x0.size : Int) then (lex_blank_F n (byteAt x0 x1) (fun y1 => if y1 = true then (k1 x0 (IntKind.i64.wrap (x1 + 1))) else (qe0 x1))) else none else none) else (qe0 x1)
def lex_run_v2_l1 (n : Nat) (a : (lex_run_v2_ds 1).D) (k1 : (lex_run_v2_ds 1).D → Option R) (k2 : exK R (lex_run_v2_dx 1)) : Option R :=
  lex_run_v2_s1 n a.1 a.2.1 (fun x0 x1 => k1 (x0, x1, ())) (fun x0 => k2.1 (x0, ()))
@[reducible] def lex_run_v2_d : Desc := ⟨[(0, .d .str), (1, .d (.int .i64)), (2, .fn 29 [])], []⟩
def lex_run_v2_Fi (n : Nat) (a0 : ByteArray) (a1 : Int) (k0 : Int → Option R) : Option R :=
  runC (lex_run_v2_l1 n) n (a0, a1, ()) (fun b2 => k0 b2.1, ())
def lex_run_v2_F {R : Type} := lazyN (@lex_run_v2_Fi R)
theorem lex_run_v2_e : @lex_run_v2_F R = @lex_run_v2_Fi R := lazyN_eq _
def lex_run_v2_g (n : Nat) : Gx R := typed 3 lex_run_v2_d fun x k => lex_run_v2_F n x.1 x.2.1 (fun y0 => k (.a (.c (.i .i64 y0))) [])
def lex_run_v2_cs (R : Type) (n : Nat) : List (Nat × Gx R) := [(29, lex_blank_g n)]
def lex_run_v2_lp (n : Nat) : (i : Nat) → (lex_run_v2_ds i).D → exK R (lex_run_v2_dx i) → Option R
  | 1, a, k => runC (lex_run_v2_l1 n) n a k
  | _, _, _ => none
def lex_run_v2_cx (R : Type) (n : Nat) : Cx R := ⟨Tryd.prog, Gof (lex_run_v2_cs R n), lex_run_v2_ds, lex_run_v2_dx, lex_run_v2_lp n, drawP Tryd.prog (Gof (lex_run_v2_cs R n)), false, noJn, noFz⟩
theorem lex_run_v2_ok [Esc R] (n : Nat) : Good Tryd.prog 28 (lex_run_v2_g (R := R) n) := by
  unfold lex_run_v2_g
  rw [lex_run_v2_e]
  exact Good.fn (f := 28) (cx := lex_run_v2_cx R n) (by kernel_rfl) (AllGood.cons (lex_blank_ok n) (AllGood.nil)) rfl Tryd.func28 (by kernel_rfl) rfl (by
    have e : fnLoops noJn Tryd.f28 = [((fnLoops noJn Tryd.f28)[0]?).getD (false, .skip)] := by kernel_rfl
    show LoopRuns _ _ (fnLoops noJn _)
    rw [e]
    exact ⟨LoopRun.loop (by kernel_rfl) (i := 1) (m := n) (step := lex_run_v2_l1 n) (by kernel_rfl) (fun a k1 k2 => by kernel_rfl) (fun _ _ => rfl), trivial⟩) 3 lex_run_v2_d (by kernel_rfl) (fun x k => by kernel_rfl)
end
end Go.Proofs.YtnnbinmomendnaaDoor.E
namespace Go.Proofs.YtnnbinmomendnaaDoor.E
open Go.RowKit
/-! # 15. From the form's reading of an argument to data, and from a function's row to its calls -/
/-- what a reading pays -/
def Fine : (t : Ty) → t.D → Prop
  | .bool, _ => True
  | .int k, n => (Lit.int k n).wf = true
  | .str, s => s.size ≤ 9223372036854775807
  | .sl e, l => l.length ≤ 9223372036854775807 ∧ ∀ x ∈ l, Fine e x
  | .pr a b, x => Fine a x.1 ∧ Fine b x.2
  | .un, _ => True
def chkF (q : Nat → Ty → Bool) (P : Program) : List Field → Nat → Ty → Bool
  | f :: fs, off, .pr a b => Nat.beq f.offset off && q f.type a && Nat.beq (P.cellsOf f.type) a.sz && chkF q P fs (off + a.sz) b
  | [], _, .un => true
  | _, _, _ => false
def chkTy (P : Program) : Nat → Nat → Ty → Bool
  | 0, _, _ => false
  | d + 1, t, ty => match P.underlying t, ty with
    | some .bool, .bool => true
    | some (.int k), .int k' => decide (k = k')
    | some .string, .str => true
    | some (.slice e), .sl x => chkTy P d e x && Nat.beq (P.cellsOf e) x.sz && Nat.blt 0 x.sz
    | some (.struct fs), ty => chkF (chkTy P d) P fs.toList 0 ty && Nat.beq (P.cellsOf t) ty.sz
    | _, _ => false
theorem mapM_mem {α β : Type} {f : α → Option β} : ∀ {l : List α} {r : List β}, l.mapM f = some r → r.length = l.length ∧ ∀ (i : Nat) (a : α), l[i]? = some a → ∃ b, r[i]? = some b ∧ f a = some b
  | [], r, h => by
    simp only [List.mapM_nil] at h
    injection h with h
    subst h
    exact ⟨rfl, fun i a ha => by simp at ha⟩
  | x :: l, r, h => by
    simp only [List.mapM_cons, Option.bind_eq_bind] at h
    obtain ⟨b, hb, h⟩ := Option.bind_eq_some_iff.1 h
    obtain ⟨bs, hbs, h⟩ := Option.bind_eq_some_iff.1 h
    injection h with h
    subst h
    obtain ⟨hl, hi⟩ := mapM_mem hbs
    refine ⟨by simp [hl], fun i a ha => ?_⟩
    cases i with
    | zero => simp at ha; subst ha; exact ⟨b, rfl, hb⟩
    | succ i => simpa using hi i a (by simpa using ha)
theorem exists_list {α : Type} (Q : Nat → α → Prop) : ∀ n, (∀ i, i < n → ∃ x, Q i x) → ∃ l : List α, l.length = n ∧ ∀ i x, l[i]? = some x → Q i x
  | 0, _ => ⟨[], rfl, fun i x h => by simp at h⟩
  | n + 1, h => by
    obtain ⟨l, hl, hq⟩ := exists_list Q n (fun i hi => h i (by omega))
    obtain ⟨x, hx⟩ := h n (by omega)
    refine ⟨l ++ [x], by simp [hl], fun i y hy => ?_⟩
    rcases Nat.lt_or_ge i l.length with hi | hi
    · rw [List.getElem?_append_left hi] at hy; exact hq i y hy
    · rw [List.getElem?_append_right hi] at hy
      have : i - l.length = 0 := by
        rcases Nat.eq_zero_or_pos (i - l.length) with h0 | h0
        · exact h0
        · rw [List.getElem?_eq_none (by simp; omega)] at hy; cases hy
      rw [this] at hy
      simp at hy
      subst hy
      have : i = n := by omega
      rw [this]; exact hx
theorem cells_at {w : World} {base : Nat} {a : Addr} {n : Nat} {cs : List Value} (h : w.cells? base a n = some cs) : cs.length = n ∧ ∀ i u, cs[i]? = some u → w.cell? (a.add i) = some u := by
  unfold World.cells? at h
  split at h
  · obtain ⟨hl, hi⟩ := mapM_mem h
    simp only [List.length_range] at hl
    refine ⟨hl, fun i u hu => ?_⟩
    have hlt : i < n := by rw [← hl]; exact (List.getElem?_eq_some_iff.1 hu).1
    obtain ⟨b, hb, hc⟩ := hi i i (by rw [List.getElem?_range hlt])
    rw [hu] at hb
    injection hb with hb
    subst hb
    exact hc
  · cases h
theorem add_add (a : Addr) (i j : Nat) : (a.add i).add j = a.add (i + j) := by
  unfold Addr.add
  by_cases hi : i = 0
  · subst hi; simp
  · by_cases hj : j = 0
    · subst hj; simp [hi]
    · simp [hi, hj, Nat.add_assoc]
theorem cell_spot {w : World} {a : Addr} {u : Value} (h : w.cell? a = some u) : a.spot = none ∧ a.block < w.heap.size := by
  unfold World.cell? at h
  split at h
  · rename_i c e f hb
    split at h
    · cases h
    · rename_i hs
      refine ⟨?_, (Array.getElem?_eq_some_iff.1 hb).1⟩
      cases hsp : a.spot with
      | none => rfl
      | some _ => rw [hsp] at hs; simp at hs
  · cases h
/-- whatever reads at a type is data of it, and good -/
theorem trod_chk {P : Program} : ∀ (d t : Nat) (ty : Ty), chkTy P d t ty = true → ∀ (H : Type) (enc : TypeId × Value → H) (w : World) (sp : Nat → Bool) (fuel : Nat) (cs : List Value) (y : DataW H × List MemPlace),
    DataW.trod enc P w 0 sp true fuel t cs = some y → ∃ x : ty.D, DRep w (fun b => b < w.heap.size) ty x cs ∧ Fine ty x
  | 0, _, _, h => by cases h
  | d + 1, t, ty, h => by
    intro H enc w sp fuel cs y hy
    simp only [chkTy] at h
    split at h
    · rename_i hu
      obtain ⟨n, rfl, _⟩ := DataW.trod_bool hu hy
      exact ⟨n, rfl, trivial⟩
    · rename_i k k' hu
      have : k = k' := by simpa using h
      subst this
      obtain ⟨n, rfl, _, hw⟩ := DataW.trod_int hu hy
      exact ⟨n, rfl, hw⟩
    · rename_i hu
      obtain ⟨s, rfl, _, hs⟩ := DataW.trod_string hu hy
      exact ⟨s, rfl, by unfold maxLen at hs; exact hs⟩
    · rename_i e x hu
      simp only [Bool.and_eq_true] at h
      obtain ⟨⟨h1, h2⟩, h3⟩ := h
      have hs := Nat.eq_of_beq_eq_true h2
      have hpos : 0 < x.sz := Nat.le_of_ble_eq_true h3
      rcases DataW.trod_slice hu hy with ⟨rfl, _⟩ | ⟨a, len, cap, elems, rest, n, _, rfl, _, _, hlc, hcm, hel, hi, _⟩
      · exact ⟨[], ⟨none, 0, rfl, ⟨Nat.le_refl _, fun _ => rfl⟩, fun i hi => by simp at hi⟩, by simp [Fine]⟩
      · obtain ⟨l, hl, hq⟩ := exists_list (fun i (v : x.D) => (∃ c, c.length = x.sz ∧ DRep w (fun b => b < w.heap.size) x v c ∧ ∀ j u, c[j]? = some u → w.cell? (a.add (i * x.sz + j)) = some u) ∧ Fine x v) len (fun i hlt => by
          have hb := hi i hlt
          obtain ⟨z, hz⟩ : ∃ z, elems[i]? = some z := ⟨elems[i]'(by omega), List.getElem?_eq_getElem _⟩
          rw [hz] at hb
          obtain ⟨c, hc, hz'⟩ := Option.bind_eq_some_iff.1 hb
          obtain ⟨v, hK, hG⟩ := trod_chk d e x h1 H enc w sp n c z hz'
          obtain ⟨hcl, hcell⟩ := cells_at hc
          refine ⟨v, ⟨c, by rw [hcl, hs], hK, fun j u hu => ?_⟩, hG⟩
          have := hcell j u hu
          rw [hs, add_add] at this
          exact this)
        refine ⟨l, ⟨some a, cap, by rw [hl], ⟨by omega, fun h => by cases h⟩, fun i hi => ?_⟩, by unfold maxLen at hcm; omega, fun v hv => ?_⟩
        · obtain ⟨⟨c, hcl, hK, hcell⟩, _⟩ := hq i _ (List.getElem?_eq_getElem hi)
          obtain ⟨⟨c0, hcl0, _, hcell0⟩, _⟩ := hq 0 _ (List.getElem?_eq_getElem (by omega))
          have h0 := hcell0 0 (c0[0]'(by omega)) (List.getElem?_eq_getElem _)
          have ha0 : a.add (0 * x.sz + 0) = a := by simp [Addr.add]
          rw [ha0] at h0
          obtain ⟨sp1, sp2⟩ := cell_spot h0
          obtain ⟨b, o, s⟩ := a
          simp only at sp1 sp2
          subst sp1
          refine ⟨b, o, c, rfl, sp2, fun j u hu => ?_, hK⟩
          have := hcell j u hu
          rw [Addr.add_mid] at this
          rw [← this, Nat.add_assoc]
        · obtain ⟨j, hj⟩ := List.getElem?_of_mem hv
          exact (hq j v hj).2
    · rename_i fs hu
      simp only [Bool.and_eq_true] at h
      obtain ⟨h1, h2⟩ := h
      have hsz := Nat.eq_of_beq_eq_true h2
      obtain ⟨xs, n, _, _, hl, hx, hi⟩ := DataW.trod_struct hu hy
      have each : ∀ f ∈ fs.toList, ∃ y, DataW.trod enc P w 0 sp true n f.type ((cs.drop f.offset).take (P.cellsOf f.type)) = some y := by
        intro f hf
        obtain ⟨i, hf⟩ := List.getElem?_of_mem hf
        have hlt : i < fs.size := by have := (List.getElem?_eq_some_iff.1 hf).1; simpa using this
        have := hi i f (by simpa using hf)
        rw [List.getElem?_eq_getElem (by omega)] at this
        exact ⟨_, this⟩
      have key : ∀ (l : List Field) (off : Nat) (ty : Ty), chkF (chkTy P d) P l off ty = true → (∀ f ∈ l, ∃ y, DataW.trod enc P w 0 sp true n f.type ((cs.drop f.offset).take (P.cellsOf f.type)) = some y) →
          ∃ x : ty.D, DRep w (fun b => b < w.heap.size) ty x ((cs.drop off).take ty.sz) ∧ Fine ty x := by
        intro l
        induction l with
        | nil =>
          intro off ty h _
          cases ty <;> first | cases h | skip
          exact ⟨(), by simp [DRep, Ty.sz], trivial⟩
        | cons f l ih =>
          intro off ty h hf
          cases ty with
          | pr a b =>
            simp only [chkF, Bool.and_eq_true] at h
            obtain ⟨⟨⟨g1, g2⟩, g3⟩, g4⟩ := h
            have e1 := Nat.eq_of_beq_eq_true g1
            have e3 := Nat.eq_of_beq_eq_true g3
            obtain ⟨y1, hy1⟩ := hf f (by simp)
            rw [e1, e3] at hy1
            obtain ⟨x1, k1, f1⟩ := trod_chk d f.type a g2 H enc w sp n _ y1 hy1
            obtain ⟨x2, k2, f2⟩ := ih (off + a.sz) b g4 fun f hm => hf f (List.mem_cons_of_mem _ hm)
            refine ⟨(x1, x2), ⟨_, _, ?_, k1, k2⟩, f1, f2⟩
            show (cs.drop off).take (a.sz + b.sz) = _
            rw [List.take_add, List.drop_drop]
          | _ => cases h
      obtain ⟨x, hk, hg⟩ := key fs.toList 0 _ h1 each
      refine ⟨x, ?_, hg⟩
      rw [List.drop_zero, List.take_of_length_le (by omega)] at hk
      exact hk
    · cases h
section
variable {P : Program} {w : World} {F : Nat → Prop}
def LayW (W : World) : Prop := LayC W ∧ ∀ g ∈ layG, g < W.heap.size
/-- where no panic may be -/
instance escU : Esc Unit := ⟨fun _ => none⟩
/-- a law: it comes to true, and leaves all that there was -/
theorem law_calls {f : Nat} {g : Gx Unit} (h : Good P f g) {fn : Func} (hf : P.funcs[f]? = some fn) (hname : (fn.name == "runtime.NumGoroutine") = false) (hb : fn.body.isSome = true) {args : List A} {vs : List Value} {W : World} (ha : All2 (RepA W (fun b => b < W.heap.size) []) vs args)
    (ht : g args [] (fun x _ => match x with | .a (.c (.b b)) => (bif b then some () else none) | _ => none) = some ()) (hl : LayW W := by exact ⟨trivial, fun g hg => by cases hg⟩) : Calls P f vs.toArray W fun e W' => e = .returned (.bool true) ∧ Below W.heap.size W W' := by
  have hd := h.1 args [] _ () ht vs W _ [] (Inv.nil (fun _ h => h) hl.1 hl.2) ha
  rcases hd with ⟨_, hd⟩ | ⟨v, hd, _⟩
  rotate_left
  · have h1 : ¬ fn.name = "runtime.NumGoroutine" := by simpa using hname
    have h2 : ¬ fn.body = none := by intro e; rw [e] at hb; cases hb
    simp [callFunc, hf, h1, h2, Sem.run_pure] at hd
  refine hd.mono ?_
  rintro e W' (⟨x, HN, v, F', hvN, hk, rfl, iN, hx⟩ | ⟨pv, rfl, hp, _⟩)
  rotate_left
  · cases hp
  have hv : v = .bool true := by
    split at hk
    · rename_i b
      cases b with
      | true => exact hx
      | false => cases hk
    · cases hk
  subst hv
  exact ⟨rfl, iN.os, iN.tape, iN.output, iN.size, fun k hk => iN.old k hk noU⟩
end
end Go.Proofs.YtnnbinmomendnaaDoor.E
namespace Go.Proofs.YtnnbinmomendnaaDoor.E
open Go.RowKit
/-! # 16. Plain lemmas -/
theorem wrap_i64 {x : Int} (h1 : -9223372036854775808 ≤ x) (h2 : x < 9223372036854775808) : IntKind.i64.wrap x = x := by
  simp [IntKind.wrap, IntKind.bits, IntKind.signed]
  split <;> omega
theorem wrap_succ (i : Nat) (h : i < 9223372036854775807) : IntKind.i64.wrap ((i : Int) + 1) = ((i + 1 : Nat) : Int) := by
  rw [wrap_i64 (by omega) (by omega)]
  rfl
theorem runC_st {α β R : Type} {step : α → (α → Option R) → β → Option R} (k : β) (r : Option R) (st : Nat → α) (m : Nat)
    (hs : ∀ i, i < m → (∀ k1, step (st i) k1 k = k1 (st (i + 1))) ∨ ∀ k1, step (st i) k1 k = r) (he : ∀ k1, step (st m) k1 k = r) {n : Nat} (hn : m < n) : runC step n (st 0) k = r := by
  have go : ∀ (d i n : Nat), i + d = m → d < n → runC step n (st i) k = r := by
    intro d
    induction d with
    | zero =>
      intro i n hi hn
      obtain ⟨n, rfl⟩ : ∃ q, n = q + 1 := ⟨n - 1, by omega⟩
      have : i = m := by omega
      subst this
      exact he _
    | succ d ih =>
      intro i n hi hn
      obtain ⟨n, rfl⟩ : ∃ q, n = q + 1 := ⟨n - 1, by omega⟩
      rcases hs i (by omega) with h | h
      · exact (h _).trans (ih (i + 1) n (by omega) (by omega))
      · exact h _
  exact go m 0 n (by omega) hn
theorem beqB (a b : ByteArray) : (a.toList == b.toList) = decide (a = b) := by
  rw [← beq_toListBytes]
  by_cases h : a = b
  · subst h; simpa using (MapKept.bytes_beq a a).2 rfl
  · rw [decide_eq_false h]
    cases e : (a == b) with
    | false => rfl
    | true => exact absurd ((MapKept.bytes_beq a b).1 e) h
instance decMem (s : ByteArray) (l : List ByteArray) : Decidable (s ∈ l) := decidable_of_iff (l.any (fun y => decide (y = s)) = true) (by simp)
theorem getD_nat {α : Type} (l : List α) (i : Nat) (h : i < l.length) (z : α) : l.getD i z = l[i] := by
  rw [List.getD_eq_getElem?_getD, List.getElem?_eq_getElem h]
  rfl
theorem lt_nat {i m : Nat} : (decide ((i : Int) < (m : Int))) = decide (i < m) := by simp
theorem take_snoc {α : Type} (l : List α) (i : Nat) (h : i < l.length) : l.take (i + 1) = l.take i ++ [l[i]] := by
  rw [List.take_add_one, List.getElem?_eq_getElem h]
  rfl
end Go.Proofs.YtnnbinmomendnaaDoor.E
namespace Go.Proofs.YtnnbinmomendnaaDoor.E
open Go.RowKit
variable {R : Type}
/-! numbers and texts as words: what the document's layer 1 answers -/
theorem ba_eq {s t : ByteArray} (h : s.data.toList = t.data.toList) : s = t := ByteArray.ext (Array.toList_inj.1 h)
theorem ba_size (s : ByteArray) : s.size = s.data.toList.length := by simp
theorem mk_sz (l : List UInt8) : (⟨l.toArray⟩ : ByteArray).size = l.length := by show l.toArray.size = _; simp
theorem u64w (x : Int) (h0 : 0 ≤ x) (h1 : x < 18446744073709551616) : IntKind.u64.wrap x = x := by
  simp only [IntKind.wrap, IntKind.bits, IntKind.signed]
  simp
  omega
theorem u8w (x : Int) (h0 : 0 ≤ x) (h1 : x < 256) : IntKind.u8.wrap x = x := by
  simp only [IntKind.wrap, IntKind.bits, IntKind.signed]
  simp
  omega
theorem u64n (x : Nat) (h0 : 1 ≤ x) (h1 : x ≤ 9223372036854775808) : IntKind.u64.wrap (0 - (IntKind.u64.wrap (-(x : Int)))) = x := by
  simp only [IntKind.wrap, IntKind.bits, IntKind.signed]
  simp
  omega
def dval (acc : Nat) : List UInt8 → Nat
  | [] => acc
  | c :: r => dval (acc * 10 + (c.toNat - 48)) r
def dig (c : UInt8) : Prop := 48 ≤ c.toNat ∧ c.toNat ≤ 57
theorem dval_le : ∀ (l : List UInt8) (acc : Nat), acc ≤ dval acc l
  | [], _ => Nat.le_refl _
  | c :: r, acc => Nat.le_trans (by omega) (dval_le r (acc * 10 + (c.toNat - 48)))
theorem dval_app : ∀ (l m : List UInt8) (acc : Nat), dval acc (l ++ m) = dval (dval acc l) m
  | [], _, _ => rfl
  | c :: r, m, acc => dval_app r m _
theorem dec_dig (u : Nat) : ∀ c ∈ Lib.decDigits u, dig c := by
  induction u using Nat.strongRecOn with
  | _ u ih =>
    rw [Lib.decDigits]
    have h8 : ∀ j, j < 10 → dig (UInt8.ofNat (48 + j)) := by unfold dig; decide
    split
    · rename_i h
      intro c hc
      rw [List.mem_singleton] at hc; subst hc; exact h8 u h
    · rename_i h
      intro c hc
      rcases List.mem_append.1 hc with hc | hc
      · exact ih (u / 10) (by omega) c hc
      · rw [List.mem_singleton] at hc; subst hc; exact h8 (u % 10) (by omega)
theorem dval_dec (u : Nat) : dval 0 (Lib.decDigits u) = u := by
  induction u using Nat.strongRecOn with
  | _ u ih =>
    have h8 : ∀ j, j < 10 → (UInt8.ofNat (48 + j)).toNat = 48 + j := by decide
    rw [Lib.decDigits]
    split
    · rename_i h
      show 0 * 10 + ((UInt8.ofNat (48 + u)).toNat - 48) = u
      rw [h8 u h]; omega
    · rename_i h
      rw [dval_app, ih (u / 10) (by omega)]
      show u / 10 * 10 + ((UInt8.ofNat (48 + u % 10)).toNat - 48) = u
      rw [h8 (u % 10) (by omega)]; omega
theorem dec_ne (u : Nat) : Lib.decDigits u ≠ [] := by
  rw [Lib.decDigits]; split <;> simp
theorem dig_one (d : Nat) (h : d < 10) : (⟨#[48, 49, 50, 51, 52, 53, 54, 55, 56, 57]⟩ : ByteArray).extract d (d + 1) = ⟨#[UInt8.ofNat (48 + d)]⟩ := by
  have : ∀ d : Fin 10, ((⟨#[48, 49, 50, 51, 52, 53, 54, 55, 56, 57]⟩ : ByteArray).extract d.val (d.val + 1)).data.toList = [UInt8.ofNat (48 + d.val)] := by decide +kernel
  exact ba_eq (this ⟨d, h⟩)
theorem dig_step (n u : Nat) (acc : ByteArray) (i : Nat) (hu : u < 18446744073709551616) (hi : i < 20) (h0 : i = 0 ∨ 0 < u) (ha : acc.size ≤ i) (k1 : (verdererref01_digits_ds 3).D → Option R) (k2 : exK R (verdererref01_digits_dx 3)) :
    verdererref01_digits_l3 n ((u : Int), acc, (i : Int), ()) k1 k2 = k1 (((u / 10 : Nat) : Int), (⟨#[UInt8.ofNat (48 + u % 10)]⟩ ++ acc : ByteArray), ((i + 1 : Nat) : Int), ()) := by
  have e1 : Int.tmod (u : Int) 10 = ((u % 10 : Nat) : Int) := by rw [Int.tmod_eq_emod_of_nonneg (by omega)]; omega
  have e2 : Int.tdiv (u : Int) 10 = ((u / 10 : Nat) : Int) := by rw [Int.tdiv_eq_ediv_of_nonneg (by omega)]; omega
  have e3 : IntKind.u64.wrap (((u % 10 : Nat) : Int) + 1) = ((u % 10 + 1 : Nat) : Int) := by rw [u64w _ (by omega) (by omega)]; omega
  have e4 : IntKind.u64.wrap ((u / 10 : Nat) : Int) = ((u / 10 : Nat) : Int) := u64w _ (by omega) (by omega)
  have s0 : (⟨#[48, 49, 50, 51, 52, 53, 54, 55, 56, 57]⟩ : ByteArray).size = 10 := rfl
  have s1 : (⟨#[UInt8.ofNat (48 + u % 10)]⟩ : ByteArray).size = 1 := rfl
  have c1 : ((i : Int) < 20) := by omega
  have c2 : (0 : Int) ≤ ((u % 10 + 1 : Nat) : Int) ∧ ((u % 10 + 1 : Nat) : Int) ≤ ((10 : Nat) : Int) := by omega
  have c3 : (0 : Int) ≤ ((u % 10 : Nat) : Int) ∧ ((u % 10 : Nat) : Int) ≤ ((u % 10 + 1 : Nat) : Int) := by omega
  have c4 : 1 + acc.size ≤ 9223372036854775807 := by omega
  simp only [verdererref01_digits_l3, verdererref01_digits_s3, e1, e2, e3, e4, wrap_succ i (by omega), Int.toNat_natCast, dig_one (u % 10) (by omega), s0, s1, c1, c2, c3, c4, decide_true, if_true, and_self]
  by_cases hz : i = 0
  · have : ((i : Int) == 0) = true := by simp [hz]
    rw [if_pos this]
  · have : ((i : Int) == 0) = false := by simp [hz]
    have hp : (u : Int) > 0 := by omega
    rw [if_neg (by rw [this]; decide), if_pos (decide_eq_true hp)]
theorem dig_end (n : Nat) (acc : ByteArray) (i : Nat) (hi : 1 ≤ i) (k1 : (verdererref01_digits_ds 3).D → Option R) (k2 : exK R (verdererref01_digits_dx 3)) : verdererref01_digits_l3 n ((0 : Int), acc, (i : Int), ()) k1 k2 = k2.1 (acc, ()) := by
  simp only [verdererref01_digits_l3, verdererref01_digits_s3]
  by_cases h : (i : Int) < 20
  · have : ((i : Int) == 0) = false := by simp; omega
    rw [if_pos (decide_eq_true h), if_neg (by rw [this]; decide), if_neg (by simp)]
  · rw [if_neg (by simpa using h)]
theorem digits_l (k2 : exK R (verdererref01_digits_dx 3)) (n : Nat) : ∀ (j u : Nat) (acc : ByteArray) (m i : Nat), 1 ≤ j → i + j = 20 → u < 10 ^ j → u < 18446744073709551616 → (i = 0 ∨ 0 < u) → acc.size ≤ i → j < m →
    runC (verdererref01_digits_l3 n) m ((u : Int), acc, (i : Int), ()) k2 = k2.1 ((⟨(Lib.decDigits u).toArray⟩ ++ acc : ByteArray), ())
  | 0, u, acc, m, i, h, _, _, _, _, _, _ => by omega
  | j + 1, u, acc, m, i, _, hij, hp, hu, h0, ha, hm => by
    obtain ⟨m, rfl⟩ : ∃ q, m = q + 1 := ⟨m - 1, by omega⟩
    show verdererref01_digits_l3 n ((u : Int), acc, (i : Int), ()) (fun b => runC (verdererref01_digits_l3 n) m b k2) k2 = _
    rw [dig_step n u acc i hu (by omega) h0 ha]
    by_cases hz : u / 10 = 0
    · obtain ⟨m, rfl⟩ : ∃ q, m = q + 1 := ⟨m - 1, by omega⟩
      rw [hz]
      show verdererref01_digits_l3 n ((0 : Int), _, ((i + 1 : Nat) : Int), ()) (fun b => runC (verdererref01_digits_l3 n) m b k2) k2 = _
      rw [dig_end n _ (i + 1) (by omega), Lib.decDigits, dif_pos (by omega), show u % 10 = u by omega]
    · have hj : 1 ≤ j := by
        rcases Nat.eq_zero_or_pos j with e | e
        · subst e; simp at hp; omega
        · exact e
      rw [digits_l k2 n j (u / 10) _ m (i + 1) hj (by omega) (by rw [Nat.pow_succ] at hp; omega) (by omega) (Or.inr (by omega)) (by
        have : (⟨#[UInt8.ofNat (48 + u % 10)]⟩ ++ acc : ByteArray).size = 1 + acc.size := by rw [ByteArray.size_append]; rfl
        omega) (by omega)]
      have : Lib.decDigits u = Lib.decDigits (u / 10) ++ [UInt8.ofNat (48 + u % 10)] := by
        conv => lhs; rw [Lib.decDigits]
        rw [dif_neg (by omega)]
      have e2 : (⟨(Lib.decDigits (u / 10)).toArray⟩ ++ (⟨#[UInt8.ofNat (48 + u % 10)]⟩ ++ acc) : ByteArray) = ⟨(Lib.decDigits (u / 10) ++ [UInt8.ofNat (48 + u % 10)]).toArray⟩ ++ acc := by
        apply ByteArray.ext
        simp
      rw [this, e2]
theorem digits_F (n u : Nat) (hu : u < 18446744073709551616) (hn : 20 < n) (k : ByteArray → Option R) : verdererref01_digits_F n (u : Int) k = k ⟨(Lib.decDigits u).toArray⟩ := by
  rw [verdererref01_digits_e]
  unfold verdererref01_digits_Fi
  have := digits_l (R := R) (fun b1 => k b1.1, ()) n 20 u ⟨#[]⟩ n 0 (by omega) (by omega) (by omega) hu (Or.inl rfl) (by decide) (by omega)
  refine this.trans ?_
  have e2 : (⟨(Lib.decDigits u).toArray⟩ ++ ⟨#[]⟩ : ByteArray) = ⟨(Lib.decDigits u).toArray⟩ := by
    apply ByteArray.ext
    simp
  simp only [e2]
theorem nd_le : ∀ (k u : Nat), 1 ≤ k → u < 10 ^ k → Lib.nDigits u ≤ k
  | 0, _, h, _ => by omega
  | k + 1, u, _, hu => by
    rw [Lib.nDigits]
    split
    · omega
    · rename_i h
      have hk : 1 ≤ k := by
        rcases Nat.eq_zero_or_pos k with e | e
        · subst e; simp at hu; omega
        · exact e
      have := nd_le k (u / 10) hk (by rw [Nat.pow_succ] at hu; omega)
      omega
/-- a number of 64 bits -/
def inR (x : Int) : Prop := -9223372036854775808 ≤ x ∧ x ≤ 9223372036854775807
/-- a number as a word -/
def numS (x : Int) : ByteArray := ⟨(Lib.itoa x).toArray⟩
theorem dec_len (u : Nat) (h : u < 100000000000000000000) : (Lib.decDigits u).length ≤ 20 := by rw [Lib.decDigits_length]; exact nd_le 20 _ (by omega) (by omega)
theorem num_F (n : Nat) (x : Int) (h : inR x) (hn : 20 < n) (k : ByteArray → Option R) : verdererref01_Num_F n x k = k (numS x) := by
  obtain ⟨h0, h1⟩ := h
  rw [verdererref01_Num_e]
  unfold verdererref01_Num_Fi numS Lib.itoa
  by_cases h : x < 0
  · rw [if_pos (decide_eq_true h), if_pos h]
    have e : IntKind.u64.wrap (0 - (IntKind.u64.wrap x)) = ((x.natAbs : Nat) : Int) := by
      have := u64n x.natAbs (by omega) (by omega)
      rw [show -((x.natAbs : Nat) : Int) = x by omega] at this; exact this
    rw [e, digits_F n _ (by omega) hn]
    have hl := dec_len x.natAbs (by omega)
    simp only [mk_sz]
    rw [if_pos (by show 1 + _ ≤ _; omega)]
    congr 1
  · rw [if_neg (by simpa using h), if_neg h]
    have e : IntKind.u64.wrap x = ((x.toNat : Nat) : Int) := by rw [u64w _ (by omega) (by omega)]; omega
    rw [e, digits_F n _ (by omega) hn]
theorem numS_size (x : Int) (h : inR x) : (numS x).size ≤ 20 := by
  obtain ⟨h0, h1⟩ := h
  unfold numS Lib.itoa
  rw [mk_sz]
  split
  · have : (Lib.decDigits x.natAbs).length ≤ 19 := by rw [Lib.decDigits_length]; exact nd_le 19 _ (by omega) (by omega)
    simp; omega
  · exact dec_len _ (by omega)
end Go.Proofs.YtnnbinmomendnaaDoor.E
namespace Go.Proofs.YtnnbinmomendnaaDoor.E
open Go.RowKit
variable {R : Type}
theorem byteAt_nat (s : ByteArray) (i : Nat) (h : i < s.data.toList.length) : byteAt s (i : Int) = ((s.data.toList[i]).toNat : Int) := by
  unfold byteAt
  rw [Int.toNat_natCast, List.getD_eq_getElem?_getD, List.getElem?_eq_getElem h]
  rfl
theorem byteAt_q (s : ByteArray) (i : Nat) (c : UInt8) (h : s.data.toList[i]? = some c) : byteAt s (i : Int) = (c.toNat : Int) := by
  obtain ⟨h1, h2⟩ := List.getElem?_eq_some_iff.1 h
  rw [byteAt_nat s i h1, h2]
def hexd (i : Nat) : UInt8 := ([48, 49, 50, 51, 52, 53, 54, 55, 56, 57, 97, 98, 99, 100, 101, 102] : List UInt8).getD i 0
/-- what a byte of a quoted text is written as -/
def qByte (c : UInt8) : List UInt8 := if c = 34 ∨ c = 92 then [92, c] else if c < 32 ∨ c > 126 then [92, 120, hexd (c.toNat / 16), hexd (c.toNat % 16)] else [c]
def quotedL (l : List UInt8) : List UInt8 := 34 :: (l.flatMap qByte ++ [34])
theorem qByte_cases (c : UInt8) : (qByte c = [92, c] ∧ (c = 34 ∨ c = 92)) ∨ (qByte c = [92, 120, hexd (c.toNat / 16), hexd (c.toNat % 16)]) ∨ (qByte c = [c] ∧ c ≠ 92 ∧ c ≠ 34) := by
  unfold qByte
  by_cases h : c = 34 ∨ c = 92
  · exact Or.inl ⟨if_pos h, h⟩
  · by_cases h2 : c < 32 ∨ c > 126
    · exact Or.inr (Or.inl (by rw [if_neg h, if_pos h2]))
    · exact Or.inr (Or.inr ⟨by rw [if_neg h, if_neg h2], fun e => h (Or.inr e), fun e => h (Or.inl e)⟩)
theorem qByte_len (c : UInt8) : (qByte c).length ≤ 4 := by rcases qByte_cases c with ⟨e, h⟩ | e | ⟨e, h, _⟩ <;> rw [e] <;> simp
theorem flat_len (t : List UInt8) : (t.flatMap qByte).length ≤ 4 * t.length := by
  induction t with
  | nil => simp
  | cons c t ih =>
    rw [List.flatMap_cons, List.length_append]
    have := qByte_len c
    simp only [List.length_cons]; omega
theorem hexd_nat (i : Nat) (h : i < 16) : (hexd i).toNat = if i < 10 then 48 + i else 87 + i := by
  have : ∀ i : Fin 16, (hexd i.val).toNat = if i.val < 10 then 48 + i.val else 87 + i.val := by decide +kernel
  exact this ⟨i, h⟩
theorem hex_one (d : Nat) (h : d < 16) : (⟨#[48, 49, 50, 51, 52, 53, 54, 55, 56, 57, 97, 98, 99, 100, 101, 102]⟩ : ByteArray).extract d (d + 1) = ⟨#[hexd d]⟩ := by
  have : ∀ d : Fin 16, ((⟨#[48, 49, 50, 51, 52, 53, 54, 55, 56, 57, 97, 98, 99, 100, 101, 102]⟩ : ByteArray).extract d.val (d.val + 1)).data.toList = [hexd d.val] := by decide +kernel
  exact ba_eq (this ⟨d, h⟩)
theorem ext_one (s : ByteArray) (i : Nat) (h : i < s.data.toList.length) : s.extract i (i + 1) = ⟨#[s.data.toList[i]]⟩ := by
  apply ba_eq
  simp only [ByteArray.data_extract, Array.toList_extract, List.extract_eq_take_drop, Nat.add_sub_cancel_left]
  rw [List.drop_eq_getElem_cons h, List.take_succ_cons, List.take_zero]
def mkB (l : List UInt8) : ByteArray := ⟨l.toArray⟩
theorem mkB_app (l m : List UInt8) : mkB l ++ mkB m = mkB (l ++ m) := by
  apply ByteArray.ext
  simp [mkB]
theorem mkB_size (l : List UInt8) : (mkB l).size = l.length := mk_sz l
theorem mkB_id (s : ByteArray) : mkB s.data.toList = s := by apply ByteArray.ext; simp [mkB]
/-- one byte more -/
theorem quoted_step (n : Nat) (t : ByteArray) (i : Nat) (hi : i < t.data.toList.length) (ht : t.size ≤ 1000000) (acc : List UInt8) (ha : acc.length ≤ 4 * i + 1) (k1 : (verdererref01_quoted_ds 3).D → Option R) (k2 : exK R (verdererref01_quoted_dx 3)) :
    verdererref01_quoted_l3 n (t, mkB acc, (i : Int), ()) k1 k2 = k1 (t, mkB (acc ++ qByte t.data.toList[i]), ((i + 1 : Nat) : Int), ()) := by
  have hsz := ba_size t
  have hb := byteAt_nat t i hi
  have hx := ext_one t i hi
  generalize t.data.toList[i] = c at hb hx
  have hc := c.toNat_lt
  have c1 : ((i : Int) < (t.size : Int)) := by omega
  have e34 : c = 34 ↔ c.toNat = 34 := by rw [← UInt8.toNat_inj]; rfl
  have e92 : c = 92 ↔ c.toNat = 92 := by rw [← UInt8.toNat_inj]; rfl
  have e32 : c < 32 ↔ c.toNat < 32 := by rw [UInt8.lt_iff_toNat_lt]; rfl
  have e126 : c > 126 ↔ 126 < c.toNat := by rw [gt_iff_lt, UInt8.lt_iff_toNat_lt]; rfl
  have j7 : ∀ (b : Bool) (k3 : exK R (verdererref01_quoted_dx 1000007)), b = decide (c = 34 ∨ c = 92) → verdererref01_quoted_l1000007 n (t, mkB acc, (i : Int), (c.toNat : Int), b, ()) k3 = k3.1 (t, mkB (acc ++ qByte c), (i : Int), ()) := by
    intro b k3 hbv
    rw [verdererref01_quoted_e1000007]
    unfold verdererref01_quoted_li1000007 verdererref01_quoted_s1000007
    have w1 : IntKind.i64.wrap ((i : Int) + 1) = ((i + 1 : Nat) : Int) := wrap_succ i (by omega)
    have b1 : (0 : Int) ≤ ((i + 1 : Nat) : Int) ∧ ((i + 1 : Nat) : Int) ≤ (t.size : Int) := by omega
    have b2 : (0 : Int) ≤ (i : Int) ∧ (i : Int) ≤ ((i + 1 : Nat) : Int) := by omega
    have s1 : (⟨#[c]⟩ : ByteArray) = mkB [c] := rfl
    have s2 : (⟨#[92]⟩ : ByteArray) = mkB [92] := rfl
    have s3 : (⟨#[92, 120]⟩ : ByteArray) = mkB [92, 120] := rfl
    simp only [w1, Int.toNat_natCast, b1, b2, and_self, if_true, hx, s1, s2, mkB_app, mkB_size, List.length_append, List.length_cons, List.length_nil]
    cases b with
    | true =>
      have h := of_decide_eq_true hbv.symm
      simp only [if_true]
      rw [if_pos (by omega), if_pos (by omega)]
      unfold qByte
      rw [if_pos h]
      simp
    | false =>
      have h : ¬ (c = 34 ∨ c = 92) := of_decide_eq_false hbv.symm
      simp only [Bool.false_eq_true, if_false]
      have j9 : ∀ (b : Bool) (k4 : exK R (verdererref01_quoted_dx 1000009)), b = decide (c < 32 ∨ c > 126) → verdererref01_quoted_l1000009 n (t, mkB acc, (i : Int), (c.toNat : Int), b, ()) k4 = k4.1 (t, mkB (acc ++ qByte c), (i : Int), ()) := by
        intro b k4 hb9
        rw [verdererref01_quoted_e1000009]
        unfold verdererref01_quoted_li1000009 verdererref01_quoted_s1000009
        have d1 : Int.tdiv (c.toNat : Int) 16 = ((c.toNat / 16 : Nat) : Int) := by rw [Int.tdiv_eq_ediv_of_nonneg (by omega)]; omega
        have d2 : Int.tmod (c.toNat : Int) 16 = ((c.toNat % 16 : Nat) : Int) := by rw [Int.tmod_eq_emod_of_nonneg (by omega)]; omega
        have d3 : IntKind.u8.wrap ((c.toNat / 16 : Nat) : Int) = ((c.toNat / 16 : Nat) : Int) := u8w _ (by omega) (by omega)
        have d4 : IntKind.u8.wrap (((c.toNat / 16 : Nat) : Int) + 1) = ((c.toNat / 16 + 1 : Nat) : Int) := by rw [u8w _ (by omega) (by omega)]; omega
        have d5 : IntKind.u8.wrap (((c.toNat % 16 : Nat) : Int) + 1) = ((c.toNat % 16 + 1 : Nat) : Int) := by rw [u8w _ (by omega) (by omega)]; omega
        have s0 : (⟨#[48, 49, 50, 51, 52, 53, 54, 55, 56, 57, 97, 98, 99, 100, 101, 102]⟩ : ByteArray).size = 16 := rfl
        have s4 : ∀ d, (⟨#[hexd d]⟩ : ByteArray) = mkB [hexd d] := fun d => rfl
        simp only [d1, d2, d3, d4, d5, w1, Int.toNat_natCast, b1, b2, and_self, if_true, hx, s0, s1, s3, hex_one (c.toNat / 16) (by omega), hex_one (c.toNat % 16) (by omega), s4, mkB_app, mkB_size, List.length_append, List.length_cons, List.length_nil]
        cases b with
        | true =>
          have h2 := of_decide_eq_true hb9.symm
          simp only [if_true]
          rw [if_pos (by omega), if_pos (by omega), if_pos (by omega), if_pos (by omega), if_pos (by omega), if_pos (by omega), if_pos (by omega)]
          unfold qByte
          rw [if_neg h, if_pos h2]
          simp
        | false =>
          have h2 : ¬ (c < 32 ∨ c > 126) := of_decide_eq_false hb9.symm
          simp only [Bool.false_eq_true, if_false]
          rw [if_pos (by omega)]
          unfold qByte
          rw [if_neg h, if_neg h2]
      by_cases h32 : (c.toNat : Int) < 32
      · rw [if_pos (decide_eq_true h32)]
        exact j9 true _ (decide_eq_true (Or.inl (e32.2 (by omega)))).symm
      · rw [if_neg (by simpa using h32)]
        refine j9 _ _ ?_
        rw [decide_eq_decide, e32, e126]
        omega
  simp only [verdererref01_quoted_l3, verdererref01_quoted_s3, c1, decide_true, if_true, hb, wrap_succ i (by omega)]
  rw [if_pos (by omega)]
  by_cases h34 : c.toNat = 34
  · have : ((c.toNat : Int) == 34) = true := by simp [h34]
    rw [if_pos this]
    refine (j7 true _ (decide_eq_true (Or.inl (e34.2 h34))).symm).trans ?_
    simp only [wrap_succ i (by omega)]
  · have : ((c.toNat : Int) == 34) = false := by simp; omega
    rw [if_neg (by rw [this]; decide)]
    refine (j7 _ _ ?_).trans ?_
    · rw [Bool.eq_iff_iff, decide_eq_true_eq, beq_iff_eq, e34, e92]
      omega
    · simp only [wrap_succ i (by omega)]
theorem quoted_F (n : Nat) (t : ByteArray) (ht : t.size ≤ 1000000) (hn : t.size < n) (k : ByteArray → Option R) : verdererref01_quoted_F n t k = k (mkB (quotedL t.data.toList)) := by
  rw [verdererref01_quoted_e]
  unfold verdererref01_quoted_Fi
  have hsz := ba_size t
  have hf := flat_len t.data.toList
  have e0 : (⟨#[34]⟩ : ByteArray) = mkB [34] := rfl
  rw [e0]
  refine runC_st (R := R) (step := verdererref01_quoted_l3 n) _ (k (mkB (quotedL t.data.toList))) (fun i => (t, mkB ([34] ++ (t.data.toList.take i).flatMap qByte), (i : Int), ())) t.data.toList.length (fun i hi => .inl fun k1 => ?_) (fun k1 => ?_) (n := n) (by omega)
  · have hfi := flat_len (t.data.toList.take i)
    rw [List.length_take] at hfi
    refine (quoted_step n t i hi ht ([34] ++ (t.data.toList.take i).flatMap qByte) (by simp only [List.length_append, List.length_cons, List.length_nil]; omega) k1 _).trans ?_
    rw [take_snoc _ i hi, List.flatMap_append]
    simp
  · simp only [verdererref01_quoted_l3, verdererref01_quoted_s3, ← hsz, Int.lt_irrefl, decide_false, Bool.false_eq_true, if_false, mkB_app, mkB_size]
    rw [if_pos (by simp only [List.length_append, List.length_cons, List.length_nil, List.length_take, hsz, List.take_length]; omega), hsz, List.take_length]
    simp [quotedL]
/-- can a value be? -/
def rightV (v : ty34.D) : Bool := decide ((v.1 = 0 ∧ v.2.1 = false ∧ v.2.2.1 = 0 ∧ v.2.2.2.1.size = 0) ∨ (v.1 = 1 ∧ v.2.2.1 = 0 ∧ v.2.2.2.1.size = 0) ∨ (v.1 = 2 ∧ v.2.1 = false ∧ v.2.2.2.1.size = 0) ∨ (v.1 = 3 ∧ v.2.1 = false ∧ v.2.2.1 = 0 ∧ v.2.2.2.1.size ≤ 60))
theorem nil_size (t : ByteArray) : (t = (⟨#[]⟩ : ByteArray)) ↔ t.size = 0 := ⟨fun h => by rw [h]; rfl, fun h => ByteArray.size_eq_zero_iff.1 h⟩
theorem refRightV_F (n : Nat) (v : ty34.D) (k : Bool → Option R) : verdererref01_Right_F n v k = k (rightV v) := by
  rw [verdererref01_Right_e]
  unfold verdererref01_Right_Fi rightV
  simp only [beqB, nil_size]
  generalize ha : v.1 = a
  generalize v.2.1 = b
  generalize v.2.2.1 = x
  generalize v.2.2.2.1.size = t
  clear ha
  change Int at a x
  change Bool at b
  by_cases h0 : a < 0
  · simp only [h0, decide_true, if_true]
    congr 1; symm; rw [decide_eq_false_iff_not]; rintro (⟨h, _⟩ | ⟨h, _⟩ | ⟨h, _⟩ | ⟨h, _⟩) <;> (rw [h] at h0; revert h0; decide)
  by_cases h3 : a > 3
  · simp only [h0, h3, decide_true, decide_false, Bool.false_eq_true, if_false, if_true]
    congr 1; symm; rw [decide_eq_false_iff_not]; rintro (⟨h, _⟩ | ⟨h, _⟩ | ⟨h, _⟩ | ⟨h, _⟩) <;> (rw [h] at h3; revert h3; decide)
  have ha : a = 0 ∨ a = 1 ∨ a = 2 ∨ a = 3 := by omega
  have hs : ((t : Int) ≤ 60) ↔ t ≤ 60 := by omega
  rcases ha with rfl | rfl | rfl | rfl <;> cases b <;> by_cases hx : x = 0 <;> by_cases ht : t = 0 <;> simp [hx, ht, hs]
/-- a value as a word -/
def showS (v : ty34.D) : ByteArray :=
  if rightV v = true then (if v.1 = 0 then ⟨#[110, 117, 108, 108]⟩ else if v.1 = 1 then (if v.2.1 = true then ⟨#[116, 114, 117, 101]⟩ else ⟨#[102, 97, 108, 115, 101]⟩) else if v.1 = 2 then numS v.2.2.1 else mkB (quotedL v.2.2.2.1.data.toList)) else ⟨#[]⟩
theorem right_size (v : ty34.D) (h : rightV v = true) : v.2.2.2.1.size ≤ 60 := by
  unfold rightV at h
  rw [decide_eq_true_eq] at h
  omega
theorem show_F (n : Nat) (v : ty34.D) (hv : inR v.2.2.1) (hn : 100 < n) (k : ByteArray → Option R) : verdererref01_Show_F n v k = k (showS v) := by
  rw [verdererref01_Show_e]
  unfold verdererref01_Show_Fi showS
  rw [refRightV_F]
  cases hr : rightV v with
  | false => simp
  | true =>
    have hs := right_size v hr
    simp only [Bool.not_true, Bool.false_eq_true, if_false, if_true]
    by_cases h0 : v.1 = 0
    · simp only [h0, beq_self_eq_true, if_true]
    have b0 : (v.1 == 0) = false := by simp [h0]
    by_cases h1 : v.1 = 1
    · have b1 : (v.1 == 1) = true := by simp [h1]
      simp only [b0, b1, h0, h1, Bool.false_eq_true, if_false, if_true]
      cases v.2.1 <;> simp
    have b1 : (v.1 == 1) = false := by simp [h1]
    by_cases h2 : v.1 = 2
    · have b2 : (v.1 == 2) = true := by simp [h2]
      simp only [b0, b1, b2, h0, h1, h2, Bool.false_eq_true, if_false, if_true]
      rw [num_F n _ hv (by omega)]
      rfl
    · have b2 : (v.1 == 2) = false := by simp [h2]
      simp only [b0, b1, b2, h0, h1, h2, Bool.false_eq_true, if_false]
      rw [quoted_F n _ (by omega) (by omega)]
end Go.Proofs.YtnnbinmomendnaaDoor.E
namespace Go.Proofs.YtnnbinmomendnaaDoor.E
open Go.RowKit
variable {R : Type}
theorem runC_upx {α β γ R : Type} {step : α → (α → Option R) → β → Option R} (out : γ → β → Option R) (Q : γ → Prop) (I : Nat → α → Prop) (m : Nat)
    (hs : ∀ i a, i < m → I i a → (∃ a', I (i + 1) a' ∧ ∀ k1 k2, step a k1 k2 = k1 a') ∨ ∃ y, Q y ∧ ∀ k1 k2, step a k1 k2 = out y k2) (he : ∀ a, I m a → ∃ y, Q y ∧ ∀ k1 k2, step a k1 k2 = out y k2) {n : Nat} {a : α} (hn : m < n) (ha : I 0 a) : ∃ y, Q y ∧ ∀ k2, runC step n a k2 = out y k2 := by
  have go : ∀ (d i n : Nat) (a : α), i + d = m → d < n → I i a → ∃ y, Q y ∧ ∀ k2, runC step n a k2 = out y k2 := by
    intro d
    induction d with
    | zero =>
      intro i n a hi hn ha
      obtain ⟨n, rfl⟩ : ∃ q, n = q + 1 := ⟨n - 1, by omega⟩
      have : i = m := by omega
      subst this
      obtain ⟨y, h1, h2⟩ := he a ha
      exact ⟨y, h1, fun k2 => h2 _ k2⟩
    | succ d ih =>
      intro i n a hi hn ha
      obtain ⟨n, rfl⟩ : ∃ q, n = q + 1 := ⟨n - 1, by omega⟩
      rcases hs i a (by omega) ha with ⟨a', h1, h2⟩ | ⟨y, h1, h2⟩
      · obtain ⟨y, h3, h4⟩ := ih (i + 1) n a' (by omega) (by omega) h1
        exact ⟨y, h3, fun k2 => (h2 _ k2).trans (h4 k2)⟩
      · exact ⟨y, h1, fun k2 => h2 _ k2⟩
  exact go m 0 n a (by omega) hn ha
/-! back -/
def hexS (x : Int) : Int := if 48 ≤ x ∧ x ≤ 57 then x - 48 else if 97 ≤ x ∧ x ≤ 102 then x - 87 else -1
theorem hex_F (n : Nat) (x : Int) (k : Int → Option R) : verdererref01_hex_F n x k = k (hexS x) := by
  rw [verdererref01_hex_e]
  unfold verdererref01_hex_Fi hexS
  by_cases h1 : 48 ≤ x
  · by_cases h2 : x ≤ 57
    · simp only [ge_iff_le, h1, h2, decide_true, if_true, and_self]
      rw [u8w _ (by omega) (by omega), wrap_i64 (by omega) (by omega)]
    · by_cases h3 : 97 ≤ x
      · by_cases h4 : x ≤ 102
        · simp only [ge_iff_le, h1, h2, h3, h4, decide_true, decide_false, Bool.false_eq_true, if_true, if_false, and_self, and_false]
          rw [u8w _ (by omega) (by omega), wrap_i64 (x := x - 97) (by omega) (by omega), wrap_i64 (by omega) (by omega)]
          congr 1; omega
        · simp only [ge_iff_le, h1, h2, h3, h4, decide_true, decide_false, Bool.false_eq_true, if_true, if_false, and_false]
      · simp only [ge_iff_le, h1, h2, h3, decide_true, decide_false, Bool.false_eq_true, if_true, if_false, and_false, false_and]
  · have h3 : ¬ 97 ≤ x := by omega
    simp only [ge_iff_le, h1, h3, decide_false, Bool.false_eq_true, if_false, false_and]
theorem hexS_d (i : Nat) (h : i < 16) : hexS ((hexd i).toNat : Int) = (i : Int) := by
  have e := hexd_nat i h
  unfold hexS
  split at e <;> rw [e]
  · rw [if_pos (by omega)]; omega
  · rw [if_neg (by omega), if_pos (by omega)]; omega
theorem w1 (i : Nat) (h : i ≤ 4000000) : IntKind.i64.wrap ((i : Int) + 1) = ((i + 1 : Nat) : Int) := wrap_succ i (by omega)
theorem w2 (i : Nat) (h : i ≤ 4000000) : IntKind.i64.wrap ((i : Int) + 2) = ((i + 2 : Nat) : Int) := by rw [wrap_i64 (by omega) (by omega)]; omega
theorem w3 (i : Nat) (h : i ≤ 4000000) : IntKind.i64.wrap ((i : Int) + 3) = ((i + 3 : Nat) : Int) := by rw [wrap_i64 (by omega) (by omega)]; omega
theorem wm (i : Nat) (h : i ≤ 4000000) : IntKind.i64.wrap ((i : Int) - 1) = (i : Int) - 1 := wrap_i64 (by omega) (by omega)
theorem w6 (x : Nat) (h : x < 256) : IntKind.u8.wrap (IntKind.i64.wrap ((IntKind.i64.wrap (16 * ((x / 16 : Nat) : Int))) + ((x % 16 : Nat) : Int))) = (x : Int) := by
  rw [wrap_i64 (x := 16 * ((x / 16 : Nat) : Int)) (by omega) (by omega), wrap_i64 (by omega) (by omega), u8w _ (by omega) (by omega)]
  omega
/-- it comes to an end -/
theorem unq_ex (n : Nat) (s : ByteArray) (hs : s.size ≤ 1000) (h1 : 1 ≤ s.size) (hn : s.size + 2 < n) : ∃ t : ByteArray, ∀ k : ByteArray → Option R, verdererref01_unquoted_F n s k = k t := by
  rw [verdererref01_unquoted_e]
  unfold verdererref01_unquoted_Fi
  have h := runC_upx (R := R) (step := verdererref01_unquoted_l3 n) (γ := ByteArray ⊕ List Int) (fun y k2 => match y with
      | .inl t => k2.1 (t, ())
      | .inr l => k2.2.1 (l, ())) (fun _ => True) (fun i a => ∃ (j : Nat) (acc : List Int), a = (s, (j : Int), acc, ()) ∧ i < j ∧ j ≤ s.size + 3 ∧ acc.length ≤ i) (s.size + 1) (fun i a hi ha => ?_) (fun a ha => ?_) (n := n) (a := (s, (1 : Int), [], ())) (by omega) ⟨1, [], rfl, by omega, by omega, by simp⟩
  · obtain ⟨y, _, hy⟩ := h
    cases y with
    | inl t => exact ⟨t, fun k => hy _⟩
    | inr l => exact ⟨strOfNums l, fun k => hy _⟩
  · obtain ⟨j, acc, rfl, hij, hj, hacc⟩ := ha
    simp only [verdererref01_unquoted_l3, verdererref01_unquoted_s3, wm s.size (by omega)]
    by_cases hlt : (j : Int) < (s.size : Int) - 1
    · have c0 : (0 : Int) ≤ (j : Int) := by omega
      have c1 : (j : Int) < (s.size : Int) := by omega
      simp only [hlt, decide_true, if_true, c0, c1]
      by_cases hb : byteAt s (j : Int) = 92
      · have : (byteAt s (j : Int) != 92) = false := by simp [hb]
        simp only [this, Bool.false_eq_true, if_false, w1 j (by omega)]
        have d0 : (0 : Int) ≤ ((j + 1 : Nat) : Int) := by omega
        have d1 : ((j + 1 : Nat) : Int) < (s.size : Int) := by omega
        simp only [d0, d1, if_true]
        by_cases hb2 : byteAt s ((j + 1 : Nat) : Int) = 120
        · have : (byteAt s ((j + 1 : Nat) : Int) != 120) = false := by rw [hb2]; rfl
          simp only [this, Bool.false_eq_true, if_false, w3 j (by omega), w2 j (by omega)]
          by_cases he : ((j + 3 : Nat) : Int) ≥ (s.size : Int) - 1
          · exact .inr ⟨.inl (strOfNums acc), trivial, fun k1 k2 => by rw [if_pos (decide_eq_true he)]⟩
          · have d2 : (0 : Int) ≤ ((j + 2 : Nat) : Int) := by omega
            have d3 : ((j + 2 : Nat) : Int) < (s.size : Int) := by omega
            have d4 : (0 : Int) ≤ ((j + 3 : Nat) : Int) := by omega
            have d5 : ((j + 3 : Nat) : Int) < (s.size : Int) := by omega
            refine .inl ⟨(s, ((j + 4 : Nat) : Int), acc ++ [IntKind.u8.wrap (IntKind.i64.wrap (IntKind.i64.wrap (16 * hexS (byteAt s ((j + 2 : Nat) : Int))) + hexS (byteAt s ((j + 3 : Nat) : Int))))], ()), ⟨j + 4, _, rfl, by omega, by omega, by simp; omega⟩, fun k1 k2 => ?_⟩
            rw [if_neg (by simpa using he)]
            simp only [d2, d3, d4, d5, if_true, hex_F, w1 (j + 3) (by omega), List.length_cons, List.length_nil]
            rw [if_pos (by omega)]
        · have : (byteAt s ((j + 1 : Nat) : Int) != 120) = true := bne_iff_ne.2 hb2
          refine .inl ⟨(s, ((j + 2 : Nat) : Int), acc ++ [byteAt s ((j + 1 : Nat) : Int)], ()), ⟨j + 2, _, rfl, by omega, by omega, by simp; omega⟩, fun k1 k2 => ?_⟩
          simp only [this, if_true, w1 (j + 1) (by omega), List.length_cons, List.length_nil]
          rw [if_pos (by omega)]
      · have : (byteAt s (j : Int) != 92) = true := by simp [hb]
        refine .inl ⟨(s, ((j + 1 : Nat) : Int), acc ++ [byteAt s (j : Int)], ()), ⟨j + 1, _, rfl, by omega, by omega, by simp; omega⟩, fun k1 k2 => ?_⟩
        simp only [this, if_true, w1 j (by omega), List.length_cons, List.length_nil]
        rw [if_pos (by omega)]
    · exact .inr ⟨.inr acc, trivial, fun k1 k2 => by rw [if_neg (by simpa using hlt)]⟩
  · obtain ⟨j, acc, rfl, hij, hj, hacc⟩ := ha
    have hlt : ¬ (j : Int) < (s.size : Int) - 1 := by omega
    exact ⟨.inr acc, trivial, fun k1 k2 => by simp only [verdererref01_unquoted_l3, verdererref01_unquoted_s3, wm s.size (by omega)]; rw [if_neg (by simpa using hlt)]⟩
theorem nums_back (t : List UInt8) : strOfNums (t.map (fun c => (c.toNat : Int))) = mkB t := by
  apply ba_eq
  rw [strOfNums_data, List.map_map]
  simp [Function.comp_def, mkB]
/-- a text that is quoted comes back -/
theorem unq_l (n : Nat) (s : ByteArray) (hs : s.size ≤ 1000000) (k2 : exK R (verdererref01_unquoted_dx 3)) : ∀ (t : List UInt8) (i m : Nat) (acc : List Int), s.data.toList.drop i = t.flatMap qByte ++ [34] → acc.length + t.length ≤ 1000000 → t.length < m →
    runC (verdererref01_unquoted_l3 n) m (s, (i : Int), acc, ()) k2 = k2.2.1 (acc ++ t.map (fun c => (c.toNat : Int)), ())
  | [], i, m, acc, hd, ha, hm => by
    have hl := congrArg List.length hd
    rw [List.length_drop, ← ba_size] at hl
    simp at hl
    obtain ⟨m, rfl⟩ : ∃ q, m = q + 1 := ⟨m - 1, by omega⟩
    show verdererref01_unquoted_l3 n (s, (i : Int), acc, ()) (fun b => runC (verdererref01_unquoted_l3 n) m b k2) k2 = _
    have hlt : ¬ (i : Int) < (s.size : Int) - 1 := by omega
    simp only [verdererref01_unquoted_l3, verdererref01_unquoted_s3, wm s.size (by omega)]
    rw [if_neg (by simpa using hlt)]
    simp
  | c :: t, i, m, acc, hd, ha, hm => by
    simp only [List.length_cons] at ha hm
    have hl := congrArg List.length hd
    rw [List.length_drop, ← ba_size] at hl
    have hb : ∀ (j : Nat) (d : UInt8), ((c :: t).flatMap qByte ++ [34])[j]? = some d → byteAt s ((i + j : Nat) : Int) = (d.toNat : Int) := by
      intro j d hj
      rw [← hd, List.getElem?_drop] at hj
      exact byteAt_q s (i + j) d hj
    obtain ⟨m, rfl⟩ : ∃ q, m = q + 1 := ⟨m - 1, by omega⟩
    show verdererref01_unquoted_l3 n (s, (i : Int), acc, ()) (fun b => runC (verdererref01_unquoted_l3 n) m b k2) k2 = _
    simp only [List.flatMap_cons, List.length_append, List.length_cons, List.length_nil] at hl
    simp only [List.flatMap_cons] at hb hd
    simp only [verdererref01_unquoted_l3, verdererref01_unquoted_s3, wm s.size (by omega)]
    rcases qByte_cases c with ⟨e, h⟩ | e | ⟨e, h, h'⟩
    · rw [e] at hl hb hd
      simp only [List.length_cons, List.length_nil] at hl
      have b0 : byteAt s (i : Int) = 92 := hb 0 92 rfl
      have b1 : byteAt s ((i + 1 : Nat) : Int) = (c.toNat : Int) := hb 1 c rfl
      have hne : ((c.toNat : Int) != 120) = true := by rcases h with rfl | rfl <;> decide
      rw [if_pos (decide_eq_true (by omega)), if_pos (by omega), if_pos (by omega), b0, if_neg (by decide), w1 i (by omega), if_pos (by omega), if_pos (by omega), b1, if_pos hne, if_pos (by omega), if_pos (by omega), if_pos (by simp only [List.length_cons, List.length_nil]; omega), w1 (i + 1) (by omega)]
      refine (unq_l n s hs k2 t (i + 2) m _ (by rw [← List.drop_drop, hd]; simp) (by simp; omega) (by omega)).trans ?_
      simp
    · rw [e] at hl hb hd
      simp only [List.length_cons, List.length_nil] at hl
      have b0 : byteAt s (i : Int) = 92 := hb 0 92 rfl
      have b1 : byteAt s ((i + 1 : Nat) : Int) = 120 := hb 1 120 rfl
      have b2 : byteAt s ((i + 2 : Nat) : Int) = ((hexd (c.toNat / 16)).toNat : Int) := hb 2 _ rfl
      have b3 : byteAt s ((i + 3 : Nat) : Int) = ((hexd (c.toNat % 16)).toNat : Int) := hb 3 _ rfl
      have hc : c.toNat < 256 := c.toNat_lt
      rw [if_pos (decide_eq_true (by omega)), if_pos (by omega), if_pos (by omega), b0, if_neg (by decide), w1 i (by omega), if_pos (by omega), if_pos (by omega), b1, if_neg (by decide), w3 i (by omega), if_neg (by simp; omega), w2 i (by omega), if_pos (by omega), if_pos (by omega), b2, hex_F, if_pos (by omega), if_pos (by omega), b3, hex_F,
        hexS_d _ (by omega), hexS_d _ (by omega), if_pos (by simp only [List.length_cons, List.length_nil]; omega), w1 (i + 3) (by omega), w6 _ hc]
      refine (unq_l n s hs k2 t (i + 4) m _ (by rw [← List.drop_drop, hd]; simp) (by simp; omega) (by omega)).trans ?_
      simp
    · rw [e] at hl hb hd
      simp only [List.length_cons, List.length_nil] at hl
      have b0 : byteAt s (i : Int) = (c.toNat : Int) := hb 0 c rfl
      have hne : ((c.toNat : Int) != 92) = true := by
        simp only [bne_iff_ne, ne_eq]
        intro h'
        exact h (UInt8.toNat_inj.1 (show c.toNat = 92 by omega))
      rw [if_pos (decide_eq_true (by omega)), if_pos (by omega), if_pos (by omega), b0, if_pos hne, if_pos (by omega), if_pos (by omega), if_pos (by simp only [List.length_cons, List.length_nil]; omega), w1 i (by omega)]
      refine (unq_l n s hs k2 t (i + 1) m _ (by rw [← List.drop_drop, hd]; simp) (by simp; omega) (by omega)).trans ?_
      simp
theorem unq_F (n : Nat) (t : ByteArray) (ht : t.size ≤ 1000) (hn : 1000 < n) (k : ByteArray → Option R) : verdererref01_unquoted_F n (mkB (quotedL t.data.toList)) k = k t := by
  have hf := flat_len t.data.toList
  have hsz := ba_size t
  have sz : (mkB (quotedL t.data.toList)).size = (t.data.toList.flatMap qByte).length + 2 := by rw [mkB_size]; simp [quotedL]
  rw [verdererref01_unquoted_e]
  unfold verdererref01_unquoted_Fi
  have := unq_l n (mkB (quotedL t.data.toList)) (by omega) (fun b3 => k b3.1, fun b4 => k (strOfNums b4.1), ()) t.data.toList 1 n [] (by simp [quotedL, mkB]) (by simp; omega) (by omega)
  refine this.trans ?_
  simp [nums_back, mkB_id]
end Go.Proofs.YtnnbinmomendnaaDoor.E
namespace Go.Proofs.YtnnbinmomendnaaDoor.E
open Go.RowKit
variable {R : Type}
theorem i64_rng (x : Int) : inR (IntKind.i64.wrap x) := by
  unfold inR
  simp only [IntKind.wrap, IntKind.bits, IntKind.signed]
  simp
  split <;> omega
theorem inR0 : inR 0 := by unfold inR; omega
/-! numbers back -/
theorem refNum_tail (n : Nat) (s : ByteArray) (x1 x2 : Int) (hn : 20 < n) (qr : Int → Bool → Option R) : (if (x2 == 1) = true then verdererref01_Num_F n (IntKind.i64.wrap (IntKind.u64.wrap (0 - x1))) (fun y6 => qr (IntKind.i64.wrap (IntKind.u64.wrap (0 - x1))) (y6.toList == s.toList)) else verdererref01_Num_F n (IntKind.i64.wrap x1) (fun y7 => qr (IntKind.i64.wrap x1) (y7.toList == s.toList)))
    = qr (if x2 = 1 then IntKind.i64.wrap (IntKind.u64.wrap (0 - x1)) else IntKind.i64.wrap x1) (decide (numS (if x2 = 1 then IntKind.i64.wrap (IntKind.u64.wrap (0 - x1)) else IntKind.i64.wrap x1) = s)) := by
  by_cases h : x2 = 1
  · have : (x2 == 1) = true := by simp [h]
    rw [if_pos this, if_pos h, num_F n _ (i64_rng _) hn, beqB]
  · have : (x2 == 1) = false := by simp [h]
    rw [if_neg (by rw [this]; decide), if_neg h, num_F n _ (i64_rng _) hn, beqB]
/-- the digits' loop, whatever stands there -/
theorem numl_ex (n : Nat) (s : ByteArray) (hs : s.size ≤ 1000) (hn : s.size + 2 < n) (x1 x2 : Int) (from_ : Nat) : ∃ y : Option Int, ∀ k2 : exK R (verdererref01_Number_dx 8), runC (verdererref01_Number_l8 n) n (s, x1, x2, (from_ : Int), ()) k2 = match y with
      | none => k2.1 (0, false, ())
      | some z => k2.2.1 (s, z, x2, ()) := by
  have h := runC_upx (R := R) (step := verdererref01_Number_l8 n) (γ := Option Int) (fun y k2 => match y with
      | none => k2.1 (0, false, ())
      | some z => k2.2.1 (s, z, x2, ())) (fun _ => True) (fun i a => ∃ (j : Nat) (acc : Int), a = (s, acc, x2, (j : Int), ()) ∧ i ≤ j ∧ (j ≤ 1000 ∨ j = from_)) (s.size + 1) (fun i a hi ha => ?_) (fun a ha => ?_) (n := n) (a := (s, x1, x2, (from_ : Int), ())) (by omega) ⟨from_, x1, rfl, by omega, .inr rfl⟩
  · obtain ⟨y, _, hy⟩ := h
    exact ⟨y, hy⟩
  · obtain ⟨j, acc, rfl, hij, hj⟩ := ha
    simp only [verdererref01_Number_l8, verdererref01_Number_s8]
    by_cases hlt : (j : Int) < (s.size : Int)
    · have c0 : (0 : Int) ≤ (j : Int) := by omega
      simp only [hlt, decide_true, if_true, c0]
      by_cases h1 : byteAt s (j : Int) < 48
      · exact .inr ⟨none, trivial, fun k1 k2 => by rw [if_pos (decide_eq_true h1)]⟩
      · by_cases h2 : byteAt s (j : Int) > 57
        · exact .inr ⟨none, trivial, fun k1 k2 => by rw [if_neg (by simpa using h1), if_pos (decide_eq_true h2)]⟩
        · exact .inl ⟨(s, _, x2, ((j + 1 : Nat) : Int), ()), ⟨j + 1, IntKind.u64.wrap ((IntKind.u64.wrap (acc * 10)) + (IntKind.u64.wrap (IntKind.u8.wrap ((byteAt s (j : Int)) - 48)))), rfl, by omega, by omega⟩, fun k1 k2 => by rw [if_neg (by simpa using h1), if_neg (by simpa using h2), w1 j (by omega)]⟩
    · exact .inr ⟨some acc, trivial, fun k1 k2 => by rw [if_neg (by simpa using hlt)]⟩
  · obtain ⟨j, acc, rfl, hij, hj⟩ := ha
    have hlt : ¬ (j : Int) < (s.size : Int) := by omega
    exact ⟨some acc, trivial, fun k1 k2 => by simp only [verdererref01_Number_l8, verdererref01_Number_s8]; rw [if_neg (by simpa using hlt)]⟩
/-- the digits' loop over digits -/
theorem numl_dig (n : Nat) (s : ByteArray) (hs : s.size ≤ 1000) (hn : s.size + 2 < n) (x2 : Int) (l : List UInt8) (f : Nat) (hd : s.data.toList.drop f = l) (hl : f + l.length = s.size) (hdig : ∀ c ∈ l, dig c) (hv : dval 0 l < 18446744073709551616) (k2 : exK R (verdererref01_Number_dx 8)) :
    runC (verdererref01_Number_l8 n) n (s, (0 : Int), x2, (f : Int), ()) k2 = k2.2.1 (s, (dval 0 l : Int), x2, ()) := by
  have := runC_st (R := R) (step := verdererref01_Number_l8 n) k2 (k2.2.1 (s, (dval 0 l : Int), x2, ())) (fun i => (s, (dval 0 (l.take i) : Int), x2, ((f + i : Nat) : Int), ())) l.length (fun i hi => .inl fun k1 => ?_) (fun k1 => ?_) (n := n) (by omega)
  · exact this
  · have hb : byteAt s ((f + i : Nat) : Int) = (l[i].toNat : Int) := byteAt_q s (f + i) l[i] (by rw [← List.getElem?_drop, hd]; exact List.getElem?_eq_getElem hi)
    have hc := hdig l[i] (List.getElem_mem hi)
    unfold dig at hc
    have hsn : dval 0 (l.take (i + 1)) = dval 0 (l.take i) * 10 + (l[i].toNat - 48) := by rw [take_snoc l i hi, dval_app]; rfl
    have hle : dval 0 (l.take (i + 1)) ≤ dval 0 l := by
      conv => rhs; rw [← List.take_append_drop (i + 1) l]
      rw [dval_app]
      exact dval_le _ _
    have c1 : ((f + i : Nat) : Int) < (s.size : Int) := by omega
    have c0 : (0 : Int) ≤ ((f + i : Nat) : Int) := by omega
    have e6 : IntKind.u64.wrap ((IntKind.u64.wrap ((dval 0 (l.take i) : Int) * 10)) + (IntKind.u64.wrap (IntKind.u8.wrap ((l[i].toNat : Int) - 48)))) = (dval 0 (l.take (i + 1)) : Int) := by
      rw [u8w _ (by omega) (by omega), u64w ((l[i].toNat : Int) - 48) (by omega) (by omega), u64w ((dval 0 (l.take i) : Int) * 10) (by omega) (by omega), u64w _ (by omega) (by omega)]
      omega
    have n1 : ¬ ((l[i].toNat : Int) < 48) := by omega
    have n2 : ¬ ((l[i].toNat : Int) > 57) := by omega
    simp only [verdererref01_Number_l8, verdererref01_Number_s8, c1, c0, decide_true, if_true, hb, n1, n2, decide_false, Bool.false_eq_true, if_false, e6, w1 (f + i) (by omega)]
    rfl
  · have : ¬ (((f + l.length : Nat) : Int) < (s.size : Int)) := by omega
    simp only [verdererref01_Number_l8, verdererref01_Number_s8]
    rw [if_neg (by simpa using this), List.take_length]
/-- a text as a number: it is one just if it is a number's word -/
theorem number_ex (n : Nat) (s : ByteArray) (hs : s.size ≤ 1000) (hn : 1100 < n) : ∃ (x : Int) (ok : Bool), inR x ∧ (ok = true → numS x = s) ∧ ∀ k : Int → Bool → Option R, verdererref01_Number_F n s k = k x ok := by
  rw [verdererref01_Number_e]
  unfold verdererref01_Number_Fi
  have join : ∀ f : Nat, f ≤ s.size → ∃ (x : Int) (ok : Bool), inR x ∧ (ok = true → numS x = s) ∧ ∀ k : exK R (verdererref01_Number_dx 1000005), verdererref01_Number_l1000005 n (s, (0 : Int), (f : Int), ()) k = k.1 (x, ok, ()) := by
    intro f hf
    rw [verdererref01_Number_e1000005]
    unfold verdererref01_Number_li1000005 verdererref01_Number_s1000005
    by_cases h1 : s.size = f
    · exact ⟨0, false, inR0, (fun h => by cases h), fun k => by rw [if_pos (by simp [h1])]⟩
    have hw : IntKind.i64.wrap ((s.size : Int) - (f : Int)) = (s.size : Int) - (f : Int) := wrap_i64 (by omega) (by omega)
    by_cases h2 : (s.size : Int) - (f : Int) > 19
    · exact ⟨0, false, inR0, (fun h => by cases h), fun k => by rw [if_neg (by simp; omega), hw, if_pos (decide_eq_true h2)]⟩
    obtain ⟨y, hy⟩ := numl_ex (R := R) n s hs (by omega) 0 (f : Int) f
    cases y with
    | none => exact ⟨0, false, inR0, (fun h => by cases h), fun k => by rw [if_neg (by simp; omega), hw, if_neg (by simpa using h2)]; exact hy _⟩
    | some z =>
      refine ⟨if (f : Int) = 1 then IntKind.i64.wrap (IntKind.u64.wrap (0 - z)) else IntKind.i64.wrap z, _, ?_, fun h => of_decide_eq_true h, fun k => ?_⟩
      · split <;> exact i64_rng _
      · rw [if_neg (by simp; omega), hw, if_neg (by simpa using h2)]
        refine (hy _).trans ?_
        exact refNum_tail n s z (f : Int) (by omega) (fun x0 x1 => k.1 (x0, x1, ()))
  by_cases h0 : (s.size : Int) > 0
  · have c0 : (0 : Int) < (s.size : Int) := by omega
    by_cases h1 : byteAt s 0 = 45
    · obtain ⟨x, ok, p1, p2, p3⟩ := join 1 (by omega)
      exact ⟨x, ok, p1, p2, fun k => by rw [if_pos (decide_eq_true h0), if_pos (Int.le_refl _), if_pos c0, if_pos (by rw [h1]; rfl)]; exact p3 _⟩
    · obtain ⟨x, ok, p1, p2, p3⟩ := join 0 (by omega)
      exact ⟨x, ok, p1, p2, fun k => by rw [if_pos (decide_eq_true h0), if_pos (Int.le_refl _), if_pos c0, if_neg (by simpa using h1)]; exact p3 _⟩
  · obtain ⟨x, ok, p1, p2, p3⟩ := join 0 (by omega)
    exact ⟨x, ok, p1, p2, fun k => by rw [if_neg (by simpa using h0)]; exact p3 _⟩
theorem number_F (n : Nat) (x : Int) (h : inR x) (hn : 1100 < n) (k : Int → Bool → Option R) : verdererref01_Number_F n (numS x) k = k x true := by
  rw [verdererref01_Number_e]
  unfold verdererref01_Number_Fi
  have hz := numS_size x h
  have join : ∀ (f : Nat) (l : List UInt8), (numS x).data.toList.drop f = l → f + l.length = (numS x).size → 1 ≤ l.length → l.length ≤ 19 → (∀ c ∈ l, dig c) → dval 0 l < 18446744073709551616 → (if (f : Int) = 1 then IntKind.i64.wrap (IntKind.u64.wrap (0 - (dval 0 l : Int))) else IntKind.i64.wrap (dval 0 l : Int)) = x →
      ∀ k : exK R (verdererref01_Number_dx 1000005), verdererref01_Number_l1000005 n (numS x, (0 : Int), (f : Int), ()) k = k.1 (x, true, ()) := by
    intro f l hd hl h1 h19 hdig hv hx k
    rw [verdererref01_Number_e1000005]
    unfold verdererref01_Number_li1000005 verdererref01_Number_s1000005
    have hw : IntKind.i64.wrap (((numS x).size : Int) - (f : Int)) = ((numS x).size : Int) - (f : Int) := wrap_i64 (by omega) (by omega)
    have h2 : ¬ (((numS x).size : Int) - (f : Int) > 19) := by omega
    rw [if_neg (by simp; omega), hw, if_neg (by simpa using h2)]
    refine (numl_dig (R := R) n (numS x) (by omega) (by omega) (f : Int) l f hd hl hdig hv _).trans ?_
    refine (refNum_tail n (numS x) (dval 0 l : Int) (f : Int) (by omega) (fun x0 x1 => k.1 (x0, x1, ()))).trans ?_
    simp only [hx, decide_true]
  obtain ⟨h0, h1⟩ := h
  by_cases hneg : x < 0
  · have hi : (numS x).data.toList = 45 :: Lib.decDigits x.natAbs := by unfold numS Lib.itoa; rw [if_pos hneg]
    have hl : (Lib.decDigits x.natAbs).length ≤ 19 := by rw [Lib.decDigits_length]; exact nd_le 19 _ (by omega) (by omega)
    have hne := dec_ne x.natAbs
    have hv := dval_dec x.natAbs
    have hlen : 1 ≤ (Lib.decDigits x.natAbs).length := by cases hc : Lib.decDigits x.natAbs with | nil => exact absurd hc hne | cons _ _ => simp
    have hsz : (numS x).size = (Lib.decDigits x.natAbs).length + 1 := by rw [ba_size, hi]; simp
    have hb : byteAt (numS x) 0 = 45 := byteAt_q (numS x) 0 45 (by rw [hi]; rfl)
    have e : IntKind.i64.wrap (IntKind.u64.wrap (0 - ((x.natAbs : Nat) : Int))) = x := by
      simp only [IntKind.wrap, IntKind.bits, IntKind.signed]
      simp
      split <;> omega
    rw [if_pos (decide_eq_true (by omega)), if_pos (Int.le_refl _), if_pos (by omega), if_pos (by rw [hb]; rfl)]
    exact join 1 (Lib.decDigits x.natAbs) (by rw [hi]; rfl) (by omega) hlen hl (dec_dig _) (by rw [hv]; omega) (by rw [hv, if_pos (by decide)]; exact e) _
  · have hi : (numS x).data.toList = Lib.decDigits x.toNat := by unfold numS Lib.itoa; rw [if_neg hneg]
    have hl : (Lib.decDigits x.toNat).length ≤ 19 := by rw [Lib.decDigits_length]; exact nd_le 19 _ (by omega) (by omega)
    have hne := dec_ne x.toNat
    have hv := dval_dec x.toNat
    have hdd := dec_dig x.toNat
    have hsz : (numS x).size = (Lib.decDigits x.toNat).length := by rw [ba_size, hi]
    have hlen : 1 ≤ (Lib.decDigits x.toNat).length := by cases hc : Lib.decDigits x.toNat with | nil => exact absurd hc hne | cons _ _ => simp
    have hb : byteAt (numS x) 0 ≠ 45 := by
      have h3 : (numS x).data.toList[0]? = some ((Lib.decDigits x.toNat)[0]) := by rw [hi]; exact List.getElem?_eq_getElem hlen
      rw [show (0 : Int) = ((0 : Nat) : Int) from rfl, byteAt_q (numS x) 0 _ h3]
      have := hdd _ (List.getElem_mem hlen)
      unfold dig at this
      omega
    have e : IntKind.i64.wrap ((x.toNat : Nat) : Int) = x := by rw [wrap_i64 (by omega) (by omega)]; omega
    rw [if_pos (decide_eq_true (by omega)), if_pos (Int.le_refl _), if_pos (by omega), if_neg (by simpa using hb)]
    exact join 0 (Lib.decDigits x.toNat) (by rw [hi]; rfl) (by omega) hlen hl hdd (by rw [hv]; omega) (by rw [hv, if_neg (by decide)]; exact e) _
theorem numS_inj {x y : Int} (hx : inR x) (hy : inR y) (h : numS x = numS y) : x = y := by
  have h1 := number_F (R := Int × Bool) 2000 x hx (by omega) (fun a b => some (a, b))
  have h2 := number_F (R := Int × Bool) 2000 y hy (by omega) (fun a b => some (a, b))
  rw [h, h2] at h1
  injection h1 with h1
  injection h1 with h1
  exact h1.symm
open Classical in
theorem number_all (n : Nat) (s : ByteArray) (hs : s.size ≤ 1000) (hn : 1100 < n) : ∃ (x : Int) (ok : Bool), inR x ∧ (ok = true → numS x = s) ∧ (∀ y, inR y → numS y = s → ok = true ∧ x = y) ∧ ∀ k : Int → Bool → Option R, verdererref01_Number_F n s k = k x ok := by
  by_cases h : ∃ y, inR y ∧ numS y = s
  · obtain ⟨y, hy, e⟩ := h
    exact ⟨y, true, hy, fun _ => e, fun z hz ez => ⟨rfl, numS_inj hy hz (e.trans ez.symm)⟩, fun k => by rw [← e]; exact number_F n y hy hn k⟩
  · obtain ⟨x, ok, h1, h2, h3⟩ := number_ex (R := R) n s hs hn
    exact ⟨x, ok, h1, h2, fun y hy e => absurd ⟨y, hy, e⟩ h, h3⟩
end Go.Proofs.YtnnbinmomendnaaDoor.E
namespace Go.Proofs.YtnnbinmomendnaaDoor.E
open Go.RowKit
variable {R : Type}
/-! a word as a value -/
def zV : ty34.D := (0, false, 0, (⟨#[]⟩ : ByteArray), ())
theorem right_cases {v : ty34.D} (h : rightV v = true) : v = zV ∨ (∃ b, v = (1, b, 0, (⟨#[]⟩ : ByteArray), ())) ∨ (∃ x : Int, v = (2, false, x, (⟨#[]⟩ : ByteArray), ())) ∨ (∃ t : ByteArray, t.size ≤ 60 ∧ v = (3, false, 0, t, ())) := by
  obtain ⟨a, b, x, t, u⟩ := v
  unfold rightV at h
  rw [decide_eq_true_eq] at h
  rcases h with ⟨h1, h2, h3, h4⟩ | ⟨h1, h3, h4⟩ | ⟨h1, h2, h4⟩ | ⟨h1, h2, h3, h4⟩
  · simp only at h1 h2 h3 h4
    rw [← nil_size] at h4
    subst h1 h2 h3 h4
    exact .inl rfl
  · simp only at h1 h3 h4
    rw [← nil_size] at h4
    subst h1 h3 h4
    exact .inr (.inl ⟨b, rfl⟩)
  · simp only at h1 h2 h4
    rw [← nil_size] at h4
    subst h1 h2 h4
    exact .inr (.inr (.inl ⟨x, rfl⟩))
  · simp only at h1 h2 h3 h4
    subst h1 h2 h3
    exact .inr (.inr (.inr ⟨t, h4, rfl⟩))
theorem show_null : showS zV = ⟨#[110, 117, 108, 108]⟩ := by unfold showS; rfl
theorem show_bool (b : Bool) : showS (1, b, 0, (⟨#[]⟩ : ByteArray), ()) = if b = true then ⟨#[116, 114, 117, 101]⟩ else ⟨#[102, 97, 108, 115, 101]⟩ := by unfold showS; cases b <;> rfl
theorem show_num (x : Int) : showS (2, false, x, (⟨#[]⟩ : ByteArray), ()) = numS x := by
  unfold showS
  have : rightV (2, false, x, (⟨#[]⟩ : ByteArray), ()) = true := by unfold rightV; exact decide_eq_true (.inr (.inr (.inl ⟨rfl, rfl, rfl⟩)))
  rw [if_pos this]
  rfl
theorem show_text (t : ByteArray) (h : t.size ≤ 60) : showS (3, false, 0, t, ()) = mkB (quotedL t.data.toList) := by
  unfold showS
  have : rightV (3, false, 0, t, ()) = true := by unfold rightV; exact decide_eq_true (.inr (.inr (.inr ⟨rfl, rfl, rfl, h⟩)))
  rw [if_pos this]
  rfl
theorem show_wrong (v : ty34.D) (h : rightV v = false) : showS v = ⟨#[]⟩ := by unfold showS; rw [h]; rfl
theorem ne_nil {s : ByteArray} (h : 0 < s.size) : s ≠ (⟨#[]⟩ : ByteArray) := fun e => by rw [e] at h; exact absurd h (by decide)
theorem numS_pos (x : Int) : 0 < (numS x).size := by
  unfold numS Lib.itoa
  rw [mk_sz]
  split
  · simp
  · cases hc : Lib.decDigits x.toNat with
    | nil => exact absurd hc (dec_ne _)
    | cons _ _ => simp
theorem show_ne {v : ty34.D} (h : rightV v = true) : showS v ≠ (⟨#[]⟩ : ByteArray) := by
  rcases right_cases h with rfl | ⟨b, rfl⟩ | ⟨x, rfl⟩ | ⟨t, ht, rfl⟩
  · rw [show_null]; exact ne_nil (by decide)
  · rw [show_bool]; cases b <;> exact ne_nil (by decide)
  · rw [show_num]; exact ne_nil (numS_pos x)
  · rw [show_text t ht]; exact ne_nil (by rw [mkB_size]; simp [quotedL])
theorem show_size (v : ty34.D) (hx : inR v.2.2.1) : (showS v).size ≤ 242 := by
  cases h : rightV v with
  | false => rw [show_wrong v h]; exact Nat.zero_le _
  | true =>
    rcases right_cases h with rfl | ⟨b, rfl⟩ | ⟨x, rfl⟩ | ⟨t, ht, rfl⟩
    · rw [show_null]; decide
    · rw [show_bool]; cases b <;> decide
    · rw [show_num]; have := numS_size x hx; omega
    · rw [show_text t ht, mkB_size]
      have := flat_len t.data.toList
      rw [ba_size] at ht
      simp only [quotedL, List.length_cons, List.length_append, List.length_nil]
      omega
/-- is a text a value's word? -/
def isW (s : ByteArray) (v : ty34.D) : Prop := rightV v = true ∧ inR v.2.2.1 ∧ showS v = s
open Classical in
/-- the value whose word a text is -/
noncomputable def readV (s : ByteArray) : ty34.D × Int := if h : ∃ v, isW s v then (h.choose, 0) else (zV, 7)
/-- a guess that finds each value by its word -/
def Guess (g : ByteArray → ty34.D) : Prop := ∀ s, s.size ≤ 1000 → inR (g s).2.2.1 ∧ ∀ v, isW s v → g s = v
theorem readV_guess {g : ByteArray → ty34.D} (hg : Guess g) (s : ByteArray) (hs : s.size ≤ 1000) : readV s = if s ≠ (⟨#[]⟩ : ByteArray) ∧ showS (g s) = s then (g s, 0) else (zV, 7) := by
  obtain ⟨h1, h2⟩ := hg s hs
  unfold readV
  by_cases h : ∃ v, isW s v
  · rw [dif_pos h]
    have hc := h.choose_spec
    have e := h2 _ hc
    have hs0 : s ≠ (⟨#[]⟩ : ByteArray) := by rw [← hc.2.2]; exact show_ne hc.1
    rw [if_pos ⟨hs0, by rw [e]; exact hc.2.2⟩, e]
  · rw [dif_neg h, if_neg]
    rintro ⟨h3, h4⟩
    refine h ⟨g s, ?_, h1, h4⟩
    cases hr : rightV (g s) with
    | true => rfl
    | false => rw [show_wrong _ hr] at h4; exact absurd h4.symm h3
theorem readV_show (v : ty34.D) (h : rightV v = true) (hx : inR v.2.2.1) {g : ByteArray → ty34.D} (hg : Guess g) : readV (showS v) = (v, 0) := by
  have hw : isW (showS v) v := ⟨h, hx, rfl⟩
  have hs := show_size v hx
  have := (hg (showS v) (by omega)).2 v hw
  rw [readV_guess hg _ (by omega), this, if_pos ⟨show_ne h, rfl⟩]
theorem numS_ne (x : Int) (h : inR x) (s : ByteArray) (c : UInt8) (hs : s.data.toList.head? = some c) (hc : ¬ dig c ∧ c ≠ 45) : numS x ≠ s := by
  intro e
  rw [← e] at hs
  unfold numS Lib.itoa at hs
  simp only [List.toList_toArray] at hs
  split at hs
  · simp at hs; exact hc.2 hs.symm
  · have hd := dec_dig x.toNat
    cases hl : Lib.decDigits x.toNat with
    | nil => exact dec_ne _ hl
    | cons a r =>
      rw [hl] at hs hd
      simp at hs
      rw [← hs] at hc
      exact hc.1 (hd a (by simp))
def trueB : ByteArray := ⟨#[116, 114, 117, 101]⟩
def falseB : ByteArray := ⟨#[102, 97, 108, 115, 101]⟩
/-- reading, by the document -/
theorem refRead_F (n : Nat) (s : ByteArray) (hs : s.size ≤ 1000) (hn : 2000 < n) : ∃ g : ty34.D, (inR g.2.2.1 ∧ ∀ v, isW s v → g = v) ∧ ∀ k : ty34.D → Int → Option R, verdererref01_Read_F n s k = if s ≠ (⟨#[]⟩ : ByteArray) ∧ showS g = s then k g 0 else k zV 7 := by
  rw [verdererref01_Read_e]
  unfold verdererref01_Read_Fi
  obtain ⟨x, ok, hx, hok, hall, hN⟩ := number_all (R := R) n s hs (by omega)
  have join : ∀ (v : ty34.D) (hv : inR v.2.2.1) (k : exK R (verdererref01_Read_dx 1000009)), verdererref01_Read_l1000009 n (s, (0 : Int), false, (0 : Int), (⟨#[]⟩ : ByteArray), v.1, v.2.1, v.2.2.1, v.2.2.2.1, ()) k = if s ≠ (⟨#[]⟩ : ByteArray) ∧ showS v = s then k.1 (0, v.1, v.2.1, v.2.2.1, v.2.2.2.1, ()) else k.1 (7, 0, false, 0, (⟨#[]⟩ : ByteArray), ()) := by
    intro v hv k
    rw [verdererref01_Read_e1000009]
    unfold verdererref01_Read_li1000009 verdererref01_Read_s1000009
    simp only [beqB]
    by_cases h0 : s = (⟨#[]⟩ : ByteArray)
    · simp [h0]
    · simp only [h0, decide_false, Bool.false_eq_true, if_false, ne_eq, not_false_eq_true, true_and]
      rw [show_F n (v.1, v.2.1, v.2.2.1, v.2.2.2.1, ()) hv (by omega)]
      by_cases h1 : showS (v.1, v.2.1, v.2.2.1, v.2.2.2.1, ()) = s
      · have h1' : showS v = s := h1
        simp [h1, h1']
      · have h1' : ¬ showS v = s := h1
        simp [h1, h1']
  have tf : ∀ v, isW s v → (s = trueB → v = (1, true, 0, (⟨#[]⟩ : ByteArray), ())) ∧ (s = falseB → v = (1, false, 0, (⟨#[]⟩ : ByteArray), ())) := by
    rintro v ⟨h1, h2, h3⟩
    rcases right_cases h1 with rfl | ⟨b, rfl⟩ | ⟨y, rfl⟩ | ⟨t, ht, rfl⟩
    · rw [show_null] at h3
      exact ⟨fun e => absurd (h3.trans e) (by decide), fun e => absurd (h3.trans e) (by decide)⟩
    · rw [show_bool] at h3
      cases b
      · exact ⟨fun e => absurd (h3.trans e) (by decide), fun _ => rfl⟩
      · exact ⟨fun _ => rfl, fun e => absurd (h3.trans e) (by decide)⟩
    · rw [show_num] at h3
      exact ⟨fun e => absurd (h3.trans e) (numS_ne y h2 trueB 116 rfl (by unfold dig; decide)), fun e => absurd (h3.trans e) (numS_ne y h2 falseB 102 rfl (by unfold dig; decide))⟩
    · rw [show_text t ht] at h3
      have hq : (mkB (quotedL t.data.toList)).data.toList.head? = some 34 := rfl
      exact ⟨fun e => by rw [h3, e] at hq; exact absurd hq (by decide), fun e => by rw [h3, e] at hq; exact absurd hq (by decide)⟩
  have fin : ∀ (g : ty34.D) (k : ty34.D → Int → Option R), (if s ≠ (⟨#[]⟩ : ByteArray) ∧ showS g = s then k (g.1, g.2.1, g.2.2.1, g.2.2.2.1, ()) 0 else k (0, false, 0, (⟨#[]⟩ : ByteArray), ()) 7) = if s ≠ (⟨#[]⟩ : ByteArray) ∧ showS g = s then k g 0 else k zV 7 := fun g k => rfl
  by_cases ht : s = trueB
  · refine ⟨(1, true, 0, (⟨#[]⟩ : ByteArray), ()), ⟨inR0, fun v hv => ((tf v hv).1 ht).symm⟩, fun k => ?_⟩
    rw [hN]
    simp only [beqB]
    have ht' : s = (⟨#[116, 114, 117, 101]⟩ : ByteArray) := ht
    rw [if_pos (decide_eq_true ht'), decide_eq_true (show s = (⟨#[116, 114, 117, 101]⟩ : ByteArray) from ht)]
    exact (join (1, true, 0, (⟨#[]⟩ : ByteArray), ()) inR0 _).trans (fin _ k)
  by_cases hf : s = falseB
  · refine ⟨(1, false, 0, (⟨#[]⟩ : ByteArray), ()), ⟨inR0, fun v hv => ((tf v hv).2 hf).symm⟩, fun k => ?_⟩
    rw [hN]
    simp only [beqB]
    have ht' : ¬ s = (⟨#[116, 114, 117, 101]⟩ : ByteArray) := ht
    have hf' : s = (⟨#[102, 97, 108, 115, 101]⟩ : ByteArray) := hf
    rw [if_neg (by simpa using ht'), if_pos (decide_eq_true hf'), decide_eq_false ht']
    exact (join (1, false, 0, (⟨#[]⟩ : ByteArray), ()) inR0 _).trans (fin _ k)
  have ht' : ¬ s = (⟨#[116, 114, 117, 101]⟩ : ByteArray) := ht
  have hf' : ¬ s = (⟨#[102, 97, 108, 115, 101]⟩ : ByteArray) := hf
  cases ok with
  | true =>
    refine ⟨(2, false, x, (⟨#[]⟩ : ByteArray), ()), ⟨hx, fun v hv => ?_⟩, fun k => ?_⟩
    · have e := hok rfl
      obtain ⟨h1, h2, h3⟩ := hv
      rcases right_cases h1 with rfl | ⟨b, rfl⟩ | ⟨y, rfl⟩ | ⟨t, htt, rfl⟩
      · rw [show_null] at h3
        exact absurd (e.trans h3.symm) (numS_ne x hx _ 110 rfl (by unfold dig; decide))
      · rw [show_bool] at h3
        cases b
        · exact absurd h3.symm hf
        · exact absurd h3.symm ht
      · rw [show_num] at h3
        rw [(hall y h2 h3).2]
      · rw [show_text t htt] at h3
        exact absurd (e.trans h3.symm) (numS_ne x hx _ 34 rfl (by unfold dig; decide))
    · rw [hN]
      simp only [beqB]
      rw [if_neg (by simpa using ht'), if_neg (by simpa using hf'), if_pos trivial]
      exact (join (2, false, x, (⟨#[]⟩ : ByteArray), ()) hx _).trans (fin _ k)
  | false =>
    have nn : ∀ y, inR y → numS y ≠ s := fun y hy e => absurd (hall y hy e).1 (by decide)
    -- not a quoted text: null
    have nul : (¬ ∃ t : ByteArray, t.size ≤ 60 ∧ mkB (quotedL t.data.toList) = s) → ∀ v, isW s v → zV = v := by
      rintro hq v ⟨h1, h2, h3⟩
      rcases right_cases h1 with rfl | ⟨b, rfl⟩ | ⟨y, rfl⟩ | ⟨t, htt, rfl⟩
      · rfl
      · rw [show_bool] at h3
        cases b
        · exact absurd h3.symm hf
        · exact absurd h3.symm ht
      · rw [show_num] at h3
        exact absurd h3 (nn y h2)
      · rw [show_text t htt] at h3
        exact absurd ⟨t, htt, h3⟩ hq
    have qsz : ∀ t : ByteArray, t.size ≤ 60 → mkB (quotedL t.data.toList) = s → 2 ≤ s.size ∧ byteAt s 0 = 34 ∧ s.size ≤ 242 := by
      intro t htt e
      have := flat_len t.data.toList
      rw [ba_size] at htt
      rw [← e, mkB_size]
      refine ⟨by simp [quotedL], rfl, by simp only [quotedL, List.length_cons, List.length_append, List.length_nil]; omega⟩
    by_cases h2 : (s.size : Int) ≥ 2
    · by_cases h3 : byteAt s 0 = 34
      · by_cases h4 : (s.size : Int) ≤ 300
        · obtain ⟨t0, hT⟩ := unq_ex (R := R) n s hs (by omega) (by omega)
          have : ∃ t : ByteArray, (∀ t2 : ByteArray, t2.size ≤ 60 → mkB (quotedL t2.data.toList) = s → t = t2) ∧ ∀ k : ByteArray → Option R, verdererref01_unquoted_F n s k = k t := by
            by_cases hq : ∃ t : ByteArray, t.size ≤ 60 ∧ mkB (quotedL t.data.toList) = s
            · obtain ⟨t, htt, e⟩ := hq
              refine ⟨t, fun t2 h6 e2 => ?_, fun k => by rw [← e]; exact unq_F n t (by omega) (by omega) k⟩
              have a1 := unq_F (R := ByteArray) 2000 t (by omega) (by omega) some
              have a2 := unq_F (R := ByteArray) 2000 t2 (by omega) (by omega) some
              rw [e, ← e2, a2] at a1
              injection a1 with a1
              exact a1.symm
            · exact ⟨t0, fun t2 h6 e2 => absurd ⟨t2, h6, e2⟩ hq, hT⟩
          obtain ⟨t, ht2, hT⟩ := this
          refine ⟨(3, false, 0, t, ()), ⟨inR0, ?_⟩, fun k => ?_⟩
          · rintro v ⟨h5, h6, h7⟩
            rcases right_cases h5 with rfl | ⟨b, rfl⟩ | ⟨y, rfl⟩ | ⟨t2, htt, rfl⟩
            · rw [show_null] at h7
              rw [← h7] at h3
              exact absurd h3 (by decide)
            · rw [show_bool] at h7
              cases b
              · exact absurd h7.symm hf
              · exact absurd h7.symm ht
            · rw [show_num] at h7
              exact absurd h7 (nn y h6)
            · rw [show_text t2 htt] at h7
              rw [ht2 t2 htt h7]
          · rw [hN]
            simp only [beqB]
            rw [if_neg (by simpa using ht'), if_neg (by simpa using hf'), if_neg (by decide), if_pos (decide_eq_true h2), if_pos (Int.le_refl _), if_pos (by omega), if_pos (by rw [h3]; rfl), if_pos (decide_eq_true h4), hT]
            exact (join (3, false, 0, t, ()) inR0 _).trans (fin _ k)
        · refine ⟨zV, ⟨inR0, nul (fun ⟨t, h6, e⟩ => h4 (by have := (qsz t h6 e).2.2; omega))⟩, fun k => ?_⟩
          rw [hN]
          simp only [beqB]
          rw [if_neg (by simpa using ht'), if_neg (by simpa using hf'), if_neg (by decide), if_pos (decide_eq_true h2), if_pos (Int.le_refl _), if_pos (by omega), if_pos (by rw [h3]; rfl), if_neg (by simpa using h4)]
          exact (join zV inR0 _).trans (fin _ k)
      · refine ⟨zV, ⟨inR0, nul (fun ⟨t, h6, e⟩ => h3 (qsz t h6 e).2.1)⟩, fun k => ?_⟩
        rw [hN]
        simp only [beqB]
        rw [if_neg (by simpa using ht'), if_neg (by simpa using hf'), if_neg (by decide), if_pos (decide_eq_true h2), if_pos (Int.le_refl _), if_pos (by omega), if_neg (by simpa using h3)]
        exact (join zV inR0 _).trans (fin _ k)
    · refine ⟨zV, ⟨inR0, nul (fun ⟨t, h6, e⟩ => h2 (by have := (qsz t h6 e).1; omega))⟩, fun k => ?_⟩
      rw [hN]
      simp only [beqB]
      rw [if_neg (by simpa using ht'), if_neg (by simpa using hf'), if_neg (by decide), if_neg (by simpa using h2)]
      exact (join zV inR0 _).trans (fin _ k)
open Classical in
/-- what the document guesses -/
theorem refGuess (n : Nat) (hn : 2000 < n) : ∃ g : ByteArray → ty34.D, Guess g ∧ ∀ s : ByteArray, s.size ≤ 1000 → ∀ k : ty34.D → Int → Option R, verdererref01_Read_F n s k = if s ≠ (⟨#[]⟩ : ByteArray) ∧ showS (g s) = s then k (g s) 0 else k zV 7 := by
  have h : ∀ s : ByteArray, ∃ g : ty34.D, s.size ≤ 1000 → (inR g.2.2.1 ∧ ∀ v, isW s v → g = v) ∧ ∀ k : ty34.D → Int → Option R, verdererref01_Read_F n s k = if s ≠ (⟨#[]⟩ : ByteArray) ∧ showS g = s then k g 0 else k zV 7 := by
    intro s
    by_cases hs : s.size ≤ 1000
    · obtain ⟨g, h1⟩ := refRead_F (R := R) n s hs hn
      exact ⟨g, fun _ => h1⟩
    · exact ⟨zV, fun h => absurd h hs⟩
  exact ⟨fun s => (h s).choose, fun s hs => ((h s).choose_spec hs).1, fun s hs => ((h s).choose_spec hs).2⟩
theorem refReadV_F (n : Nat) (s : ByteArray) (hs : s.size ≤ 1000) (hn : 2000 < n) (k : ty34.D → Int → Option R) : verdererref01_Read_F n s k = k (readV s).1 (readV s).2 := by
  obtain ⟨g, hg, h⟩ := refGuess (R := R) n hn
  rw [h s hs, readV_guess hg s hs]
  split <;> rfl
theorem readV_back (v : ty34.D) (h : rightV v = true) (hx : inR v.2.2.1) : readV (showS v) = (v, 0) := by
  obtain ⟨g, hg, _⟩ := refGuess (R := Unit) 3000 (by omega)
  exact readV_show v h hx hg
end Go.Proofs.YtnnbinmomendnaaDoor.E
namespace Go.Proofs.YtnnbinmomendnaaDoor.E
open Go.RowKit
variable {R : Type}
/-! the program's values, by the document's words -/
theorem parse_dig : ∀ (l : List UInt8) (acc : Nat), (∀ c ∈ l, dig c) → dval acc l < 18446744073709551616 → Lib.parseUintM (2 ^ 64 - 1) acc l = .ok (dval acc l)
  | [], _, _, _ => rfl
  | c :: r, acc, hd, hv => by
    have hc := hd c List.mem_cons_self
    unfold dig at hc
    have hv' : dval (acc * 10 + (c.toNat - 48)) r < 18446744073709551616 := hv
    have hl := Nat.lt_of_le_of_lt (dval_le r (acc * 10 + (c.toNat - 48))) hv'
    clear hv
    have ih := parse_dig r (acc * 10 + (c.toNat - 48)) (fun x hx => hd x (List.mem_cons_of_mem _ hx)) hv'
    clear hv'
    rw [Lib.parseUintM, if_pos hc, if_neg (by omega), if_neg (by omega)]
    exact ih
theorem parse_itoa (n : Int) (h0 : -9223372036854775808 ≤ n) (h1 : n ≤ 9223372036854775807) : Lib.parseIntB 64 (Lib.itoa n) = .ok n := by
  unfold Lib.itoa
  split
  · rename_i h
    have hv := dval_dec n.natAbs
    have hp := parse_dig (Lib.decDigits n.natAbs) 0 (dec_dig _) (by rw [hv]; omega)
    rw [hv] at hp
    simp only [Lib.parseIntB, show (45 : UInt8).toNat = 45 by decide, or_true, if_true, Lib.parseUintB, dec_ne, if_false, hp]
    simp only [true_and, not_true, false_and, if_false]
    rw [if_neg (by omega)]
    congr 1; omega
  · rename_i h
    have hv := dval_dec n.toNat
    have hp := parse_dig (Lib.decDigits n.toNat) 0 (dec_dig _) (by rw [hv]; omega)
    rw [hv] at hp
    have hne := dec_ne n.toNat
    have hd := dec_dig n.toNat
    generalize Lib.decDigits n.toNat = l at hp hne hd
    cases l with
    | nil => exact absurd rfl hne
    | cons c r =>
      have hc := hd c List.mem_cons_self
      unfold dig at hc
      have e1 : ¬ (c.toNat = 43 ∨ c.toNat = 45) := by omega
      have e2 : ¬ (c.toNat = 45) := by omega
      have e3 : ¬ (2 ^ 63 ≤ n.toNat) := by omega
      have e4 : ((n.toNat : Nat) : Int) = n := by omega
      simp only [Lib.parseIntB, e1, e2, if_false, Lib.parseUintB, hne, hp]
      have e5 : ¬ (c.toNat = 43) := by omega
      have hp' : Lib.parseUintM 18446744073709551615 0 (c :: r) = Lib.NumEnd.ok n.toNat := hp
      have e6 : ¬ (9223372036854775808 ≤ n.toNat) := by omega
      simp [e5, hp', e6, e4]
theorem parse_range (l : List UInt8) (v : Int) (h : Lib.parseIntB 64 l = .ok v) : -9223372036854775808 ≤ v ∧ v ≤ 9223372036854775807 := by
  unfold Lib.parseIntB at h
  split at h
  · cases h
  · simp only at h
    split at h
    · cases h
    · cases h
    · split at h
      · cases h
      · split at h
        · cases h
        · injection h with h
          split at h <;> omega
theorem quo_F (n : Nat) (s : ByteArray) (h : s.size ≤ 1048576) (k : ByteArray → Option R) : value_quoted_F n s k = k (mkB (quotedL s.data.toList)) := by
  rw [value_quoted_e]
  unfold value_quoted_Fi
  rw [if_pos h]
  rfl
theorem fmt_F (n : Nat) (x : Int) (h : inR x) (k : ByteArray → Option R) : strconv_FormatInt_F n x 10 k = k (numS x) := by
  rw [strconv_FormatInt_e]
  unfold strconv_FormatInt_Fi
  rw [if_pos ⟨rfl, h.1, h.2⟩]
  rfl
theorem pi_F (n : Nat) (s : ByteArray) (h : s.size ≤ 1000) (k : Int → Bool → Option R) : strconv_ParseInt_F n s 10 64 k = k (piV s) (piE s) := by
  rw [strconv_ParseInt_e]
  unfold strconv_ParseInt_Fi
  rw [if_pos ⟨rfl, rfl, by omega⟩]
theorem fb_F (n : Nat) (b : Bool) (k : ByteArray → Option R) : strconv_FormatBool_F n b k = k (if b = true then ⟨#[116, 114, 117, 101]⟩ else ⟨#[102, 97, 108, 115, 101]⟩) := by
  rw [strconv_FormatBool_e]
  unfold strconv_FormatBool_Fi
  rw [strconv_FormatBool_93_e]
  unfold strconv_FormatBool_93_Fi
  cases b <;> rfl
theorem nullP_F (n : Nat) (k : ty34.D → Option R) : value_Null_F n k = k zV := by rw [value_Null_e]; rfl
theorem boolP_F (n : Nat) (b : Bool) (k : ty34.D → Option R) : value_Bool_F n b k = k (1, b, 0, (⟨#[]⟩ : ByteArray), ()) := by rw [value_Bool_e]; rfl
theorem intP_F (n : Nat) (x : Int) (k : ty34.D → Option R) : value_Int_F n x k = k (2, false, x, (⟨#[]⟩ : ByteArray), ()) := by rw [value_Int_e]; rfl
theorem textP_F (n : Nat) (s : ByteArray) (k : ty34.D → Option R) : value_Text_F n s k = k (3, false, 0, s, ()) := by rw [value_Text_e]; rfl
theorem rightP_F (n : Nat) (v : ty34.D) (k : Bool → Option R) : value_Right_F n v k = k (rightV v) := by
  obtain ⟨kd, fl, i, t, ⟨⟩⟩ := v
  rw [value_Right_e]
  unfold value_Right_Fi rightV
  simp only [nullP_F, boolP_F, intP_F, textP_F, beqB, zV, beq_self_eq_true, Bool.true_and, Bool.and_true]
  by_cases h0 : kd = 0
  · subst h0
    simp only [beq_self_eq_true, if_true, Bool.true_and]
    congr 1
    rw [Bool.eq_iff_iff]
    simp [nil_size]
  · by_cases h1 : kd = 1
    · subst h1
      simp only [show ((1 : Int) == 0) = false from rfl, beq_self_eq_true, if_true, Bool.false_eq_true, if_false, Bool.true_and]
      congr 1
      rw [Bool.eq_iff_iff]
      simp [nil_size]
    · by_cases h2 : kd = 2
      · subst h2
        simp only [show ((2 : Int) == 0) = false from rfl, show ((2 : Int) == 1) = false from rfl, beq_self_eq_true, if_true, Bool.false_eq_true, if_false, Bool.true_and]
        congr 1
        rw [Bool.eq_iff_iff]
        simp [nil_size]
      · by_cases h3 : kd = 3
        · subst h3
          simp only [show ((3 : Int) == 0) = false from rfl, show ((3 : Int) == 1) = false from rfl, show ((3 : Int) == 2) = false from rfl, beq_self_eq_true, if_true, Bool.false_eq_true, if_false, Bool.true_and]
          cases fl with
          | true => simp
          | false =>
            by_cases hi : i = 0
            · subst hi
              simp
              congr 1
              rw [Bool.eq_iff_iff]
              simp
              exact Int.ofNat_le (n := 60)
            · have ei : (i == 0) = false := by simpa using hi
              simp [ei, hi]
        · have e0 : (kd == 0) = false := by simpa using h0
          have e1 : (kd == 1) = false := by simpa using h1
          have e2 : (kd == 2) = false := by simpa using h2
          have e3 : (kd == 3) = false := by simpa using h3
          simp only [e0, e1, e2, e3, Bool.false_eq_true, if_false]
          congr 1
          simp [h0, h1, h2, h3]
theorem showP_F (n : Nat) (v : ty34.D) (hv : inR v.2.2.1) (k : ByteArray → Option R) : value_Show_F n v k = k (showS v) := by
  obtain ⟨kd, fl, i, t, ⟨⟩⟩ := v
  rw [value_Show_e]
  unfold value_Show_Fi
  rw [rightP_F]
  unfold showS
  by_cases hr : rightV (kd, fl, i, t, ()) = true
  · have hsz := right_size _ hr
    rw [if_pos hr]
    simp only [hr, Bool.not_true, Bool.false_eq_true, if_false]
    by_cases h1 : kd = 1
    · subst h1
      rw [fb_F]
      rfl
    · have e1 : (kd == 1) = false := by simpa using h1
      simp only [e1, Bool.false_eq_true, if_false]
      by_cases h2 : kd = 2
      · subst h2
        rw [fmt_F _ _ hv]
        rfl
      · have e2 : (kd == 2) = false := by simpa using h2
        simp only [e2, Bool.false_eq_true, if_false]
        by_cases h3 : kd = 3
        · subst h3
          rw [quo_F _ _ (by have : t.size ≤ 60 := hsz; omega)]
          rfl
        · have e3 : (kd == 3) = false := by simpa using h3
          simp only [e3, Bool.false_eq_true, if_false]
          have h0 : kd = 0 := by
            unfold rightV at hr
            simp only [decide_eq_true_eq] at hr
            rcases hr with h | h | h | h
            · exact h.1
            · exact absurd h.1 h1
            · exact absurd h.1 h2
            · exact absurd h.1 h3
          rw [if_pos h0]
  · rw [if_neg hr]
    simp only [Bool.not_eq_true] at hr
    simp [hr]
end Go.Proofs.YtnnbinmomendnaaDoor.E
namespace Go.Proofs.YtnnbinmomendnaaDoor.E
open Go.RowKit
variable {R : Type}
def hexB : ByteArray := ⟨#[48, 49, 50, 51, 52, 53, 54, 55, 56, 57, 97, 98, 99, 100, 101, 102]⟩
theorem ixb_F (n : Nat) (s : ByteArray) (c : Int) (k : Int → Option R) : strings_IndexByte_F n s c k = k (idxB s c) := by
  rw [strings_IndexByte_e]
  unfold strings_IndexByte_Fi
  rw [stringslite_IndexByte_e]
  unfold stringslite_IndexByte_Fi
  rw [bytealg_IndexByteString_e]
  unfold bytealg_IndexByteString_Fi
  rfl
theorem idx_hex (i : Nat) (h : i < 16) : idxB hexB ((hexd i).toNat : Int) = (i : Int) := by
  have : ∀ i : Fin 16, idxB hexB ((hexd i.val).toNat : Int) = (i.val : Int) := by decide +kernel
  exact this ⟨i, h⟩
theorem hex_two (x : Nat) (h : x < 256) : IntKind.u8.wrap (bitsI .or .i64 (shlI .i64 ((x / 16 : Nat) : Int) 4) ((x % 16 : Nat) : Int)) = (x : Int) := by
  have : ∀ x : Fin 256, IntKind.u8.wrap (bitsI .or .i64 (shlI .i64 ((x.val / 16 : Nat) : Int) 4) ((x.val % 16 : Nat) : Int)) = (x.val : Int) := by decide +kernel
  exact this ⟨x, h⟩
/-- the byte that a quoted text goes on with -/
def nextS (s : ByteArray) : Int × ByteArray × Bool :=
  if byteAt s 0 ≠ 92 then (byteAt s 0, s.extract 1 s.size, true)
  else if 1 < s.size ∧ byteAt s 1 ≠ 120 then (byteAt s 1, s.extract 2 s.size, true)
  else if s.size < 4 then (0, (⟨#[]⟩ : ByteArray), false)
  else (IntKind.u8.wrap (bitsI .or .i64 (shlI .i64 (idxB hexB (byteAt s 2)) 4) (idxB hexB (byteAt s 3))), s.extract 4 s.size, decide (idxB hexB (byteAt s 2) ≥ 0) && decide (idxB hexB (byteAt s 3) ≥ 0))
theorem nextS_size (s : ByteArray) (h : 0 < s.size) : (nextS s).2.1.size < s.size := by
  unfold nextS
  split
  · show (s.extract 1 s.size).size < _; rw [ByteArray.size_extract]; omega
  · split
    · show (s.extract 2 s.size).size < _; rw [ByteArray.size_extract]; omega
    · split
      · exact h
      · show (s.extract 4 s.size).size < _; rw [ByteArray.size_extract]; omega
theorem next_F (n : Nat) (s : ByteArray) (h : 0 < s.size) (k : Int → ByteArray → Bool → Option R) : value_next_F n s k = k (nextS s).1 (nextS s).2.1 (nextS s).2.2 := by
  rw [value_next_e]
  unfold value_next_Fi nextS
  have c1 : (0 : Int) < (s.size : Int) := by omega
  by_cases h0 : byteAt s 0 = 92
  · have e0 : (byteAt s 0 != 92) = false := by rw [h0]; rfl
    have n0 : ¬ byteAt s 0 ≠ 92 := fun hh => hh h0
    simp only [Int.le_refl, if_true, c1, e0, Bool.false_eq_true, if_false, n0]
    by_cases h1 : 1 < s.size
    · have g1 : (s.size : Int) > 1 := by omega
      have g2 : (1 : Int) < (s.size : Int) := by omega
      simp only [g1, decide_true, if_true, g2, show (0 : Int) ≤ 1 by decide]
      by_cases h2 : byteAt s 1 = 120
      · have e1 : (byteAt s 1 != 120) = false := by rw [h2]; rfl
        have n1 : ¬ (1 < s.size ∧ byteAt s 1 ≠ 120) := fun hh => hh.2 h2
        simp only [e1, Bool.false_eq_true, if_false, n1]
        by_cases h4 : s.size < 4
        · have g4 : (s.size : Int) < 4 := by omega
          simp only [g4, decide_true, if_true, h4]
        · have g4 : ¬ (s.size : Int) < 4 := by omega
          have g5 : (2 : Int) < (s.size : Int) := by omega
          have g6 : (3 : Int) < (s.size : Int) := by omega
          have g7 : (0 : Int) ≤ 4 ∧ (4 : Int) ≤ (s.size : Int) := by omega
          simp only [g4, decide_false, Bool.false_eq_true, if_false, h4, show (0 : Int) ≤ 2 by decide, show (0 : Int) ≤ 3 by decide, if_true, g5, g6, ixb_F, g7, and_self]
          by_cases hh : idxB hexB (byteAt s 2) ≥ 0
          · have hh' : idxB (⟨#[48, 49, 50, 51, 52, 53, 54, 55, 56, 57, 97, 98, 99, 100, 101, 102]⟩ : ByteArray) (byteAt s 2) ≥ 0 := hh
            simp only [hh, hh', decide_true, if_true, Bool.true_and]
            rfl
          · have hh' : ¬ idxB (⟨#[48, 49, 50, 51, 52, 53, 54, 55, 56, 57, 97, 98, 99, 100, 101, 102]⟩ : ByteArray) (byteAt s 2) ≥ 0 := hh
            simp only [hh, hh', decide_false, Bool.false_eq_true, if_false, Bool.false_and]
            rfl
      · have e1 : (byteAt s 1 != 120) = true := bne_iff_ne.2 h2
        have n1 : 1 < s.size ∧ byteAt s 1 ≠ 120 := ⟨h1, h2⟩
        have g7 : (0 : Int) ≤ 2 ∧ (2 : Int) ≤ (s.size : Int) := by omega
        simp only [e1, if_true, n1, g7, and_self, ne_eq, not_false_eq_true]
        rfl
    · have g1 : ¬ (s.size : Int) > 1 := by omega
      have n1 : ¬ (1 < s.size ∧ byteAt s 1 ≠ 120) := fun hh => h1 hh.1
      have g4 : (s.size : Int) < 4 := by omega
      have h4 : s.size < 4 := by omega
      simp only [g1, decide_false, Bool.false_eq_true, if_false, n1, g4, decide_true, if_true, h4]
  · have e0 : (byteAt s 0 != 92) = true := bne_iff_ne.2 h0
    have g7 : (0 : Int) ≤ 1 ∧ (1 : Int) ≤ (s.size : Int) := by omega
    simp only [Int.le_refl, if_true, c1, e0, h0, ne_eq, not_false_eq_true, g7, and_self]
    rfl
/-- the bytes behind the first quote -/
def unqS : Nat → ByteArray → List Int → Option (List Int)
  | 0, _, acc => some acc
  | f + 1, s, acc => if s.size = 0 then some acc else if (nextS s).2.2 = true then unqS f (nextS s).2.1 (acc ++ [(nextS s).1]) else none
def unqP (s : ByteArray) : Option ByteArray :=
  if s.size < 2 ∨ byteAt s 0 ≠ 34 ∨ byteAt s ((s.size : Int) - 1) ≠ 34 then none else (unqS s.size (s.extract 1 (s.size - 1)) []).map strOfNums
theorem unq_loop (n : Nat) (k2 : exK R (value_unquoted_dx 5)) : ∀ (f m : Nat) (s : ByteArray) (acc : List Int), s.size ≤ f → f < m → acc.length + s.size ≤ 100000 →
    runC (value_unquoted_l5 n) m (s, acc, ()) k2 = match unqS (f + 1) s acc with
      | some l => k2.2.1 (l, ())
      | none => k2.1 ((⟨#[]⟩ : ByteArray), false, ())
  | f, m, s, acc, hf, hm, ha => by
    obtain ⟨m, rfl⟩ : ∃ q, m = q + 1 := ⟨m - 1, by omega⟩
    show value_unquoted_l5 n (s, acc, ()) (fun b => runC (value_unquoted_l5 n) m b k2) k2 = _
    simp only [value_unquoted_l5, value_unquoted_s5, unqS]
    simp only [beqB]
    by_cases h0 : s = (⟨#[]⟩ : ByteArray)
    · have hz : s.size = 0 := (nil_size s).1 h0
      simp only [h0, decide_true, Bool.not_true, Bool.false_eq_true, if_false]
      rfl
    · have hz : ¬ s.size = 0 := fun e => h0 ((nil_size s).2 e)
      obtain ⟨f, rfl⟩ : ∃ q, f = q + 1 := ⟨f - 1, by omega⟩
      simp only [h0, decide_false, Bool.not_false, if_true, hz, if_false]
      rw [next_F n s (by omega)]
      have hn := nextS_size s (by omega)
      cases hk : (nextS s).2.2 with
      | false => rfl
      | true =>
        simp only [Bool.not_true, Bool.false_eq_true, if_false, if_true, List.length_cons, List.length_nil]
        rw [if_pos (by omega)]
        exact unq_loop n k2 f m (nextS s).2.1 (acc ++ [(nextS s).1]) (by omega) (by omega) (by simp; omega)
theorem unqP_F (n : Nat) (s : ByteArray) (hs : s.size ≤ 1000) (hn : 2000 < n) (k : ByteArray → Bool → Option R) : value_unquoted_F n s k = match unqP s with
    | some t => k t true
    | none => k (⟨#[]⟩ : ByteArray) false := by
  rw [value_unquoted_e]
  unfold value_unquoted_Fi unqP
  by_cases h2 : s.size < 2
  · have g2 : (s.size : Int) < 2 := by omega
    simp only [g2, decide_true, if_true, h2, true_or]
  · have g2 : ¬ (s.size : Int) < 2 := by omega
    have c1 : (0 : Int) < (s.size : Int) := by omega
    simp only [g2, decide_false, Bool.false_eq_true, if_false, Int.le_refl, if_true, c1, h2, false_or, wm s.size (by omega)]
    by_cases h0 : byteAt s 0 = 34
    · have e0 : (byteAt s 0 != 34) = false := by rw [h0]; rfl
      have c2 : (0 : Int) ≤ (s.size : Int) - 1 := by omega
      have c3 : (s.size : Int) - 1 < (s.size : Int) := by omega
      simp only [e0, Bool.false_eq_true, if_false, c2, c3, if_true, h0, ne_eq, not_true_eq_false, false_or]
      by_cases h1 : byteAt s ((s.size : Int) - 1) = 34
      · have e1 : (byteAt s ((s.size : Int) - 1) != 34) = false := by rw [h1]; rfl
        have c4 : (s.size : Int) - 1 ≤ (s.size : Int) := by omega
        have e5 : Int.toNat ((s.size : Int) - 1) = s.size - 1 := by omega
        have c5 : (1 : Int) ≤ ((s.size - 1 : Nat) : Int) := by omega
        simp only [e1, Bool.false_eq_true, if_false, c4, and_self, if_true, e5, show (0 : Int) ≤ 1 by decide, c5, h1, not_true_eq_false]
        obtain ⟨q, hq⟩ : ∃ q, s.size = q + 1 := ⟨s.size - 1, by omega⟩
        have hx : (s.extract 1 (s.size - 1)).size = s.size - 2 := by rw [ByteArray.size_extract]; omega
        refine (unq_loop n _ q n (s.extract 1 (s.size - 1)) [] (by omega) (by omega) (by simp; omega)).trans ?_
        rw [← hq]
        cases unqS s.size (s.extract 1 (s.size - 1)) [] <;> rfl
      · have e1 : (byteAt s ((s.size : Int) - 1) != 34) = true := bne_iff_ne.2 h1
        simp only [e1, if_true, h1, not_false_eq_true]
        split <;> rfl
    · have e0 : (byteAt s 0 != 34) = true := bne_iff_ne.2 h0
      simp only [e0, if_true, h0, ne_eq, not_false_eq_true, true_or]
end Go.Proofs.YtnnbinmomendnaaDoor.E
namespace Go.Proofs.YtnnbinmomendnaaDoor.E
open Go.RowKit
variable {R : Type}
theorem mkB_at (l : List UInt8) (i : Nat) (c : UInt8) (h : l[i]? = some c) : byteAt (mkB l) (i : Int) = (c.toNat : Int) := byteAt_q _ _ _ (by simpa [mkB] using h)
theorem mkB_drop (l m : List UInt8) : (mkB (l ++ m)).extract l.length (mkB (l ++ m)).size = mkB m := by
  rw [mkB_size, List.length_append]
  apply ba_eq
  simp [mkB]
theorem nextS_q (c : UInt8) (r : List UInt8) : nextS (mkB (qByte c ++ r)) = ((c.toNat : Int), mkB r, true) := by
  unfold nextS
  rcases qByte_cases c with ⟨e, h⟩ | e | ⟨e, h, h'⟩
  · have b0 : byteAt (mkB (qByte c ++ r)) 0 = 92 := mkB_at _ 0 92 (by rw [e]; rfl)
    have b1 : byteAt (mkB (qByte c ++ r)) 1 = (c.toNat : Int) := mkB_at _ 1 c (by rw [e]; rfl)
    have hs : 1 < (mkB (qByte c ++ r)).size := by rw [mkB_size, e]; simp
    have hne : (c.toNat : Int) ≠ 120 := by rcases h with rfl | rfl <;> decide
    have hd := mkB_drop (qByte c) r
    rw [show (qByte c).length = 2 from by rw [e]; rfl] at hd
    rw [if_neg (by simp [b0]), if_pos ⟨hs, by rw [b1]; exact hne⟩, b1, hd]
  · have b0 : byteAt (mkB (qByte c ++ r)) 0 = 92 := mkB_at _ 0 92 (by rw [e]; rfl)
    have b1 : byteAt (mkB (qByte c ++ r)) 1 = 120 := mkB_at _ 1 120 (by rw [e]; rfl)
    have b2 : byteAt (mkB (qByte c ++ r)) 2 = ((hexd (c.toNat / 16)).toNat : Int) := mkB_at _ 2 _ (by rw [e]; rfl)
    have b3 : byteAt (mkB (qByte c ++ r)) 3 = ((hexd (c.toNat % 16)).toNat : Int) := mkB_at _ 3 _ (by rw [e]; rfl)
    have hs : ¬ (mkB (qByte c ++ r)).size < 4 := by rw [mkB_size, e]; simp
    have hc : c.toNat < 256 := c.toNat_lt
    have hd := mkB_drop (qByte c) r
    rw [show (qByte c).length = 4 from by rw [e]; rfl] at hd
    rw [if_neg (by simp [b0]), if_neg (by simp [b1]), if_neg hs, b2, b3, hd, idx_hex _ (by omega), idx_hex _ (by omega), hex_two _ hc, decide_eq_true (by omega), decide_eq_true (by omega)]
    rfl
  · have b0 : byteAt (mkB (qByte c ++ r)) 0 = (c.toNat : Int) := mkB_at _ 0 c (by rw [e]; rfl)
    have hne : (c.toNat : Int) ≠ 92 := fun h' => h (UInt8.toNat_inj.1 (show c.toNat = 92 by omega))
    have hd := mkB_drop (qByte c) r
    rw [show (qByte c).length = 1 from by rw [e]; rfl] at hd
    rw [if_pos (by rw [b0]; exact hne), b0, hd]
theorem unqS_q : ∀ (t : List UInt8) (f : Nat) (acc : List Int), t.length < f → unqS f (mkB (t.flatMap qByte)) acc = some (acc ++ t.map fun c => (c.toNat : Int))
  | [], f, acc, hf => by
    obtain ⟨f, rfl⟩ : ∃ q, f = q + 1 := ⟨f - 1, by omega⟩
    rw [unqS, if_pos (by rw [mkB_size]; rfl)]
    simp
  | c :: t, f, acc, hf => by
    obtain ⟨f, rfl⟩ : ∃ q, f = q + 1 := ⟨f - 1, by omega⟩
    simp only [List.length_cons] at hf
    have hz : ¬ (mkB ((c :: t).flatMap qByte)).size = 0 := by
      rw [mkB_size, List.flatMap_cons, List.length_append]
      rcases qByte_cases c with ⟨e, _⟩ | e | ⟨e, _⟩ <;> rw [e] <;> simp
    rw [unqS, if_neg hz, List.flatMap_cons, nextS_q, if_pos rfl]
    show unqS f (mkB (t.flatMap qByte)) (acc ++ [(c.toNat : Int)]) = _
    rw [unqS_q t f _ (by omega)]
    simp
theorem flat_ge (t : List UInt8) : t.length ≤ (t.flatMap qByte).length := by
  induction t with
  | nil => simp
  | cons c t ih =>
    simp only [List.flatMap_cons, List.length_append, List.length_cons]
    rcases qByte_cases c with ⟨e, _⟩ | e | ⟨e, _⟩ <;> rw [e] <;> simp only [List.length_cons, List.length_nil] <;> omega
theorem unqP_q (t : ByteArray) : unqP (mkB (quotedL t.data.toList)) = some t := by
  have sz : (mkB (quotedL t.data.toList)).size = (t.data.toList.flatMap qByte).length + 2 := by rw [mkB_size]; simp [quotedL]
  have b0 : byteAt (mkB (quotedL t.data.toList)) 0 = 34 := mkB_at _ 0 34 rfl
  have b1 : byteAt (mkB (quotedL t.data.toList)) (((mkB (quotedL t.data.toList)).size : Int) - 1) = 34 := by
    have : (((mkB (quotedL t.data.toList)).size : Int) - 1) = (((t.data.toList.flatMap qByte).length + 1 : Nat) : Int) := by rw [sz]; omega
    rw [this]
    exact mkB_at _ _ 34 (by simp [quotedL])
  have ex : (mkB (quotedL t.data.toList)).extract 1 ((mkB (quotedL t.data.toList)).size - 1) = mkB (t.data.toList.flatMap qByte) := by
    rw [sz]
    apply ba_eq
    simp [mkB, quotedL]
  unfold unqP
  rw [if_neg (by rw [b0, b1]; simp [sz]), ex, unqS_q _ _ _ (by have := flat_ge t.data.toList; omega)]
  simp only [List.nil_append, Option.map_some]
  rw [nums_back, mkB_id]
/-- what the program guesses -/
def guessP (s : ByteArray) : ty34.D :=
  if s = trueB then (1, true, 0, (⟨#[]⟩ : ByteArray), ()) else if s = falseB then (1, false, 0, (⟨#[]⟩ : ByteArray), ()) else if piE s = false then (2, false, piV s, (⟨#[]⟩ : ByteArray), ()) else match unqP s with
    | some t => (3, false, 0, t, ())
    | none => zV
theorem guess_F (n : Nat) (s : ByteArray) (hs : s.size ≤ 1000) (hn : 2000 < n) (k : ty34.D → Option R) : value_guess_F n s k = k (guessP s) := by
  rw [value_guess_e]
  unfold value_guess_Fi guessP
  simp only [beqB, boolP_F, intP_F, textP_F, nullP_F]
  by_cases h1 : s = trueB
  · have h1' : s = (⟨#[116, 114, 117, 101]⟩ : ByteArray) := h1
    rw [if_pos (decide_eq_true h1'), if_pos h1, decide_eq_true h1']
  · have h1' : ¬ s = (⟨#[116, 114, 117, 101]⟩ : ByteArray) := h1
    rw [if_neg (by simpa using h1'), if_neg h1]
    by_cases h2 : s = falseB
    · have h2' : s = (⟨#[102, 97, 108, 115, 101]⟩ : ByteArray) := h2
      rw [if_pos (decide_eq_true h2'), if_pos h2, decide_eq_false h1']
    · have h2' : ¬ s = (⟨#[102, 97, 108, 115, 101]⟩ : ByteArray) := h2
      rw [if_neg (by simpa using h2'), if_neg h2, pi_F _ _ hs]
      cases hp : piE s with
      | false => rfl
      | true =>
        simp only [Bool.not_true, Bool.false_eq_true, if_false, Bool.true_eq_false]
        rw [unqP_F n s hs hn]
        cases unqP s <;> rfl
theorem piE_ok {s : ByteArray} {x : Int} (h : Lib.parseIntB 64 s.data.toList = .ok x) : piE s = false ∧ piV s = x := by
  unfold piE piV
  rw [h]
  exact ⟨rfl, rfl⟩
theorem piE_no {s : ByteArray} (h : ∀ x, Lib.parseIntB 64 s.data.toList ≠ .ok x) : piE s = true := by
  unfold piE
  split
  · rename_i v hv
    exact absurd hv (h v)
  · rfl
theorem parse_bad (c : UInt8) (r : List UInt8) (h : ¬ (48 ≤ c.toNat ∧ c.toNat ≤ 57)) (h1 : c.toNat ≠ 43) (h2 : c.toNat ≠ 45) (x : Int) : Lib.parseIntB 64 (c :: r) ≠ .ok x := by
  simp only [Lib.parseIntB, h1, h2, or_self, if_false, Lib.parseUintB, reduceCtorEq, Lib.parseUintM, h, not_false_eq_true]
  simp
theorem piV_rng (s : ByteArray) (h : piE s = false) : inR (piV s) := by
  unfold piE at h
  split at h
  · rename_i v hv
    have := parse_range _ _ hv
    rw [(piE_ok hv).2]
    exact this
  · cases h
theorem guessP_ok : Guess guessP := by
  intro s hs
  refine ⟨?_, ?_⟩
  · unfold guessP
    split
    · exact ⟨by show (-9223372036854775808 : Int) ≤ 0; decide, by show (0 : Int) ≤ 9223372036854775807; decide⟩
    · split
      · exact ⟨by show (-9223372036854775808 : Int) ≤ 0; decide, by show (0 : Int) ≤ 9223372036854775807; decide⟩
      · split
        · rename_i h
          exact piV_rng s h
        · split
          · exact ⟨by show (-9223372036854775808 : Int) ≤ 0; decide, by show (0 : Int) ≤ 9223372036854775807; decide⟩
          · exact ⟨by show (-9223372036854775808 : Int) ≤ 0; decide, by show (0 : Int) ≤ 9223372036854775807; decide⟩
  · rintro v ⟨h1, h2, h3⟩
    subst h3
    rcases right_cases h1 with rfl | ⟨b, rfl⟩ | ⟨x, rfl⟩ | ⟨t, ht, rfl⟩
    · rw [show_null]
      unfold guessP
      rw [if_neg (by decide), if_neg (by decide), if_neg (by rw [piE_no (fun x => parse_bad 110 _ (by decide) (by decide) (by decide) x)]; decide)]
      have : unqP ⟨#[110, 117, 108, 108]⟩ = none := by
        unfold unqP
        rw [if_pos (.inr (.inl (by decide)))]
      rw [this]
    · rw [show_bool]
      cases b
      · unfold guessP
        rw [if_neg (by decide), if_pos (by rfl)]
      · unfold guessP
        rw [if_pos (by rfl)]
    · rw [show_num]
      have h2' : inR x := h2
      have e := parse_itoa x h2'.1 h2'.2
      obtain ⟨e1, e2⟩ := piE_ok (s := numS x) e
      unfold guessP
      rw [if_neg (numS_ne x h2' trueB 116 rfl (by unfold dig; decide)), if_neg (numS_ne x h2' falseB 102 rfl (by unfold dig; decide)), if_pos e1, e2]
    · rw [show_text t ht]
      unfold guessP
      have hne : ∀ (l : List UInt8) (c : UInt8) (r : List UInt8), l = c :: r → c ≠ 34 → mkB (quotedL t.data.toList) ≠ mkB l := by
        intro l c r hl hc he
        have := congrArg (fun s : ByteArray => s.data.toList) he
        simp only [mkB, hl, quotedL] at this
        injection this with h5 h6
        exact hc h5.symm
      have g1 : ¬ mkB (quotedL t.data.toList) = trueB := hne [116, 114, 117, 101] 116 _ rfl (by decide)
      have g2 : ¬ mkB (quotedL t.data.toList) = falseB := hne [102, 97, 108, 115, 101] 102 _ rfl (by decide)
      rw [if_neg g1, if_neg g2, if_neg (by rw [piE_no (fun x => parse_bad 34 _ (by decide) (by decide) (by decide) x)]; decide), unqP_q]
theorem readP_F (n : Nat) (s : ByteArray) (hs : s.size ≤ 1000) (hn : 2000 < n) (k : ty34.D → Int → Option R) : value_Read_F n s k = k (readV s).1 (readV s).2 := by
  rw [readV_guess guessP_ok s hs, value_Read_e]
  unfold value_Read_Fi
  rw [guess_F n s hs hn]
  simp only [beqB]
  by_cases h0 : s = (⟨#[]⟩ : ByteArray)
  · simp only [h0, decide_true, if_true, ne_eq, not_true_eq_false, false_and, if_false]
    rfl
  · simp only [h0, decide_false, Bool.false_eq_true, if_false, ne_eq, not_false_eq_true, true_and]
    rw [showP_F n _ (guessP_ok s hs).1]
    by_cases h1 : showS (guessP s) = s
    · simp only [h1, decide_true, Bool.not_true, Bool.false_eq_true, if_false, if_true]
    · simp only [h1, decide_false, Bool.not_false, if_true, if_false]
      rfl
end Go.Proofs.YtnnbinmomendnaaDoor.E
namespace Go.Proofs.YtnnbinmomendnaaDoor.E
open Go.RowKit
variable {R : Type}
/-! tokens, by the document -/
def scanN (p : Nat → Bool) : Nat → Nat → Nat
  | 0, i => i
  | f + 1, i => if p i = true then scanN p f (i + 1) else i
theorem scanN_le (p : Nat → Bool) : ∀ f i, i ≤ scanN p f i ∧ scanN p f i ≤ i + f
  | 0, i => ⟨Nat.le_refl _, Nat.le_refl _⟩
  | f + 1, i => by
    unfold scanN
    split
    · have := scanN_le p f (i + 1); omega
    · omega
theorem runC_span {α β R : Type} {step : α → (α → Option R) → β → Option R} (k : β) (p : Nat → Bool) (st : Nat → α) (m : Nat) (E : Nat → Option R)
    (hs : ∀ i, i < m → ∀ k1, step (st i) k1 k = if p i = true then k1 (st (i + 1)) else E i) (he : ∀ k1, step (st m) k1 k = E m) {n i : Nat} (hi : i ≤ m) (hn : m - i < n) : runC step n (st i) k = E (scanN p (m - i) i) := by
  have go : ∀ (d i n : Nat), i + d = m → d < n → runC step n (st i) k = E (scanN p d i) := by
    intro d
    induction d with
    | zero =>
      intro i n hi hn
      obtain ⟨n, rfl⟩ : ∃ q, n = q + 1 := ⟨n - 1, by omega⟩
      have : i = m := by omega
      subst this
      exact he _
    | succ d ih =>
      intro i n hi hn
      obtain ⟨n, rfl⟩ : ∃ q, n = q + 1 := ⟨n - 1, by omega⟩
      refine Eq.trans (show _ = step (st i) (fun b => runC step n b k) k from rfl) ((hs i (by omega) _).trans ?_)
      unfold scanN
      split
      · exact ih (i + 1) n (by omega) (by omega)
      · rfl
  exact go (m - i) i n (by omega) hn
/-- a byte of a text, as a number -/
def bt (s : ByteArray) (i : Nat) : Nat := (s.data.toList.getD i 0).toNat
theorem byteAt_bt (s : ByteArray) (i : Nat) : byteAt s (i : Int) = (bt s i : Int) := by unfold byteAt bt; rw [Int.toNat_natCast]
theorem byteAt_0 (s : ByteArray) : byteAt s 0 = (bt s 0 : Int) := byteAt_bt s 0
theorem byteAt_1 (s : ByteArray) : byteAt s 1 = (bt s 1 : Int) := byteAt_bt s 1
def letN (c : Nat) : Bool := decide (97 ≤ c) && decide (c ≤ 122)
def digN (c : Nat) : Bool := decide (48 ≤ c) && decide (c ≤ 57)
def wchN (s : ByteArray) (i : Nat) : Bool := letN (bt s i) || (decide (0 < i) && (digN (bt s i) || decide (bt s i = 95)))
def wordN (s : ByteArray) : Nat := scanN (wchN s) s.size 0
def numN (s : ByteArray) : Nat := scanN (fun i => digN (bt s i)) (s.size - (if bt s 0 = 45 then 1 else 0)) (if bt s 0 = 45 then 1 else 0)
def textN (s : ByteArray) : Nat → Nat → Nat
  | 0, _ => 0
  | f + 1, i => if i < s.size then (if bt s i = 92 then textN s f (i + 2) else if bt s i = 34 then i + 1 else textN s f (i + 1)) else 0
def signN (s : ByteArray) : Nat :=
  if 2 ≤ s.size ∧ bt s 1 = 61 ∧ (bt s 0 = 61 ∨ bt s 0 = 33 ∨ bt s 0 = 60 ∨ bt s 0 = 62) then 2
  else if bt s 0 = 40 ∨ bt s 0 = 41 ∨ bt s 0 = 44 ∨ bt s 0 = 95 ∨ bt s 0 = 60 ∨ bt s 0 = 62 then 1 else 0
theorem letF (n : Nat) (c : Nat) (k : Bool → Option R) : verdererref11_letter_F n (c : Int) k = k (letN c) := by
  rw [verdererref11_letter_e]
  unfold verdererref11_letter_Fi letN
  by_cases h : 97 ≤ c
  · have : (c : Int) ≥ 97 := by omega
    have e : ((c : Int) ≤ 122) ↔ c ≤ 122 := by omega
    simp [h, this, e]
  · have : ¬ (c : Int) ≥ 97 := by omega
    rw [if_neg (by simpa using this)]
    simp [h]
theorem digF (n : Nat) (c : Nat) (k : Bool → Option R) : verdererref11_digit_F n (c : Int) k = k (digN c) := by
  rw [verdererref11_digit_e]
  unfold verdererref11_digit_Fi digN
  by_cases h : 48 ≤ c
  · have : (c : Int) ≥ 48 := by omega
    have e : ((c : Int) ≤ 57) ↔ c ≤ 57 := by omega
    simp [h, this, e]
  · have : ¬ (c : Int) ≥ 48 := by omega
    rw [if_neg (by simpa using this)]
    simp [h]
theorem beq_nat (a b : Nat) : ((a : Int) == (b : Int)) = decide (a = b) := by
  rw [Bool.eq_iff_iff, beq_iff_eq, decide_eq_true_eq]; omega
theorem refWord_F (n : Nat) (s : ByteArray) (hs : s.size ≤ 1000) (hn : s.size < n) (k : Int → Option R) : verdererref11_word_F n s k = k (wordN s : Int) := by
  rw [verdererref11_word_e]
  unfold verdererref11_word_Fi
  refine (runC_span (R := R) (step := verdererref11_word_l2 n) (fun b3 => k b3.1, ()) (wchN s) (fun i => (s, (i : Int), ())) s.size (fun i => k (i : Int)) (fun i hi k1 => ?_) (fun k1 => ?_) (i := 0) (Nat.zero_le _) (by omega)).trans rfl
  · have c1 : (i : Int) < (s.size : Int) := by omega
    have c0 : (0 : Int) ≤ (i : Int) := by omega
    have e95 : ((bt s i : Int) == 95) = decide (bt s i = 95) := beq_nat _ 95
    have e0 : ((i : Int) > 0) ↔ 0 < i := by omega
    simp only [verdererref11_word_l2, verdererref11_word_s2, c1, c0, decide_true, if_true, byteAt_bt, letF, digF, wrap_succ i (by omega), e95, e0, wchN]
    by_cases h1 : letN (bt s i) = true
    · simp only [h1, if_true, Bool.true_or]
    · by_cases hi0 : 0 < i
      · by_cases h2 : digN (bt s i) = true
        · simp [h1, hi0, h2]
        · by_cases h95 : bt s i = 95 <;> simp [h1, hi0, h2, h95]
      · simp [h1, hi0]
  · simp [verdererref11_word_l2, verdererref11_word_s2]
theorem refNum_F (n : Nat) (s : ByteArray) (hs : s.size ≤ 1000) (h0 : 0 < s.size) (hn : s.size < n) (k : Int → Option R) : verdererref11_number_F n s k = k (numN s : Int) := by
  rw [verdererref11_number_e]
  unfold verdererref11_number_Fi numN
  have e45 : (byteAt s 0 == 45) = decide (bt s 0 = 45) := by rw [byteAt_0]; exact beq_nat _ 45
  have go : ∀ f, f ≤ s.size → runC (verdererref11_number_l4 n) n (s, (f : Int), ()) (fun b2 => k b2.1, ()) = k ((scanN (fun i => digN (bt s i)) (s.size - f) f : Nat) : Int) := by
    intro f hf
    refine runC_span (R := R) (step := verdererref11_number_l4 n) (fun b2 => k b2.1, ()) (fun i => digN (bt s i)) (fun i => (s, (i : Int), ())) s.size (fun i => k (i : Int)) (fun i hi k1 => ?_) (fun k1 => ?_) (i := f) hf (by omega)
    · have c1 : (i : Int) < (s.size : Int) := by omega
      have c0 : (0 : Int) ≤ (i : Int) := by omega
      simp only [verdererref11_number_l4, verdererref11_number_s4, c1, c0, decide_true, if_true, byteAt_bt, digF, wrap_succ i (by omega)]
    · simp [verdererref11_number_l4, verdererref11_number_s4]
  rw [if_pos (decide_eq_true (by omega)), if_pos (Int.le_refl _), if_pos (by omega), e45]
  by_cases h : bt s 0 = 45
  · rw [if_pos (decide_eq_true h), if_pos h]; exact go 1 (by omega)
  · rw [if_neg (by simpa using h), if_neg h]; exact go 0 (by omega)
theorem refText_F (n : Nat) (s : ByteArray) (hs : s.size ≤ 1000) (hn : s.size + 2 < n) (k : Int → Option R) : verdererref11_text_F n s k = k (textN s (s.size + 1) 1 : Int) := by
  rw [verdererref11_text_e]
  unfold verdererref11_text_Fi
  have go : ∀ (f i m : Nat), s.size ≤ i + f → f < m → i ≤ s.size + 2 → runC (verdererref11_text_l2 n) m (s, (i : Int), ()) (fun b1 => k b1.1, fun b1 => k 0, ()) = k (textN s (f + 1) i : Int) := by
    intro f
    induction f with
    | zero =>
      intro i m hi hm hi2
      obtain ⟨m, rfl⟩ : ∃ q, m = q + 1 := ⟨m - 1, by omega⟩
      show verdererref11_text_l2 n (s, (i : Int), ()) _ _ = _
      have : ¬ i < s.size := by omega
      have c : ¬ (i : Int) < (s.size : Int) := by omega
      simp only [verdererref11_text_l2, verdererref11_text_s2, textN, this, if_false]
      rw [if_neg (by simpa using c)]
      rfl
    | succ f ih =>
      intro i m hi hm hi2
      obtain ⟨m, rfl⟩ : ∃ q, m = q + 1 := ⟨m - 1, by omega⟩
      show verdererref11_text_l2 n (s, (i : Int), ()) _ _ = _
      by_cases h : i < s.size
      · have c1 : (i : Int) < (s.size : Int) := by omega
        have c0 : (0 : Int) ≤ (i : Int) := by omega
        have e92 : ((bt s i : Int) == 92) = decide (bt s i = 92) := beq_nat _ 92
        have e34 : ((bt s i : Int) == 34) = decide (bt s i = 34) := beq_nat _ 34
        rw [textN, if_pos h]
        simp only [verdererref11_text_l2, verdererref11_text_s2, c1, c0, decide_true, if_true, byteAt_bt, e92, e34, wrap_succ i (by omega), wrap_succ (i + 1) (by omega)]
        by_cases h92 : bt s i = 92
        · rw [if_pos (decide_eq_true h92), if_pos h92]
          exact ih (i + 2) m (by omega) (by omega) (by omega)
        · rw [if_neg (by simpa using h92), if_neg h92]
          by_cases h34 : bt s i = 34
          · rw [if_pos (decide_eq_true h34), if_pos h34]
          · rw [if_neg (by simpa using h34), if_neg h34]
            exact ih (i + 1) m (by omega) (by omega) (by omega)
      · have c : ¬ (i : Int) < (s.size : Int) := by omega
        rw [textN, if_neg h]
        simp only [verdererref11_text_l2, verdererref11_text_s2]
        rw [if_neg (by simpa using c)]
        rfl
  exact go s.size 1 n (by omega) (by omega) (by omega)
theorem refSign_F (n : Nat) (s : ByteArray) (h0 : 0 < s.size) (k : Int → Option R) : verdererref11_sign_F n s k = k (signN s : Int) := by
  rw [verdererref11_sign_e]
  unfold verdererref11_sign_Fi signN
  have b : ∀ (a : Nat) (b : Nat), ((a : Int) == (b : Int)) = decide (a = b) := beq_nat
  have e : ∀ j : Nat, ((bt s j : Int) == 61) = decide (bt s j = 61) ∧ ((bt s j : Int) == 33) = decide (bt s j = 33) ∧ ((bt s j : Int) == 60) = decide (bt s j = 60) ∧ ((bt s j : Int) == 62) = decide (bt s j = 62) ∧ ((bt s j : Int) == 40) = decide (bt s j = 40) ∧ ((bt s j : Int) == 41) = decide (bt s j = 41) ∧ ((bt s j : Int) == 44) = decide (bt s j = 44) ∧ ((bt s j : Int) == 95) = decide (bt s j = 95) := fun j => ⟨b _ 61, b _ 33, b _ 60, b _ 62, b _ 40, b _ 41, b _ 44, b _ 95⟩
  have c0 : (0 : Int) < (s.size : Int) := by omega
  have t1 : (0 : Int) ≤ 1 := by decide
  simp only [byteAt_0, byteAt_1, e, c0, Int.le_refl, if_true, t1]
  generalize bt s 0 = x
  generalize bt s 1 = y
  have tail : (if decide (x = 40) = true then k 1 else if decide (x = 41) = true then k 1 else if decide (x = 44) = true then k 1 else if decide (x = 95) = true then k 1 else if decide (x = 60) = true then k 1 else if decide (x = 62) = true then k 1 else k 0) = k ((if x = 40 ∨ x = 41 ∨ x = 44 ∨ x = 95 ∨ x = 60 ∨ x = 62 then 1 else 0 : Nat) : Int) := by
    by_cases h1 : x = 40 <;> by_cases h2 : x = 41 <;> by_cases h3 : x = 44 <;> by_cases h4 : x = 95 <;> by_cases h5 : x = 60 <;> by_cases h6 : x = 62 <;> simp [h1, h2, h3, h4, h5, h6]
  by_cases h2 : 2 ≤ s.size
  · have g2 : (s.size : Int) ≥ 2 := by omega
    have g1 : (1 : Int) < (s.size : Int) := by omega
    simp only [g2, g1, decide_true, if_true, h2, true_and]
    by_cases hy : y = 61
    · simp only [hy, decide_true, if_true, true_and]
      by_cases x1 : x = 61
      · simp [x1]
      · by_cases x2 : x = 33
        · simp [x1, x2]
        · by_cases x3 : x = 60
          · simp [x1, x2, x3]
          · by_cases x4 : x = 62
            · simp [x1, x2, x3, x4]
            · have hno : ¬ (x = 61 ∨ x = 33 ∨ x = 60 ∨ x = 62) := by omega
              rw [if_neg (by simpa using x1), if_neg (by simpa using x2), if_neg (by simpa using x3), if_neg (by simpa using x4), if_neg hno]
              exact tail
    · simp only [hy, decide_false, Bool.false_eq_true, if_false, false_and]
      exact tail
  · have g2 : ¬ (s.size : Int) ≥ 2 := by omega
    simp only [g2, decide_false, Bool.false_eq_true, if_false, h2, false_and]
    exact tail
end Go.Proofs.YtnnbinmomendnaaDoor.E
namespace Go.Proofs.YtnnbinmomendnaaDoor.E
open Go.RowKit
variable {R : Type}
noncomputable def constS (s : ByteArray) (m : Nat) : Option ty52.D := if (readV (s.extract 0 m)).2 = 0 then some (2, s.extract 0 m, (readV (s.extract 0 m)).1, 0, ()) else none
/-- the token with which a text goes on -/
noncomputable def oneS (s : ByteArray) : Option ty52.D :=
  if letN (bt s 0) = true then (if (readV (s.extract 0 (wordN s))).2 = 0 then some (2, s.extract 0 (wordN s), (readV (s.extract 0 (wordN s))).1, 0, ()) else some (1, s.extract 0 (wordN s), zV, 0, ()))
  else if digN (bt s 0) = true ∨ bt s 0 = 45 then (if numN s < s.size ∧ (letN (bt s (numN s)) = true ∨ bt s (numN s) = 95) then none else constS s (numN s))
  else if bt s 0 = 34 then (if 0 < textN s (s.size + 1) 1 then constS s (textN s (s.size + 1) 1) else none)
  else if 0 < signN s then some (3, s.extract 0 (signN s), zV, 0, ()) else none
theorem textN_le (s : ByteArray) : ∀ f i, textN s f i ≤ s.size
  | 0, i => Nat.zero_le _
  | f + 1, i => by
    unfold textN
    split
    · split
      · exact textN_le s f (i + 2)
      · split
        · omega
        · exact textN_le s f (i + 1)
    · exact Nat.zero_le _
theorem signN_le (s : ByteArray) (h : 0 < s.size) : signN s ≤ s.size := by
  unfold signN
  split
  · omega
  · split <;> omega
theorem numN_rng (s : ByteArray) (h : 0 < s.size) (h0 : digN (bt s 0) = true ∨ bt s 0 = 45) : 1 ≤ numN s ∧ numN s ≤ s.size := by
  unfold numN
  by_cases h1 : bt s 0 = 45
  · rw [if_pos h1]
    have := scanN_le (fun i => digN (bt s i)) (s.size - 1) 1
    omega
  · rw [if_neg h1]
    have hd := h0.resolve_right h1
    obtain ⟨m, hm⟩ : ∃ m, s.size - 0 = m + 1 := ⟨s.size - 1, by omega⟩
    rw [hm]
    unfold scanN
    rw [if_pos hd]
    have := scanN_le (fun i => digN (bt s i)) m (0 + 1)
    omega
theorem wordN_rng (s : ByteArray) (h : 0 < s.size) (h0 : letN (bt s 0) = true) : 1 ≤ wordN s ∧ wordN s ≤ s.size := by
  unfold wordN
  obtain ⟨m, hm⟩ : ∃ m, s.size = m + 1 := ⟨s.size - 1, by omega⟩
  rw [hm]
  unfold scanN
  rw [if_pos (by unfold wchN; rw [h0]; rfl)]
  have := scanN_le (wchN s) m (0 + 1)
  omega
theorem ext_size (s : ByteArray) (m : Nat) (h : m ≤ s.size) : (s.extract 0 m).size = m := by rw [ByteArray.size_extract]; omega
theorem readV_nullB : readV ⟨#[110, 117, 108, 108]⟩ = (zV, 0) := by
  have := readV_back zV (by unfold rightV; rfl) inR0
  rw [show_null] at this
  exact this
theorem refOne_F (n : Nat) (s : ByteArray) (hs : s.size ≤ 1000) (h0 : 0 < s.size) (hn : 2000 < n) : ∃ z : ty52.D, ∀ k : ty52.D → Bool → Option R, verdererref11_one_F n s k = match oneS s with
    | some t => k t true
    | none => k z false := by
  rw [verdererref11_one_e]
  unfold verdererref11_one_Fi
  have c0 : (0 : Int) < (s.size : Int) := by omega
  have b : ∀ (a : Nat) (b : Nat), ((a : Int) == (b : Int)) = decide (a = b) := beq_nat
  have e45 : ∀ j, ((bt s j : Int) == 45) = decide (bt s j = 45) := fun j => b _ 45
  have e34 : ∀ j, ((bt s j : Int) == 34) = decide (bt s j = 34) := fun j => b _ 34
  have e95 : ∀ j, ((bt s j : Int) == 95) = decide (bt s j = 95) := fun j => b _ 95
  have esz : ∀ m, m ≤ s.size → (s.extract 0 m).size ≤ 1000 := fun m hm => by rw [ext_size s m hm]; omega
  -- behind the number of bytes
  have join : ∀ m : Nat, m ≤ s.size → (m = 0 → bt s 0 = 34 ∨ (letN (bt s 0) = false ∧ digN (bt s 0) = false ∧ bt s 0 ≠ 45)) → ∃ z : ty52.D, ∀ k : exK R (verdererref11_one_dx 1000015), verdererref11_one_l1000015 n (s, (m : Int), (0 : Int), (⟨#[]⟩ : ByteArray), (0 : Int), false, (0 : Int), (⟨#[]⟩ : ByteArray), (0 : Int), ()) k = match (if 0 < m then constS s m else if bt s 0 = 34 then none else if 0 < signN s then some (3, s.extract 0 (signN s), zV, 0, ()) else none) with
      | some t => k.1 (true, t.1, t.2.1, t.2.2.1.1, t.2.2.1.2.1, t.2.2.1.2.2.1, t.2.2.1.2.2.2.1, t.2.2.2.1, ())
      | none => k.1 (false, z.1, z.2.1, z.2.2.1.1, z.2.2.1.2.1, z.2.2.1.2.2.1, z.2.2.1.2.2.2.1, z.2.2.2.1, ()) := by
    intro m hm hm0
    rw [verdererref11_one_e1000015]
    unfold verdererref11_one_li1000015 verdererref11_one_s1000015
    by_cases hp : 0 < m
    · refine ⟨(2, s.extract 0 m, (readV (s.extract 0 m)).1, 0, ()), fun k => ?_⟩
      have r1 : (0 : Int) ≤ (m : Int) ∧ (m : Int) ≤ (s.size : Int) := by omega
      have g : (m : Int) > 0 := by omega
      simp only [g, decide_true, if_true, r1, and_self, Int.toNat_natCast, hp]
      rw [refReadV_F n _ (esz m hm) hn]
      unfold constS
      by_cases hr : (readV (s.extract 0 m)).2 = 0
      · rw [if_pos hr]
        have : ((readV (s.extract 0 m)).2 == 0) = true := by simp [hr]
        simp only [this]
      · rw [if_neg hr]
        have : ((readV (s.extract 0 m)).2 == 0) = false := by simp [hr]
        simp only [this]
    · have hz : m = 0 := by omega
      subst hz
      have g : ¬ (((0 : Nat) : Int) > 0) := by omega
      simp only [g, decide_false, Bool.false_eq_true, if_false, Nat.lt_irrefl, Int.le_refl, if_true, c0, byteAt_0, e34]
      by_cases h34 : bt s 0 = 34
      · refine ⟨(0, (⟨#[]⟩ : ByteArray), zV, 0, ()), fun k => ?_⟩
        simp only [h34, decide_true, if_true]
        rfl
      · have hsg := signN_le s h0
        have r1 : (0 : Int) ≤ (signN s : Int) ∧ (signN s : Int) ≤ (s.size : Int) := by omega
        refine ⟨(3, s.extract 0 (signN s), zV, 0, ()), fun k => ?_⟩
        simp only [h34, decide_false, Bool.false_eq_true, if_false]
        rw [refSign_F n s h0, if_pos r1, Int.toNat_natCast]
        by_cases hp2 : 0 < signN s
        · have : (signN s : Int) > 0 := by omega
          rw [if_pos hp2, decide_eq_true this]
          rfl
        · have : ¬ (signN s : Int) > 0 := by omega
          rw [if_neg hp2, decide_eq_false this]
          rfl
  simp only [Int.le_refl, if_true, c0, byteAt_0, e45, e34]
  simp only [letF n (bt s 0), digF n (bt s 0)]
  unfold oneS
  by_cases hl : letN (bt s 0) = true
  · obtain ⟨w1, w2⟩ := wordN_rng s h0 hl
    refine ⟨(0, (⟨#[]⟩ : ByteArray), zV, 0, ()), fun k => ?_⟩
    rw [if_pos hl, if_pos hl, refWord_F n s hs (by omega)]
    have r1 : (0 : Int) ≤ (wordN s : Int) ∧ (wordN s : Int) ≤ (s.size : Int) := by omega
    rw [if_pos r1, Int.toNat_natCast, refReadV_F n _ (esz _ w2) hn, beqB]
    by_cases hr : (readV (s.extract 0 (wordN s))).2 = 0
    · have : ((readV (s.extract 0 (wordN s))).2 == 0) = true := by simp [hr]
      rw [if_pos hr, this, if_pos rfl]
      split <;> rfl
    · have : ((readV (s.extract 0 (wordN s))).2 == 0) = false := by simp [hr]
      rw [if_neg hr, this]
      rw [if_neg (fun e => hr (by rw [of_decide_eq_true e]; exact congrArg Prod.snd readV_nullB))]
      rfl
  rw [if_neg hl]
  have number : (digN (bt s 0) = true ∨ bt s 0 = 45) → ∃ z : ty52.D, ∀ k : ty52.D → Bool → Option R, verdererref11_number_F n s (fun y6 => if (decide (y6 < (s.size : Int))) = true then (if (0 : Int) ≤ y6 then if y6 < (s.size : Int) then (verdererref11_letter_F n (byteAt s y6) (fun y7 => if y7 = true then (k (0, (⟨#[]⟩ : ByteArray), (0, false, 0, (⟨#[]⟩ : ByteArray), ()), 0, ()) false) else (if (0 : Int) ≤ y6 then if y6 < (s.size : Int) then (if ((byteAt s y6) == 95) = true then (k (0, (⟨#[]⟩ : ByteArray), (0, false, 0, (⟨#[]⟩ : ByteArray), ()), 0, ()) false) else (verdererref11_one_l1000015 n (s, y6, 0, (⟨#[]⟩ : ByteArray), 0, false, 0, (⟨#[]⟩ : ByteArray), 0, ()) (fun b18 => k (b18.2.1, b18.2.2.1, (b18.2.2.2.1, b18.2.2.2.2.1, b18.2.2.2.2.2.1, b18.2.2.2.2.2.2.1, ()), b18.2.2.2.2.2.2.2.1, ()) b18.1, ()))) else none else none))) else none else none) else (verdererref11_one_l1000015 n (s, y6, 0, (⟨#[]⟩ : ByteArray), 0, false, 0, (⟨#[]⟩ : ByteArray), 0, ()) (fun b26 => k (b26.2.1, b26.2.2.1, (b26.2.2.2.1, b26.2.2.2.2.1, b26.2.2.2.2.2.1, b26.2.2.2.2.2.2.1, ()), b26.2.2.2.2.2.2.2.1, ()) b26.1, ()))) = match (if numN s < s.size ∧ (letN (bt s (numN s)) = true ∨ bt s (numN s) = 95) then none else constS s (numN s)) with
      | some t => k t true
      | none => k z false := by
    intro hd
    obtain ⟨n1, n2⟩ := numN_rng s h0 hd
    obtain ⟨z, hz⟩ := join (numN s) n2 (fun e => by omega)
    by_cases hlt : numN s < s.size
    · have d1 : (numN s : Int) < (s.size : Int) := by omega
      have d0 : (0 : Int) ≤ (numN s : Int) := by omega
      by_cases hbad : letN (bt s (numN s)) = true ∨ bt s (numN s) = 95
      · refine ⟨(0, (⟨#[]⟩ : ByteArray), zV, 0, ()), fun k => ?_⟩
        rw [refNum_F n s hs h0 (by omega)]
        simp only [d1, d0, decide_true, if_true, byteAt_bt, letF, e95]
        rw [show (if numN s < s.size ∧ (letN (bt s (numN s)) = true ∨ bt s (numN s) = 95) then none else constS s (numN s)) = none from if_pos ⟨hlt, hbad⟩]
        by_cases h1 : letN (bt s (numN s)) = true
        · rw [if_pos h1]; rfl
        · rw [if_neg h1, if_pos (decide_eq_true (hbad.resolve_left h1))]; rfl
      · refine ⟨z, fun k => ?_⟩
        rw [refNum_F n s hs h0 (by omega)]
        simp only [d1, d0, decide_true, if_true, byteAt_bt, letF, e95]
        rw [show (if numN s < s.size ∧ (letN (bt s (numN s)) = true ∨ bt s (numN s) = 95) then none else constS s (numN s)) = constS s (numN s) from if_neg (fun h => hbad h.2), if_neg (fun h => hbad (.inl h)), if_neg (fun h => hbad (.inr (of_decide_eq_true h)))]
        refine (hz _).trans ?_
        rw [if_pos (by omega)] <;> (cases constS s (numN s) <;> rfl)
    · refine ⟨z, fun k => ?_⟩
      rw [refNum_F n s hs h0 (by omega)]
      have d1 : ¬ (numN s : Int) < (s.size : Int) := by omega
      rw [show (if numN s < s.size ∧ (letN (bt s (numN s)) = true ∨ bt s (numN s) = 95) then none else constS s (numN s)) = constS s (numN s) from if_neg (fun h => hlt h.1), if_neg (by simpa using d1)]
      refine (hz _).trans ?_
      rw [if_pos (by omega)] <;> (cases constS s (numN s) <;> rfl)
  by_cases hd : digN (bt s 0) = true
  · obtain ⟨z, hz⟩ := number (.inl hd)
    refine ⟨z, fun k => ?_⟩
    rw [if_neg hl, if_pos hd, if_pos (Or.inl hd)]
    exact hz k
  by_cases h45 : bt s 0 = 45
  · obtain ⟨z, hz⟩ := number (.inr h45)
    refine ⟨z, fun k => ?_⟩
    rw [if_neg hl, if_neg hd, if_pos (decide_eq_true h45), if_pos (Or.inr h45)]
    exact hz k
  have hno : ¬ (digN (bt s 0) = true ∨ bt s 0 = 45) := fun h => h.elim hd h45
  have hl' : letN (bt s 0) = false := by simpa using hl
  have hd' : digN (bt s 0) = false := by simpa using hd
  by_cases h34 : bt s 0 = 34
  · obtain ⟨z, hz⟩ := join (textN s (s.size + 1) 1) (textN_le s _ _) (fun _ => .inl h34)
    refine ⟨z, fun k => ?_⟩
    rw [if_neg hl, if_neg hd, if_neg (by simpa using h45), if_pos (decide_eq_true h34), if_neg hno, if_pos h34, refText_F n s hs (by omega)]
    refine (hz _).trans ?_
    rw [if_pos h34] <;> cases (if 0 < textN s (s.size + 1) 1 then constS s (textN s (s.size + 1) 1) else none) <;> rfl
  · obtain ⟨z, hz⟩ := join 0 (Nat.zero_le _) (fun _ => .inr ⟨hl', hd', h45⟩)
    refine ⟨z, fun k => ?_⟩
    rw [if_neg hl, if_neg hd, if_neg (by simpa using h45), if_neg (by simpa using h34), if_neg hno, if_neg h34]
    refine (hz _).trans ?_
    rw [if_neg (Nat.lt_irrefl 0), if_neg h34] <;> cases (if 0 < signN s then some ((3, s.extract 0 (signN s), zV, 0, ()) : ty52.D) else none) <;> rfl
theorem constS_size {s : ByteArray} {m : Nat} (hm : m ≤ s.size) {t : ty52.D} (h : constS s m = some t) : t.2.1.size = m := by
  unfold constS at h
  split at h
  · injection h with h; rw [← h]; exact ext_size s m hm
  · cases h
theorem oneS_size {s : ByteArray} (h0 : 0 < s.size) {t : ty52.D} (h : oneS s = some t) : 1 ≤ t.2.1.size ∧ t.2.1.size ≤ s.size := by
  unfold oneS at h
  split at h
  · rename_i hl
    have := wordN_rng s h0 hl
    split at h <;> (injection h with h; rw [← h]; show _ ≤ (s.extract 0 (wordN s)).size ∧ (s.extract 0 (wordN s)).size ≤ _; rw [ext_size s _ this.2]; exact this)
  · split at h
    · rename_i hd
      have := numN_rng s h0 hd
      split at h
      · cases h
      · rw [constS_size this.2 h]; exact this
    · split at h
      · split at h
        · rw [constS_size (textN_le s _ _) h]; exact ⟨by omega, textN_le s _ _⟩
        · cases h
      · split at h
        · have := signN_le s h0
          injection h with h; rw [← h]; show _ ≤ (s.extract 0 (signN s)).size ∧ (s.extract 0 (signN s)).size ≤ _; rw [ext_size s _ this]; omega
        · cases h
end Go.Proofs.YtnnbinmomendnaaDoor.E
