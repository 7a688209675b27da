/- For the law PrintBack. -/
import Derived.Test.YtnnbinmomendnaaGreatDoorMPrintBack3
import Derived.Test.YtnnbinmomendnaaGreatDoorProg
import Derived.KernelRfl
import Derived.ChangeArms
import Derived.ChangeSame
import Derived.WideLaws
import Derived.Deep.Slices
import Derived.Laws.Bits64
import Derived.Lib.ItoaNum
import Derived.Lib.ParseIntB
import Derived.RangeFuncKeeps
import Derived.RangeFuncLeaves
import Derived.Shelf.Abstract
import Derived.WalkKit
import Derived.OwnWalkIn
import Derived.TacticsInMore
import Derived.LoopNIn
import Derived.LoopIn
set_option linter.unusedVariables false
set_option linter.unusedSimpArgs false
set_option linter.unusedSectionVars false
set_option maxRecDepth 100000
namespace Go.Proofs.YtnnbinmomendnaaGreatDoor.E
open Go.Proofs
noncomputable section
variable {R : Type}
@[reducible] def ty46 : Ty := (.pr (.int .i64) (.pr .bool (.pr (.int .i64) (.pr .str .un))))
@[reducible] def ty48 : Ty := (.pr .str (.pr .bool (.pr ty46 .un)))
@[reducible] def ty51 : Ty := (.pr .bool (.pr .str (.pr (.sl ty48) (.pr (.int .i64) .un))))
@[reducible] def ty25 : Ty := (.pr (.int .i64) (.pr .str (.pr (.sl .str) (.pr (.int .i64) (.pr .str (.pr (.int .i64) (.pr (.sl ty51) .un)))))))
@[reducible] def ty60 : Ty := (.pr (.int .i64) (.pr .str (.pr ty46 (.pr (.int .i64) .un))))
@[reducible] def ty78 : Ty := (.pr (.int .i64) (.pr .str (.pr ty46 (.pr (.int .i64) .un))))
def zP_ds : Nat → Desc
  | 3 => ⟨[(0, .d (.int .u64)), (3, .d .str), (4, .d (.int .i64))], []⟩
  | _ => ⟨[], []⟩
def zP_dx : Nat → List (X × Desc)
  | 3 => [(.e 0, ⟨[(3, .d .str)], []⟩)]
  | _ => []
def zP_s3 (n : Nat) (x0 : Int) (x1 : ByteArray) (x2 : Int) (k1 : Int → ByteArray → Int → Option R) (qe0 : ByteArray → Option R) : Option R :=
  if (decide (x2 < 20)) = true then (if (x2 == 0) = true then (if (0 : Int) ≤ (IntKind.u64.wrap ((Int.tmod x0 10) + 1)) ∧ (IntKind.u64.wrap ((Int.tmod x0 10) + 1)) ≤ ((⟨#[48, 49, 50, 51, 52, 53, 54, 55, 56, 57]⟩ : ByteArray).size : Int) then (if (0 : Int) ≤ (Int.tmod x0 10) ∧ (Int.tmod x0 10) ≤ ((Int.toNat (IntKind.u64.wrap ((Int.tmod x0 10) + 1))) : Int) then (if ((⟨#[48, 49, 50, 51, 52, 53, 54, 55, 56, 57]⟩ : ByteArray).extract (Int.toNat (Int.tmod x0 10)) (Int.toNat (IntKind.u64.wrap ((Int.tmod x0 10) + 1)))).size + x1.size ≤ 9223372036854775807 then (k1 (IntKind.u64.wrap (Int.tdiv x0 10)) (((⟨#[48, 49, 50, 51, 52, 53, 54, 55, 56, 57]⟩ : ByteArray).extract (Int.toNat (Int.tmod x0 10)) (Int.toNat (IntKind.u64.wrap ((Int.tmod x0 10) + 1)))) ++ x1) (IntKind.i64.wrap (x2 + 1))) else none) else none) else none) else (if (decide (x0 > 0)) = true then (if (0 : Int) ≤ (IntKind.u64.wrap ((Int.tmod x0 10) + 1)) ∧ (IntKind.u64.wrap ((Int.tmod x0 10) + 1)) ≤ ((⟨#[48, 49, 50, 51, 52, 53, 54, 55, 56, 57]⟩ : ByteArray).size : Int) then (if (0 : Int) ≤ (Int.tmod x0 10) ∧ (Int.tmod x0 10) ≤ ((Int.toNat (IntKind.u64.wrap ((Int.tmod x0 10) + 1))) : Int) then (if ((⟨#[48, 49, 50, 51, 52, 53, 54, 55, 56, 57]⟩ : ByteArray).extract (Int.toNat (Int.tmod x0 10)) (Int.toNat (IntKind.u64.wrap ((Int.tmod x0 10) + 1)))).size + x1.size ≤ 9223372036854775807 then (k1 (IntKind.u64.wrap (Int.tdiv x0 10)) (((⟨#[48, 49, 50, 51, 52, 53, 54, 55, 56, 57]⟩ : ByteArray).extract (Int.toNat (Int.tmod x0 10)) (Int.toNat (IntKind.u64.wrap ((Int.tmod x0 10) + 1)))) ++ x1) (IntKind.i64.wrap (x2 + 1))) else none) else none) else none) else (qe0 x1))) else (qe0 x1)
def zP_l3 (n : Nat) (a : (zP_ds 3).D) (k1 : (zP_ds 3).D → Option R) (k2 : exK R (zP_dx 3)) : Option R :=
  zP_s3 n a.1 a.2.1 a.2.2.1 (fun x0 x1 x2 => k1 (x0, x1, x2, ())) (fun x0 => k2.1 (x0, ()))
@[reducible] def zP_d : Desc := ⟨[(0, .d (.int .u64))], []⟩
def zP_Fi (n : Nat) (a0 : Int) (k0 : ByteArray → Option R) : Option R :=
  runC (zP_l3 n) n (a0, (⟨#[]⟩ : ByteArray), 0, ()) (fun b1 => k0 b1.1, ())
def zP_F {R : Type} := lazyN (@zP_Fi R)
theorem zP_e : @zP_F R = @zP_Fi R := lazyN_eq _
def zP_g (n : Nat) : Gx R := typed 1 zP_d fun x k => zP_F n x.1 (fun y0 => k (.a (.c (.s y0))) [])
def zP_cs (R : Type) (n : Nat) : List (Nat × Gx R) := []
def zP_lp (n : Nat) : (i : Nat) → (zP_ds i).D → exK R (zP_dx i) → Option R
  | 3, a, k => runC (zP_l3 n) n a k
  | _, _, _ => none
def zP_cx (R : Type) (n : Nat) : Cx R := ⟨Tryz.prog, Gof (zP_cs R n), zP_ds, zP_dx, zP_lp n, drawP Tryz.prog (Gof (zP_cs R n)), false, noJn, noFz⟩
theorem zP_ok [Esc R] (n : Nat) : Good Tryz.prog 134 (zP_g (R := R) n) := by
  unfold zP_g
  rw [zP_e]
  exact Good.fn (cx := zP_cx R n) (by kernel_rfl) (AllGood.nil) rfl Tryz.func134 (by kernel_rfl) rfl (by
    have e : fnLoops noJn Tryz.f134 = [((fnLoops noJn Tryz.f134)[0]?).getD (false, .skip)] := by kernel_rfl
    show LoopRuns _ _ (fnLoops noJn _)
    rw [e]
    exact ⟨LoopRun.loop (by kernel_rfl) (i := 3) (m := n) (step := zP_l3 n) (by kernel_rfl) (fun a k1 k2 => by kernel_rfl) (fun _ _ => rfl), trivial⟩) 1 zP_d (by kernel_rfl) (fun x k => by kernel_rfl)
@[reducible] def zBI_d : Desc := ⟨[(0, .d (.int .i64))], []⟩
def zBI_Fi (n : Nat) (a0 : Int) (k0 : ByteArray → Option R) : Option R :=
  if (decide (a0 < 0)) = true then (zP_F n (IntKind.u64.wrap (0 - (IntKind.u64.wrap a0))) (fun y1 => if (⟨#[45]⟩ : ByteArray).size + y1.size ≤ 9223372036854775807 then (k0 ((⟨#[45]⟩ : ByteArray) ++ y1)) else none)) else (zP_F n (IntKind.u64.wrap a0) (fun y2 => k0 y2))
def zBI_F {R : Type} := lazyN (@zBI_Fi R)
theorem zBI_e : @zBI_F R = @zBI_Fi R := lazyN_eq _
def zBI_g (n : Nat) : Gx R := typed 1 zBI_d fun x k => zBI_F n x.1 (fun y0 => k (.a (.c (.s y0))) [])
def zBI_cs (R : Type) (n : Nat) : List (Nat × Gx R) := [(134, zP_g n)]
def zBI_cx (R : Type) (n : Nat) : Cx R := ⟨Tryz.prog, Gof (zBI_cs R n), noDs, noDx, noLp, drawP Tryz.prog (Gof (zBI_cs R n)), false, noJn, noFz⟩
theorem zBI_ok [Esc R] (n : Nat) : Good Tryz.prog 123 (zBI_g (R := R) n) := by
  unfold zBI_g
  rw [zBI_e]
  exact Good.fn (cx := zBI_cx R n) (by kernel_rfl) (AllGood.cons (zP_ok n) (AllGood.nil)) rfl Tryz.func123 (by kernel_rfl) rfl trivial 1 zBI_d (by kernel_rfl) (fun x k => by kernel_rfl)
def zD_ds : Nat → Desc
  | 8 => ⟨[(0, .d .str), (4, .d (.int .u64)), (5, .d (.int .i64)), (6, .d (.int .i64))], []⟩
  | 1000005 => ⟨[(0, .d .str), (4, .d (.int .u64)), (5, .d (.int .i64))], []⟩
  | _ => ⟨[], []⟩
def zD_dx : Nat → List (X × Desc)
  | 8 => [(.r, ⟨[(2, .d (.int .i64)), (3, .d .bool)], []⟩), (.e 0, ⟨[(0, .d .str), (4, .d (.int .u64)), (5, .d (.int .i64))], []⟩)]
  | 1000005 => [(.r, ⟨[(2, .d (.int .i64)), (3, .d .bool)], []⟩)]
  | _ => []
def zD_s8 (n : Nat) (x0 : ByteArray) (x1 : Int) (x2 : Int) (x3 : Int) (k1 : ByteArray → Int → Int → Int → Option R) (qr : Int → Bool → Option R) (qe0 : ByteArray → Int → Int → Option R) : Option R :=
  if (decide (x3 < (x0.size : Int))) = true then (if (0 : Int) ≤ x3 then if x3 < (x0.size : Int) then (if (decide ((byteAt x0 x3) < 48)) = true then (qr 0 false) else (if (0 : Int) ≤ x3 then if x3 < (x0.size : Int) then (if (decide ((byteAt x0 x3) > 57)) = true then (qr 0 false) else (if (0 : Int) ≤ x3 then if x3 < (x0.size : Int) then (k1 x0 (IntKind.u64.wrap ((IntKind.u64.wrap (x1 * 10)) + (IntKind.u64.wrap (IntKind.u8.wrap ((byteAt x0 x3) - 48))))) x2 (IntKind.i64.wrap (x3 + 1))) else none else none)) else none else none)) else none else none) else (qe0 x0 x1 x2)
def zD_l8 (n : Nat) (a : (zD_ds 8).D) (k1 : (zD_ds 8).D → Option R) (k2 : exK R (zD_dx 8)) : Option R :=
  zD_s8 n a.1 a.2.1 a.2.2.1 a.2.2.2.1 (fun x0 x1 x2 x3 => k1 (x0, x1, x2, x3, ())) (fun x0 x1 => k2.1 (x0, x1, ())) (fun x0 x1 x2 => k2.2.1 (x0, x1, x2, ()))
def zD_s1000005 (n : Nat) (x0 : ByteArray) (x1 : Int) (x2 : Int) (qr : Int → Bool → Option R) : Option R :=
  if ((x0.size : Int) == x2) = true then (qr 0 false) else (if (decide ((IntKind.i64.wrap ((x0.size : Int) - x2)) > 19)) = true then (qr 0 false) else (runC (zD_l8 n) n (x0, x1, x2, x2, ()) (fun b2 => qr b2.1 b2.2.1, fun b5 => if (b5.2.2.1 == 1) = true then (zBI_F n (IntKind.i64.wrap (IntKind.u64.wrap (0 - b5.2.1))) (fun y6 => qr (IntKind.i64.wrap (IntKind.u64.wrap (0 - b5.2.1))) (y6.toList == b5.1.toList))) else (zBI_F n (IntKind.i64.wrap b5.2.1) (fun y7 => qr (IntKind.i64.wrap b5.2.1) (y7.toList == b5.1.toList))), ())))
def zD_li1000005 (n : Nat) (a : (zD_ds 1000005).D) (k2 : exK R (zD_dx 1000005)) : Option R :=
  zD_s1000005 n a.1 a.2.1 a.2.2.1 (fun x0 x1 => k2.1 (x0, x1, ()))
def zFA {R : Type} := lazyN (@zD_li1000005 R)
theorem zD_e1000005 : @zFA R = @zD_li1000005 R := lazyN_eq _
@[reducible] def zD_d : Desc := ⟨[(0, .d .str)], []⟩
def zD_Fi (n : Nat) (a0 : ByteArray) (k0 : Int → Bool → Option R) : Option R :=
  if (decide ((a0.size : Int) > 0)) = true then (if (0 : Int) ≤ 0 then if 0 < (a0.size : Int) then (if ((byteAt a0 0) == 45) = true then (zFA n (a0, 0, 1, ()) (fun b9 => k0 b9.1 b9.2.1, ())) else (zFA n (a0, 0, 0, ()) (fun b11 => k0 b11.1 b11.2.1, ()))) else none else none) else (zFA n (a0, 0, 0, ()) (fun b13 => k0 b13.1 b13.2.1, ()))
def zD_F {R : Type} := lazyN (@zD_Fi R)
theorem zD_e : @zD_F R = @zD_Fi R := lazyN_eq _
def zD_g (n : Nat) : Gx R := typed 1 zD_d fun x k => zD_F n x.1 (fun y0 y1 => k (.tu [(.c (.i .i64 y0)), (.c (.b y1))]) [])
def zD_cs (R : Type) (n : Nat) : List (Nat × Gx R) := [(123, zBI_g n)]
def zD_lp (n : Nat) : (i : Nat) → (zD_ds i).D → exK R (zD_dx i) → Option R
  | 8, a, k => runC (zD_l8 n) n a k
  | 1000005, a, k => zFA n a k
  | _, _, _ => none
def zD_cx (R : Type) (n : Nat) : Cx R := ⟨Tryz.prog, Gof (zD_cs R n), zD_ds, zD_dx, zD_lp n, drawP Tryz.prog (Gof (zD_cs R n)), false, (memN [5]), noFz⟩
theorem zD_ok [Esc R] (n : Nat) : Good Tryz.prog 99 (zD_g (R := R) n) := by
  unfold zD_g
  rw [zD_e]
  exact Good.fn (cx := zD_cx R n) (by kernel_rfl) (AllGood.cons (zBI_ok n) (AllGood.nil)) rfl Tryz.func99 (by kernel_rfl) rfl (by
    have e : fnLoops (memN [5]) Tryz.f99 = [((fnLoops (memN [5]) Tryz.f99)[0]?).getD (false, .skip), ((fnLoops (memN [5]) Tryz.f99)[1]?).getD (false, .skip)] := by kernel_rfl
    show LoopRuns _ _ (fnLoops (memN [5]) _)
    rw [e]
    exact ⟨LoopRun.joinS (by kernel_rfl) (i := 5) (L := zFA n) (Li := zD_li1000005 n) (by rw [zD_e1000005]) (by kernel_rfl) (fun a k => by kernel_rfl) (fun a k => by kernel_rfl), ⟨LoopRun.loop (by kernel_rfl) (i := 8) (m := n) (step := zD_l8 n) (by kernel_rfl) (fun a k1 k2 => by kernel_rfl) (fun _ _ => rfl), trivial⟩⟩) 1 zD_d (by kernel_rfl) (fun x k => by kernel_rfl)
@[reducible] def zBP_d : Desc := ⟨[(0, .d ty46)], []⟩
def zBP_Fi (n : Nat) (a0 : ty46.D) (k0 : Bool → Option R) : Option R :=
  if (decide (a0.1 < 0)) = true then (k0 false) else (if (decide (a0.1 > 3)) = true then (k0 false) else (if (a0.1 != 1) = true then (if a0.2.1 = true then (k0 false) else (if (a0.1 != 2) = true then (if (a0.2.2.1 != 0) = true then (k0 false) else (if (a0.1 != 3) = true then (if (!(a0.2.2.2.1.toList == (⟨#[]⟩ : ByteArray).toList)) = true then (k0 false) else (k0 (decide ((a0.2.2.2.1.size : Int) ≤ 60)))) else (k0 (decide ((a0.2.2.2.1.size : Int) ≤ 60))))) else (if (a0.1 != 3) = true then (if (!(a0.2.2.2.1.toList == (⟨#[]⟩ : ByteArray).toList)) = true then (k0 false) else (k0 (decide ((a0.2.2.2.1.size : Int) ≤ 60)))) else (k0 (decide ((a0.2.2.2.1.size : Int) ≤ 60)))))) else (if (a0.1 != 2) = true then (if (a0.2.2.1 != 0) = true then (k0 false) else (if (a0.1 != 3) = true then (if (!(a0.2.2.2.1.toList == (⟨#[]⟩ : ByteArray).toList)) = true then (k0 false) else (k0 (decide ((a0.2.2.2.1.size : Int) ≤ 60)))) else (k0 (decide ((a0.2.2.2.1.size : Int) ≤ 60))))) else (if (a0.1 != 3) = true then (if (!(a0.2.2.2.1.toList == (⟨#[]⟩ : ByteArray).toList)) = true then (k0 false) else (k0 (decide ((a0.2.2.2.1.size : Int) ≤ 60)))) else (k0 (decide ((a0.2.2.2.1.size : Int) ≤ 60)))))))
def zBP_F {R : Type} := lazyN (@zBP_Fi R)
theorem zBP_e : @zBP_F R = @zBP_Fi R := lazyN_eq _
def zBP_g (n : Nat) : Gx R := typed 1 zBP_d fun x k => zBP_F n x.1 (fun y0 => k (.a (.c (.b y0))) [])
def zBP_cs (R : Type) (n : Nat) : List (Nat × Gx R) := []
def zBP_cx (R : Type) (n : Nat) : Cx R := ⟨Tryz.prog, Gof (zBP_cs R n), noDs, noDx, noLp, drawP Tryz.prog (Gof (zBP_cs R n)), false, noJn, noFz⟩
theorem zBP_ok [Esc R] (n : Nat) : Good Tryz.prog 125 (zBP_g (R := R) n) := by
  unfold zBP_g
  rw [zBP_e]
  exact Good.fn (cx := zBP_cx R n) (by kernel_rfl) (AllGood.nil) rfl Tryz.func125 (by kernel_rfl) rfl trivial 1 zBP_d (by kernel_rfl) (fun x k => by kernel_rfl)
def zB_ds : Nat → Desc
  | 1000009 => ⟨[(0, .d .str), (3, .d .str), (4, .d (.int .i64)), (5, .d (.int .u8)), (35, .d .bool)], []⟩
  | 1000007 => ⟨[(0, .d .str), (3, .d .str), (4, .d (.int .i64)), (5, .d (.int .u8)), (21, .d .bool)], []⟩
  | 3 => ⟨[(0, .d .str), (3, .d .str), (4, .d (.int .i64))], []⟩
  | _ => ⟨[], []⟩
def zB_dx : Nat → List (X × Desc)
  | 1000009 => [(.n, ⟨[(0, .d .str), (3, .d .str), (4, .d (.int .i64))], []⟩)]
  | 1000007 => [(.n, ⟨[(0, .d .str), (3, .d .str), (4, .d (.int .i64))], []⟩)]
  | 3 => [(.e 0, ⟨[(3, .d .str)], []⟩)]
  | _ => []
def zB_s1000009 (n : Nat) (x0 : ByteArray) (x1 : ByteArray) (x2 : Int) (x3 : Int) (x4 : Bool) (qn : ByteArray → ByteArray → Int → Option R) : Option R :=
  if x4 = true then (if x1.size + (⟨#[92, 120]⟩ : ByteArray).size ≤ 9223372036854775807 then (if (0 : Int) ≤ (IntKind.u8.wrap ((IntKind.u8.wrap (Int.tdiv x3 16)) + 1)) ∧ (IntKind.u8.wrap ((IntKind.u8.wrap (Int.tdiv x3 16)) + 1)) ≤ ((⟨#[48, 49, 50, 51, 52, 53, 54, 55, 56, 57, 97, 98, 99, 100, 101, 102]⟩ : ByteArray).size : Int) then (if (0 : Int) ≤ (IntKind.u8.wrap (Int.tdiv x3 16)) ∧ (IntKind.u8.wrap (Int.tdiv x3 16)) ≤ ((Int.toNat (IntKind.u8.wrap ((IntKind.u8.wrap (Int.tdiv x3 16)) + 1))) : Int) then (if (x1 ++ (⟨#[92, 120]⟩ : ByteArray)).size + ((⟨#[48, 49, 50, 51, 52, 53, 54, 55, 56, 57, 97, 98, 99, 100, 101, 102]⟩ : ByteArray).extract (Int.toNat (IntKind.u8.wrap (Int.tdiv x3 16))) (Int.toNat (IntKind.u8.wrap ((IntKind.u8.wrap (Int.tdiv x3 16)) + 1)))).size ≤ 9223372036854775807 then (if (0 : Int) ≤ (IntKind.u8.wrap ((Int.tmod x3 16) + 1)) ∧ (IntKind.u8.wrap ((Int.tmod x3 16) + 1)) ≤ ((⟨#[48, 49, 50, 51, 52, 53, 54, 55, 56, 57, 97, 98, 99, 100, 101, 102]⟩ : ByteArray).size : Int) then (if (0 : Int) ≤ (Int.tmod x3 16) ∧ (Int.tmod x3 16) ≤ ((Int.toNat (IntKind.u8.wrap ((Int.tmod x3 16) + 1))) : Int) then (if ((x1 ++ (⟨#[92, 120]⟩ : ByteArray)) ++ ((⟨#[48, 49, 50, 51, 52, 53, 54, 55, 56, 57, 97, 98, 99, 100, 101, 102]⟩ : ByteArray).extract (Int.toNat (IntKind.u8.wrap (Int.tdiv x3 16))) (Int.toNat (IntKind.u8.wrap ((IntKind.u8.wrap (Int.tdiv x3 16)) + 1))))).size + ((⟨#[48, 49, 50, 51, 52, 53, 54, 55, 56, 57, 97, 98, 99, 100, 101, 102]⟩ : ByteArray).extract (Int.toNat (Int.tmod x3 16)) (Int.toNat (IntKind.u8.wrap ((Int.tmod x3 16) + 1)))).size ≤ 9223372036854775807 then (qn x0 (((x1 ++ (⟨#[92, 120]⟩ : ByteArray)) ++ ((⟨#[48, 49, 50, 51, 52, 53, 54, 55, 56, 57, 97, 98, 99, 100, 101, 102]⟩ : ByteArray).extract (Int.toNat (IntKind.u8.wrap (Int.tdiv x3 16))) (Int.toNat (IntKind.u8.wrap ((IntKind.u8.wrap (Int.tdiv x3 16)) + 1))))) ++ ((⟨#[48, 49, 50, 51, 52, 53, 54, 55, 56, 57, 97, 98, 99, 100, 101, 102]⟩ : ByteArray).extract (Int.toNat (Int.tmod x3 16)) (Int.toNat (IntKind.u8.wrap ((Int.tmod x3 16) + 1))))) x2) else none) else none) else none) else none) else none) else none) else none) else (if (0 : Int) ≤ (IntKind.i64.wrap (x2 + 1)) ∧ (IntKind.i64.wrap (x2 + 1)) ≤ (x0.size : Int) then (if (0 : Int) ≤ x2 ∧ x2 ≤ ((Int.toNat (IntKind.i64.wrap (x2 + 1))) : Int) then (if x1.size + (x0.extract (Int.toNat x2) (Int.toNat (IntKind.i64.wrap (x2 + 1)))).size ≤ 9223372036854775807 then (qn x0 (x1 ++ (x0.extract (Int.toNat x2) (Int.toNat (IntKind.i64.wrap (x2 + 1))))) x2) else none) else none) else none)
def zB_li1000009 (n : Nat) (a : (zB_ds 1000009).D) (k2 : exK R (zB_dx 1000009)) : Option R :=
  zB_s1000009 n a.1 a.2.1 a.2.2.1 a.2.2.2.1 a.2.2.2.2.1 (fun x0 x1 x2 => k2.1 (x0, x1, x2, ()))
def zB_l1000009 {R : Type} := lazyN (@zB_li1000009 R)
theorem zB_e1000009 : @zB_l1000009 R = @zB_li1000009 R := lazyN_eq _
def zB_s1000007 (n : Nat) (x0 : ByteArray) (x1 : ByteArray) (x2 : Int) (x3 : Int) (x4 : Bool) (qn : ByteArray → ByteArray → Int → Option R) : Option R :=
  if x4 = true then (if x1.size + (⟨#[92]⟩ : ByteArray).size ≤ 9223372036854775807 then (if (0 : Int) ≤ (IntKind.i64.wrap (x2 + 1)) ∧ (IntKind.i64.wrap (x2 + 1)) ≤ (x0.size : Int) then (if (0 : Int) ≤ x2 ∧ x2 ≤ ((Int.toNat (IntKind.i64.wrap (x2 + 1))) : Int) then (if (x1 ++ (⟨#[92]⟩ : ByteArray)).size + (x0.extract (Int.toNat x2) (Int.toNat (IntKind.i64.wrap (x2 + 1)))).size ≤ 9223372036854775807 then (qn x0 ((x1 ++ (⟨#[92]⟩ : ByteArray)) ++ (x0.extract (Int.toNat x2) (Int.toNat (IntKind.i64.wrap (x2 + 1))))) x2) else none) else none) else none) else none) else (if (decide (x3 < 32)) = true then (zB_l1000009 n (x0, x1, x2, x3, true, ()) (fun b3 => qn b3.1 b3.2.1 b3.2.2.1, ())) else (zB_l1000009 n (x0, x1, x2, x3, (decide (x3 > 126)), ()) (fun b6 => qn b6.1 b6.2.1 b6.2.2.1, ())))
def zB_li1000007 (n : Nat) (a : (zB_ds 1000007).D) (k2 : exK R (zB_dx 1000007)) : Option R :=
  zB_s1000007 n a.1 a.2.1 a.2.2.1 a.2.2.2.1 a.2.2.2.2.1 (fun x0 x1 x2 => k2.1 (x0, x1, x2, ()))
def zB_l1000007 {R : Type} := lazyN (@zB_li1000007 R)
theorem zB_e1000007 : @zB_l1000007 R = @zB_li1000007 R := lazyN_eq _
def zB_s3 (n : Nat) (x0 : ByteArray) (x1 : ByteArray) (x2 : Int) (k1 : ByteArray → ByteArray → Int → Option R) (qe0 : ByteArray → Option R) : Option R :=
  if (decide (x2 < (x0.size : Int))) = true then (if (0 : Int) ≤ x2 then if x2 < (x0.size : Int) then (if ((byteAt x0 x2) == 34) = true then (zB_l1000007 n (x0, x1, x2, (byteAt x0 x2), true, ()) (fun b9 => k1 b9.1 b9.2.1 (IntKind.i64.wrap (b9.2.2.1 + 1)), ())) else (zB_l1000007 n (x0, x1, x2, (byteAt x0 x2), ((byteAt x0 x2) == 92), ()) (fun b12 => k1 b12.1 b12.2.1 (IntKind.i64.wrap (b12.2.2.1 + 1)), ()))) else none else none) else (qe0 x1)
def zB_l3 (n : Nat) (a : (zB_ds 3).D) (k1 : (zB_ds 3).D → Option R) (k2 : exK R (zB_dx 3)) : Option R :=
  zB_s3 n a.1 a.2.1 a.2.2.1 (fun x0 x1 x2 => k1 (x0, x1, x2, ())) (fun x0 => k2.1 (x0, ()))
@[reducible] def zB_d : Desc := ⟨[(0, .d .str)], []⟩
def zB_Fi (n : Nat) (a0 : ByteArray) (k0 : ByteArray → Option R) : Option R :=
  runC (zB_l3 n) n (a0, (⟨#[34]⟩ : ByteArray), 0, ()) (fun b13 => if b13.1.size + (⟨#[34]⟩ : ByteArray).size ≤ 9223372036854775807 then (k0 (b13.1 ++ (⟨#[34]⟩ : ByteArray))) else none, ())
def zB_F {R : Type} := lazyN (@zB_Fi R)
theorem zB_e : @zB_F R = @zB_Fi R := lazyN_eq _
def zB_g (n : Nat) : Gx R := typed 1 zB_d fun x k => zB_F n x.1 (fun y0 => k (.a (.c (.s y0))) [])
def zB_cs (R : Type) (n : Nat) : List (Nat × Gx R) := []
def zB_lp (n : Nat) : (i : Nat) → (zB_ds i).D → exK R (zB_dx i) → Option R
  | 1000009, a, k => zB_l1000009 n a k
  | 1000007, a, k => zB_l1000007 n a k
  | 3, a, k => runC (zB_l3 n) n a k
  | _, _, _ => none
def zB_cx (R : Type) (n : Nat) : Cx R := ⟨Tryz.prog, Gof (zB_cs R n), zB_ds, zB_dx, zB_lp n, drawP Tryz.prog (Gof (zB_cs R n)), false, (memN [9, 7]), noFz⟩
theorem zB_ok [Esc R] (n : Nat) : Good Tryz.prog 126 (zB_g (R := R) n) := by
  unfold zB_g
  rw [zB_e]
  exact Good.fn (cx := zB_cx R n) (by kernel_rfl) (AllGood.nil) rfl Tryz.func126 (by kernel_rfl) rfl (by
    have e : fnLoops (memN [9, 7]) Tryz.f126 = [((fnLoops (memN [9, 7]) Tryz.f126)[0]?).getD (false, .skip), ((fnLoops (memN [9, 7]) Tryz.f126)[1]?).getD (false, .skip), ((fnLoops (memN [9, 7]) Tryz.f126)[2]?).getD (false, .skip)] := by kernel_rfl
    show LoopRuns _ _ (fnLoops (memN [9, 7]) _)
    rw [e]
    exact ⟨LoopRun.loop (by kernel_rfl) (i := 3) (m := n) (step := zB_l3 n) (by kernel_rfl) (fun a k1 k2 => by kernel_rfl) (fun _ _ => rfl), ⟨LoopRun.joinS (by kernel_rfl) (i := 7) (L := zB_l1000007 n) (Li := zB_li1000007 n) (by rw [zB_e1000007]) (by kernel_rfl) (fun a k => by kernel_rfl) (fun a k => by kernel_rfl), ⟨LoopRun.joinS (by kernel_rfl) (i := 9) (L := zB_l1000009 n) (Li := zB_li1000009 n) (by rw [zB_e1000009]) (by kernel_rfl) (fun a k => by kernel_rfl) (fun a k => by kernel_rfl), trivial⟩⟩⟩) 1 zB_d (by kernel_rfl) (fun x k => by kernel_rfl)
@[reducible] def zBY_d : Desc := ⟨[(0, .d ty46)], []⟩
def zBY_Fi (n : Nat) (a0 : ty46.D) (k0 : ByteArray → Option R) : Option R :=
  zBP_F n a0 (fun y1 => if (!y1) = true then (k0 (⟨#[]⟩ : ByteArray)) else (if (a0.1 == 0) = true then (k0 (⟨#[110, 117, 108, 108]⟩ : ByteArray)) else (if (a0.1 == 1) = true then (if a0.2.1 = true then (k0 (⟨#[116, 114, 117, 101]⟩ : ByteArray)) else (k0 (⟨#[102, 97, 108, 115, 101]⟩ : ByteArray))) else (if (a0.1 == 2) = true then (zBI_F n a0.2.2.1 (fun y2 => k0 y2)) else (zB_F n a0.2.2.2.1 (fun y3 => k0 y3))))))
def zBY_F {R : Type} := lazyN (@zBY_Fi R)
theorem zBY_e : @zBY_F R = @zBY_Fi R := lazyN_eq _
def zBY_g (n : Nat) : Gx R := typed 1 zBY_d fun x k => zBY_F n x.1 (fun y0 => k (.a (.c (.s y0))) [])
def zBY_cs (R : Type) (n : Nat) : List (Nat × Gx R) := [(123, zBI_g n), (125, zBP_g n), (126, zB_g n)]
def zBY_cx (R : Type) (n : Nat) : Cx R := ⟨Tryz.prog, Gof (zBY_cs R n), noDs, noDx, noLp, drawP Tryz.prog (Gof (zBY_cs R n)), false, noJn, noFz⟩
theorem zBY_ok [Esc R] (n : Nat) : Good Tryz.prog 101 (zBY_g (R := R) n) := by
  unfold zBY_g
  rw [zBY_e]
  exact Good.fn (cx := zBY_cx R n) (by kernel_rfl) (AllGood.cons (zBI_ok n) (AllGood.cons (zBP_ok n) (AllGood.cons (zB_ok n) (AllGood.nil)))) rfl Tryz.func101 (by kernel_rfl) rfl trivial 1 zBY_d (by kernel_rfl) (fun x k => by kernel_rfl)
@[reducible] def zCA_d : Desc := ⟨[(0, .d (.int .u8))], []⟩
def zCA_Fi (n : Nat) (a0 : Int) (k0 : Int → Option R) : Option R :=
  if (decide (a0 ≥ 48)) = true then (if (decide (a0 ≤ 57)) = true then (k0 (IntKind.i64.wrap (IntKind.u8.wrap (a0 - 48)))) else (if (decide (a0 ≥ 97)) = true then (if (decide (a0 ≤ 102)) = true then (k0 (IntKind.i64.wrap ((IntKind.i64.wrap (IntKind.u8.wrap (a0 - 97))) + 10))) else (k0 (-1))) else (k0 (-1)))) else (if (decide (a0 ≥ 97)) = true then (if (decide (a0 ≤ 102)) = true then (k0 (IntKind.i64.wrap ((IntKind.i64.wrap (IntKind.u8.wrap (a0 - 97))) + 10))) else (k0 (-1))) else (k0 (-1)))
def zCA_F {R : Type} := lazyN (@zCA_Fi R)
theorem zCA_e : @zCA_F R = @zCA_Fi R := lazyN_eq _
def zCA_g (n : Nat) : Gx R := typed 1 zCA_d fun x k => zCA_F n x.1 (fun y0 => k (.a (.c (.i .i64 y0))) [])
def zCA_cs (R : Type) (n : Nat) : List (Nat × Gx R) := []
def zCA_cx (R : Type) (n : Nat) : Cx R := ⟨Tryz.prog, Gof (zCA_cs R n), noDs, noDx, noLp, drawP Tryz.prog (Gof (zCA_cs R n)), false, noJn, noFz⟩
theorem zCA_ok [Esc R] (n : Nat) : Good Tryz.prog 124 (zCA_g (R := R) n) := by
  unfold zCA_g
  rw [zCA_e]
  exact Good.fn (cx := zCA_cx R n) (by kernel_rfl) (AllGood.nil) rfl Tryz.func124 (by kernel_rfl) rfl trivial 1 zCA_d (by kernel_rfl) (fun x k => by kernel_rfl)
def zJ_ds : Nat → Desc
  | 3 => ⟨[(0, .d .str), (3, .ow 0), (4, .d (.int .i64))], [.arr 5 (.int .u8)]⟩
  | _ => ⟨[], []⟩
def zJ_dx : Nat → List (X × Desc)
  | 3 => [(.r, ⟨[(2, .d .str)], []⟩), (.e 0, ⟨[(3, .ow 0)], [.arr 5 (.int .u8)]⟩)]
  | _ => []
def zJ_s3 (n : Nat) (x0 : ByteArray) (x1 : Int) (x2 : (List Int)) (k1 : ByteArray → Int → (List Int) → Option R) (qr : ByteArray → Option R) (qe0 : (List Int) → Option R) : Option R :=
  if (decide (x1 < (IntKind.i64.wrap ((x0.size : Int) - 1)))) = true then (if (0 : Int) ≤ x1 then if x1 < (x0.size : Int) then (if ((byteAt x0 x1) != 92) = true then (if (0 : Int) ≤ x1 then if x1 < (x0.size : Int) then (if (List.length x2 + List.length [(byteAt x0 x1)]) * 1 ≤ 140737488355328 then (k1 x0 (IntKind.i64.wrap (x1 + 1)) (x2 ++ [(byteAt x0 x1)])) else none) else none else none) else (if (0 : Int) ≤ (IntKind.i64.wrap (x1 + 1)) then if (IntKind.i64.wrap (x1 + 1)) < (x0.size : Int) then (if ((byteAt x0 (IntKind.i64.wrap (x1 + 1))) != 120) = true then (if (0 : Int) ≤ (IntKind.i64.wrap (x1 + 1)) then if (IntKind.i64.wrap (x1 + 1)) < (x0.size : Int) then (if (List.length x2 + List.length [(byteAt x0 (IntKind.i64.wrap (x1 + 1)))]) * 1 ≤ 140737488355328 then (k1 x0 (IntKind.i64.wrap ((IntKind.i64.wrap (x1 + 1)) + 1)) (x2 ++ [(byteAt x0 (IntKind.i64.wrap (x1 + 1)))])) else none) else none else none) else (if (decide ((IntKind.i64.wrap (x1 + 3)) ≥ (IntKind.i64.wrap ((x0.size : Int) - 1)))) = true then (qr (strOfNums x2)) else (if (0 : Int) ≤ (IntKind.i64.wrap (x1 + 2)) then if (IntKind.i64.wrap (x1 + 2)) < (x0.size : Int) then (zCA_F n (byteAt x0 (IntKind.i64.wrap (x1 + 2))) (fun y1 => if (0 : Int) ≤ (IntKind.i64.wrap (x1 + 3)) then if (IntKind.i64.wrap (x1 + 3)) < (x0.size : Int) then (zCA_F n (byteAt x0 (IntKind.i64.wrap (x1 + 3))) (fun y2 => if (List.length x2 + List.length [(IntKind.u8.wrap (IntKind.i64.wrap ((IntKind.i64.wrap (16 * y1)) + y2)))]) * 1 ≤ 140737488355328 then (k1 x0 (IntKind.i64.wrap ((IntKind.i64.wrap (x1 + 3)) + 1)) (x2 ++ [(IntKind.u8.wrap (IntKind.i64.wrap ((IntKind.i64.wrap (16 * y1)) + y2)))])) else none)) else none else none)) else none else none))) else none else none)) else none else none) else (qe0 x2)
def zJ_l3 (n : Nat) (a : (zJ_ds 3).D) (k1 : (zJ_ds 3).D → Option R) (k2 : exK R (zJ_dx 3)) : Option R :=
  zJ_s3 n a.1 a.2.1 a.2.2.1 (fun x0 x1 x2 => k1 (x0, x1, x2, ())) (fun x0 => k2.1 (x0, ())) (fun x0 => k2.2.1 (x0, ()))
@[reducible] def zJ_d : Desc := ⟨[(0, .d .str)], []⟩
def zJ_Fi (n : Nat) (a0 : ByteArray) (k0 : ByteArray → Option R) : Option R :=
  runC (zJ_l3 n) n (a0, 1, ([] : List Int), ()) (fun b3 => k0 b3.1, fun b4 => k0 (strOfNums b4.1), ())
def zJ_F {R : Type} := lazyN (@zJ_Fi R)
theorem zJ_e : @zJ_F R = @zJ_Fi R := lazyN_eq _
def zJ_g (n : Nat) : Gx R := typed 1 zJ_d fun x k => zJ_F n x.1 (fun y0 => k (.a (.c (.s y0))) [])
def zJ_cs (R : Type) (n : Nat) : List (Nat × Gx R) := [(124, zCA_g n)]
def zJ_lp (n : Nat) : (i : Nat) → (zJ_ds i).D → exK R (zJ_dx i) → Option R
  | 3, a, k => runC (zJ_l3 n) n a k
  | _, _, _ => none
def zJ_cx (R : Type) (n : Nat) : Cx R := ⟨Tryz.prog, Gof (zJ_cs R n), zJ_ds, zJ_dx, zJ_lp n, drawP Tryz.prog (Gof (zJ_cs R n)), false, noJn, noFz⟩
theorem zJ_ok [Esc R] (n : Nat) : Good Tryz.prog 100 (zJ_g (R := R) n) := by
  unfold zJ_g
  rw [zJ_e]
  exact Good.fn (cx := zJ_cx R n) (by kernel_rfl) (AllGood.cons (zCA_ok n) (AllGood.nil)) rfl Tryz.func100 (by kernel_rfl) rfl (by
    have e : fnLoops noJn Tryz.f100 = [((fnLoops noJn Tryz.f100)[0]?).getD (false, .skip)] := by kernel_rfl
    show LoopRuns _ _ (fnLoops noJn _)
    rw [e]
    exact ⟨LoopRun.loop (by kernel_rfl) (i := 3) (m := n) (step := zJ_l3 n) (by kernel_rfl) (fun a k1 k2 => by kernel_rfl) (fun _ _ => rfl), trivial⟩) 1 zJ_d (by kernel_rfl) (fun x k => by kernel_rfl)
def zQ_ds : Nat → Desc
  | 1000009 => ⟨[(0, .d .str), (2, .pt 0 0), (4, .pt 1 0)], [.box false 46 [.d (.int .i64), .d .bool, .d (.int .i64), .d .str], .box false 46 [.d (.int .i64), .d .bool, .d (.int .i64), .d .str]]⟩
  | _ => ⟨[], []⟩
def zQ_dx : Nat → List (X × Desc)
  | 1000009 => [(.r, ⟨[(2, .pt 0 0), (3, .d (.int .i64))], [.box false 46 [.d (.int .i64), .d .bool, .d (.int .i64), .d .str]]⟩)]
  | _ => []
def zQ_s1000009 (n : Nat) (x0 : ByteArray) (x1 : Int) (x2 : Bool) (x3 : Int) (x4 : ByteArray) (x5 : Int) (x6 : Bool) (x7 : Int) (x8 : ByteArray) (qr : Int → Int → Bool → Int → ByteArray → Option R) : Option R :=
  if (x0.toList == (⟨#[]⟩ : ByteArray).toList) = true then (qr 7 0 false 0 (⟨#[]⟩ : ByteArray)) else (zBY_F n (x5, x6, x7, x8, ()) (fun y3 => if (!(y3.toList == x0.toList)) = true then (qr 7 0 false 0 (⟨#[]⟩ : ByteArray)) else (qr 0 x5 x6 x7 x8)))
def zQ_li1000009 (n : Nat) (a : (zQ_ds 1000009).D) (k2 : exK R (zQ_dx 1000009)) : Option R :=
  zQ_s1000009 n a.1 a.2.1 a.2.2.1 a.2.2.2.1 a.2.2.2.2.1 a.2.2.2.2.2.1 a.2.2.2.2.2.2.1 a.2.2.2.2.2.2.2.1 a.2.2.2.2.2.2.2.2.1 (fun x0 x1 x2 x3 x4 => k2.1 (x0, x1, x2, x3, x4, ()))
def zEI {R : Type} := lazyN (@zQ_li1000009 R)
theorem zQ_e1000009 : @zEI R = @zQ_li1000009 R := lazyN_eq _
@[reducible] def zQ_d : Desc := ⟨[(0, .d .str)], []⟩
def zQ_Fi (n : Nat) (a0 : ByteArray) (k0 : ty46.D → Int → Option R) : Option R :=
  zD_F n a0 (fun y1 y2 => if (a0.toList == (⟨#[116, 114, 117, 101]⟩ : ByteArray).toList) = true then (zEI n (a0, 0, false, 0, (⟨#[]⟩ : ByteArray), 1, (a0.toList == (⟨#[116, 114, 117, 101]⟩ : ByteArray).toList), 0, (⟨#[]⟩ : ByteArray), ()) (fun b8 => k0 (b8.2.1, b8.2.2.1, b8.2.2.2.1, b8.2.2.2.2.1, ()) b8.1, ())) else (if (a0.toList == (⟨#[102, 97, 108, 115, 101]⟩ : ByteArray).toList) = true then (zEI n (a0, 0, false, 0, (⟨#[]⟩ : ByteArray), 1, (a0.toList == (⟨#[116, 114, 117, 101]⟩ : ByteArray).toList), 0, (⟨#[]⟩ : ByteArray), ()) (fun b13 => k0 (b13.2.1, b13.2.2.1, b13.2.2.2.1, b13.2.2.2.2.1, ()) b13.1, ())) else (if y2 = true then (zEI n (a0, 0, false, 0, (⟨#[]⟩ : ByteArray), 2, false, y1, (⟨#[]⟩ : ByteArray), ()) (fun b18 => k0 (b18.2.1, b18.2.2.1, b18.2.2.2.1, b18.2.2.2.2.1, ()) b18.1, ())) else (if (decide ((a0.size : Int) ≥ 2)) = true then (if (0 : Int) ≤ 0 then if 0 < (a0.size : Int) then (if ((byteAt a0 0) == 34) = true then (if (decide ((a0.size : Int) ≤ 300)) = true then (zJ_F n a0 (fun y19 => zEI n (a0, 0, false, 0, (⟨#[]⟩ : ByteArray), 3, false, 0, y19, ()) (fun b24 => k0 (b24.2.1, b24.2.2.1, b24.2.2.2.1, b24.2.2.2.2.1, ()) b24.1, ()))) else (zEI n (a0, 0, false, 0, (⟨#[]⟩ : ByteArray), 0, false, 0, (⟨#[]⟩ : ByteArray), ()) (fun b29 => k0 (b29.2.1, b29.2.2.1, b29.2.2.2.1, b29.2.2.2.2.1, ()) b29.1, ()))) else (zEI n (a0, 0, false, 0, (⟨#[]⟩ : ByteArray), 0, false, 0, (⟨#[]⟩ : ByteArray), ()) (fun b34 => k0 (b34.2.1, b34.2.2.1, b34.2.2.2.1, b34.2.2.2.2.1, ()) b34.1, ()))) else none else none) else (zEI n (a0, 0, false, 0, (⟨#[]⟩ : ByteArray), 0, false, 0, (⟨#[]⟩ : ByteArray), ()) (fun b39 => k0 (b39.2.1, b39.2.2.1, b39.2.2.2.1, b39.2.2.2.2.1, ()) b39.1, ()))))))
def zQ_F {R : Type} := lazyN (@zQ_Fi R)
theorem zQ_e : @zQ_F R = @zQ_Fi R := lazyN_eq _
def zQ_g (n : Nat) : Gx R := typed 1 zQ_d fun x k => zQ_F n x.1 (fun y0 y1 => k (.tu [(encA ty46 y0), (.c (.i .i64 y1))]) [])
def zQ_cs (R : Type) (n : Nat) : List (Nat × Gx R) := [(99, zD_g n), (100, zJ_g n), (101, zBY_g n)]
def zQ_lp (n : Nat) : (i : Nat) → (zQ_ds i).D → exK R (zQ_dx i) → Option R
  | 1000009, a, k => zEI n a k
  | _, _, _ => none
def zQ_cx (R : Type) (n : Nat) : Cx R := ⟨Tryz.prog, Gof (zQ_cs R n), zQ_ds, zQ_dx, zQ_lp n, drawP Tryz.prog (Gof (zQ_cs R n)), false, (memN [9]), noFz⟩
theorem zQ_ok [Esc R] (n : Nat) : Good Tryz.prog 66 (zQ_g (R := R) n) := by
  unfold zQ_g
  rw [zQ_e]
  exact Good.fn (cx := zQ_cx R n) (by kernel_rfl) (AllGood.cons (zD_ok n) (AllGood.cons (zJ_ok n) (AllGood.cons (zBY_ok n) (AllGood.nil)))) rfl Tryz.func66 (by kernel_rfl) rfl (by
    have e : fnLoops (memN [9]) Tryz.f66 = [((fnLoops (memN [9]) Tryz.f66)[0]?).getD (false, .skip)] := by kernel_rfl
    show LoopRuns _ _ (fnLoops (memN [9]) _)
    rw [e]
    exact ⟨LoopRun.joinS (by kernel_rfl) (i := 9) (L := zEI n) (Li := zQ_li1000009 n) (by rw [zQ_e1000009]) (by kernel_rfl) (fun a k => by kernel_rfl) (fun a k => by kernel_rfl), trivial⟩) 1 zQ_d (by kernel_rfl) (fun x k => by kernel_rfl)
@[reducible] def zBD_d : Desc := ⟨[(0, .d (.int .u8))], []⟩
def zBD_Fi (n : Nat) (a0 : Int) (k0 : Bool → Option R) : Option R :=
  if (decide (a0 ≥ 97)) = true then (k0 (decide (a0 ≤ 122))) else (k0 false)
def zBD_F {R : Type} := lazyN (@zBD_Fi R)
theorem zBD_e : @zBD_F R = @zBD_Fi R := lazyN_eq _
def zBD_g (n : Nat) : Gx R := typed 1 zBD_d fun x k => zBD_F n x.1 (fun y0 => k (.a (.c (.b y0))) [])
def zBD_cs (R : Type) (n : Nat) : List (Nat × Gx R) := []
def zBD_cx (R : Type) (n : Nat) : Cx R := ⟨Tryz.prog, Gof (zBD_cs R n), noDs, noDx, noLp, drawP Tryz.prog (Gof (zBD_cs R n)), false, noJn, noFz⟩
theorem zBD_ok [Esc R] (n : Nat) : Good Tryz.prog 64 (zBD_g (R := R) n) := by
  unfold zBD_g
  rw [zBD_e]
  exact Good.fn (cx := zBD_cx R n) (by kernel_rfl) (AllGood.nil) rfl Tryz.func64 (by kernel_rfl) rfl trivial 1 zBD_d (by kernel_rfl) (fun x k => by kernel_rfl)
@[reducible] def zBE_d : Desc := ⟨[(0, .d (.int .u8))], []⟩
def zBE_Fi (n : Nat) (a0 : Int) (k0 : Bool → Option R) : Option R :=
  if (decide (a0 ≥ 48)) = true then (k0 (decide (a0 ≤ 57))) else (k0 false)
def zBE_F {R : Type} := lazyN (@zBE_Fi R)
theorem zBE_e : @zBE_F R = @zBE_Fi R := lazyN_eq _
def zBE_g (n : Nat) : Gx R := typed 1 zBE_d fun x k => zBE_F n x.1 (fun y0 => k (.a (.c (.b y0))) [])
def zBE_cs (R : Type) (n : Nat) : List (Nat × Gx R) := []
def zBE_cx (R : Type) (n : Nat) : Cx R := ⟨Tryz.prog, Gof (zBE_cs R n), noDs, noDx, noLp, drawP Tryz.prog (Gof (zBE_cs R n)), false, noJn, noFz⟩
theorem zBE_ok [Esc R] (n : Nat) : Good Tryz.prog 67 (zBE_g (R := R) n) := by
  unfold zBE_g
  rw [zBE_e]
  exact Good.fn (cx := zBE_cx R n) (by kernel_rfl) (AllGood.nil) rfl Tryz.func67 (by kernel_rfl) rfl trivial 1 zBE_d (by kernel_rfl) (fun x k => by kernel_rfl)
def zAM_ds : Nat → Desc
  | 2 => ⟨[(0, .d .str), (3, .d (.int .i64))], []⟩
  | _ => ⟨[], []⟩
def zAM_dx : Nat → List (X × Desc)
  | 2 => [(.e 0, ⟨[(3, .d (.int .i64))], []⟩)]
  | _ => []
def zAM_s2 (n : Nat) (x0 : ByteArray) (x1 : Int) (k1 : ByteArray → Int → Option R) (qe0 : Int → Option R) : Option R :=
  if (decide (x1 < (x0.size : Int))) = true then (if (0 : Int) ≤ x1 then if x1 < (x0.size : Int) then (zBD_F n (byteAt x0 x1) (fun y1 => if y1 = true then (k1 x0 (IntKind.i64.wrap (x1 + 1))) else (if (decide (x1 > 0)) = true then (if (0 : Int) ≤ x1 then if x1 < (x0.size : Int) then (zBE_F n (byteAt x0 x1) (fun y2 => if y2 = true then (k1 x0 (IntKind.i64.wrap (x1 + 1))) else (if (0 : Int) ≤ x1 then if x1 < (x0.size : Int) then (if ((byteAt x0 x1) == 95) = true then (k1 x0 (IntKind.i64.wrap (x1 + 1))) else (qe0 x1)) else none else none))) else none else none) else (qe0 x1)))) else none else none) else (qe0 x1)
def zAM_l2 (n : Nat) (a : (zAM_ds 2).D) (k1 : (zAM_ds 2).D → Option R) (k2 : exK R (zAM_dx 2)) : Option R :=
  zAM_s2 n a.1 a.2.1 (fun x0 x1 => k1 (x0, x1, ())) (fun x0 => k2.1 (x0, ()))
@[reducible] def zAM_d : Desc := ⟨[(0, .d .str)], []⟩
def zAM_Fi (n : Nat) (a0 : ByteArray) (k0 : Int → Option R) : Option R :=
  runC (zAM_l2 n) n (a0, 0, ()) (fun b3 => k0 b3.1, ())
def zAM_F {R : Type} := lazyN (@zAM_Fi R)
theorem zAM_e : @zAM_F R = @zAM_Fi R := lazyN_eq _
def zAM_g (n : Nat) : Gx R := typed 1 zAM_d fun x k => zAM_F n x.1 (fun y0 => k (.a (.c (.i .i64 y0))) [])
def zAM_cs (R : Type) (n : Nat) : List (Nat × Gx R) := [(64, zBD_g n), (67, zBE_g n)]
def zAM_lp (n : Nat) : (i : Nat) → (zAM_ds i).D → exK R (zAM_dx i) → Option R
  | 2, a, k => runC (zAM_l2 n) n a k
  | _, _, _ => none
def zAM_cx (R : Type) (n : Nat) : Cx R := ⟨Tryz.prog, Gof (zAM_cs R n), zAM_ds, zAM_dx, zAM_lp n, drawP Tryz.prog (Gof (zAM_cs R n)), false, noJn, noFz⟩
theorem zAM_ok [Esc R] (n : Nat) : Good Tryz.prog 65 (zAM_g (R := R) n) := by
  unfold zAM_g
  rw [zAM_e]
  exact Good.fn (cx := zAM_cx R n) (by kernel_rfl) (AllGood.cons (zBD_ok n) (AllGood.cons (zBE_ok n) (AllGood.nil))) rfl Tryz.func65 (by kernel_rfl) rfl (by
    have e : fnLoops noJn Tryz.f65 = [((fnLoops noJn Tryz.f65)[0]?).getD (false, .skip)] := by kernel_rfl
    show LoopRuns _ _ (fnLoops noJn _)
    rw [e]
    exact ⟨LoopRun.loop (by kernel_rfl) (i := 2) (m := n) (step := zAM_l2 n) (by kernel_rfl) (fun a k1 k2 => by kernel_rfl) (fun _ _ => rfl), trivial⟩) 1 zAM_d (by kernel_rfl) (fun x k => by kernel_rfl)
def zY_ds : Nat → Desc
  | 4 => ⟨[(0, .d .str), (3, .d (.int .i64))], []⟩
  | _ => ⟨[], []⟩
def zY_dx : Nat → List (X × Desc)
  | 4 => [(.e 0, ⟨[(3, .d (.int .i64))], []⟩)]
  | _ => []
def zY_s4 (n : Nat) (x0 : ByteArray) (x1 : Int) (k1 : ByteArray → Int → Option R) (qe0 : Int → Option R) : Option R :=
  if (decide (x1 < (x0.size : Int))) = true then (if (0 : Int) ≤ x1 then if x1 < (x0.size : Int) then (zBE_F n (byteAt x0 x1) (fun y1 => if y1 = true then (k1 x0 (IntKind.i64.wrap (x1 + 1))) else (qe0 x1))) else none else none) else (qe0 x1)
def zY_l4 (n : Nat) (a : (zY_ds 4).D) (k1 : (zY_ds 4).D → Option R) (k2 : exK R (zY_dx 4)) : Option R :=
  zY_s4 n a.1 a.2.1 (fun x0 x1 => k1 (x0, x1, ())) (fun x0 => k2.1 (x0, ()))
@[reducible] def zY_d : Desc := ⟨[(0, .d .str)], []⟩
def zY_Fi (n : Nat) (a0 : ByteArray) (k0 : Int → Option R) : Option R :=
  if (decide ((a0.size : Int) > 0)) = true then (if (0 : Int) ≤ 0 then if 0 < (a0.size : Int) then (if ((byteAt a0 0) == 45) = true then (runC (zY_l4 n) n (a0, 1, ()) (fun b2 => k0 b2.1, ())) else (runC (zY_l4 n) n (a0, 0, ()) (fun b3 => k0 b3.1, ()))) else none else none) else (runC (zY_l4 n) n (a0, 0, ()) (fun b4 => k0 b4.1, ()))
def zY_F {R : Type} := lazyN (@zY_Fi R)
theorem zY_e : @zY_F R = @zY_Fi R := lazyN_eq _
def zY_g (n : Nat) : Gx R := typed 1 zY_d fun x k => zY_F n x.1 (fun y0 => k (.a (.c (.i .i64 y0))) [])
def zY_cs (R : Type) (n : Nat) : List (Nat × Gx R) := [(67, zBE_g n)]
def zY_lp (n : Nat) : (i : Nat) → (zY_ds i).D → exK R (zY_dx i) → Option R
  | 4, a, k => runC (zY_l4 n) n a k
  | _, _, _ => none
def zY_cx (R : Type) (n : Nat) : Cx R := ⟨Tryz.prog, Gof (zY_cs R n), zY_ds, zY_dx, zY_lp n, drawP Tryz.prog (Gof (zY_cs R n)), false, noJn, noFz⟩
theorem zY_ok [Esc R] (n : Nat) : Good Tryz.prog 68 (zY_g (R := R) n) := by
  unfold zY_g
  rw [zY_e]
  exact Good.fn (cx := zY_cx R n) (by kernel_rfl) (AllGood.cons (zBE_ok n) (AllGood.nil)) rfl Tryz.func68 (by kernel_rfl) rfl (by
    have e : fnLoops noJn Tryz.f68 = [((fnLoops noJn Tryz.f68)[0]?).getD (false, .skip)] := by kernel_rfl
    show LoopRuns _ _ (fnLoops noJn _)
    rw [e]
    exact ⟨LoopRun.loop (by kernel_rfl) (i := 4) (m := n) (step := zY_l4 n) (by kernel_rfl) (fun a k1 k2 => by kernel_rfl) (fun _ _ => rfl), trivial⟩) 1 zY_d (by kernel_rfl) (fun x k => by kernel_rfl)
@[reducible] def zBX_d : Desc := ⟨[(0, .d .str)], []⟩
def zBX_Fi (n : Nat) (a0 : ByteArray) (k0 : Int → Option R) : Option R :=
  if (decide ((a0.size : Int) ≥ 2)) = true then (if (0 : Int) ≤ 1 then if 1 < (a0.size : Int) then (if ((byteAt a0 1) == 61) = true then (if (0 : Int) ≤ 0 then if 0 < (a0.size : Int) then (if ((byteAt a0 0) == 61) = true then (k0 2) else (if (0 : Int) ≤ 0 then if 0 < (a0.size : Int) then (if ((byteAt a0 0) == 33) = true then (k0 2) else (if (0 : Int) ≤ 0 then if 0 < (a0.size : Int) then (if ((byteAt a0 0) == 60) = true then (k0 2) else (if (0 : Int) ≤ 0 then if 0 < (a0.size : Int) then (if ((byteAt a0 0) == 62) = true then (k0 2) else (if (0 : Int) ≤ 0 then if 0 < (a0.size : Int) then (if ((byteAt a0 0) == 40) = true then (k0 1) else (if ((byteAt a0 0) == 41) = true then (k0 1) else (if ((byteAt a0 0) == 44) = true then (k0 1) else (if ((byteAt a0 0) == 95) = true then (k0 1) else (if ((byteAt a0 0) == 60) = true then (k0 1) else (if ((byteAt a0 0) == 62) = true then (k0 1) else (k0 0))))))) else none else none)) else none else none)) else none else none)) else none else none)) else none else none) else (if (0 : Int) ≤ 0 then if 0 < (a0.size : Int) then (if ((byteAt a0 0) == 40) = true then (k0 1) else (if ((byteAt a0 0) == 41) = true then (k0 1) else (if ((byteAt a0 0) == 44) = true then (k0 1) else (if ((byteAt a0 0) == 95) = true then (k0 1) else (if ((byteAt a0 0) == 60) = true then (k0 1) else (if ((byteAt a0 0) == 62) = true then (k0 1) else (k0 0))))))) else none else none)) else none else none) else (if (0 : Int) ≤ 0 then if 0 < (a0.size : Int) then (if ((byteAt a0 0) == 40) = true then (k0 1) else (if ((byteAt a0 0) == 41) = true then (k0 1) else (if ((byteAt a0 0) == 44) = true then (k0 1) else (if ((byteAt a0 0) == 95) = true then (k0 1) else (if ((byteAt a0 0) == 60) = true then (k0 1) else (if ((byteAt a0 0) == 62) = true then (k0 1) else (k0 0))))))) else none else none)
def zBX_F {R : Type} := lazyN (@zBX_Fi R)
theorem zBX_e : @zBX_F R = @zBX_Fi R := lazyN_eq _
def zBX_g (n : Nat) : Gx R := typed 1 zBX_d fun x k => zBX_F n x.1 (fun y0 => k (.a (.c (.i .i64 y0))) [])
def zBX_cs (R : Type) (n : Nat) : List (Nat × Gx R) := []
def zBX_cx (R : Type) (n : Nat) : Cx R := ⟨Tryz.prog, Gof (zBX_cs R n), noDs, noDx, noLp, drawP Tryz.prog (Gof (zBX_cs R n)), false, noJn, noFz⟩
theorem zBX_ok [Esc R] (n : Nat) : Good Tryz.prog 70 (zBX_g (R := R) n) := by
  unfold zBX_g
  rw [zBX_e]
  exact Good.fn (cx := zBX_cx R n) (by kernel_rfl) (AllGood.nil) rfl Tryz.func70 (by kernel_rfl) rfl trivial 1 zBX_d (by kernel_rfl) (fun x k => by kernel_rfl)
def zAI_ds : Nat → Desc
  | 2 => ⟨[(0, .d .str), (3, .d (.int .i64))], []⟩
  | _ => ⟨[], []⟩
def zAI_dx : Nat → List (X × Desc)
  | 2 => [(.r, ⟨[(2, .d (.int .i64))], []⟩), (.e 0, ⟨[], []⟩)]
  | _ => []
def zAI_s2 (n : Nat) (x0 : ByteArray) (x1 : Int) (k1 : ByteArray → Int → Option R) (qr : Int → Option R) (qe0 : Option R) : Option R :=
  if (decide (x1 < (x0.size : Int))) = true then (if (0 : Int) ≤ x1 then if x1 < (x0.size : Int) then (if ((byteAt x0 x1) == 92) = true then (k1 x0 (IntKind.i64.wrap ((IntKind.i64.wrap (x1 + 1)) + 1))) else (if (0 : Int) ≤ x1 then if x1 < (x0.size : Int) then (if ((byteAt x0 x1) == 34) = true then (qr (IntKind.i64.wrap (x1 + 1))) else (k1 x0 (IntKind.i64.wrap (x1 + 1)))) else none else none)) else none else none) else qe0
def zAI_l2 (n : Nat) (a : (zAI_ds 2).D) (k1 : (zAI_ds 2).D → Option R) (k2 : exK R (zAI_dx 2)) : Option R :=
  zAI_s2 n a.1 a.2.1 (fun x0 x1 => k1 (x0, x1, ())) (fun x0 => k2.1 (x0, ())) (k2.2.1 (()))
@[reducible] def zAI_d : Desc := ⟨[(0, .d .str)], []⟩
def zAI_Fi (n : Nat) (a0 : ByteArray) (k0 : Int → Option R) : Option R :=
  runC (zAI_l2 n) n (a0, 1, ()) (fun b1 => k0 b1.1, fun b1 => k0 0, ())
def zAI_F {R : Type} := lazyN (@zAI_Fi R)
theorem zAI_e : @zAI_F R = @zAI_Fi R := lazyN_eq _
def zAI_g (n : Nat) : Gx R := typed 1 zAI_d fun x k => zAI_F n x.1 (fun y0 => k (.a (.c (.i .i64 y0))) [])
def zAI_cs (R : Type) (n : Nat) : List (Nat × Gx R) := []
def zAI_lp (n : Nat) : (i : Nat) → (zAI_ds i).D → exK R (zAI_dx i) → Option R
  | 2, a, k => runC (zAI_l2 n) n a k
  | _, _, _ => none
def zAI_cx (R : Type) (n : Nat) : Cx R := ⟨Tryz.prog, Gof (zAI_cs R n), zAI_ds, zAI_dx, zAI_lp n, drawP Tryz.prog (Gof (zAI_cs R n)), false, noJn, noFz⟩
theorem zAI_ok [Esc R] (n : Nat) : Good Tryz.prog 69 (zAI_g (R := R) n) := by
  unfold zAI_g
  rw [zAI_e]
  exact Good.fn (cx := zAI_cx R n) (by kernel_rfl) (AllGood.nil) rfl Tryz.func69 (by kernel_rfl) rfl (by
    have e : fnLoops noJn Tryz.f69 = [((fnLoops noJn Tryz.f69)[0]?).getD (false, .skip)] := by kernel_rfl
    show LoopRuns _ _ (fnLoops noJn _)
    rw [e]
    exact ⟨LoopRun.loop (by kernel_rfl) (i := 2) (m := n) (step := zAI_l2 n) (by kernel_rfl) (fun a k1 k2 => by kernel_rfl) (fun _ _ => rfl), trivial⟩) 1 zAI_d (by kernel_rfl) (fun x k => by kernel_rfl)
def zAB_ds : Nat → Desc
  | 1000015 => ⟨[(0, .d .str), (2, .pt 0 0), (7, .d (.int .i64))], [.box false 60 [.d (.int .i64), .d .str, .d (.int .i64), .d .bool, .d (.int .i64), .d .str, .d (.int .i64)]]⟩
  | _ => ⟨[], []⟩
def zAB_dx : Nat → List (X × Desc)
  | 1000015 => [(.r, ⟨[(2, .pt 0 0), (3, .d .bool)], [.box false 60 [.d (.int .i64), .d .str, .d (.int .i64), .d .bool, .d (.int .i64), .d .str, .d (.int .i64)]]⟩)]
  | _ => []
def zAB_s1000015 (n : Nat) (x0 : ByteArray) (x1 : Int) (x2 : Int) (x3 : ByteArray) (x4 : Int) (x5 : Bool) (x6 : Int) (x7 : ByteArray) (x8 : Int) (qr : Bool → Int → ByteArray → Int → Bool → Int → ByteArray → Int → Option R) : Option R :=
  if (decide (x1 > 0)) = true then (if (0 : Int) ≤ x1 ∧ x1 ≤ (x0.size : Int) then (zQ_F n (x0.extract 0 (Int.toNat x1)) (fun y8 y9 => if (0 : Int) ≤ x1 ∧ x1 ≤ (x0.size : Int) then (qr (y9 == 0) 2 (x0.extract 0 (Int.toNat x1)) y8.1 y8.2.1 y8.2.2.1 y8.2.2.2.1 0) else none)) else none) else (if (0 : Int) ≤ 0 then if 0 < (x0.size : Int) then (if ((byteAt x0 0) == 34) = true then (qr false 0 (⟨#[]⟩ : ByteArray) 0 false 0 (⟨#[]⟩ : ByteArray) 0) else (zBX_F n x0 (fun y10 => if (0 : Int) ≤ y10 ∧ y10 ≤ (x0.size : Int) then (qr (decide (y10 > 0)) 3 (x0.extract 0 (Int.toNat y10)) 0 false 0 (⟨#[]⟩ : ByteArray) 0) else none))) else none else none)
def zAB_li1000015 (n : Nat) (a : (zAB_ds 1000015).D) (k2 : exK R (zAB_dx 1000015)) : Option R :=
  zAB_s1000015 n a.1 a.2.1 a.2.2.1 a.2.2.2.1 a.2.2.2.2.1 a.2.2.2.2.2.1 a.2.2.2.2.2.2.1 a.2.2.2.2.2.2.2.1 a.2.2.2.2.2.2.2.2.1 (fun x0 x1 x2 x3 x4 x5 x6 x7 => k2.1 (x0, x1, x2, x3, x4, x5, x6, x7, ()))
def zEA {R : Type} := lazyN (@zAB_li1000015 R)
theorem zAB_e1000015 : @zEA R = @zAB_li1000015 R := lazyN_eq _
@[reducible] def zAB_d : Desc := ⟨[(0, .d .str)], []⟩
def zAB_Fi (n : Nat) (a0 : ByteArray) (k0 : ty60.D → Bool → Option R) : Option R :=
  if (0 : Int) ≤ 0 then if 0 < (a0.size : Int) then (zBD_F n (byteAt a0 0) (fun y1 => if y1 = true then (zAM_F n a0 (fun y2 => if (0 : Int) ≤ y2 ∧ y2 ≤ (a0.size : Int) then (zQ_F n (a0.extract 0 (Int.toNat y2)) (fun y3 y4 => if ((a0.extract 0 (Int.toNat y2)).toList == (⟨#[110, 117, 108, 108]⟩ : ByteArray).toList) = true then (k0 (2, (a0.extract 0 (Int.toNat y2)), y3, 0, ()) true) else (if (y4 == 0) = true then (k0 (2, (a0.extract 0 (Int.toNat y2)), y3, 0, ()) true) else (k0 (1, (a0.extract 0 (Int.toNat y2)), (0, false, 0, (⟨#[]⟩ : ByteArray), ()), 0, ()) true)))) else none)) else (if (0 : Int) ≤ 0 then if 0 < (a0.size : Int) then (zBE_F n (byteAt a0 0) (fun y5 => if y5 = true then (zY_F n a0 (fun y6 => if (decide (y6 < (a0.size : Int))) = true then (if (0 : Int) ≤ y6 then if y6 < (a0.size : Int) then (zBD_F n (byteAt a0 y6) (fun y7 => if y7 = true then (k0 (0, (⟨#[]⟩ : ByteArray), (0, false, 0, (⟨#[]⟩ : ByteArray), ()), 0, ()) false) else (if (0 : Int) ≤ y6 then if y6 < (a0.size : Int) then (if ((byteAt a0 y6) == 95) = true then (k0 (0, (⟨#[]⟩ : ByteArray), (0, false, 0, (⟨#[]⟩ : ByteArray), ()), 0, ()) false) else (zEA n (a0, y6, 0, (⟨#[]⟩ : ByteArray), 0, false, 0, (⟨#[]⟩ : ByteArray), 0, ()) (fun b18 => k0 (b18.2.1, b18.2.2.1, (b18.2.2.2.1, b18.2.2.2.2.1, b18.2.2.2.2.2.1, b18.2.2.2.2.2.2.1, ()), b18.2.2.2.2.2.2.2.1, ()) b18.1, ()))) else none else none))) else none else none) else (zEA n (a0, y6, 0, (⟨#[]⟩ : ByteArray), 0, false, 0, (⟨#[]⟩ : ByteArray), 0, ()) (fun b26 => k0 (b26.2.1, b26.2.2.1, (b26.2.2.2.1, b26.2.2.2.2.1, b26.2.2.2.2.2.1, b26.2.2.2.2.2.2.1, ()), b26.2.2.2.2.2.2.2.1, ()) b26.1, ())))) else (if (0 : Int) ≤ 0 then if 0 < (a0.size : Int) then (if ((byteAt a0 0) == 45) = true then (zY_F n a0 (fun y27 => if (decide (y27 < (a0.size : Int))) = true then (if (0 : Int) ≤ y27 then if y27 < (a0.size : Int) then (zBD_F n (byteAt a0 y27) (fun y28 => if y28 = true then (k0 (0, (⟨#[]⟩ : ByteArray), (0, false, 0, (⟨#[]⟩ : ByteArray), ()), 0, ()) false) else (if (0 : Int) ≤ y27 then if y27 < (a0.size : Int) then (if ((byteAt a0 y27) == 95) = true then (k0 (0, (⟨#[]⟩ : ByteArray), (0, false, 0, (⟨#[]⟩ : ByteArray), ()), 0, ()) false) else (zEA n (a0, y27, 0, (⟨#[]⟩ : ByteArray), 0, false, 0, (⟨#[]⟩ : ByteArray), 0, ()) (fun b36 => k0 (b36.2.1, b36.2.2.1, (b36.2.2.2.1, b36.2.2.2.2.1, b36.2.2.2.2.2.1, b36.2.2.2.2.2.2.1, ()), b36.2.2.2.2.2.2.2.1, ()) b36.1, ()))) else none else none))) else none else none) else (zEA n (a0, y27, 0, (⟨#[]⟩ : ByteArray), 0, false, 0, (⟨#[]⟩ : ByteArray), 0, ()) (fun b44 => k0 (b44.2.1, b44.2.2.1, (b44.2.2.2.1, b44.2.2.2.2.1, b44.2.2.2.2.2.1, b44.2.2.2.2.2.2.1, ()), b44.2.2.2.2.2.2.2.1, ()) b44.1, ())))) else (if (0 : Int) ≤ 0 then if 0 < (a0.size : Int) then (if ((byteAt a0 0) == 34) = true then (zAI_F n a0 (fun y45 => zEA n (a0, y45, 0, (⟨#[]⟩ : ByteArray), 0, false, 0, (⟨#[]⟩ : ByteArray), 0, ()) (fun b53 => k0 (b53.2.1, b53.2.2.1, (b53.2.2.2.1, b53.2.2.2.2.1, b53.2.2.2.2.2.1, b53.2.2.2.2.2.2.1, ()), b53.2.2.2.2.2.2.2.1, ()) b53.1, ()))) else (zEA n (a0, 0, 0, (⟨#[]⟩ : ByteArray), 0, false, 0, (⟨#[]⟩ : ByteArray), 0, ()) (fun b61 => k0 (b61.2.1, b61.2.2.1, (b61.2.2.2.1, b61.2.2.2.2.1, b61.2.2.2.2.2.1, b61.2.2.2.2.2.2.1, ()), b61.2.2.2.2.2.2.2.1, ()) b61.1, ()))) else none else none)) else none else none))) else none else none))) else none else none
def zAB_F {R : Type} := lazyN (@zAB_Fi R)
theorem zAB_e : @zAB_F R = @zAB_Fi R := lazyN_eq _
def zAB_g (n : Nat) : Gx R := typed 1 zAB_d fun x k => zAB_F n x.1 (fun y0 y1 => k (.tu [(encA ty60 y0), (.c (.b y1))]) [])
def zAB_cs (R : Type) (n : Nat) : List (Nat × Gx R) := [(64, zBD_g n), (65, zAM_g n), (66, zQ_g n), (67, zBE_g n), (68, zY_g n), (69, zAI_g n), (70, zBX_g n)]
def zAB_lp (n : Nat) : (i : Nat) → (zAB_ds i).D → exK R (zAB_dx i) → Option R
  | 1000015, a, k => zEA n a k
  | _, _, _ => none
def zAB_cx (R : Type) (n : Nat) : Cx R := ⟨Tryz.prog, Gof (zAB_cs R n), zAB_ds, zAB_dx, zAB_lp n, drawP Tryz.prog (Gof (zAB_cs R n)), false, (memN [15]), noFz⟩
theorem zAB_ok [Esc R] (n : Nat) : Good Tryz.prog 44 (zAB_g (R := R) n) := by
  unfold zAB_g
  rw [zAB_e]
  exact Good.fn (cx := zAB_cx R n) (by kernel_rfl) (AllGood.cons (zBD_ok n) (AllGood.cons (zAM_ok n) (AllGood.cons (zQ_ok n) (AllGood.cons (zBE_ok n) (AllGood.cons (zY_ok n) (AllGood.cons (zAI_ok n) (AllGood.cons (zBX_ok n) (AllGood.nil)))))))) rfl Tryz.func44 (by kernel_rfl) rfl (by
    have e : fnLoops (memN [15]) Tryz.f44 = [((fnLoops (memN [15]) Tryz.f44)[0]?).getD (false, .skip)] := by kernel_rfl
    show LoopRuns _ _ (fnLoops (memN [15]) _)
    rw [e]
    exact ⟨LoopRun.joinS (by kernel_rfl) (i := 15) (L := zEA n) (Li := zAB_li1000015 n) (by rw [zAB_e1000015]) (by kernel_rfl) (fun a k => by kernel_rfl) (fun a k => by kernel_rfl), trivial⟩) 1 zAB_d (by kernel_rfl) (fun x k => by kernel_rfl)
def zAJ_ds : Nat → Desc
  | 5 => ⟨[(0, .d .str), (5, .ow 1), (6, .d (.int .i64))], [.no, .arr 60 ty60]⟩
  | _ => ⟨[], []⟩
def zAJ_dx : Nat → List (X × Desc)
  | 5 => [(.r, ⟨[(2, .ow 3), (3, .d (.int .i64)), (4, .d (.int .i64))], [.no, .no, .no, .arr 60 ty60]⟩), (.e 0, ⟨[(0, .d .str), (5, .ow 1)], [.no, .arr 60 ty60]⟩)]
  | _ => []
def zAJ_s5 (n : Nat) (x0 : ByteArray) (x1 : Int) (x2 : (List ty60.D)) (k1 : ByteArray → Int → (List ty60.D) → Option R) (qr : Int → Int → (List ty60.D) → Option R) (qe0 : ByteArray → (List ty60.D) → Option R) : Option R :=
  if (decide (x1 < (x0.size : Int))) = true then (if (0 : Int) ≤ x1 then if x1 < (x0.size : Int) then (if ((byteAt x0 x1) == 32) = true then (k1 x0 (IntKind.i64.wrap (x1 + 1)) x2) else (if (0 : Int) ≤ x1 then if x1 < (x0.size : Int) then (if ((byteAt x0 x1) == 10) = true then (k1 x0 (IntKind.i64.wrap (x1 + 1)) x2) else (if (0 : Int) ≤ x1 ∧ x1 ≤ (x0.size : Int) then (zAB_F n (x0.extract (Int.toNat x1) x0.size) (fun y1 y2 => if (!y2) = true then (qr x1 7 ([] : List ty60.D)) else (if (List.length x2 + List.length [(y1.1, y1.2.1, y1.2.2.1, x1, ())]) * 72 ≤ 140737488355328 then (k1 x0 (IntKind.i64.wrap (x1 + (y1.2.1.size : Int))) (x2 ++ [(y1.1, y1.2.1, y1.2.2.1, x1, ())])) else none))) else none)) else none else none)) else none else none) else (qe0 x0 x2)
def zAJ_l5 (n : Nat) (a : (zAJ_ds 5).D) (k1 : (zAJ_ds 5).D → Option R) (k2 : exK R (zAJ_dx 5)) : Option R :=
  zAJ_s5 n a.1 a.2.1 a.2.2.1 (fun x0 x1 x2 => k1 (x0, x1, x2, ())) (fun x0 x1 x2 => k2.1 (x0, x1, x2, ())) (fun x0 x1 => k2.2.1 (x0, x1, ()))
@[reducible] def zAJ_d : Desc := ⟨[(0, .d .str)], []⟩
def zAJ_Fi (n : Nat) (a0 : ByteArray) (k0 : Int → Int → (List ty60.D) → Option R) : Option R :=
  if (decide ((a0.size : Int) > 300)) = true then (k0 0 9 ([] : List ty60.D)) else (runC (zAJ_l5 n) n (a0, 0, ([] : List ty60.D), ()) (fun b5 => k0 b5.1 b5.2.1 b5.2.2.1, fun b7 => if (List.length b7.2.1 + List.length [(4, (⟨#[]⟩ : ByteArray), (0, false, 0, (⟨#[]⟩ : ByteArray), ()), (b7.1.size : Int), ())]) * 72 ≤ 140737488355328 then (k0 0 0 (b7.2.1 ++ [(4, (⟨#[]⟩ : ByteArray), (0, false, 0, (⟨#[]⟩ : ByteArray), ()), (b7.1.size : Int), ())])) else none, ()))
def zAJ_F {R : Type} := lazyN (@zAJ_Fi R)
theorem zAJ_e : @zAJ_F R = @zAJ_Fi R := lazyN_eq _
def zAJ_g (n : Nat) : Gx R := typed 1 zAJ_d fun x k => zAJ_F n x.1 (fun y0 y1 y2 => k (.tu [(.c (.ow 0)), (.c (.i .i64 y0)), (.c (.i .i64 y1))]) [(.arr 60 ty60 y2)])
def zAJ_cs (R : Type) (n : Nat) : List (Nat × Gx R) := [(44, zAB_g n)]
def zAJ_lp (n : Nat) : (i : Nat) → (zAJ_ds i).D → exK R (zAJ_dx i) → Option R
  | 5, a, k => runC (zAJ_l5 n) n a k
  | _, _, _ => none
def zAJ_cx (R : Type) (n : Nat) : Cx R := ⟨Tryz.prog, Gof (zAJ_cs R n), zAJ_ds, zAJ_dx, zAJ_lp n, drawP Tryz.prog (Gof (zAJ_cs R n)), false, noJn, noFz⟩
theorem zAJ_ok [Esc R] (n : Nat) : Good Tryz.prog 16 (zAJ_g (R := R) n) := by
  unfold zAJ_g
  rw [zAJ_e]
  exact Good.fn (cx := zAJ_cx R n) (by kernel_rfl) (AllGood.cons (zAB_ok n) (AllGood.nil)) rfl Tryz.func16 (by kernel_rfl) rfl (by
    have e : fnLoops noJn Tryz.f16 = [((fnLoops noJn Tryz.f16)[0]?).getD (false, .skip)] := by kernel_rfl
    show LoopRuns _ _ (fnLoops noJn _)
    rw [e]
    exact ⟨LoopRun.loop (by kernel_rfl) (i := 5) (m := n) (step := zAJ_l5 n) (by kernel_rfl) (fun a k1 k2 => by kernel_rfl) (fun _ _ => rfl), trivial⟩) 1 zAJ_d (by kernel_rfl) (fun x k => by kernel_rfl)
def zZ_ds : Nat → Desc
  | 3 => ⟨[(0, .d .str), (3, .ow 0), (4, .d (.int .i64))], [.arr 9 .str]⟩
  | _ => ⟨[], []⟩
def zZ_dx : Nat → List (X × Desc)
  | 3 => [(.r, ⟨[(2, .d .bool)], []⟩), (.e 0, ⟨[], []⟩)]
  | _ => []
def zZ_s3 (n : Nat) (x0 : ByteArray) (x1 : Int) (x2 : (List ByteArray)) (k1 : ByteArray → Int → (List ByteArray) → Option R) (qr : Bool → Option R) (qe0 : Option R) : Option R :=
  if (decide (x1 < (x2.length : Int))) = true then (if (0 : Int) ≤ x1 ∧ x1 < (x2.length : Int) then (if (Int.toNat x1) < x2.length then (if ((x2.getD (Int.toNat x1) (Ty.z .str)).toList == x0.toList) = true then (qr true) else (k1 x0 (IntKind.i64.wrap (x1 + 1)) x2)) else none) else none) else qe0
def zZ_l3 (n : Nat) (a : (zZ_ds 3).D) (k1 : (zZ_ds 3).D → Option R) (k2 : exK R (zZ_dx 3)) : Option R :=
  zZ_s3 n a.1 a.2.1 a.2.2.1 (fun x0 x1 x2 => k1 (x0, x1, x2, ())) (fun x0 => k2.1 (x0, ())) (k2.2.1 (()))
@[reducible] def zZ_d : Desc := ⟨[(0, .d .str)], []⟩
def zZ_Fi (n : Nat) (a0 : ByteArray) (k0 : Bool → Option R) : Option R :=
  runC (zZ_l3 n) n (a0, 0, [(⟨#[100, 101, 110, 121]⟩ : ByteArray), (⟨#[118, 105, 101, 119]⟩ : ByteArray), (⟨#[113, 117, 111, 116, 97]⟩ : ByteArray), (⟨#[108, 105, 109, 105, 116]⟩ : ByteArray), (⟨#[105, 102]⟩ : ByteArray), (⟨#[110, 111, 116]⟩ : ByteArray), (⟨#[99, 111, 117, 110, 116]⟩ : ByteArray), (⟨#[115, 117, 109]⟩ : ByteArray), (⟨#[108, 101, 97, 115, 116]⟩ : ByteArray), (⟨#[109, 111, 115, 116]⟩ : ByteArray)], ()) (fun b1 => k0 b1.1, fun b1 => k0 false, ())
def zZ_F {R : Type} := lazyN (@zZ_Fi R)
theorem zZ_e : @zZ_F R = @zZ_Fi R := lazyN_eq _
def zZ_g (n : Nat) : Gx R := typed 1 zZ_d fun x k => zZ_F n x.1 (fun y0 => k (.a (.c (.b y0))) [])
def zZ_cs (R : Type) (n : Nat) : List (Nat × Gx R) := []
def zZ_lp (n : Nat) : (i : Nat) → (zZ_ds i).D → exK R (zZ_dx i) → Option R
  | 3, a, k => runC (zZ_l3 n) n a k
  | _, _, _ => none
def zZ_cx (R : Type) (n : Nat) : Cx R := ⟨Tryz.prog, Gof (zZ_cs R n), zZ_ds, zZ_dx, zZ_lp n, drawP Tryz.prog (Gof (zZ_cs R n)), false, noJn, noFz⟩
theorem zZ_ok [Esc R] (n : Nat) : Good Tryz.prog 72 (zZ_g (R := R) n) := by
  unfold zZ_g
  rw [zZ_e]
  exact Good.fn (cx := zZ_cx R n) (by kernel_rfl) (AllGood.nil) rfl Tryz.func72 (by kernel_rfl) rfl (by
    have e : fnLoops noJn Tryz.f72 = [((fnLoops noJn Tryz.f72)[0]?).getD (false, .skip)] := by kernel_rfl
    show LoopRuns _ _ (fnLoops noJn _)
    rw [e]
    exact ⟨LoopRun.loop (by kernel_rfl) (i := 3) (m := n) (step := zZ_l3 n) (by kernel_rfl) (fun a k1 k2 => by kernel_rfl) (fun _ _ => rfl), trivial⟩) 1 zZ_d (by kernel_rfl) (fun x k => by kernel_rfl)
@[reducible] def zCD_d : Desc := ⟨[(0, .d (.int .i64))], []⟩
def zCD_Fi (n : Nat) (a0 : Int) (k0 : ByteArray → Option R) : Option R :=
  if (decide (a0 < 1)) = true then (k0 (⟨#[]⟩ : ByteArray)) else (if (decide (a0 ≥ ([(⟨#[]⟩ : ByteArray), (⟨#[61, 61]⟩ : ByteArray), (⟨#[33, 61]⟩ : ByteArray), (⟨#[60]⟩ : ByteArray), (⟨#[60, 61]⟩ : ByteArray), (⟨#[62]⟩ : ByteArray), (⟨#[62, 61]⟩ : ByteArray)].length : Int))) = true then (k0 (⟨#[]⟩ : ByteArray)) else (if (0 : Int) ≤ a0 ∧ a0 < ([(⟨#[]⟩ : ByteArray), (⟨#[61, 61]⟩ : ByteArray), (⟨#[33, 61]⟩ : ByteArray), (⟨#[60]⟩ : ByteArray), (⟨#[60, 61]⟩ : ByteArray), (⟨#[62]⟩ : ByteArray), (⟨#[62, 61]⟩ : ByteArray)].length : Int) then (if (Int.toNat a0) < [(⟨#[]⟩ : ByteArray), (⟨#[61, 61]⟩ : ByteArray), (⟨#[33, 61]⟩ : ByteArray), (⟨#[60]⟩ : ByteArray), (⟨#[60, 61]⟩ : ByteArray), (⟨#[62]⟩ : ByteArray), (⟨#[62, 61]⟩ : ByteArray)].length then (k0 ([(⟨#[]⟩ : ByteArray), (⟨#[61, 61]⟩ : ByteArray), (⟨#[33, 61]⟩ : ByteArray), (⟨#[60]⟩ : ByteArray), (⟨#[60, 61]⟩ : ByteArray), (⟨#[62]⟩ : ByteArray), (⟨#[62, 61]⟩ : ByteArray)].getD (Int.toNat a0) (Ty.z .str))) else none) else none))
def zCD_F {R : Type} := lazyN (@zCD_Fi R)
theorem zCD_e : @zCD_F R = @zCD_Fi R := lazyN_eq _
def zCD_g (n : Nat) : Gx R := typed 1 zCD_d fun x k => zCD_F n x.1 (fun y0 => k (.a (.c (.s y0))) [])
def zCD_cs (R : Type) (n : Nat) : List (Nat × Gx R) := []
def zCD_cx (R : Type) (n : Nat) : Cx R := ⟨Tryz.prog, Gof (zCD_cs R n), noDs, noDx, noLp, drawP Tryz.prog (Gof (zCD_cs R n)), false, noJn, noFz⟩
theorem zCD_ok [Esc R] (n : Nat) : Good Tryz.prog 102 (zCD_g (R := R) n) := by
  unfold zCD_g
  rw [zCD_e]
  exact Good.fn (cx := zCD_cx R n) (by kernel_rfl) (AllGood.nil) rfl Tryz.func102 (by kernel_rfl) rfl trivial 1 zCD_d (by kernel_rfl) (fun x k => by kernel_rfl)
def zAV_ds : Nat → Desc
  | 2 => ⟨[(0, .d .str), (3, .d (.int .i64))], []⟩
  | _ => ⟨[], []⟩
def zAV_dx : Nat → List (X × Desc)
  | 2 => [(.r, ⟨[(2, .d (.int .i64))], []⟩), (.e 0, ⟨[], []⟩)]
  | _ => []
def zAV_s2 (n : Nat) (x0 : ByteArray) (x1 : Int) (k1 : ByteArray → Int → Option R) (qr : Int → Option R) (qe0 : Option R) : Option R :=
  if (decide (x1 ≤ 6)) = true then (zCD_F n x1 (fun y1 => if (y1.toList == x0.toList) = true then (qr x1) else (k1 x0 (IntKind.i64.wrap (x1 + 1))))) else qe0
def zAV_l2 (n : Nat) (a : (zAV_ds 2).D) (k1 : (zAV_ds 2).D → Option R) (k2 : exK R (zAV_dx 2)) : Option R :=
  zAV_s2 n a.1 a.2.1 (fun x0 x1 => k1 (x0, x1, ())) (fun x0 => k2.1 (x0, ())) (k2.2.1 (()))
@[reducible] def zAV_d : Desc := ⟨[(0, .d .str)], []⟩
def zAV_Fi (n : Nat) (a0 : ByteArray) (k0 : Int → Option R) : Option R :=
  runC (zAV_l2 n) n (a0, 1, ()) (fun b2 => k0 b2.1, fun b2 => k0 0, ())
def zAV_F {R : Type} := lazyN (@zAV_Fi R)
theorem zAV_e : @zAV_F R = @zAV_Fi R := lazyN_eq _
def zAV_g (n : Nat) : Gx R := typed 1 zAV_d fun x k => zAV_F n x.1 (fun y0 => k (.a (.c (.i .i64 y0))) [])
def zAV_cs (R : Type) (n : Nat) : List (Nat × Gx R) := [(102, zCD_g n)]
def zAV_lp (n : Nat) : (i : Nat) → (zAV_ds i).D → exK R (zAV_dx i) → Option R
  | 2, a, k => runC (zAV_l2 n) n a k
  | _, _, _ => none
def zAV_cx (R : Type) (n : Nat) : Cx R := ⟨Tryz.prog, Gof (zAV_cs R n), zAV_ds, zAV_dx, zAV_lp n, drawP Tryz.prog (Gof (zAV_cs R n)), false, noJn, noFz⟩
theorem zAV_ok [Esc R] (n : Nat) : Good Tryz.prog 75 (zAV_g (R := R) n) := by
  unfold zAV_g
  rw [zAV_e]
  exact Good.fn (cx := zAV_cx R n) (by kernel_rfl) (AllGood.cons (zCD_ok n) (AllGood.nil)) rfl Tryz.func75 (by kernel_rfl) rfl (by
    have e : fnLoops noJn Tryz.f75 = [((fnLoops noJn Tryz.f75)[0]?).getD (false, .skip)] := by kernel_rfl
    show LoopRuns _ _ (fnLoops noJn _)
    rw [e]
    exact ⟨LoopRun.loop (by kernel_rfl) (i := 2) (m := n) (step := zAV_l2 n) (by kernel_rfl) (fun a k1 k2 => by kernel_rfl) (fun _ _ => rfl), trivial⟩) 1 zAV_d (by kernel_rfl) (fun x k => by kernel_rfl)
@[reducible] def zCO_d : Desc := ⟨[(0, .d (.int .u8))], []⟩
def zCO_Fi (n : Nat) (a0 : Int) (k0 : Bool → Option R) : Option R :=
  if (decide (a0 ≥ 97)) = true then (k0 (decide (a0 ≤ 122))) else (k0 false)
def zCO_F {R : Type} := lazyN (@zCO_Fi R)
theorem zCO_e : @zCO_F R = @zCO_Fi R := lazyN_eq _
def zCO_g (n : Nat) : Gx R := typed 1 zCO_d fun x k => zCO_F n x.1 (fun y0 => k (.a (.c (.b y0))) [])
def zCO_cs (R : Type) (n : Nat) : List (Nat × Gx R) := []
def zCO_cx (R : Type) (n : Nat) : Cx R := ⟨Tryz.prog, Gof (zCO_cs R n), noDs, noDx, noLp, drawP Tryz.prog (Gof (zCO_cs R n)), false, noJn, noFz⟩
theorem zCO_ok [Esc R] (n : Nat) : Good Tryz.prog 86 (zCO_g (R := R) n) := by
  unfold zCO_g
  rw [zCO_e]
  exact Good.fn (cx := zCO_cx R n) (by kernel_rfl) (AllGood.nil) rfl Tryz.func86 (by kernel_rfl) rfl trivial 1 zCO_d (by kernel_rfl) (fun x k => by kernel_rfl)
@[reducible] def zCX_d : Desc := ⟨[(0, .d (.int .u8))], []⟩
def zCX_Fi (n : Nat) (a0 : Int) (k0 : Bool → Option R) : Option R :=
  if (decide (a0 ≥ 48)) = true then (k0 (decide (a0 ≤ 57))) else (k0 false)
def zCX_F {R : Type} := lazyN (@zCX_Fi R)
theorem zCX_e : @zCX_F R = @zCX_Fi R := lazyN_eq _
def zCX_g (n : Nat) : Gx R := typed 1 zCX_d fun x k => zCX_F n x.1 (fun y0 => k (.a (.c (.b y0))) [])
def zCX_cs (R : Type) (n : Nat) : List (Nat × Gx R) := []
def zCX_cx (R : Type) (n : Nat) : Cx R := ⟨Tryz.prog, Gof (zCX_cs R n), noDs, noDx, noLp, drawP Tryz.prog (Gof (zCX_cs R n)), false, noJn, noFz⟩
theorem zCX_ok [Esc R] (n : Nat) : Good Tryz.prog 88 (zCX_g (R := R) n) := by
  unfold zCX_g
  rw [zCX_e]
  exact Good.fn (cx := zCX_cx R n) (by kernel_rfl) (AllGood.nil) rfl Tryz.func88 (by kernel_rfl) rfl trivial 1 zCX_d (by kernel_rfl) (fun x k => by kernel_rfl)
@[reducible] def zDE_d : Desc := ⟨[(0, .d (.int .u8))], []⟩
def zDE_Fi (n : Nat) (a0 : Int) (k0 : Bool → Option R) : Option R :=
  zCO_F n a0 (fun y1 => if y1 = true then (k0 true) else (zCX_F n a0 (fun y2 => if y2 = true then (k0 true) else (k0 (a0 == 95)))))
def zDE_F {R : Type} := lazyN (@zDE_Fi R)
theorem zDE_e : @zDE_F R = @zDE_Fi R := lazyN_eq _
def zDE_g (n : Nat) : Gx R := typed 1 zDE_d fun x k => zDE_F n x.1 (fun y0 => k (.a (.c (.b y0))) [])
def zDE_cs (R : Type) (n : Nat) : List (Nat × Gx R) := [(86, zCO_g n), (88, zCX_g n)]
def zDE_cx (R : Type) (n : Nat) : Cx R := ⟨Tryz.prog, Gof (zDE_cs R n), noDs, noDx, noLp, drawP Tryz.prog (Gof (zDE_cs R n)), false, noJn, noFz⟩
theorem zDE_ok [Esc R] (n : Nat) : Good Tryz.prog 116 (zDE_g (R := R) n) := by
  unfold zDE_g
  rw [zDE_e]
  exact Good.fn (cx := zDE_cx R n) (by kernel_rfl) (AllGood.cons (zCO_ok n) (AllGood.cons (zCX_ok n) (AllGood.nil))) rfl Tryz.func116 (by kernel_rfl) rfl trivial 1 zDE_d (by kernel_rfl) (fun x k => by kernel_rfl)
def zAC_ds : Nat → Desc
  | 1 => ⟨[(0, .d .str), (1, .d (.int .i64)), (2, .fn 116 [])], []⟩
  | _ => ⟨[], []⟩
def zAC_dx : Nat → List (X × Desc)
  | 1 => [(.e 0, ⟨[(1, .d (.int .i64))], []⟩)]
  | _ => []
def zAC_s1 (n : Nat) (x0 : ByteArray) (x1 : Int) (k1 : ByteArray → Int → Option R) (qe0 : Int → Option R) : Option R :=
  if (decide (x1 < (x0.size : Int))) = true then (if (0 : Int) ≤ x1 then if x1 < (x0.size : Int) then (zDE_F n (byteAt x0 x1) (fun y1 => if y1 = true then (k1 x0 (IntKind.i64.wrap (x1 + 1))) else (qe0 x1))) else none else none) else (qe0 x1)
def zAC_l1 (n : Nat) (a : (zAC_ds 1).D) (k1 : (zAC_ds 1).D → Option R) (k2 : exK R (zAC_dx 1)) : Option R :=
  zAC_s1 n a.1 a.2.1 (fun x0 x1 => k1 (x0, x1, ())) (fun x0 => k2.1 (x0, ()))
@[reducible] def zAC_d : Desc := ⟨[(0, .d .str), (1, .d (.int .i64)), (2, .fn 116 [])], []⟩
def zAC_Fi (n : Nat) (a0 : ByteArray) (a1 : Int) (k0 : Int → Option R) : Option R :=
  runC (zAC_l1 n) n (a0, a1, ()) (fun b2 => k0 b2.1, ())
def zAC_F {R : Type} := lazyN (@zAC_Fi R)
theorem zAC_e : @zAC_F R = @zAC_Fi R := lazyN_eq _
def zAC_g (n : Nat) : Gx R := typed 3 zAC_d fun x k => zAC_F n x.1 x.2.1 (fun y0 => k (.a (.c (.i .i64 y0))) [])
def zAC_cs (R : Type) (n : Nat) : List (Nat × Gx R) := [(116, zDE_g n)]
def zAC_lp (n : Nat) : (i : Nat) → (zAC_ds i).D → exK R (zAC_dx i) → Option R
  | 1, a, k => runC (zAC_l1 n) n a k
  | _, _, _ => none
def zAC_cx (R : Type) (n : Nat) : Cx R := ⟨Tryz.prog, Gof (zAC_cs R n), zAC_ds, zAC_dx, zAC_lp n, drawP Tryz.prog (Gof (zAC_cs R n)), false, noJn, noFz⟩
theorem zAC_ok [Esc R] (n : Nat) : Good Tryz.prog 56 (zAC_g (R := R) n) := by
  unfold zAC_g
  rw [zAC_e]
  exact Good.fn (cx := zAC_cx R n) (by kernel_rfl) (AllGood.cons (zDE_ok n) (AllGood.nil)) rfl Tryz.func56 (by kernel_rfl) rfl (by
    have e : fnLoops noJn Tryz.f56 = [((fnLoops noJn Tryz.f56)[0]?).getD (false, .skip)] := by kernel_rfl
    show LoopRuns _ _ (fnLoops noJn _)
    rw [e]
    exact ⟨LoopRun.loop (by kernel_rfl) (i := 1) (m := n) (step := zAC_l1 n) (by kernel_rfl) (fun a k1 k2 => by kernel_rfl) (fun _ _ => rfl), trivial⟩) 3 zAC_d (by kernel_rfl) (fun x k => by kernel_rfl)
@[reducible] def zCT_d : Desc := ⟨[(0, .d .bool)], []⟩
def zCT_Fi (n : Nat) (a0 : Bool) (k0 : ty46.D → Option R) : Option R :=
  k0 (1, a0, 0, (⟨#[]⟩ : ByteArray), ())
def zCT_F {R : Type} := lazyN (@zCT_Fi R)
theorem zCT_e : @zCT_F R = @zCT_Fi R := lazyN_eq _
def zCT_g (n : Nat) : Gx R := typed 1 zCT_d fun x k => zCT_F n x.1 (fun y0 => k (.a (encA ty46 y0)) [])
def zCT_cs (R : Type) (n : Nat) : List (Nat × Gx R) := []
def zCT_cx (R : Type) (n : Nat) : Cx R := ⟨Tryz.prog, Gof (zCT_cs R n), noDs, noDx, noLp, drawP Tryz.prog (Gof (zCT_cs R n)), false, noJn, noFz⟩
theorem zCT_ok [Esc R] (n : Nat) : Good Tryz.prog 104 (zCT_g (R := R) n) := by
  unfold zCT_g
  rw [zCT_e]
  exact Good.fn (cx := zCT_cx R n) (by kernel_rfl) (AllGood.nil) rfl Tryz.func104 (by kernel_rfl) rfl trivial 1 zCT_d (by kernel_rfl) (fun x k => by kernel_rfl)
@[reducible] def zBZ_d : Desc := ⟨[(0, .d .str), (1, .d (.int .i64)), (2, .d (.int .i64))], []⟩
def zBZ_Fi (n : Nat) (a0 : ByteArray) (a1 : Int) (a2 : Int) (k0 : Int → Bool → Option R) : Option R :=
  if a1 = 10 ∧ a2 = 64 ∧ a0.size ≤ 281474976710656 then (k0 (piV a0) (piE a0)) else none
def zBZ_F {R : Type} := lazyN (@zBZ_Fi R)
theorem zBZ_e : @zBZ_F R = @zBZ_Fi R := lazyN_eq _
def zBZ_g (n : Nat) : Gx R := typed 3 zBZ_d fun x k => zBZ_F n x.1 x.2.1 x.2.2.1 (fun y0 y1 => k (.tu [(.c (.i .i64 y0)), (.c (.er y1))]) [])
theorem zBZ_ok [Esc R] (n : Nat) : Good Tryz.prog 135 (zBZ_g (R := R) n) := by
  unfold zBZ_g
  rw [zBZ_e]
  exact Good.hand3 Tryz.func135 (by kernel_rfl) rfl rfl rfl rfl parse_back (fun x k => rfl)
@[reducible] def zDG_d : Desc := ⟨[(0, .d (.int .i64))], []⟩
def zDG_Fi (n : Nat) (a0 : Int) (k0 : ty46.D → Option R) : Option R :=
  k0 (2, false, a0, (⟨#[]⟩ : ByteArray), ())
def zDG_F {R : Type} := lazyN (@zDG_Fi R)
theorem zDG_e : @zDG_F R = @zDG_Fi R := lazyN_eq _
def zDG_g (n : Nat) : Gx R := typed 1 zDG_d fun x k => zDG_F n x.1 (fun y0 => k (.a (encA ty46 y0)) [])
def zDG_cs (R : Type) (n : Nat) : List (Nat × Gx R) := []
def zDG_cx (R : Type) (n : Nat) : Cx R := ⟨Tryz.prog, Gof (zDG_cs R n), noDs, noDx, noLp, drawP Tryz.prog (Gof (zDG_cs R n)), false, noJn, noFz⟩
theorem zDG_ok [Esc R] (n : Nat) : Good Tryz.prog 105 (zDG_g (R := R) n) := by
  unfold zDG_g
  rw [zDG_e]
  exact Good.fn (cx := zDG_cx R n) (by kernel_rfl) (AllGood.nil) rfl Tryz.func105 (by kernel_rfl) rfl trivial 1 zDG_d (by kernel_rfl) (fun x k => by kernel_rfl)
@[reducible] def zCF_d : Desc := ⟨[(0, .d .str), (1, .d (.int .u8))], []⟩
def zCF_Fi (n : Nat) (a0 : ByteArray) (a1 : Int) (k0 : Int → Option R) : Option R :=
  k0 (idxB a0 a1)
def zCF_F {R : Type} := lazyN (@zCF_Fi R)
theorem zCF_e : @zCF_F R = @zCF_Fi R := lazyN_eq _
def zCF_g (n : Nat) : Gx R := typed 2 zCF_d fun x k => zCF_F n x.1 x.2.1 (fun y0 => k (.a (.c (.i .i64 y0))) [])
theorem zCF_ok [Esc R] (n : Nat) : Good Tryz.prog 153 (zCF_g (R := R) n) := by
  unfold zCF_g
  rw [zCF_e]
  exact Good.ext2 Tryz.func153 (by kernel_rfl) rfl (by kernel_rfl) (by kernel_rfl) idxB idxB_run (fun x k => rfl)
@[reducible] def zBM_d : Desc := ⟨[(0, .d .str), (1, .d (.int .u8))], []⟩
def zBM_Fi (n : Nat) (a0 : ByteArray) (a1 : Int) (k0 : Int → Option R) : Option R :=
  zCF_F n a0 a1 (fun y1 => k0 y1)
def zBM_F {R : Type} := lazyN (@zBM_Fi R)
theorem zBM_e : @zBM_F R = @zBM_Fi R := lazyN_eq _
def zBM_g (n : Nat) : Gx R := typed 2 zBM_d fun x k => zBM_F n x.1 x.2.1 (fun y0 => k (.a (.c (.i .i64 y0))) [])
def zBM_cs (R : Type) (n : Nat) : List (Nat × Gx R) := [(153, zCF_g n)]
def zBM_cx (R : Type) (n : Nat) : Cx R := ⟨Tryz.prog, Gof (zBM_cs R n), noDs, noDx, noLp, drawP Tryz.prog (Gof (zBM_cs R n)), false, noJn, noFz⟩
theorem zBM_ok [Esc R] (n : Nat) : Good Tryz.prog 151 (zBM_g (R := R) n) := by
  unfold zBM_g
  rw [zBM_e]
  exact Good.fn (cx := zBM_cx R n) (by kernel_rfl) (AllGood.cons (zCF_ok n) (AllGood.nil)) rfl Tryz.func151 (by kernel_rfl) rfl trivial 2 zBM_d (by kernel_rfl) (fun x k => by kernel_rfl)
@[reducible] def zBR_d : Desc := ⟨[(0, .d .str), (1, .d (.int .u8))], []⟩
def zBR_Fi (n : Nat) (a0 : ByteArray) (a1 : Int) (k0 : Int → Option R) : Option R :=
  zBM_F n a0 a1 (fun y1 => k0 y1)
def zBR_F {R : Type} := lazyN (@zBR_Fi R)
theorem zBR_e : @zBR_F R = @zBR_Fi R := lazyN_eq _
def zBR_g (n : Nat) : Gx R := typed 2 zBR_d fun x k => zBR_F n x.1 x.2.1 (fun y0 => k (.a (.c (.i .i64 y0))) [])
def zBR_cs (R : Type) (n : Nat) : List (Nat × Gx R) := [(151, zBM_g n)]
def zBR_cx (R : Type) (n : Nat) : Cx R := ⟨Tryz.prog, Gof (zBR_cs R n), noDs, noDx, noLp, drawP Tryz.prog (Gof (zBR_cs R n)), false, noJn, noFz⟩
theorem zBR_ok [Esc R] (n : Nat) : Good Tryz.prog 145 (zBR_g (R := R) n) := by
  unfold zBR_g
  rw [zBR_e]
  exact Good.fn (cx := zBR_cx R n) (by kernel_rfl) (AllGood.cons (zBM_ok n) (AllGood.nil)) rfl Tryz.func145 (by kernel_rfl) rfl trivial 2 zBR_d (by kernel_rfl) (fun x k => by kernel_rfl)
@[reducible] def zDF_d : Desc := ⟨[(0, .d .str)], []⟩
def zDF_Fi (n : Nat) (a0 : ByteArray) (k0 : Int → ByteArray → Bool → Option R) : Option R :=
  if (0 : Int) ≤ 0 then if 0 < (a0.size : Int) then (if ((byteAt a0 0) != 92) = true then (if (0 : Int) ≤ 0 then if 0 < (a0.size : Int) then (if (0 : Int) ≤ 1 ∧ 1 ≤ (a0.size : Int) then (k0 (byteAt a0 0) (a0.extract (Int.toNat 1) a0.size) true) else none) else none else none) else (if (decide ((a0.size : Int) > 1)) = true then (if (0 : Int) ≤ 1 then if 1 < (a0.size : Int) then (if ((byteAt a0 1) != 120) = true then (if (0 : Int) ≤ 1 then if 1 < (a0.size : Int) then (if (0 : Int) ≤ 2 ∧ 2 ≤ (a0.size : Int) then (k0 (byteAt a0 1) (a0.extract (Int.toNat 2) a0.size) true) else none) else none else none) else (if (decide ((a0.size : Int) < 4)) = true then (k0 0 (⟨#[]⟩ : ByteArray) false) else (if (0 : Int) ≤ 2 then if 2 < (a0.size : Int) then (zBR_F n (⟨#[48, 49, 50, 51, 52, 53, 54, 55, 56, 57, 97, 98, 99, 100, 101, 102]⟩ : ByteArray) (byteAt a0 2) (fun y1 => if (0 : Int) ≤ 3 then if 3 < (a0.size : Int) then (zBR_F n (⟨#[48, 49, 50, 51, 52, 53, 54, 55, 56, 57, 97, 98, 99, 100, 101, 102]⟩ : ByteArray) (byteAt a0 3) (fun y2 => if (0 : Int) ≤ 4 ∧ 4 ≤ (a0.size : Int) then (if (decide (y1 ≥ 0)) = true then (k0 (IntKind.u8.wrap (bitsI .or .i64 (shlI .i64 y1 4) y2)) (a0.extract (Int.toNat 4) a0.size) (decide (y2 ≥ 0))) else (k0 (IntKind.u8.wrap (bitsI .or .i64 (shlI .i64 y1 4) y2)) (a0.extract (Int.toNat 4) a0.size) false)) else none)) else none else none)) else none else none))) else none else none) else (if (decide ((a0.size : Int) < 4)) = true then (k0 0 (⟨#[]⟩ : ByteArray) false) else (if (0 : Int) ≤ 2 then if 2 < (a0.size : Int) then (zBR_F n (⟨#[48, 49, 50, 51, 52, 53, 54, 55, 56, 57, 97, 98, 99, 100, 101, 102]⟩ : ByteArray) (byteAt a0 2) (fun y3 => if (0 : Int) ≤ 3 then if 3 < (a0.size : Int) then (zBR_F n (⟨#[48, 49, 50, 51, 52, 53, 54, 55, 56, 57, 97, 98, 99, 100, 101, 102]⟩ : ByteArray) (byteAt a0 3) (fun y4 => if (0 : Int) ≤ 4 ∧ 4 ≤ (a0.size : Int) then (if (decide (y3 ≥ 0)) = true then (k0 (IntKind.u8.wrap (bitsI .or .i64 (shlI .i64 y3 4) y4)) (a0.extract (Int.toNat 4) a0.size) (decide (y4 ≥ 0))) else (k0 (IntKind.u8.wrap (bitsI .or .i64 (shlI .i64 y3 4) y4)) (a0.extract (Int.toNat 4) a0.size) false)) else none)) else none else none)) else none else none)))) else none else none
def zDF_F {R : Type} := lazyN (@zDF_Fi R)
theorem zDF_e : @zDF_F R = @zDF_Fi R := lazyN_eq _
def zDF_g (n : Nat) : Gx R := typed 1 zDF_d fun x k => zDF_F n x.1 (fun y0 y1 y2 => k (.tu [(.c (.i .u8 y0)), (.c (.s y1)), (.c (.b y2))]) [])
def zDF_cs (R : Type) (n : Nat) : List (Nat × Gx R) := [(145, zBR_g n)]
def zDF_cx (R : Type) (n : Nat) : Cx R := ⟨Tryz.prog, Gof (zDF_cs R n), noDs, noDx, noLp, drawP Tryz.prog (Gof (zDF_cs R n)), false, noJn, noFz⟩
theorem zDF_ok [Esc R] (n : Nat) : Good Tryz.prog 139 (zDF_g (R := R) n) := by
  unfold zDF_g
  rw [zDF_e]
  exact Good.fn (cx := zDF_cx R n) (by kernel_rfl) (AllGood.cons (zBR_ok n) (AllGood.nil)) rfl Tryz.func139 (by kernel_rfl) rfl trivial 1 zDF_d (by kernel_rfl) (fun x k => by kernel_rfl)
def zBA_ds : Nat → Desc
  | 5 => ⟨[(0, .d .str), (4, .ow 0)], [.arr 5 (.int .u8)]⟩
  | _ => ⟨[], []⟩
def zBA_dx : Nat → List (X × Desc)
  | 5 => [(.r, ⟨[(2, .d .str), (3, .d .bool)], []⟩), (.e 0, ⟨[(4, .ow 0)], [.arr 5 (.int .u8)]⟩)]
  | _ => []
def zBA_s5 (n : Nat) (x0 : ByteArray) (x1 : (List Int)) (k1 : ByteArray → (List Int) → Option R) (qr : ByteArray → Bool → Option R) (qe0 : (List Int) → Option R) : Option R :=
  if (!(x0.toList == (⟨#[]⟩ : ByteArray).toList)) = true then (zDF_F n x0 (fun y1 y2 y3 => if (!y3) = true then (qr (⟨#[]⟩ : ByteArray) false) else (if (List.length x1 + List.length [y1]) * 1 ≤ 140737488355328 then (k1 y2 (x1 ++ [y1])) else none))) else (qe0 x1)
def zBA_l5 (n : Nat) (a : (zBA_ds 5).D) (k1 : (zBA_ds 5).D → Option R) (k2 : exK R (zBA_dx 5)) : Option R :=
  zBA_s5 n a.1 a.2.1 (fun x0 x1 => k1 (x0, x1, ())) (fun x0 x1 => k2.1 (x0, x1, ())) (fun x0 => k2.2.1 (x0, ()))
@[reducible] def zBA_d : Desc := ⟨[(0, .d .str)], []⟩
def zBA_Fi (n : Nat) (a0 : ByteArray) (k0 : ByteArray → Bool → Option R) : Option R :=
  if (decide ((a0.size : Int) < 2)) = true then (k0 (⟨#[]⟩ : ByteArray) false) else (if (0 : Int) ≤ 0 then if 0 < (a0.size : Int) then (if ((byteAt a0 0) != 34) = true then (k0 (⟨#[]⟩ : ByteArray) false) else (if (0 : Int) ≤ (IntKind.i64.wrap ((a0.size : Int) - 1)) then if (IntKind.i64.wrap ((a0.size : Int) - 1)) < (a0.size : Int) then (if ((byteAt a0 (IntKind.i64.wrap ((a0.size : Int) - 1))) != 34) = true then (k0 (⟨#[]⟩ : ByteArray) false) else (if (0 : Int) ≤ (IntKind.i64.wrap ((a0.size : Int) - 1)) ∧ (IntKind.i64.wrap ((a0.size : Int) - 1)) ≤ (a0.size : Int) then (if (0 : Int) ≤ 1 ∧ 1 ≤ ((Int.toNat (IntKind.i64.wrap ((a0.size : Int) - 1))) : Int) then (runC (zBA_l5 n) n ((a0.extract (Int.toNat 1) (Int.toNat (IntKind.i64.wrap ((a0.size : Int) - 1)))), ([] : List Int), ()) (fun b5 => k0 b5.1 b5.2.1, fun b6 => k0 (strOfNums b6.1) true, ())) else none) else none)) else none else none)) else none else none)
def zBA_F {R : Type} := lazyN (@zBA_Fi R)
theorem zBA_e : @zBA_F R = @zBA_Fi R := lazyN_eq _
def zBA_g (n : Nat) : Gx R := typed 1 zBA_d fun x k => zBA_F n x.1 (fun y0 y1 => k (.tu [(.c (.s y0)), (.c (.b y1))]) [])
def zBA_cs (R : Type) (n : Nat) : List (Nat × Gx R) := [(139, zDF_g n)]
def zBA_lp (n : Nat) : (i : Nat) → (zBA_ds i).D → exK R (zBA_dx i) → Option R
  | 5, a, k => runC (zBA_l5 n) n a k
  | _, _, _ => none
def zBA_cx (R : Type) (n : Nat) : Cx R := ⟨Tryz.prog, Gof (zBA_cs R n), zBA_ds, zBA_dx, zBA_lp n, drawP Tryz.prog (Gof (zBA_cs R n)), false, noJn, noFz⟩
theorem zBA_ok [Esc R] (n : Nat) : Good Tryz.prog 136 (zBA_g (R := R) n) := by
  unfold zBA_g
  rw [zBA_e]
  exact Good.fn (cx := zBA_cx R n) (by kernel_rfl) (AllGood.cons (zDF_ok n) (AllGood.nil)) rfl Tryz.func136 (by kernel_rfl) rfl (by
    have e : fnLoops noJn Tryz.f136 = [((fnLoops noJn Tryz.f136)[0]?).getD (false, .skip)] := by kernel_rfl
    show LoopRuns _ _ (fnLoops noJn _)
    rw [e]
    exact ⟨LoopRun.loop (by kernel_rfl) (i := 5) (m := n) (step := zBA_l5 n) (by kernel_rfl) (fun a k1 k2 => by kernel_rfl) (fun _ _ => rfl), trivial⟩) 1 zBA_d (by kernel_rfl) (fun x k => by kernel_rfl)
@[reducible] def zDB_d : Desc := ⟨[(0, .d .str)], []⟩
def zDB_Fi (n : Nat) (a0 : ByteArray) (k0 : ty46.D → Option R) : Option R :=
  k0 (3, false, 0, a0, ())
def zDB_F {R : Type} := lazyN (@zDB_Fi R)
theorem zDB_e : @zDB_F R = @zDB_Fi R := lazyN_eq _
def zDB_g (n : Nat) : Gx R := typed 1 zDB_d fun x k => zDB_F n x.1 (fun y0 => k (.a (encA ty46 y0)) [])
def zDB_cs (R : Type) (n : Nat) : List (Nat × Gx R) := []
def zDB_cx (R : Type) (n : Nat) : Cx R := ⟨Tryz.prog, Gof (zDB_cs R n), noDs, noDx, noLp, drawP Tryz.prog (Gof (zDB_cs R n)), false, noJn, noFz⟩
theorem zDB_ok [Esc R] (n : Nat) : Good Tryz.prog 106 (zDB_g (R := R) n) := by
  unfold zDB_g
  rw [zDB_e]
  exact Good.fn (cx := zDB_cx R n) (by kernel_rfl) (AllGood.nil) rfl Tryz.func106 (by kernel_rfl) rfl trivial 1 zDB_d (by kernel_rfl) (fun x k => by kernel_rfl)
@[reducible] def zDC_d : Desc := ⟨[], []⟩
def zDC_Fi (n : Nat) (k0 : ty46.D → Option R) : Option R :=
  k0 (0, false, 0, (⟨#[]⟩ : ByteArray), ())
def zDC_F {R : Type} := lazyN (@zDC_Fi R)
theorem zDC_e : @zDC_F R = @zDC_Fi R := lazyN_eq _
def zDC_g (n : Nat) : Gx R := typed 0 zDC_d fun x k => zDC_F n (fun y0 => k (.a (encA ty46 y0)) [])
def zDC_cs (R : Type) (n : Nat) : List (Nat × Gx R) := []
def zDC_cx (R : Type) (n : Nat) : Cx R := ⟨Tryz.prog, Gof (zDC_cs R n), noDs, noDx, noLp, drawP Tryz.prog (Gof (zDC_cs R n)), false, noJn, noFz⟩
theorem zDC_ok [Esc R] (n : Nat) : Good Tryz.prog 103 (zDC_g (R := R) n) := by
  unfold zDC_g
  rw [zDC_e]
  exact Good.fn (cx := zDC_cx R n) (by kernel_rfl) (AllGood.nil) rfl Tryz.func103 (by kernel_rfl) rfl trivial 0 zDC_d (by kernel_rfl) (fun x k => by kernel_rfl)
@[reducible] def zCY_d : Desc := ⟨[(0, .d .str)], []⟩
def zCY_Fi (n : Nat) (a0 : ByteArray) (k0 : ty46.D → Option R) : Option R :=
  if (a0.toList == (⟨#[116, 114, 117, 101]⟩ : ByteArray).toList) = true then (zCT_F n (a0.toList == (⟨#[116, 114, 117, 101]⟩ : ByteArray).toList) (fun y1 => k0 y1)) else (if (a0.toList == (⟨#[102, 97, 108, 115, 101]⟩ : ByteArray).toList) = true then (zCT_F n (a0.toList == (⟨#[116, 114, 117, 101]⟩ : ByteArray).toList) (fun y2 => k0 y2)) else (zBZ_F n a0 10 64 (fun y3 y4 => if (!y4) = true then (zDG_F n y3 (fun y5 => k0 y5)) else (zBA_F n a0 (fun y6 y7 => if y7 = true then (zDB_F n y6 (fun y8 => k0 y8)) else (zDC_F n (fun y9 => k0 y9)))))))
def zCY_F {R : Type} := lazyN (@zCY_Fi R)
theorem zCY_e : @zCY_F R = @zCY_Fi R := lazyN_eq _
def zCY_g (n : Nat) : Gx R := typed 1 zCY_d fun x k => zCY_F n x.1 (fun y0 => k (.a (encA ty46 y0)) [])
def zCY_cs (R : Type) (n : Nat) : List (Nat × Gx R) := [(103, zDC_g n), (104, zCT_g n), (105, zDG_g n), (106, zDB_g n), (135, zBZ_g n), (136, zBA_g n)]
def zCY_cx (R : Type) (n : Nat) : Cx R := ⟨Tryz.prog, Gof (zCY_cs R n), noDs, noDx, noLp, drawP Tryz.prog (Gof (zCY_cs R n)), false, noJn, noFz⟩
theorem zCY_ok [Esc R] (n : Nat) : Good Tryz.prog 131 (zCY_g (R := R) n) := by
  unfold zCY_g
  rw [zCY_e]
  exact Good.fn (cx := zCY_cx R n) (by kernel_rfl) (AllGood.cons (zDC_ok n) (AllGood.cons (zCT_ok n) (AllGood.cons (zDG_ok n) (AllGood.cons (zDB_ok n) (AllGood.cons (zBZ_ok n) (AllGood.cons (zBA_ok n) (AllGood.nil))))))) rfl Tryz.func131 (by kernel_rfl) rfl trivial 1 zCY_d (by kernel_rfl) (fun x k => by kernel_rfl)
@[reducible] def zCZ_d : Desc := ⟨[(0, .d ty46)], []⟩
def zCZ_Fi (n : Nat) (a0 : ty46.D) (k0 : Bool → Option R) : Option R :=
  if (a0.1 == 0) = true then (zDC_F n (fun y1 => k0 ((a0.1 == y1.1) && ((a0.2.1 == y1.2.1) && ((a0.2.2.1 == y1.2.2.1) && ((a0.2.2.2.1.toList == y1.2.2.2.1.toList) && true)))))) else (if (a0.1 == 1) = true then (zCT_F n a0.2.1 (fun y2 => k0 ((a0.1 == y2.1) && ((a0.2.1 == y2.2.1) && ((a0.2.2.1 == y2.2.2.1) && ((a0.2.2.2.1.toList == y2.2.2.2.1.toList) && true)))))) else (if (a0.1 == 2) = true then (zDG_F n a0.2.2.1 (fun y3 => k0 ((a0.1 == y3.1) && ((a0.2.1 == y3.2.1) && ((a0.2.2.1 == y3.2.2.1) && ((a0.2.2.2.1.toList == y3.2.2.2.1.toList) && true)))))) else (if (a0.1 == 3) = true then (zDB_F n a0.2.2.2.1 (fun y4 => if ((a0.1 == y4.1) && ((a0.2.1 == y4.2.1) && ((a0.2.2.1 == y4.2.2.1) && ((a0.2.2.2.1.toList == y4.2.2.2.1.toList) && true)))) = true then (k0 (decide ((a0.2.2.2.1.size : Int) ≤ 60))) else (k0 false))) else (k0 false))))
def zCZ_F {R : Type} := lazyN (@zCZ_Fi R)
theorem zCZ_e : @zCZ_F R = @zCZ_Fi R := lazyN_eq _
def zCZ_g (n : Nat) : Gx R := typed 1 zCZ_d fun x k => zCZ_F n x.1 (fun y0 => k (.a (.c (.b y0))) [])
def zCZ_cs (R : Type) (n : Nat) : List (Nat × Gx R) := [(103, zDC_g n), (104, zCT_g n), (105, zDG_g n), (106, zDB_g n)]
def zCZ_cx (R : Type) (n : Nat) : Cx R := ⟨Tryz.prog, Gof (zCZ_cs R n), noDs, noDx, noLp, drawP Tryz.prog (Gof (zCZ_cs R n)), false, noJn, noFz⟩
theorem zCZ_ok [Esc R] (n : Nat) : Good Tryz.prog 76 (zCZ_g (R := R) n) := by
  unfold zCZ_g
  rw [zCZ_e]
  exact Good.fn (cx := zCZ_cx R n) (by kernel_rfl) (AllGood.cons (zDC_ok n) (AllGood.cons (zCT_ok n) (AllGood.cons (zDG_ok n) (AllGood.cons (zDB_ok n) (AllGood.nil))))) rfl Tryz.func76 (by kernel_rfl) rfl trivial 1 zCZ_d (by kernel_rfl) (fun x k => by kernel_rfl)
@[reducible] def zBH_d : Desc := ⟨[(0, .d .bool)], []⟩
def zBH_Fi (n : Nat) (a0 : Bool) (k0 : ByteArray → Option R) : Option R :=
  if a0 = true then (k0 (⟨#[116, 114, 117, 101]⟩ : ByteArray)) else (k0 (⟨#[102, 97, 108, 115, 101]⟩ : ByteArray))
def zBH_F {R : Type} := lazyN (@zBH_Fi R)
theorem zBH_e : @zBH_F R = @zBH_Fi R := lazyN_eq _
def zBH_g (n : Nat) : Gx R := typed 1 zBH_d fun x k => zBH_F n x.1 (fun y0 => k (.a (.c (.s y0))) [])
def zBH_cs (R : Type) (n : Nat) : List (Nat × Gx R) := []
def zBH_cx (R : Type) (n : Nat) : Cx R := ⟨Tryz.prog, Gof (zBH_cs R n), noDs, noDx, noLp, drawP Tryz.prog (Gof (zBH_cs R n)), false, noJn, noFz⟩
theorem zBH_ok [Esc R] (n : Nat) : Good Tryz.prog 107 (zBH_g (R := R) n) := by
  unfold zBH_g
  rw [zBH_e]
  exact Good.fn (cx := zBH_cx R n) (by kernel_rfl) (AllGood.nil) rfl Tryz.func107 (by kernel_rfl) rfl trivial 1 zBH_d (by kernel_rfl) (fun x k => by kernel_rfl)
@[reducible] def zAK_d : Desc := ⟨[(0, .d .bool)], []⟩
def zAK_Fi (n : Nat) (a0 : Bool) (k0 : ByteArray → Option R) : Option R :=
  zBH_F n a0 (fun y1 => k0 y1)
def zAK_F {R : Type} := lazyN (@zAK_Fi R)
theorem zAK_e : @zAK_F R = @zAK_Fi R := lazyN_eq _
def zAK_g (n : Nat) : Gx R := typed 1 zAK_d fun x k => zAK_F n x.1 (fun y0 => k (.a (.c (.s y0))) [])
def zAK_cs (R : Type) (n : Nat) : List (Nat × Gx R) := [(107, zBH_g n)]
def zAK_cx (R : Type) (n : Nat) : Cx R := ⟨Tryz.prog, Gof (zAK_cs R n), noDs, noDx, noLp, drawP Tryz.prog (Gof (zAK_cs R n)), false, noJn, noFz⟩
theorem zAK_ok [Esc R] (n : Nat) : Good Tryz.prog 77 (zAK_g (R := R) n) := by
  unfold zAK_g
  rw [zAK_e]
  exact Good.fn (cx := zAK_cx R n) (by kernel_rfl) (AllGood.cons (zBH_ok n) (AllGood.nil)) rfl Tryz.func77 (by kernel_rfl) rfl trivial 1 zAK_d (by kernel_rfl) (fun x k => by kernel_rfl)
@[reducible] def zBS_d : Desc := ⟨[(0, .d (.int .i64)), (1, .d (.int .i64))], []⟩
def zBS_Fi (n : Nat) (a0 : Int) (a1 : Int) (k0 : ByteArray → Option R) : Option R :=
  if a1 = 10 ∧ -9223372036854775808 ≤ a0 ∧ a0 ≤ 9223372036854775807 then (k0 (fmtB a0)) else none
def zBS_F {R : Type} := lazyN (@zBS_Fi R)
theorem zBS_e : @zBS_F R = @zBS_Fi R := lazyN_eq _
def zBS_g (n : Nat) : Gx R := typed 2 zBS_d fun x k => zBS_F n x.1 x.2.1 (fun y0 => k (.a (.c (.s y0))) [])
theorem zBS_ok [Esc R] (n : Nat) : Good Tryz.prog 32 (zBS_g (R := R) n) := by
  unfold zBS_g
  rw [zBS_e]
  exact Good.hand2 Tryz.func32 (by kernel_rfl) rfl rfl rfl fmt_back (fun x k => rfl)
@[reducible] def zDI_d : Desc := ⟨[(0, .d .str)], []⟩
def zDI_Fi (n : Nat) (a0 : ByteArray) (k0 : ByteArray → Option R) : Option R :=
  if a0.size ≤ 1048576 then (k0 (quB a0)) else none
def zDI_F {R : Type} := lazyN (@zDI_Fi R)
theorem zDI_e : @zDI_F R = @zDI_Fi R := lazyN_eq _
def zDI_g (n : Nat) : Gx R := typed 1 zDI_d fun x k => zDI_F n x.1 (fun y0 => k (.a (.c (.s y0))) [])
theorem zDI_ok [Esc R] (n : Nat) : Good Tryz.prog 78 (zDI_g (R := R) n) := by
  unfold zDI_g
  rw [zDI_e]
  exact Good.hand1 Tryz.func78 (by kernel_rfl) rfl rfl quoted_back (fun x k => rfl)
@[reducible] def zCU_d : Desc := ⟨[(0, .d ty46)], []⟩
def zCU_Fi (n : Nat) (a0 : ty46.D) (k0 : ByteArray → Option R) : Option R :=
  zCZ_F n a0 (fun y1 => if (!y1) = true then (k0 (⟨#[]⟩ : ByteArray)) else (if (a0.1 == 1) = true then (zAK_F n a0.2.1 (fun y2 => k0 y2)) else (if (a0.1 == 2) = true then (zBS_F n a0.2.2.1 10 (fun y3 => k0 y3)) else (if (a0.1 == 3) = true then (zDI_F n a0.2.2.2.1 (fun y4 => k0 y4)) else (k0 (⟨#[110, 117, 108, 108]⟩ : ByteArray))))))
def zCU_F {R : Type} := lazyN (@zCU_Fi R)
theorem zCU_e : @zCU_F R = @zCU_Fi R := lazyN_eq _
def zCU_g (n : Nat) : Gx R := typed 1 zCU_d fun x k => zCU_F n x.1 (fun y0 => k (.a (.c (.s y0))) [])
def zCU_cs (R : Type) (n : Nat) : List (Nat × Gx R) := [(32, zBS_g n), (76, zCZ_g n), (77, zAK_g n), (78, zDI_g n)]
def zCU_cx (R : Type) (n : Nat) : Cx R := ⟨Tryz.prog, Gof (zCU_cs R n), noDs, noDx, noLp, drawP Tryz.prog (Gof (zCU_cs R n)), false, noJn, noFz⟩
theorem zCU_ok [Esc R] (n : Nat) : Good Tryz.prog 51 (zCU_g (R := R) n) := by
  unfold zCU_g
  rw [zCU_e]
  exact Good.fn (cx := zCU_cx R n) (by kernel_rfl) (AllGood.cons (zBS_ok n) (AllGood.cons (zCZ_ok n) (AllGood.cons (zAK_ok n) (AllGood.cons (zDI_ok n) (AllGood.nil))))) rfl Tryz.func51 (by kernel_rfl) rfl trivial 1 zCU_d (by kernel_rfl) (fun x k => by kernel_rfl)
@[reducible] def zCV_d : Desc := ⟨[(0, .d .str)], []⟩
def zCV_Fi (n : Nat) (a0 : ByteArray) (k0 : ty46.D → Int → Option R) : Option R :=
  zCY_F n a0 (fun y1 => if (a0.toList == (⟨#[]⟩ : ByteArray).toList) = true then (k0 (0, false, 0, (⟨#[]⟩ : ByteArray), ()) 7) else (zCU_F n y1 (fun y2 => if (!(y2.toList == a0.toList)) = true then (k0 (0, false, 0, (⟨#[]⟩ : ByteArray), ()) 7) else (k0 y1 0))))
def zCV_F {R : Type} := lazyN (@zCV_Fi R)
theorem zCV_e : @zCV_F R = @zCV_Fi R := lazyN_eq _
def zCV_g (n : Nat) : Gx R := typed 1 zCV_d fun x k => zCV_F n x.1 (fun y0 y1 => k (.tu [(encA ty46 y0), (.c (.i .i64 y1))]) [])
def zCV_cs (R : Type) (n : Nat) : List (Nat × Gx R) := [(51, zCU_g n), (131, zCY_g n)]
def zCV_cx (R : Type) (n : Nat) : Cx R := ⟨Tryz.prog, Gof (zCV_cs R n), noDs, noDx, noLp, drawP Tryz.prog (Gof (zCV_cs R n)), false, noJn, noFz⟩
theorem zCV_ok [Esc R] (n : Nat) : Good Tryz.prog 117 (zCV_g (R := R) n) := by
  unfold zCV_g
  rw [zCV_e]
  exact Good.fn (cx := zCV_cx R n) (by kernel_rfl) (AllGood.cons (zCU_ok n) (AllGood.cons (zCY_ok n) (AllGood.nil))) rfl Tryz.func117 (by kernel_rfl) rfl trivial 1 zCV_d (by kernel_rfl) (fun x k => by kernel_rfl)
@[reducible] def zCJ_d : Desc := ⟨[(0, .d .str)], []⟩
def zCJ_Fi (n : Nat) (a0 : ByteArray) (k0 : ty78.D → Option R) : Option R :=
  zAC_F n a0 1 (fun y1 => if (0 : Int) ≤ y1 ∧ y1 ≤ (a0.size : Int) then (zCV_F n (a0.extract 0 (Int.toNat y1)) (fun y2 y3 => if (y3 == 0) = true then (k0 (2, (a0.extract 0 (Int.toNat y1)), y2, 0, ())) else (k0 (1, (a0.extract 0 (Int.toNat y1)), (0, false, 0, (⟨#[]⟩ : ByteArray), ()), 0, ())))) else none)
def zCJ_F {R : Type} := lazyN (@zCJ_Fi R)
theorem zCJ_e : @zCJ_F R = @zCJ_Fi R := lazyN_eq _
def zCJ_g (n : Nat) : Gx R := typed 1 zCJ_d fun x k => zCJ_F n x.1 (fun y0 => k (.a (encA ty78 y0)) [])
def zCJ_cs (R : Type) (n : Nat) : List (Nat × Gx R) := [(56, zAC_g n), (117, zCV_g n)]
def zCJ_cx (R : Type) (n : Nat) : Cx R := ⟨Tryz.prog, Gof (zCJ_cs R n), noDs, noDx, noLp, drawP Tryz.prog (Gof (zCJ_cs R n)), false, noJn, noFz⟩
theorem zCJ_ok [Esc R] (n : Nat) : Good Tryz.prog 87 (zCJ_g (R := R) n) := by
  unfold zCJ_g
  rw [zCJ_e]
  exact Good.fn (cx := zCJ_cx R n) (by kernel_rfl) (AllGood.cons (zAC_ok n) (AllGood.cons (zCV_ok n) (AllGood.nil))) rfl Tryz.func87 (by kernel_rfl) rfl trivial 1 zCJ_d (by kernel_rfl) (fun x k => by kernel_rfl)
def zBT_ds : Nat → Desc
  | 1 => ⟨[(0, .d .str), (1, .d (.int .i64)), (2, .fn 88 [])], []⟩
  | _ => ⟨[], []⟩
def zBT_dx : Nat → List (X × Desc)
  | 1 => [(.e 0, ⟨[(1, .d (.int .i64))], []⟩)]
  | _ => []
def zBT_s1 (n : Nat) (x0 : ByteArray) (x1 : Int) (k1 : ByteArray → Int → Option R) (qe0 : Int → Option R) : Option R :=
  if (decide (x1 < (x0.size : Int))) = true then (if (0 : Int) ≤ x1 then if x1 < (x0.size : Int) then (zCX_F n (byteAt x0 x1) (fun y1 => if y1 = true then (k1 x0 (IntKind.i64.wrap (x1 + 1))) else (qe0 x1))) else none else none) else (qe0 x1)
def zBT_l1 (n : Nat) (a : (zBT_ds 1).D) (k1 : (zBT_ds 1).D → Option R) (k2 : exK R (zBT_dx 1)) : Option R :=
  zBT_s1 n a.1 a.2.1 (fun x0 x1 => k1 (x0, x1, ())) (fun x0 => k2.1 (x0, ()))
@[reducible] def zBT_d : Desc := ⟨[(0, .d .str), (1, .d (.int .i64)), (2, .fn 88 [])], []⟩
def zBT_Fi (n : Nat) (a0 : ByteArray) (a1 : Int) (k0 : Int → Option R) : Option R :=
  runC (zBT_l1 n) n (a0, a1, ()) (fun b2 => k0 b2.1, ())
def zBT_F {R : Type} := lazyN (@zBT_Fi R)
theorem zBT_e : @zBT_F R = @zBT_Fi R := lazyN_eq _
def zBT_g (n : Nat) : Gx R := typed 3 zBT_d fun x k => zBT_F n x.1 x.2.1 (fun y0 => k (.a (.c (.i .i64 y0))) [])
def zBT_cs (R : Type) (n : Nat) : List (Nat × Gx R) := [(88, zCX_g n)]
def zBT_lp (n : Nat) : (i : Nat) → (zBT_ds i).D → exK R (zBT_dx i) → Option R
  | 1, a, k => runC (zBT_l1 n) n a k
  | _, _, _ => none
def zBT_cx (R : Type) (n : Nat) : Cx R := ⟨Tryz.prog, Gof (zBT_cs R n), zBT_ds, zBT_dx, zBT_lp n, drawP Tryz.prog (Gof (zBT_cs R n)), false, noJn, noFz⟩
theorem zBT_ok [Esc R] (n : Nat) : Good Tryz.prog 56 (zBT_g (R := R) n) := by
  unfold zBT_g
  rw [zBT_e]
  exact Good.fn (cx := zBT_cx R n) (by kernel_rfl) (AllGood.cons (zCX_ok n) (AllGood.nil)) rfl Tryz.func56 (by kernel_rfl) rfl (by
    have e : fnLoops noJn Tryz.f56 = [((fnLoops noJn Tryz.f56)[0]?).getD (false, .skip)] := by kernel_rfl
    show LoopRuns _ _ (fnLoops noJn _)
    rw [e]
    exact ⟨LoopRun.loop (by kernel_rfl) (i := 1) (m := n) (step := zBT_l1 n) (by kernel_rfl) (fun a k1 k2 => by kernel_rfl) (fun _ _ => rfl), trivial⟩) 3 zBT_d (by kernel_rfl) (fun x k => by kernel_rfl)
@[reducible] def zCL_d : Desc := ⟨[(0, .d .str), (1, .d (.int .i64))], []⟩
def zCL_Fi (n : Nat) (a0 : ByteArray) (a1 : Int) (k0 : ty78.D → Bool → Option R) : Option R :=
  if (0 : Int) ≤ a1 ∧ a1 ≤ (a0.size : Int) then (zCV_F n (a0.extract 0 (Int.toNat a1)) (fun y1 y2 => if (0 : Int) ≤ a1 ∧ a1 ≤ (a0.size : Int) then (k0 (2, (a0.extract 0 (Int.toNat a1)), y1, 0, ()) (y2 == 0)) else none)) else none
def zCL_F {R : Type} := lazyN (@zCL_Fi R)
theorem zCL_e : @zCL_F R = @zCL_Fi R := lazyN_eq _
def zCL_g (n : Nat) : Gx R := typed 2 zCL_d fun x k => zCL_F n x.1 x.2.1 (fun y0 y1 => k (.tu [(encA ty78 y0), (.c (.b y1))]) [])
def zCL_cs (R : Type) (n : Nat) : List (Nat × Gx R) := [(117, zCV_g n)]
def zCL_cx (R : Type) (n : Nat) : Cx R := ⟨Tryz.prog, Gof (zCL_cs R n), noDs, noDx, noLp, drawP Tryz.prog (Gof (zCL_cs R n)), false, noJn, noFz⟩
theorem zCL_ok [Esc R] (n : Nat) : Good Tryz.prog 118 (zCL_g (R := R) n) := by
  unfold zCL_g
  rw [zCL_e]
  exact Good.fn (cx := zCL_cx R n) (by kernel_rfl) (AllGood.cons (zCV_ok n) (AllGood.nil)) rfl Tryz.func118 (by kernel_rfl) rfl trivial 2 zCL_d (by kernel_rfl) (fun x k => by kernel_rfl)
@[reducible] def zCW_d : Desc := ⟨[(0, .d .str)], []⟩
def zCW_Fi (n : Nat) (a0 : ByteArray) (k0 : ty78.D → Bool → Option R) : Option R :=
  zBT_F n a0 1 (fun y1 => if (decide (y1 < (a0.size : Int))) = true then (if (0 : Int) ≤ y1 then if y1 < (a0.size : Int) then (zCO_F n (byteAt a0 y1) (fun y2 => if y2 = true then (k0 (0, (⟨#[]⟩ : ByteArray), (0, false, 0, (⟨#[]⟩ : ByteArray), ()), 0, ()) false) else (if (0 : Int) ≤ y1 then if y1 < (a0.size : Int) then (if ((byteAt a0 y1) == 95) = true then (k0 (0, (⟨#[]⟩ : ByteArray), (0, false, 0, (⟨#[]⟩ : ByteArray), ()), 0, ()) false) else (zCL_F n a0 y1 (fun y3 y4 => k0 y3 y4))) else none else none))) else none else none) else (zCL_F n a0 y1 (fun y5 y6 => k0 y5 y6)))
def zCW_F {R : Type} := lazyN (@zCW_Fi R)
theorem zCW_e : @zCW_F R = @zCW_Fi R := lazyN_eq _
def zCW_g (n : Nat) : Gx R := typed 1 zCW_d fun x k => zCW_F n x.1 (fun y0 y1 => k (.tu [(encA ty78 y0), (.c (.b y1))]) [])
def zCW_cs (R : Type) (n : Nat) : List (Nat × Gx R) := [(56, zBT_g n), (86, zCO_g n), (118, zCL_g n)]
def zCW_cx (R : Type) (n : Nat) : Cx R := ⟨Tryz.prog, Gof (zCW_cs R n), noDs, noDx, noLp, drawP Tryz.prog (Gof (zCW_cs R n)), false, noJn, noFz⟩
theorem zCW_ok [Esc R] (n : Nat) : Good Tryz.prog 89 (zCW_g (R := R) n) := by
  unfold zCW_g
  rw [zCW_e]
  exact Good.fn (cx := zCW_cx R n) (by kernel_rfl) (AllGood.cons (zBT_ok n) (AllGood.cons (zCO_ok n) (AllGood.cons (zCL_ok n) (AllGood.nil)))) rfl Tryz.func89 (by kernel_rfl) rfl trivial 1 zCW_d (by kernel_rfl) (fun x k => by kernel_rfl)
def zBO_ds : Nat → Desc
  | 2 => ⟨[(0, .d .str), (2, .pt 0 0), (4, .d (.int .i64))], [.box false 78 [.d (.int .i64), .d .str, .d (.int .i64), .d .bool, .d (.int .i64), .d .str, .d (.int .i64)]]⟩
  | _ => ⟨[], []⟩
def zBO_dx : Nat → List (X × Desc)
  | 2 => [(.r, ⟨[(2, .pt 0 0), (3, .d .bool)], [.box false 78 [.d (.int .i64), .d .str, .d (.int .i64), .d .bool, .d (.int .i64), .d .str, .d (.int .i64)]]⟩), (.e 0, ⟨[(2, .pt 0 0)], [.box false 78 [.d (.int .i64), .d .str, .d (.int .i64), .d .bool, .d (.int .i64), .d .str, .d (.int .i64)]]⟩)]
  | _ => []
def zBO_s2 (n : Nat) (x0 : ByteArray) (x1 : Int) (x2 : Int) (x3 : ByteArray) (x4 : Int) (x5 : Bool) (x6 : Int) (x7 : ByteArray) (x8 : Int) (k1 : ByteArray → Int → Int → ByteArray → Int → Bool → Int → ByteArray → Int → Option R) (qr : Bool → Int → ByteArray → Int → Bool → Int → ByteArray → Int → Option R) (qe0 : Int → ByteArray → Int → Bool → Int → ByteArray → Int → Option R) : Option R :=
  if (decide (x1 < (x0.size : Int))) = true then (if (0 : Int) ≤ x1 then if x1 < (x0.size : Int) then (if ((byteAt x0 x1) == 34) = true then (zCL_F n x0 (IntKind.i64.wrap (x1 + 1)) (fun y1 y2 => qr y2 y1.1 y1.2.1 y1.2.2.1.1 y1.2.2.1.2.1 y1.2.2.1.2.2.1 y1.2.2.1.2.2.2.1 y1.2.2.2.1)) else (if ((byteAt x0 x1) == 92) = true then (k1 x0 (IntKind.i64.wrap ((IntKind.i64.wrap (x1 + 1)) + 1)) x2 x3 x4 x5 x6 x7 x8) else (k1 x0 (IntKind.i64.wrap (x1 + 1)) x2 x3 x4 x5 x6 x7 x8))) else none else none) else (qe0 x2 x3 x4 x5 x6 x7 x8)
def zBO_l2 (n : Nat) (a : (zBO_ds 2).D) (k1 : (zBO_ds 2).D → Option R) (k2 : exK R (zBO_dx 2)) : Option R :=
  zBO_s2 n a.1 a.2.1 a.2.2.1 a.2.2.2.1 a.2.2.2.2.1 a.2.2.2.2.2.1 a.2.2.2.2.2.2.1 a.2.2.2.2.2.2.2.1 a.2.2.2.2.2.2.2.2.1 (fun x0 x1 x2 x3 x4 x5 x6 x7 x8 => k1 (x0, x1, x2, x3, x4, x5, x6, x7, x8, ())) (fun x0 x1 x2 x3 x4 x5 x6 x7 => k2.1 (x0, x1, x2, x3, x4, x5, x6, x7, ())) (fun x0 x1 x2 x3 x4 x5 x6 => k2.2.1 (x0, x1, x2, x3, x4, x5, x6, ()))
@[reducible] def zBO_d : Desc := ⟨[(0, .d .str)], []⟩
def zBO_Fi (n : Nat) (a0 : ByteArray) (k0 : ty78.D → Bool → Option R) : Option R :=
  runC (zBO_l2 n) n (a0, 1, 0, (⟨#[]⟩ : ByteArray), 0, false, 0, (⟨#[]⟩ : ByteArray), 0, ()) (fun b10 => k0 (b10.2.1, b10.2.2.1, (b10.2.2.2.1, b10.2.2.2.2.1, b10.2.2.2.2.2.1, b10.2.2.2.2.2.2.1, ()), b10.2.2.2.2.2.2.2.1, ()) b10.1, fun b17 => k0 (0, (⟨#[]⟩ : ByteArray), (0, false, 0, (⟨#[]⟩ : ByteArray), ()), 0, ()) false, ())
def zBO_F {R : Type} := lazyN (@zBO_Fi R)
theorem zBO_e : @zBO_F R = @zBO_Fi R := lazyN_eq _
def zBO_g (n : Nat) : Gx R := typed 1 zBO_d fun x k => zBO_F n x.1 (fun y0 y1 => k (.tu [(encA ty78 y0), (.c (.b y1))]) [])
def zBO_cs (R : Type) (n : Nat) : List (Nat × Gx R) := [(118, zCL_g n)]
def zBO_lp (n : Nat) : (i : Nat) → (zBO_ds i).D → exK R (zBO_dx i) → Option R
  | 2, a, k => runC (zBO_l2 n) n a k
  | _, _, _ => none
def zBO_cx (R : Type) (n : Nat) : Cx R := ⟨Tryz.prog, Gof (zBO_cs R n), zBO_ds, zBO_dx, zBO_lp n, drawP Tryz.prog (Gof (zBO_cs R n)), false, noJn, noFz⟩
theorem zBO_ok [Esc R] (n : Nat) : Good Tryz.prog 90 (zBO_g (R := R) n) := by
  unfold zBO_g
  rw [zBO_e]
  exact Good.fn (cx := zBO_cx R n) (by kernel_rfl) (AllGood.cons (zCL_ok n) (AllGood.nil)) rfl Tryz.func90 (by kernel_rfl) rfl (by
    have e : fnLoops noJn Tryz.f90 = [((fnLoops noJn Tryz.f90)[0]?).getD (false, .skip)] := by kernel_rfl
    show LoopRuns _ _ (fnLoops noJn _)
    rw [e]
    exact ⟨LoopRun.loop (by kernel_rfl) (i := 2) (m := n) (step := zBO_l2 n) (by kernel_rfl) (fun a k1 k2 => by kernel_rfl) (fun _ _ => rfl), trivial⟩) 1 zBO_d (by kernel_rfl) (fun x k => by kernel_rfl)
@[reducible] def zBN_d : Desc := ⟨[(0, .d .str), (1, .d .str)], []⟩
def zBN_Fi (n : Nat) (a0 : ByteArray) (a1 : ByteArray) (k0 : Bool → Option R) : Option R :=
  if (decide ((a0.size : Int) ≥ (a1.size : Int))) = true then (if (0 : Int) ≤ (a1.size : Int) ∧ (a1.size : Int) ≤ (a0.size : Int) then (k0 ((a0.extract 0 (Int.toNat (a1.size : Int))).toList == a1.toList)) else none) else (k0 false)
def zBN_F {R : Type} := lazyN (@zBN_Fi R)
theorem zBN_e : @zBN_F R = @zBN_Fi R := lazyN_eq _
def zBN_g (n : Nat) : Gx R := typed 2 zBN_d fun x k => zBN_F n x.1 x.2.1 (fun y0 => k (.a (.c (.b y0))) [])
def zBN_cs (R : Type) (n : Nat) : List (Nat × Gx R) := []
def zBN_cx (R : Type) (n : Nat) : Cx R := ⟨Tryz.prog, Gof (zBN_cs R n), noDs, noDx, noLp, drawP Tryz.prog (Gof (zBN_cs R n)), false, noJn, noFz⟩
theorem zBN_ok [Esc R] (n : Nat) : Good Tryz.prog 132 (zBN_g (R := R) n) := by
  unfold zBN_g
  rw [zBN_e]
  exact Good.fn (cx := zBN_cx R n) (by kernel_rfl) (AllGood.nil) rfl Tryz.func132 (by kernel_rfl) rfl trivial 2 zBN_d (by kernel_rfl) (fun x k => by kernel_rfl)
@[reducible] def zCE_d : Desc := ⟨[(0, .d .str), (1, .d .str)], []⟩
def zCE_Fi (n : Nat) (a0 : ByteArray) (a1 : ByteArray) (k0 : Bool → Option R) : Option R :=
  zBN_F n a0 a1 (fun y1 => k0 y1)
def zCE_F {R : Type} := lazyN (@zCE_Fi R)
theorem zCE_e : @zCE_F R = @zCE_Fi R := lazyN_eq _
def zCE_g (n : Nat) : Gx R := typed 2 zCE_d fun x k => zCE_F n x.1 x.2.1 (fun y0 => k (.a (.c (.b y0))) [])
def zCE_cs (R : Type) (n : Nat) : List (Nat × Gx R) := [(132, zBN_g n)]
def zCE_cx (R : Type) (n : Nat) : Cx R := ⟨Tryz.prog, Gof (zCE_cs R n), noDs, noDx, noLp, drawP Tryz.prog (Gof (zCE_cs R n)), false, noJn, noFz⟩
theorem zCE_ok [Esc R] (n : Nat) : Good Tryz.prog 119 (zCE_g (R := R) n) := by
  unfold zCE_g
  rw [zCE_e]
  exact Good.fn (cx := zCE_cx R n) (by kernel_rfl) (AllGood.cons (zBN_ok n) (AllGood.nil)) rfl Tryz.func119 (by kernel_rfl) rfl trivial 2 zCE_d (by kernel_rfl) (fun x k => by kernel_rfl)
def zCG_ds : Nat → Desc
  | 2 => ⟨[(0, .d .str), (2, .pt 0 0), (6, .ow 1), (7, .d (.int .i64)), (8, .d (.int .i64))], [.box false 78 [.d (.int .i64), .d .str, .d (.int .i64), .d .bool, .d (.int .i64), .d .str, .d (.int .i64)], .arr 9 .str]⟩
  | _ => ⟨[], []⟩
def zCG_dx : Nat → List (X × Desc)
  | 2 => [(.r, ⟨[(2, .pt 0 0), (3, .d .bool)], [.box false 78 [.d (.int .i64), .d .str, .d (.int .i64), .d .bool, .d (.int .i64), .d .str, .d (.int .i64)]]⟩), (.e 0, ⟨[(2, .pt 0 0)], [.box false 78 [.d (.int .i64), .d .str, .d (.int .i64), .d .bool, .d (.int .i64), .d .str, .d (.int .i64)]]⟩)]
  | _ => []
def zCG_s2 (n : Nat) (x0 : ByteArray) (x1 : Int) (x2 : Int) (x3 : Int) (x4 : ByteArray) (x5 : Int) (x6 : Bool) (x7 : Int) (x8 : ByteArray) (x9 : Int) (x10 : (List ByteArray)) (k1 : ByteArray → Int → Int → Int → ByteArray → Int → Bool → Int → ByteArray → Int → (List ByteArray) → Option R) (qr : Bool → Int → ByteArray → Int → Bool → Int → ByteArray → Int → Option R) (qe0 : Int → ByteArray → Int → Bool → Int → ByteArray → Int → Option R) : Option R :=
  if (decide (x2 < x1)) = true then (if (0 : Int) ≤ x2 ∧ x2 < (x10.length : Int) then (if (Int.toNat x2) < x10.length then (zCE_F n x0 (x10.getD (Int.toNat x2) (Ty.z .str)) (fun y1 => if y1 = true then (qr true 3 (x10.getD (Int.toNat x2) (Ty.z .str)) 0 false 0 (⟨#[]⟩ : ByteArray) 0) else (k1 x0 x1 (IntKind.i64.wrap (x2 + 1)) x3 x4 x5 x6 x7 x8 x9 x10))) else none) else none) else (qe0 x3 x4 x5 x6 x7 x8 x9)
def zCG_l2 (n : Nat) (a : (zCG_ds 2).D) (k1 : (zCG_ds 2).D → Option R) (k2 : exK R (zCG_dx 2)) : Option R :=
  zCG_s2 n a.1 a.2.1 a.2.2.1 a.2.2.2.1 a.2.2.2.2.1 a.2.2.2.2.2.1 a.2.2.2.2.2.2.1 a.2.2.2.2.2.2.2.1 a.2.2.2.2.2.2.2.2.1 a.2.2.2.2.2.2.2.2.2.1 a.2.2.2.2.2.2.2.2.2.2.1 (fun x0 x1 x2 x3 x4 x5 x6 x7 x8 x9 x10 => k1 (x0, x1, x2, x3, x4, x5, x6, x7, x8, x9, x10, ())) (fun x0 x1 x2 x3 x4 x5 x6 x7 => k2.1 (x0, x1, x2, x3, x4, x5, x6, x7, ())) (fun x0 x1 x2 x3 x4 x5 x6 => k2.2.1 (x0, x1, x2, x3, x4, x5, x6, ()))
@[reducible] def zCG_d : Desc := ⟨[(0, .d .str)], []⟩
def zCG_Fi (n : Nat) (a0 : ByteArray) (k0 : ty78.D → Bool → Option R) : Option R :=
  runC (zCG_l2 n) n (a0, ([(⟨#[61, 61]⟩ : ByteArray), (⟨#[33, 61]⟩ : ByteArray), (⟨#[60, 61]⟩ : ByteArray), (⟨#[62, 61]⟩ : ByteArray), (⟨#[60]⟩ : ByteArray), (⟨#[62]⟩ : ByteArray), (⟨#[40]⟩ : ByteArray), (⟨#[41]⟩ : ByteArray), (⟨#[44]⟩ : ByteArray), (⟨#[95]⟩ : ByteArray)].length : Int), 0, 0, (⟨#[]⟩ : ByteArray), 0, false, 0, (⟨#[]⟩ : ByteArray), 0, [(⟨#[61, 61]⟩ : ByteArray), (⟨#[33, 61]⟩ : ByteArray), (⟨#[60, 61]⟩ : ByteArray), (⟨#[62, 61]⟩ : ByteArray), (⟨#[60]⟩ : ByteArray), (⟨#[62]⟩ : ByteArray), (⟨#[40]⟩ : ByteArray), (⟨#[41]⟩ : ByteArray), (⟨#[44]⟩ : ByteArray), (⟨#[95]⟩ : ByteArray)], ()) (fun b9 => k0 (b9.2.1, b9.2.2.1, (b9.2.2.2.1, b9.2.2.2.2.1, b9.2.2.2.2.2.1, b9.2.2.2.2.2.2.1, ()), b9.2.2.2.2.2.2.2.1, ()) b9.1, fun b16 => k0 (0, (⟨#[]⟩ : ByteArray), (0, false, 0, (⟨#[]⟩ : ByteArray), ()), 0, ()) false, ())
def zCG_F {R : Type} := lazyN (@zCG_Fi R)
theorem zCG_e : @zCG_F R = @zCG_Fi R := lazyN_eq _
def zCG_g (n : Nat) : Gx R := typed 1 zCG_d fun x k => zCG_F n x.1 (fun y0 y1 => k (.tu [(encA ty78 y0), (.c (.b y1))]) [])
def zCG_cs (R : Type) (n : Nat) : List (Nat × Gx R) := [(119, zCE_g n)]
def zCG_lp (n : Nat) : (i : Nat) → (zCG_ds i).D → exK R (zCG_dx i) → Option R
  | 2, a, k => runC (zCG_l2 n) n a k
  | _, _, _ => none
def zCG_cx (R : Type) (n : Nat) : Cx R := ⟨Tryz.prog, Gof (zCG_cs R n), zCG_ds, zCG_dx, zCG_lp n, drawP Tryz.prog (Gof (zCG_cs R n)), false, noJn, noFz⟩
theorem zCG_ok [Esc R] (n : Nat) : Good Tryz.prog 91 (zCG_g (R := R) n) := by
  unfold zCG_g
  rw [zCG_e]
  exact Good.fn (cx := zCG_cx R n) (by kernel_rfl) (AllGood.cons (zCE_ok n) (AllGood.nil)) rfl Tryz.func91 (by kernel_rfl) rfl (by
    have e : fnLoops noJn Tryz.f91 = [((fnLoops noJn Tryz.f91)[0]?).getD (false, .skip)] := by kernel_rfl
    show LoopRuns _ _ (fnLoops noJn _)
    rw [e]
    exact ⟨LoopRun.loop (by kernel_rfl) (i := 2) (m := n) (step := zCG_l2 n) (by kernel_rfl) (fun a k1 k2 => by kernel_rfl) (fun _ _ => rfl), trivial⟩) 1 zCG_d (by kernel_rfl) (fun x k => by kernel_rfl)
@[reducible] def zDH_d : Desc := ⟨[(0, .d .str)], []⟩
def zDH_Fi (n : Nat) (a0 : ByteArray) (k0 : ty78.D → Bool → Option R) : Option R :=
  if (0 : Int) ≤ 0 then if 0 < (a0.size : Int) then (zCO_F n (byteAt a0 0) (fun y1 => if y1 = true then (zCJ_F n a0 (fun y2 => k0 y2 true)) else (zCX_F n (byteAt a0 0) (fun y3 => if y3 = true then (zCW_F n a0 (fun y4 y5 => k0 y4 y5)) else (if ((byteAt a0 0) == 45) = true then (zCW_F n a0 (fun y6 y7 => k0 y6 y7)) else (if ((byteAt a0 0) == 34) = true then (zBO_F n a0 (fun y8 y9 => k0 y8 y9)) else (zCG_F n a0 (fun y10 y11 => k0 y10 y11)))))))) else none else none
def zDH_F {R : Type} := lazyN (@zDH_Fi R)
theorem zDH_e : @zDH_F R = @zDH_Fi R := lazyN_eq _
def zDH_g (n : Nat) : Gx R := typed 1 zDH_d fun x k => zDH_F n x.1 (fun y0 y1 => k (.tu [(encA ty78 y0), (.c (.b y1))]) [])
def zDH_cs (R : Type) (n : Nat) : List (Nat × Gx R) := [(86, zCO_g n), (87, zCJ_g n), (88, zCX_g n), (89, zCW_g n), (90, zBO_g n), (91, zCG_g n)]
def zDH_cx (R : Type) (n : Nat) : Cx R := ⟨Tryz.prog, Gof (zDH_cs R n), noDs, noDx, noLp, drawP Tryz.prog (Gof (zDH_cs R n)), false, noJn, noFz⟩
theorem zDH_ok [Esc R] (n : Nat) : Good Tryz.prog 58 (zDH_g (R := R) n) := by
  unfold zDH_g
  rw [zDH_e]
  exact Good.fn (cx := zDH_cx R n) (by kernel_rfl) (AllGood.cons (zCO_ok n) (AllGood.cons (zCJ_ok n) (AllGood.cons (zCX_ok n) (AllGood.cons (zCW_ok n) (AllGood.cons (zBO_ok n) (AllGood.cons (zCG_ok n) (AllGood.nil))))))) rfl Tryz.func58 (by kernel_rfl) rfl trivial 1 zDH_d (by kernel_rfl) (fun x k => by kernel_rfl)
@[reducible] def zDJ_d : Desc := ⟨[(0, .d (.int .u8))], []⟩
def zDJ_Fi (n : Nat) (a0 : Int) (k0 : Bool → Option R) : Option R :=
  if (a0 == 32) = true then (k0 true) else (k0 (a0 == 10))
def zDJ_F {R : Type} := lazyN (@zDJ_Fi R)
theorem zDJ_e : @zDJ_F R = @zDJ_Fi R := lazyN_eq _
def zDJ_g (n : Nat) : Gx R := typed 1 zDJ_d fun x k => zDJ_F n x.1 (fun y0 => k (.a (.c (.b y0))) [])
def zDJ_cs (R : Type) (n : Nat) : List (Nat × Gx R) := []
def zDJ_cx (R : Type) (n : Nat) : Cx R := ⟨Tryz.prog, Gof (zDJ_cs R n), noDs, noDx, noLp, drawP Tryz.prog (Gof (zDJ_cs R n)), false, noJn, noFz⟩
theorem zDJ_ok [Esc R] (n : Nat) : Good Tryz.prog 57 (zDJ_g (R := R) n) := by
  unfold zDJ_g
  rw [zDJ_e]
  exact Good.fn (cx := zDJ_cx R n) (by kernel_rfl) (AllGood.nil) rfl Tryz.func57 (by kernel_rfl) rfl trivial 1 zDJ_d (by kernel_rfl) (fun x k => by kernel_rfl)
def zBU_ds : Nat → Desc
  | 1 => ⟨[(0, .d .str), (1, .d (.int .i64)), (2, .fn 57 [])], []⟩
  | _ => ⟨[], []⟩
def zBU_dx : Nat → List (X × Desc)
  | 1 => [(.e 0, ⟨[(1, .d (.int .i64))], []⟩)]
  | _ => []
def zBU_s1 (n : Nat) (x0 : ByteArray) (x1 : Int) (k1 : ByteArray → Int → Option R) (qe0 : Int → Option R) : Option R :=
  if (decide (x1 < (x0.size : Int))) = true then (if (0 : Int) ≤ x1 then if x1 < (x0.size : Int) then (zDJ_F n (byteAt x0 x1) (fun y1 => if y1 = true then (k1 x0 (IntKind.i64.wrap (x1 + 1))) else (qe0 x1))) else none else none) else (qe0 x1)
def zBU_l1 (n : Nat) (a : (zBU_ds 1).D) (k1 : (zBU_ds 1).D → Option R) (k2 : exK R (zBU_dx 1)) : Option R :=
  zBU_s1 n a.1 a.2.1 (fun x0 x1 => k1 (x0, x1, ())) (fun x0 => k2.1 (x0, ()))
@[reducible] def zBU_d : Desc := ⟨[(0, .d .str), (1, .d (.int .i64)), (2, .fn 57 [])], []⟩
def zBU_Fi (n : Nat) (a0 : ByteArray) (a1 : Int) (k0 : Int → Option R) : Option R :=
  runC (zBU_l1 n) n (a0, a1, ()) (fun b2 => k0 b2.1, ())
def zBU_F {R : Type} := lazyN (@zBU_Fi R)
theorem zBU_e : @zBU_F R = @zBU_Fi R := lazyN_eq _
def zBU_g (n : Nat) : Gx R := typed 3 zBU_d fun x k => zBU_F n x.1 x.2.1 (fun y0 => k (.a (.c (.i .i64 y0))) [])
def zBU_cs (R : Type) (n : Nat) : List (Nat × Gx R) := [(57, zDJ_g n)]
def zBU_lp (n : Nat) : (i : Nat) → (zBU_ds i).D → exK R (zBU_dx i) → Option R
  | 1, a, k => runC (zBU_l1 n) n a k
  | _, _, _ => none
def zBU_cx (R : Type) (n : Nat) : Cx R := ⟨Tryz.prog, Gof (zBU_cs R n), zBU_ds, zBU_dx, zBU_lp n, drawP Tryz.prog (Gof (zBU_cs R n)), false, noJn, noFz⟩
theorem zBU_ok [Esc R] (n : Nat) : Good Tryz.prog 56 (zBU_g (R := R) n) := by
  unfold zBU_g
  rw [zBU_e]
  exact Good.fn (cx := zBU_cx R n) (by kernel_rfl) (AllGood.cons (zDJ_ok n) (AllGood.nil)) rfl Tryz.func56 (by kernel_rfl) rfl (by
    have e : fnLoops noJn Tryz.f56 = [((fnLoops noJn Tryz.f56)[0]?).getD (false, .skip)] := by kernel_rfl
    show LoopRuns _ _ (fnLoops noJn _)
    rw [e]
    exact ⟨LoopRun.loop (by kernel_rfl) (i := 1) (m := n) (step := zBU_l1 n) (by kernel_rfl) (fun a k1 k2 => by kernel_rfl) (fun _ _ => rfl), trivial⟩) 3 zBU_d (by kernel_rfl) (fun x k => by kernel_rfl)
end
end Go.Proofs.YtnnbinmomendnaaGreatDoor.E
namespace Go.Proofs.YtnnbinmomendnaaGreatDoor.E
open Go.RowKit
section
variable {P : Program} {w : World} {F : Nat → Prop}
def LayW (W : World) : Prop := LayC W ∧ ∀ g ∈ layG, g < W.heap.size
instance escU : Esc Unit := ⟨fun _ => none⟩
theorem law_calls {f : Nat} {g : Gx Unit} (h : Good P f g) {fn : Func} (hf : P.funcs[f]? = some fn) (hname : (fn.name == "runtime.NumGoroutine") = false) (hb : fn.body.isSome = true) {args : List A} {vs : List Value} {W : World} (ha : All2 (RepA W (fun b => b < W.heap.size) []) vs args)
    (ht : g args [] (fun x _ => match x with | .a (.c (.b b)) => (bif b then some () else none) | _ => none) = some ()) (hl : LayW W := by exact ⟨trivial, fun g hg => by cases hg⟩) : Calls P f vs.toArray W fun e W' => e = .returned (.bool true) ∧ Below W.heap.size W W' := by
  have hd := h.1 args [] _ () ht vs W _ [] (Inv.nil (fun _ h => h) hl.1 hl.2) ha
  rcases hd with ⟨_, hd⟩ | ⟨v, hd, _⟩
  rotate_left
  · have h1 : ¬ fn.name = "runtime.NumGoroutine" := by simpa using hname
    have h2 : ¬ fn.body = none := by intro e; rw [e] at hb; cases hb
    simp [callFunc, hf, h1, h2, Sem.run_pure] at hd
  refine hd.mono ?_
  rintro e W' (⟨x, HN, v, F', hvN, hk, rfl, iN, hx⟩ | ⟨pv, rfl, hp, _⟩)
  rotate_left
  · cases hp
  have hv : v = .bool true := by
    split at hk
    · rename_i b
      cases b with
      | true => exact hx
      | false => cases hk
    · cases hk
  subst hv
  exact ⟨rfl, iN.os, iN.tape, iN.output, iN.size, fun k hk => iN.old k hk noU⟩
end
end Go.Proofs.YtnnbinmomendnaaGreatDoor.E
namespace Go.Proofs.YtnnbinmomendnaaGreatDoor.E
open Go.RowKit
theorem wrap_i64 {x : Int} (h1 : -9223372036854775808 ≤ x) (h2 : x < 9223372036854775808) : IntKind.i64.wrap x = x := by
  simp [IntKind.wrap, IntKind.bits, IntKind.signed]
  split <;> omega
theorem zDO (i : Nat) (h : i < 9223372036854775807) : IntKind.i64.wrap ((i : Int) + 1) = ((i + 1 : Nat) : Int) := by
  rw [wrap_i64 (by omega) (by omega)]
  rfl
theorem runC_st {α β R : Type} {step : α → (α → Option R) → β → Option R} (k : β) (r : Option R) (st : Nat → α) (m : Nat)
    (hs : ∀ i, i < m → (∀ k1, step (st i) k1 k = k1 (st (i + 1))) ∨ ∀ k1, step (st i) k1 k = r) (he : ∀ k1, step (st m) k1 k = r) {n : Nat} (hn : m < n) : runC step n (st 0) k = r := by
  have go : ∀ (d i n : Nat), i + d = m → d < n → runC step n (st i) k = r := by
    intro d
    induction d with
    | zero =>
      intro i n hi hn
      obtain ⟨n, rfl⟩ : ∃ q, n = q + 1 := ⟨n - 1, by omega⟩
      have : i = m := by omega
      subst this
      exact he _
    | succ d ih =>
      intro i n hi hn
      obtain ⟨n, rfl⟩ : ∃ q, n = q + 1 := ⟨n - 1, by omega⟩
      rcases hs i (by omega) with h | h
      · exact (h _).trans (ih (i + 1) n (by omega) (by omega))
      · exact h _
  exact go m 0 n (by omega) hn
theorem beqB (a b : ByteArray) : (a.toList == b.toList) = decide (a = b) := by
  rw [← beq_toListBytes]
  by_cases h : a = b
  · subst h; simpa using (MapKept.bytes_beq a a).2 rfl
  · rw [decide_eq_false h]
    cases e : (a == b) with
    | false => rfl
    | true => exact absurd ((MapKept.bytes_beq a b).1 e) h
instance decMem (s : ByteArray) (l : List ByteArray) : Decidable (s ∈ l) := decidable_of_iff (l.any (fun y => decide (y = s)) = true) (by simp)
theorem getD_nat {α : Type} (l : List α) (i : Nat) (h : i < l.length) (z : α) : l.getD i z = l[i] := by
  rw [List.getD_eq_getElem?_getD, List.getElem?_eq_getElem h]
  rfl
theorem lt_nat {i m : Nat} : (decide ((i : Int) < (m : Int))) = decide (i < m) := by simp
theorem take_snoc {α : Type} (l : List α) (i : Nat) (h : i < l.length) : l.take (i + 1) = l.take i ++ [l[i]] := by
  rw [List.take_add_one, List.getElem?_eq_getElem h]
  rfl
end Go.Proofs.YtnnbinmomendnaaGreatDoor.E
namespace Go.Proofs.YtnnbinmomendnaaGreatDoor.E
open Go.RowKit
variable {R : Type}
theorem ba_eq {s t : ByteArray} (h : s.data.toList = t.data.toList) : s = t := ByteArray.ext (Array.toList_inj.1 h)
theorem zDV (s : ByteArray) : s.size = s.data.toList.length := by simp
theorem mk_sz (l : List UInt8) : (⟨l.toArray⟩ : ByteArray).size = l.length := by show l.toArray.size = _; simp
theorem u64w (x : Int) (h0 : 0 ≤ x) (h1 : x < 18446744073709551616) : IntKind.u64.wrap x = x := by
  simp only [IntKind.wrap, IntKind.bits, IntKind.signed]
  simp
  omega
theorem u8w (x : Int) (h0 : 0 ≤ x) (h1 : x < 256) : IntKind.u8.wrap x = x := by
  simp only [IntKind.wrap, IntKind.bits, IntKind.signed]
  simp
  omega
theorem u64n (x : Nat) (h0 : 1 ≤ x) (h1 : x ≤ 9223372036854775808) : IntKind.u64.wrap (0 - (IntKind.u64.wrap (-(x : Int)))) = x := by
  simp only [IntKind.wrap, IntKind.bits, IntKind.signed]
  simp
  omega
def dval (acc : Nat) : List UInt8 → Nat
  | [] => acc
  | c :: r => dval (acc * 10 + (c.toNat - 48)) r
def dig (c : UInt8) : Prop := 48 ≤ c.toNat ∧ c.toNat ≤ 57
theorem dval_le : ∀ (l : List UInt8) (acc : Nat), acc ≤ dval acc l
  | [], _ => Nat.le_refl _
  | c :: r, acc => Nat.le_trans (by omega) (dval_le r (acc * 10 + (c.toNat - 48)))
theorem dval_app : ∀ (l m : List UInt8) (acc : Nat), dval acc (l ++ m) = dval (dval acc l) m
  | [], _, _ => rfl
  | c :: r, m, acc => dval_app r m _
theorem dec_dig (u : Nat) : ∀ c ∈ Lib.decDigits u, dig c := by
  induction u using Nat.strongRecOn with
  | _ u ih =>
    rw [Lib.decDigits]
    have h8 : ∀ j, j < 10 → dig (UInt8.ofNat (48 + j)) := by unfold dig; decide
    split
    · rename_i h
      intro c hc
      rw [List.mem_singleton] at hc; subst hc; exact h8 u h
    · rename_i h
      intro c hc
      rcases List.mem_append.1 hc with hc | hc
      · exact ih (u / 10) (by omega) c hc
      · rw [List.mem_singleton] at hc; subst hc; exact h8 (u % 10) (by omega)
theorem dval_dec (u : Nat) : dval 0 (Lib.decDigits u) = u := by
  induction u using Nat.strongRecOn with
  | _ u ih =>
    have h8 : ∀ j, j < 10 → (UInt8.ofNat (48 + j)).toNat = 48 + j := by decide
    rw [Lib.decDigits]
    split
    · rename_i h
      show 0 * 10 + ((UInt8.ofNat (48 + u)).toNat - 48) = u
      rw [h8 u h]; omega
    · rename_i h
      rw [dval_app, ih (u / 10) (by omega)]
      show u / 10 * 10 + ((UInt8.ofNat (48 + u % 10)).toNat - 48) = u
      rw [h8 (u % 10) (by omega)]; omega
theorem dec_ne (u : Nat) : Lib.decDigits u ≠ [] := by
  rw [Lib.decDigits]; split <;> simp
theorem dig_one (d : Nat) (h : d < 10) : (⟨#[48, 49, 50, 51, 52, 53, 54, 55, 56, 57]⟩ : ByteArray).extract d (d + 1) = ⟨#[UInt8.ofNat (48 + d)]⟩ := by
  have : ∀ d : Fin 10, ((⟨#[48, 49, 50, 51, 52, 53, 54, 55, 56, 57]⟩ : ByteArray).extract d.val (d.val + 1)).data.toList = [UInt8.ofNat (48 + d.val)] := by decide +kernel
  exact ba_eq (this ⟨d, h⟩)
theorem dig_step (n u : Nat) (acc : ByteArray) (i : Nat) (hu : u < 18446744073709551616) (hi : i < 20) (h0 : i = 0 ∨ 0 < u) (ha : acc.size ≤ i) (k1 : (zP_ds 3).D → Option R) (k2 : exK R (zP_dx 3)) :
    zP_l3 n ((u : Int), acc, (i : Int), ()) k1 k2 = k1 (((u / 10 : Nat) : Int), (⟨#[UInt8.ofNat (48 + u % 10)]⟩ ++ acc : ByteArray), ((i + 1 : Nat) : Int), ()) := by
  have e1 : Int.tmod (u : Int) 10 = ((u % 10 : Nat) : Int) := by rw [Int.tmod_eq_emod_of_nonneg (by omega)]; omega
  have e2 : Int.tdiv (u : Int) 10 = ((u / 10 : Nat) : Int) := by rw [Int.tdiv_eq_ediv_of_nonneg (by omega)]; omega
  have e3 : IntKind.u64.wrap (((u % 10 : Nat) : Int) + 1) = ((u % 10 + 1 : Nat) : Int) := by rw [u64w _ (by omega) (by omega)]; omega
  have e4 : IntKind.u64.wrap ((u / 10 : Nat) : Int) = ((u / 10 : Nat) : Int) := u64w _ (by omega) (by omega)
  have s0 : (⟨#[48, 49, 50, 51, 52, 53, 54, 55, 56, 57]⟩ : ByteArray).size = 10 := rfl
  have s1 : (⟨#[UInt8.ofNat (48 + u % 10)]⟩ : ByteArray).size = 1 := rfl
  have c1 : ((i : Int) < 20) := by omega
  have c2 : (0 : Int) ≤ ((u % 10 + 1 : Nat) : Int) ∧ ((u % 10 + 1 : Nat) : Int) ≤ ((10 : Nat) : Int) := by omega
  have c3 : (0 : Int) ≤ ((u % 10 : Nat) : Int) ∧ ((u % 10 : Nat) : Int) ≤ ((u % 10 + 1 : Nat) : Int) := by omega
  have c4 : 1 + acc.size ≤ 9223372036854775807 := by omega
  simp only [zP_l3, zP_s3, e1, e2, e3, e4, zDO i (by omega), Int.toNat_natCast, dig_one (u % 10) (by omega), s0, s1, c1, c2, c3, c4, decide_true, if_true, and_self]
  by_cases hz : i = 0
  · have : ((i : Int) == 0) = true := by simp [hz]
    rw [if_pos this]
  · have : ((i : Int) == 0) = false := by simp [hz]
    have hp : (u : Int) > 0 := by omega
    rw [if_neg (by rw [this]; decide), if_pos (decide_eq_true hp)]
theorem dig_end (n : Nat) (acc : ByteArray) (i : Nat) (hi : 1 ≤ i) (k1 : (zP_ds 3).D → Option R) (k2 : exK R (zP_dx 3)) : zP_l3 n ((0 : Int), acc, (i : Int), ()) k1 k2 = k2.1 (acc, ()) := by
  simp only [zP_l3, zP_s3]
  by_cases h : (i : Int) < 20
  · have : ((i : Int) == 0) = false := by simp; omega
    rw [if_pos (decide_eq_true h), if_neg (by rw [this]; decide), if_neg (by simp)]
  · rw [if_neg (by simpa using h)]
theorem digits_l (k2 : exK R (zP_dx 3)) (n : Nat) : ∀ (j u : Nat) (acc : ByteArray) (m i : Nat), 1 ≤ j → i + j = 20 → u < 10 ^ j → u < 18446744073709551616 → (i = 0 ∨ 0 < u) → acc.size ≤ i → j < m →
    runC (zP_l3 n) m ((u : Int), acc, (i : Int), ()) k2 = k2.1 ((⟨(Lib.decDigits u).toArray⟩ ++ acc : ByteArray), ())
  | 0, u, acc, m, i, h, _, _, _, _, _, _ => by omega
  | j + 1, u, acc, m, i, _, hij, hp, hu, h0, ha, hm => by
    obtain ⟨m, rfl⟩ : ∃ q, m = q + 1 := ⟨m - 1, by omega⟩
    show zP_l3 n ((u : Int), acc, (i : Int), ()) (fun b => runC (zP_l3 n) m b k2) k2 = _
    rw [dig_step n u acc i hu (by omega) h0 ha]
    by_cases hz : u / 10 = 0
    · obtain ⟨m, rfl⟩ : ∃ q, m = q + 1 := ⟨m - 1, by omega⟩
      rw [hz]
      show zP_l3 n ((0 : Int), _, ((i + 1 : Nat) : Int), ()) (fun b => runC (zP_l3 n) m b k2) k2 = _
      rw [dig_end n _ (i + 1) (by omega), Lib.decDigits, dif_pos (by omega), show u % 10 = u by omega]
    · have hj : 1 ≤ j := by
        rcases Nat.eq_zero_or_pos j with e | e
        · subst e; simp at hp; omega
        · exact e
      rw [digits_l k2 n j (u / 10) _ m (i + 1) hj (by omega) (by rw [Nat.pow_succ] at hp; omega) (by omega) (Or.inr (by omega)) (by
        have : (⟨#[UInt8.ofNat (48 + u % 10)]⟩ ++ acc : ByteArray).size = 1 + acc.size := by rw [ByteArray.size_append]; rfl
        omega) (by omega)]
      have : Lib.decDigits u = Lib.decDigits (u / 10) ++ [UInt8.ofNat (48 + u % 10)] := by
        conv => lhs; rw [Lib.decDigits]
        rw [dif_neg (by omega)]
      have e2 : (⟨(Lib.decDigits (u / 10)).toArray⟩ ++ (⟨#[UInt8.ofNat (48 + u % 10)]⟩ ++ acc) : ByteArray) = ⟨(Lib.decDigits (u / 10) ++ [UInt8.ofNat (48 + u % 10)]).toArray⟩ ++ acc := by
        apply ByteArray.ext
        simp
      rw [this, e2]
theorem digits_F (n u : Nat) (hu : u < 18446744073709551616) (hn : 20 < n) (k : ByteArray → Option R) : zP_F n (u : Int) k = k ⟨(Lib.decDigits u).toArray⟩ := by
  rw [zP_e]
  unfold zP_Fi
  have := digits_l (R := R) (fun b1 => k b1.1, ()) n 20 u ⟨#[]⟩ n 0 (by omega) (by omega) (by omega) hu (Or.inl rfl) (by decide) (by omega)
  refine this.trans ?_
  have e2 : (⟨(Lib.decDigits u).toArray⟩ ++ ⟨#[]⟩ : ByteArray) = ⟨(Lib.decDigits u).toArray⟩ := by
    apply ByteArray.ext
    simp
  simp only [e2]
theorem nd_le : ∀ (k u : Nat), 1 ≤ k → u < 10 ^ k → Lib.nDigits u ≤ k
  | 0, _, h, _ => by omega
  | k + 1, u, _, hu => by
    rw [Lib.nDigits]
    split
    · omega
    · rename_i h
      have hk : 1 ≤ k := by
        rcases Nat.eq_zero_or_pos k with e | e
        · subst e; simp at hu; omega
        · exact e
      have := nd_le k (u / 10) hk (by rw [Nat.pow_succ] at hu; omega)
      omega
def inR (x : Int) : Prop := -9223372036854775808 ≤ x ∧ x ≤ 9223372036854775807
def numS (x : Int) : ByteArray := ⟨(Lib.itoa x).toArray⟩
theorem dec_len (u : Nat) (h : u < 100000000000000000000) : (Lib.decDigits u).length ≤ 20 := by rw [Lib.decDigits_length]; exact nd_le 20 _ (by omega) (by omega)
theorem num_F (n : Nat) (x : Int) (h : inR x) (hn : 20 < n) (k : ByteArray → Option R) : zBI_F n x k = k (numS x) := by
  obtain ⟨h0, h1⟩ := h
  rw [zBI_e]
  unfold zBI_Fi numS Lib.itoa
  by_cases h : x < 0
  · rw [if_pos (decide_eq_true h), if_pos h]
    have e : IntKind.u64.wrap (0 - (IntKind.u64.wrap x)) = ((x.natAbs : Nat) : Int) := by
      have := u64n x.natAbs (by omega) (by omega)
      rw [show -((x.natAbs : Nat) : Int) = x by omega] at this; exact this
    rw [e, digits_F n _ (by omega) hn]
    have hl := dec_len x.natAbs (by omega)
    simp only [mk_sz]
    rw [if_pos (by show 1 + _ ≤ _; omega)]
    congr 1
  · rw [if_neg (by simpa using h), if_neg h]
    have e : IntKind.u64.wrap x = ((x.toNat : Nat) : Int) := by rw [u64w _ (by omega) (by omega)]; omega
    rw [e, digits_F n _ (by omega) hn]
theorem numS_size (x : Int) (h : inR x) : (numS x).size ≤ 20 := by
  obtain ⟨h0, h1⟩ := h
  unfold numS Lib.itoa
  rw [mk_sz]
  split
  · have : (Lib.decDigits x.natAbs).length ≤ 19 := by rw [Lib.decDigits_length]; exact nd_le 19 _ (by omega) (by omega)
    simp; omega
  · exact dec_len _ (by omega)
theorem byteAt_nat (s : ByteArray) (i : Nat) (h : i < s.data.toList.length) : byteAt s (i : Int) = ((s.data.toList[i]).toNat : Int) := by
  unfold byteAt
  rw [Int.toNat_natCast, List.getD_eq_getElem?_getD, List.getElem?_eq_getElem h]
  rfl
theorem byteAt_q (s : ByteArray) (i : Nat) (c : UInt8) (h : s.data.toList[i]? = some c) : byteAt s (i : Int) = (c.toNat : Int) := by
  obtain ⟨h1, h2⟩ := List.getElem?_eq_some_iff.1 h
  rw [byteAt_nat s i h1, h2]
def hexd (i : Nat) : UInt8 := ([48, 49, 50, 51, 52, 53, 54, 55, 56, 57, 97, 98, 99, 100, 101, 102] : List UInt8).getD i 0
def qByte (c : UInt8) : List UInt8 := if c = 34 ∨ c = 92 then [92, c] else if c < 32 ∨ c > 126 then [92, 120, hexd (c.toNat / 16), hexd (c.toNat % 16)] else [c]
def quotedL (l : List UInt8) : List UInt8 := 34 :: (l.flatMap qByte ++ [34])
theorem qByte_cases (c : UInt8) : (qByte c = [92, c] ∧ (c = 34 ∨ c = 92)) ∨ (qByte c = [92, 120, hexd (c.toNat / 16), hexd (c.toNat % 16)]) ∨ (qByte c = [c] ∧ c ≠ 92 ∧ c ≠ 34) := by
  unfold qByte
  by_cases h : c = 34 ∨ c = 92
  · exact Or.inl ⟨if_pos h, h⟩
  · by_cases h2 : c < 32 ∨ c > 126
    · exact Or.inr (Or.inl (by rw [if_neg h, if_pos h2]))
    · exact Or.inr (Or.inr ⟨by rw [if_neg h, if_neg h2], fun e => h (Or.inr e), fun e => h (Or.inl e)⟩)
theorem qByte_len (c : UInt8) : (qByte c).length ≤ 4 := by rcases qByte_cases c with ⟨e, h⟩ | e | ⟨e, h, _⟩ <;> rw [e] <;> simp
theorem flat_len (t : List UInt8) : (t.flatMap qByte).length ≤ 4 * t.length := by
  induction t with
  | nil => simp
  | cons c t ih =>
    rw [List.flatMap_cons, List.length_append]
    have := qByte_len c
    simp only [List.length_cons]; omega
theorem hexd_nat (i : Nat) (h : i < 16) : (hexd i).toNat = if i < 10 then 48 + i else 87 + i := by
  have : ∀ i : Fin 16, (hexd i.val).toNat = if i.val < 10 then 48 + i.val else 87 + i.val := by decide +kernel
  exact this ⟨i, h⟩
theorem hex_one (d : Nat) (h : d < 16) : (⟨#[48, 49, 50, 51, 52, 53, 54, 55, 56, 57, 97, 98, 99, 100, 101, 102]⟩ : ByteArray).extract d (d + 1) = ⟨#[hexd d]⟩ := by
  have : ∀ d : Fin 16, ((⟨#[48, 49, 50, 51, 52, 53, 54, 55, 56, 57, 97, 98, 99, 100, 101, 102]⟩ : ByteArray).extract d.val (d.val + 1)).data.toList = [hexd d.val] := by decide +kernel
  exact ba_eq (this ⟨d, h⟩)
theorem ext_one (s : ByteArray) (i : Nat) (h : i < s.data.toList.length) : s.extract i (i + 1) = ⟨#[s.data.toList[i]]⟩ := by
  apply ba_eq
  simp only [ByteArray.data_extract, Array.toList_extract, List.extract_eq_take_drop, Nat.add_sub_cancel_left]
  rw [List.drop_eq_getElem_cons h, List.take_succ_cons, List.take_zero]
def mkB (l : List UInt8) : ByteArray := ⟨l.toArray⟩
theorem mkB_app (l m : List UInt8) : mkB l ++ mkB m = mkB (l ++ m) := by
  apply ByteArray.ext
  simp [mkB]
theorem zEP (l : List UInt8) : (mkB l).size = l.length := mk_sz l
theorem mkB_id (s : ByteArray) : mkB s.data.toList = s := by apply ByteArray.ext; simp [mkB]
theorem quoted_step (n : Nat) (t : ByteArray) (i : Nat) (hi : i < t.data.toList.length) (ht : t.size ≤ 1000000) (acc : List UInt8) (ha : acc.length ≤ 4 * i + 1) (k1 : (zB_ds 3).D → Option R) (k2 : exK R (zB_dx 3)) :
    zB_l3 n (t, mkB acc, (i : Int), ()) k1 k2 = k1 (t, mkB (acc ++ qByte t.data.toList[i]), ((i + 1 : Nat) : Int), ()) := by
  have hsz := zDV t
  have hb := byteAt_nat t i hi
  have hx := ext_one t i hi
  generalize t.data.toList[i] = c at hb hx
  have hc := c.toNat_lt
  have c1 : ((i : Int) < (t.size : Int)) := by omega
  have e34 : c = 34 ↔ c.toNat = 34 := by rw [← UInt8.toNat_inj]; rfl
  have e92 : c = 92 ↔ c.toNat = 92 := by rw [← UInt8.toNat_inj]; rfl
  have e32 : c < 32 ↔ c.toNat < 32 := by rw [UInt8.lt_iff_toNat_lt]; rfl
  have e126 : c > 126 ↔ 126 < c.toNat := by rw [gt_iff_lt, UInt8.lt_iff_toNat_lt]; rfl
  have j7 : ∀ (b : Bool) (k3 : exK R (zB_dx 1000007)), b = decide (c = 34 ∨ c = 92) → zB_l1000007 n (t, mkB acc, (i : Int), (c.toNat : Int), b, ()) k3 = k3.1 (t, mkB (acc ++ qByte c), (i : Int), ()) := by
    intro b k3 hbv
    rw [zB_e1000007]
    unfold zB_li1000007 zB_s1000007
    have w1 : IntKind.i64.wrap ((i : Int) + 1) = ((i + 1 : Nat) : Int) := zDO i (by omega)
    have b1 : (0 : Int) ≤ ((i + 1 : Nat) : Int) ∧ ((i + 1 : Nat) : Int) ≤ (t.size : Int) := by omega
    have b2 : (0 : Int) ≤ (i : Int) ∧ (i : Int) ≤ ((i + 1 : Nat) : Int) := by omega
    have s1 : (⟨#[c]⟩ : ByteArray) = mkB [c] := rfl
    have s2 : (⟨#[92]⟩ : ByteArray) = mkB [92] := rfl
    have s3 : (⟨#[92, 120]⟩ : ByteArray) = mkB [92, 120] := rfl
    simp only [w1, Int.toNat_natCast, b1, b2, and_self, if_true, hx, s1, s2, mkB_app, zEP, List.length_append, List.length_cons, List.length_nil]
    cases b with
    | true =>
      have h := of_decide_eq_true hbv.symm
      simp only [if_true]
      rw [if_pos (by omega), if_pos (by omega)]
      unfold qByte
      rw [if_pos h]
      simp
    | false =>
      have h : ¬ (c = 34 ∨ c = 92) := of_decide_eq_false hbv.symm
      simp only [Bool.false_eq_true, if_false]
      have j9 : ∀ (b : Bool) (k4 : exK R (zB_dx 1000009)), b = decide (c < 32 ∨ c > 126) → zB_l1000009 n (t, mkB acc, (i : Int), (c.toNat : Int), b, ()) k4 = k4.1 (t, mkB (acc ++ qByte c), (i : Int), ()) := by
        intro b k4 hb9
        rw [zB_e1000009]
        unfold zB_li1000009 zB_s1000009
        have d1 : Int.tdiv (c.toNat : Int) 16 = ((c.toNat / 16 : Nat) : Int) := by rw [Int.tdiv_eq_ediv_of_nonneg (by omega)]; omega
        have d2 : Int.tmod (c.toNat : Int) 16 = ((c.toNat % 16 : Nat) : Int) := by rw [Int.tmod_eq_emod_of_nonneg (by omega)]; omega
        have d3 : IntKind.u8.wrap ((c.toNat / 16 : Nat) : Int) = ((c.toNat / 16 : Nat) : Int) := u8w _ (by omega) (by omega)
        have d4 : IntKind.u8.wrap (((c.toNat / 16 : Nat) : Int) + 1) = ((c.toNat / 16 + 1 : Nat) : Int) := by rw [u8w _ (by omega) (by omega)]; omega
        have d5 : IntKind.u8.wrap (((c.toNat % 16 : Nat) : Int) + 1) = ((c.toNat % 16 + 1 : Nat) : Int) := by rw [u8w _ (by omega) (by omega)]; omega
        have s0 : (⟨#[48, 49, 50, 51, 52, 53, 54, 55, 56, 57, 97, 98, 99, 100, 101, 102]⟩ : ByteArray).size = 16 := rfl
        have s4 : ∀ d, (⟨#[hexd d]⟩ : ByteArray) = mkB [hexd d] := fun d => rfl
        simp only [d1, d2, d3, d4, d5, w1, Int.toNat_natCast, b1, b2, and_self, if_true, hx, s0, s1, s3, hex_one (c.toNat / 16) (by omega), hex_one (c.toNat % 16) (by omega), s4, mkB_app, zEP, List.length_append, List.length_cons, List.length_nil]
        cases b with
        | true =>
          have h2 := of_decide_eq_true hb9.symm
          simp only [if_true]
          rw [if_pos (by omega), if_pos (by omega), if_pos (by omega), if_pos (by omega), if_pos (by omega), if_pos (by omega), if_pos (by omega)]
          unfold qByte
          rw [if_neg h, if_pos h2]
          simp
        | false =>
          have h2 : ¬ (c < 32 ∨ c > 126) := of_decide_eq_false hb9.symm
          simp only [Bool.false_eq_true, if_false]
          rw [if_pos (by omega)]
          unfold qByte
          rw [if_neg h, if_neg h2]
      by_cases h32 : (c.toNat : Int) < 32
      · rw [if_pos (decide_eq_true h32)]
        exact j9 true _ (decide_eq_true (Or.inl (e32.2 (by omega)))).symm
      · rw [if_neg (by simpa using h32)]
        refine j9 _ _ ?_
        rw [decide_eq_decide, e32, e126]
        omega
  simp only [zB_l3, zB_s3, c1, decide_true, if_true, hb, zDO i (by omega)]
  rw [if_pos (by omega)]
  by_cases h34 : c.toNat = 34
  · have : ((c.toNat : Int) == 34) = true := by simp [h34]
    rw [if_pos this]
    refine (j7 true _ (decide_eq_true (Or.inl (e34.2 h34))).symm).trans ?_
    simp only [zDO i (by omega)]
  · have : ((c.toNat : Int) == 34) = false := by simp; omega
    rw [if_neg (by rw [this]; decide)]
    refine (j7 _ _ ?_).trans ?_
    · rw [Bool.eq_iff_iff, decide_eq_true_eq, beq_iff_eq, e34, e92]
      omega
    · simp only [zDO i (by omega)]
theorem quoted_F (n : Nat) (t : ByteArray) (ht : t.size ≤ 1000000) (hn : t.size < n) (k : ByteArray → Option R) : zB_F n t k = k (mkB (quotedL t.data.toList)) := by
  rw [zB_e]
  unfold zB_Fi
  have hsz := zDV t
  have hf := flat_len t.data.toList
  have e0 : (⟨#[34]⟩ : ByteArray) = mkB [34] := rfl
  rw [e0]
  refine runC_st (R := R) (step := zB_l3 n) _ (k (mkB (quotedL t.data.toList))) (fun i => (t, mkB ([34] ++ (t.data.toList.take i).flatMap qByte), (i : Int), ())) t.data.toList.length (fun i hi => .inl fun k1 => ?_) (fun k1 => ?_) (n := n) (by omega)
  · have hfi := flat_len (t.data.toList.take i)
    rw [List.length_take] at hfi
    refine (quoted_step n t i hi ht ([34] ++ (t.data.toList.take i).flatMap qByte) (by simp only [List.length_append, List.length_cons, List.length_nil]; omega) k1 _).trans ?_
    rw [take_snoc _ i hi, List.flatMap_append]
    simp
  · simp only [zB_l3, zB_s3, ← hsz, Int.lt_irrefl, decide_false, Bool.false_eq_true, if_false, mkB_app, zEP]
    rw [if_pos (by simp only [List.length_append, List.length_cons, List.length_nil, List.length_take, hsz, List.take_length]; omega), hsz, List.take_length]
    simp [quotedL]
def rightV (v : ty46.D) : Bool := decide ((v.1 = 0 ∧ v.2.1 = false ∧ v.2.2.1 = 0 ∧ v.2.2.2.1.size = 0) ∨ (v.1 = 1 ∧ v.2.2.1 = 0 ∧ v.2.2.2.1.size = 0) ∨ (v.1 = 2 ∧ v.2.1 = false ∧ v.2.2.2.1.size = 0) ∨ (v.1 = 3 ∧ v.2.1 = false ∧ v.2.2.1 = 0 ∧ v.2.2.2.1.size ≤ 60))
theorem nil_size (t : ByteArray) : (t = (⟨#[]⟩ : ByteArray)) ↔ t.size = 0 := ⟨fun h => by rw [h]; rfl, fun h => ByteArray.size_eq_zero_iff.1 h⟩
theorem refRightV_F (n : Nat) (v : ty46.D) (k : Bool → Option R) : zBP_F n v k = k (rightV v) := by
  rw [zBP_e]
  unfold zBP_Fi rightV
  simp only [beqB, nil_size]
  generalize ha : v.1 = a
  generalize v.2.1 = b
  generalize v.2.2.1 = x
  generalize v.2.2.2.1.size = t
  clear ha
  change Int at a x
  change Bool at b
  by_cases h0 : a < 0
  · simp only [h0, decide_true, if_true]
    congr 1; symm; rw [decide_eq_false_iff_not]; rintro (⟨h, _⟩ | ⟨h, _⟩ | ⟨h, _⟩ | ⟨h, _⟩) <;> (rw [h] at h0; revert h0; decide)
  by_cases h3 : a > 3
  · simp only [h0, h3, decide_true, decide_false, Bool.false_eq_true, if_false, if_true]
    congr 1; symm; rw [decide_eq_false_iff_not]; rintro (⟨h, _⟩ | ⟨h, _⟩ | ⟨h, _⟩ | ⟨h, _⟩) <;> (rw [h] at h3; revert h3; decide)
  have ha : a = 0 ∨ a = 1 ∨ a = 2 ∨ a = 3 := by omega
  have hs : ((t : Int) ≤ 60) ↔ t ≤ 60 := by omega
  rcases ha with rfl | rfl | rfl | rfl <;> cases b <;> by_cases hx : x = 0 <;> by_cases ht : t = 0 <;> simp [hx, ht, hs]
def showS (v : ty46.D) : ByteArray :=
  if rightV v = true then (if v.1 = 0 then ⟨#[110, 117, 108, 108]⟩ else if v.1 = 1 then (if v.2.1 = true then ⟨#[116, 114, 117, 101]⟩ else ⟨#[102, 97, 108, 115, 101]⟩) else if v.1 = 2 then numS v.2.2.1 else mkB (quotedL v.2.2.2.1.data.toList)) else ⟨#[]⟩
theorem right_size (v : ty46.D) (h : rightV v = true) : v.2.2.2.1.size ≤ 60 := by
  unfold rightV at h
  rw [decide_eq_true_eq] at h
  omega
theorem show_F (n : Nat) (v : ty46.D) (hv : inR v.2.2.1) (hn : 100 < n) (k : ByteArray → Option R) : zBY_F n v k = k (showS v) := by
  rw [zBY_e]
  unfold zBY_Fi showS
  rw [refRightV_F]
  cases hr : rightV v with
  | false => simp
  | true =>
    have hs := right_size v hr
    simp only [Bool.not_true, Bool.false_eq_true, if_false, if_true]
    by_cases h0 : v.1 = 0
    · simp only [h0, beq_self_eq_true, if_true]
    have b0 : (v.1 == 0) = false := by simp [h0]
    by_cases h1 : v.1 = 1
    · have b1 : (v.1 == 1) = true := by simp [h1]
      simp only [b0, b1, h0, h1, Bool.false_eq_true, if_false, if_true]
      cases v.2.1 <;> simp
    have b1 : (v.1 == 1) = false := by simp [h1]
    by_cases h2 : v.1 = 2
    · have b2 : (v.1 == 2) = true := by simp [h2]
      simp only [b0, b1, b2, h0, h1, h2, Bool.false_eq_true, if_false, if_true]
      rw [num_F n _ hv (by omega)]
      rfl
    · have b2 : (v.1 == 2) = false := by simp [h2]
      simp only [b0, b1, b2, h0, h1, h2, Bool.false_eq_true, if_false]
      rw [quoted_F n _ (by omega) (by omega)]
theorem runC_upx {α β γ R : Type} {step : α → (α → Option R) → β → Option R} (out : γ → β → Option R) (Q : γ → Prop) (I : Nat → α → Prop) (m : Nat)
    (hs : ∀ i a, i < m → I i a → (∃ a', I (i + 1) a' ∧ ∀ k1 k2, step a k1 k2 = k1 a') ∨ ∃ y, Q y ∧ ∀ k1 k2, step a k1 k2 = out y k2) (he : ∀ a, I m a → ∃ y, Q y ∧ ∀ k1 k2, step a k1 k2 = out y k2) {n : Nat} {a : α} (hn : m < n) (ha : I 0 a) : ∃ y, Q y ∧ ∀ k2, runC step n a k2 = out y k2 := by
  have go : ∀ (d i n : Nat) (a : α), i + d = m → d < n → I i a → ∃ y, Q y ∧ ∀ k2, runC step n a k2 = out y k2 := by
    intro d
    induction d with
    | zero =>
      intro i n a hi hn ha
      obtain ⟨n, rfl⟩ : ∃ q, n = q + 1 := ⟨n - 1, by omega⟩
      have : i = m := by omega
      subst this
      obtain ⟨y, h1, h2⟩ := he a ha
      exact ⟨y, h1, fun k2 => h2 _ k2⟩
    | succ d ih =>
      intro i n a hi hn ha
      obtain ⟨n, rfl⟩ : ∃ q, n = q + 1 := ⟨n - 1, by omega⟩
      rcases hs i a (by omega) ha with ⟨a', h1, h2⟩ | ⟨y, h1, h2⟩
      · obtain ⟨y, h3, h4⟩ := ih (i + 1) n a' (by omega) (by omega) h1
        exact ⟨y, h3, fun k2 => (h2 _ k2).trans (h4 k2)⟩
      · exact ⟨y, h1, fun k2 => h2 _ k2⟩
  exact go m 0 n a (by omega) hn ha
def hexS (x : Int) : Int := if 48 ≤ x ∧ x ≤ 57 then x - 48 else if 97 ≤ x ∧ x ≤ 102 then x - 87 else -1
theorem hex_F (n : Nat) (x : Int) (k : Int → Option R) : zCA_F n x k = k (hexS x) := by
  rw [zCA_e]
  unfold zCA_Fi hexS
  by_cases h1 : 48 ≤ x
  · by_cases h2 : x ≤ 57
    · simp only [ge_iff_le, h1, h2, decide_true, if_true, and_self]
      rw [u8w _ (by omega) (by omega), wrap_i64 (by omega) (by omega)]
    · by_cases h3 : 97 ≤ x
      · by_cases h4 : x ≤ 102
        · simp only [ge_iff_le, h1, h2, h3, h4, decide_true, decide_false, Bool.false_eq_true, if_true, if_false, and_self, and_false]
          rw [u8w _ (by omega) (by omega), wrap_i64 (x := x - 97) (by omega) (by omega), wrap_i64 (by omega) (by omega)]
          congr 1; omega
        · simp only [ge_iff_le, h1, h2, h3, h4, decide_true, decide_false, Bool.false_eq_true, if_true, if_false, and_false]
      · simp only [ge_iff_le, h1, h2, h3, decide_true, decide_false, Bool.false_eq_true, if_true, if_false, and_false, false_and]
  · have h3 : ¬ 97 ≤ x := by omega
    simp only [ge_iff_le, h1, h3, decide_false, Bool.false_eq_true, if_false, false_and]
theorem hexS_d (i : Nat) (h : i < 16) : hexS ((hexd i).toNat : Int) = (i : Int) := by
  have e := hexd_nat i h
  unfold hexS
  split at e <;> rw [e]
  · rw [if_pos (by omega)]; omega
  · rw [if_neg (by omega), if_pos (by omega)]; omega
theorem w1 (i : Nat) (h : i ≤ 4000000) : IntKind.i64.wrap ((i : Int) + 1) = ((i + 1 : Nat) : Int) := zDO i (by omega)
theorem w2 (i : Nat) (h : i ≤ 4000000) : IntKind.i64.wrap ((i : Int) + 2) = ((i + 2 : Nat) : Int) := by rw [wrap_i64 (by omega) (by omega)]; omega
theorem w3 (i : Nat) (h : i ≤ 4000000) : IntKind.i64.wrap ((i : Int) + 3) = ((i + 3 : Nat) : Int) := by rw [wrap_i64 (by omega) (by omega)]; omega
theorem wm (i : Nat) (h : i ≤ 4000000) : IntKind.i64.wrap ((i : Int) - 1) = (i : Int) - 1 := wrap_i64 (by omega) (by omega)
theorem w6 (x : Nat) (h : x < 256) : IntKind.u8.wrap (IntKind.i64.wrap ((IntKind.i64.wrap (16 * ((x / 16 : Nat) : Int))) + ((x % 16 : Nat) : Int))) = (x : Int) := by
  rw [wrap_i64 (x := 16 * ((x / 16 : Nat) : Int)) (by omega) (by omega), wrap_i64 (by omega) (by omega), u8w _ (by omega) (by omega)]
  omega
theorem unq_ex (n : Nat) (s : ByteArray) (hs : s.size ≤ 1000) (h1 : 1 ≤ s.size) (hn : s.size + 2 < n) : ∃ t : ByteArray, ∀ k : ByteArray → Option R, zJ_F n s k = k t := by
  rw [zJ_e]
  unfold zJ_Fi
  have h := runC_upx (R := R) (step := zJ_l3 n) (γ := ByteArray ⊕ List Int) (fun y k2 => match y with
      | .inl t => k2.1 (t, ())
      | .inr l => k2.2.1 (l, ())) (fun _ => True) (fun i a => ∃ (j : Nat) (acc : List Int), a = (s, (j : Int), acc, ()) ∧ i < j ∧ j ≤ s.size + 3 ∧ acc.length ≤ i) (s.size + 1) (fun i a hi ha => ?_) (fun a ha => ?_) (n := n) (a := (s, (1 : Int), [], ())) (by omega) ⟨1, [], rfl, by omega, by omega, by simp⟩
  · obtain ⟨y, _, hy⟩ := h
    cases y with
    | inl t => exact ⟨t, fun k => hy _⟩
    | inr l => exact ⟨strOfNums l, fun k => hy _⟩
  · obtain ⟨j, acc, rfl, hij, hj, hacc⟩ := ha
    simp only [zJ_l3, zJ_s3, wm s.size (by omega)]
    by_cases hlt : (j : Int) < (s.size : Int) - 1
    · have c0 : (0 : Int) ≤ (j : Int) := by omega
      have c1 : (j : Int) < (s.size : Int) := by omega
      simp only [hlt, decide_true, if_true, c0, c1]
      by_cases hb : byteAt s (j : Int) = 92
      · have : (byteAt s (j : Int) != 92) = false := by simp [hb]
        simp only [this, Bool.false_eq_true, if_false, w1 j (by omega)]
        have d0 : (0 : Int) ≤ ((j + 1 : Nat) : Int) := by omega
        have d1 : ((j + 1 : Nat) : Int) < (s.size : Int) := by omega
        simp only [d0, d1, if_true]
        by_cases hb2 : byteAt s ((j + 1 : Nat) : Int) = 120
        · have : (byteAt s ((j + 1 : Nat) : Int) != 120) = false := by rw [hb2]; rfl
          simp only [this, Bool.false_eq_true, if_false, w3 j (by omega), w2 j (by omega)]
          by_cases he : ((j + 3 : Nat) : Int) ≥ (s.size : Int) - 1
          · exact .inr ⟨.inl (strOfNums acc), trivial, fun k1 k2 => by rw [if_pos (decide_eq_true he)]⟩
          · have d2 : (0 : Int) ≤ ((j + 2 : Nat) : Int) := by omega
            have d3 : ((j + 2 : Nat) : Int) < (s.size : Int) := by omega
            have d4 : (0 : Int) ≤ ((j + 3 : Nat) : Int) := by omega
            have d5 : ((j + 3 : Nat) : Int) < (s.size : Int) := by omega
            refine .inl ⟨(s, ((j + 4 : Nat) : Int), acc ++ [IntKind.u8.wrap (IntKind.i64.wrap (IntKind.i64.wrap (16 * hexS (byteAt s ((j + 2 : Nat) : Int))) + hexS (byteAt s ((j + 3 : Nat) : Int))))], ()), ⟨j + 4, _, rfl, by omega, by omega, by simp; omega⟩, fun k1 k2 => ?_⟩
            rw [if_neg (by simpa using he)]
            simp only [d2, d3, d4, d5, if_true, hex_F, w1 (j + 3) (by omega), List.length_cons, List.length_nil]
            rw [if_pos (by omega)]
        · have : (byteAt s ((j + 1 : Nat) : Int) != 120) = true := bne_iff_ne.2 hb2
          refine .inl ⟨(s, ((j + 2 : Nat) : Int), acc ++ [byteAt s ((j + 1 : Nat) : Int)], ()), ⟨j + 2, _, rfl, by omega, by omega, by simp; omega⟩, fun k1 k2 => ?_⟩
          simp only [this, if_true, w1 (j + 1) (by omega), List.length_cons, List.length_nil]
          rw [if_pos (by omega)]
      · have : (byteAt s (j : Int) != 92) = true := by simp [hb]
        refine .inl ⟨(s, ((j + 1 : Nat) : Int), acc ++ [byteAt s (j : Int)], ()), ⟨j + 1, _, rfl, by omega, by omega, by simp; omega⟩, fun k1 k2 => ?_⟩
        simp only [this, if_true, w1 j (by omega), List.length_cons, List.length_nil]
        rw [if_pos (by omega)]
    · exact .inr ⟨.inr acc, trivial, fun k1 k2 => by rw [if_neg (by simpa using hlt)]⟩
  · obtain ⟨j, acc, rfl, hij, hj, hacc⟩ := ha
    have hlt : ¬ (j : Int) < (s.size : Int) - 1 := by omega
    exact ⟨.inr acc, trivial, fun k1 k2 => by simp only [zJ_l3, zJ_s3, wm s.size (by omega)]; rw [if_neg (by simpa using hlt)]⟩
theorem nums_back (t : List UInt8) : strOfNums (t.map (fun c => (c.toNat : Int))) = mkB t := by
  apply ba_eq
  rw [strOfNums_data, List.map_map]
  simp [Function.comp_def, mkB]
theorem unq_l (n : Nat) (s : ByteArray) (hs : s.size ≤ 1000000) (k2 : exK R (zJ_dx 3)) : ∀ (t : List UInt8) (i m : Nat) (acc : List Int), s.data.toList.drop i = t.flatMap qByte ++ [34] → acc.length + t.length ≤ 1000000 → t.length < m →
    runC (zJ_l3 n) m (s, (i : Int), acc, ()) k2 = k2.2.1 (acc ++ t.map (fun c => (c.toNat : Int)), ())
  | [], i, m, acc, hd, ha, hm => by
    have hl := congrArg List.length hd
    rw [List.length_drop, ← zDV] at hl
    simp at hl
    obtain ⟨m, rfl⟩ : ∃ q, m = q + 1 := ⟨m - 1, by omega⟩
    show zJ_l3 n (s, (i : Int), acc, ()) (fun b => runC (zJ_l3 n) m b k2) k2 = _
    have hlt : ¬ (i : Int) < (s.size : Int) - 1 := by omega
    simp only [zJ_l3, zJ_s3, wm s.size (by omega)]
    rw [if_neg (by simpa using hlt)]
    simp
  | c :: t, i, m, acc, hd, ha, hm => by
    simp only [List.length_cons] at ha hm
    have hl := congrArg List.length hd
    rw [List.length_drop, ← zDV] at hl
    have hb : ∀ (j : Nat) (d : UInt8), ((c :: t).flatMap qByte ++ [34])[j]? = some d → byteAt s ((i + j : Nat) : Int) = (d.toNat : Int) := by
      intro j d hj
      rw [← hd, List.getElem?_drop] at hj
      exact byteAt_q s (i + j) d hj
    obtain ⟨m, rfl⟩ : ∃ q, m = q + 1 := ⟨m - 1, by omega⟩
    show zJ_l3 n (s, (i : Int), acc, ()) (fun b => runC (zJ_l3 n) m b k2) k2 = _
    simp only [List.flatMap_cons, List.length_append, List.length_cons, List.length_nil] at hl
    simp only [List.flatMap_cons] at hb hd
    simp only [zJ_l3, zJ_s3, wm s.size (by omega)]
    rcases qByte_cases c with ⟨e, h⟩ | e | ⟨e, h, h'⟩
    · rw [e] at hl hb hd
      simp only [List.length_cons, List.length_nil] at hl
      have b0 : byteAt s (i : Int) = 92 := hb 0 92 rfl
      have b1 : byteAt s ((i + 1 : Nat) : Int) = (c.toNat : Int) := hb 1 c rfl
      have hne : ((c.toNat : Int) != 120) = true := by rcases h with rfl | rfl <;> decide
      rw [if_pos (decide_eq_true (by omega)), if_pos (by omega), if_pos (by omega), b0, if_neg (by decide), w1 i (by omega), if_pos (by omega), if_pos (by omega), b1, if_pos hne, if_pos (by omega), if_pos (by omega), if_pos (by simp only [List.length_cons, List.length_nil]; omega), w1 (i + 1) (by omega)]
      refine (unq_l n s hs k2 t (i + 2) m _ (by rw [← List.drop_drop, hd]; simp) (by simp; omega) (by omega)).trans ?_
      simp
    · rw [e] at hl hb hd
      simp only [List.length_cons, List.length_nil] at hl
      have b0 : byteAt s (i : Int) = 92 := hb 0 92 rfl
      have b1 : byteAt s ((i + 1 : Nat) : Int) = 120 := hb 1 120 rfl
      have b2 : byteAt s ((i + 2 : Nat) : Int) = ((hexd (c.toNat / 16)).toNat : Int) := hb 2 _ rfl
      have b3 : byteAt s ((i + 3 : Nat) : Int) = ((hexd (c.toNat % 16)).toNat : Int) := hb 3 _ rfl
      have hc : c.toNat < 256 := c.toNat_lt
      rw [if_pos (decide_eq_true (by omega)), if_pos (by omega), if_pos (by omega), b0, if_neg (by decide), w1 i (by omega), if_pos (by omega), if_pos (by omega), b1, if_neg (by decide), w3 i (by omega), if_neg (by simp; omega), w2 i (by omega), if_pos (by omega), if_pos (by omega), b2, hex_F, if_pos (by omega), if_pos (by omega), b3, hex_F,
        hexS_d _ (by omega), hexS_d _ (by omega), if_pos (by simp only [List.length_cons, List.length_nil]; omega), w1 (i + 3) (by omega), w6 _ hc]
      refine (unq_l n s hs k2 t (i + 4) m _ (by rw [← List.drop_drop, hd]; simp) (by simp; omega) (by omega)).trans ?_
      simp
    · rw [e] at hl hb hd
      simp only [List.length_cons, List.length_nil] at hl
      have b0 : byteAt s (i : Int) = (c.toNat : Int) := hb 0 c rfl
      have hne : ((c.toNat : Int) != 92) = true := by
        simp only [bne_iff_ne, ne_eq]
        intro h'
        exact h (UInt8.toNat_inj.1 (show c.toNat = 92 by omega))
      rw [if_pos (decide_eq_true (by omega)), if_pos (by omega), if_pos (by omega), b0, if_pos hne, if_pos (by omega), if_pos (by omega), if_pos (by simp only [List.length_cons, List.length_nil]; omega), w1 i (by omega)]
      refine (unq_l n s hs k2 t (i + 1) m _ (by rw [← List.drop_drop, hd]; simp) (by simp; omega) (by omega)).trans ?_
      simp
theorem unq_F (n : Nat) (t : ByteArray) (ht : t.size ≤ 1000) (hn : 1000 < n) (k : ByteArray → Option R) : zJ_F n (mkB (quotedL t.data.toList)) k = k t := by
  have hf := flat_len t.data.toList
  have hsz := zDV t
  have sz : (mkB (quotedL t.data.toList)).size = (t.data.toList.flatMap qByte).length + 2 := by rw [zEP]; simp [quotedL]
  rw [zJ_e]
  unfold zJ_Fi
  have := unq_l n (mkB (quotedL t.data.toList)) (by omega) (fun b3 => k b3.1, fun b4 => k (strOfNums b4.1), ()) t.data.toList 1 n [] (by simp [quotedL, mkB]) (by simp; omega) (by omega)
  refine this.trans ?_
  simp [nums_back, mkB_id]
end Go.Proofs.YtnnbinmomendnaaGreatDoor.E
namespace Go.Proofs.YtnnbinmomendnaaGreatDoor.E
open Go.RowKit
variable {R : Type}
theorem i64_rng (x : Int) : inR (IntKind.i64.wrap x) := by
  unfold inR
  simp only [IntKind.wrap, IntKind.bits, IntKind.signed]
  simp
  split <;> omega
theorem inR0 : inR 0 := by unfold inR; omega
theorem refNum_tail (n : Nat) (s : ByteArray) (x1 x2 : Int) (hn : 20 < n) (qr : Int → Bool → Option R) : (if (x2 == 1) = true then zBI_F n (IntKind.i64.wrap (IntKind.u64.wrap (0 - x1))) (fun y6 => qr (IntKind.i64.wrap (IntKind.u64.wrap (0 - x1))) (y6.toList == s.toList)) else zBI_F n (IntKind.i64.wrap x1) (fun y7 => qr (IntKind.i64.wrap x1) (y7.toList == s.toList)))
    = qr (if x2 = 1 then IntKind.i64.wrap (IntKind.u64.wrap (0 - x1)) else IntKind.i64.wrap x1) (decide (numS (if x2 = 1 then IntKind.i64.wrap (IntKind.u64.wrap (0 - x1)) else IntKind.i64.wrap x1) = s)) := by
  by_cases h : x2 = 1
  · have : (x2 == 1) = true := by simp [h]
    rw [if_pos this, if_pos h, num_F n _ (i64_rng _) hn, beqB]
  · have : (x2 == 1) = false := by simp [h]
    rw [if_neg (by rw [this]; decide), if_neg h, num_F n _ (i64_rng _) hn, beqB]
theorem numl_ex (n : Nat) (s : ByteArray) (hs : s.size ≤ 1000) (hn : s.size + 2 < n) (x1 x2 : Int) (from_ : Nat) : ∃ y : Option Int, ∀ k2 : exK R (zD_dx 8), runC (zD_l8 n) n (s, x1, x2, (from_ : Int), ()) k2 = match y with
      | none => k2.1 (0, false, ())
      | some z => k2.2.1 (s, z, x2, ()) := by
  have h := runC_upx (R := R) (step := zD_l8 n) (γ := Option Int) (fun y k2 => match y with
      | none => k2.1 (0, false, ())
      | some z => k2.2.1 (s, z, x2, ())) (fun _ => True) (fun i a => ∃ (j : Nat) (acc : Int), a = (s, acc, x2, (j : Int), ()) ∧ i ≤ j ∧ (j ≤ 1000 ∨ j = from_)) (s.size + 1) (fun i a hi ha => ?_) (fun a ha => ?_) (n := n) (a := (s, x1, x2, (from_ : Int), ())) (by omega) ⟨from_, x1, rfl, by omega, .inr rfl⟩
  · obtain ⟨y, _, hy⟩ := h
    exact ⟨y, hy⟩
  · obtain ⟨j, acc, rfl, hij, hj⟩ := ha
    simp only [zD_l8, zD_s8]
    by_cases hlt : (j : Int) < (s.size : Int)
    · have c0 : (0 : Int) ≤ (j : Int) := by omega
      simp only [hlt, decide_true, if_true, c0]
      by_cases h1 : byteAt s (j : Int) < 48
      · exact .inr ⟨none, trivial, fun k1 k2 => by rw [if_pos (decide_eq_true h1)]⟩
      · by_cases h2 : byteAt s (j : Int) > 57
        · exact .inr ⟨none, trivial, fun k1 k2 => by rw [if_neg (by simpa using h1), if_pos (decide_eq_true h2)]⟩
        · exact .inl ⟨(s, _, x2, ((j + 1 : Nat) : Int), ()), ⟨j + 1, IntKind.u64.wrap ((IntKind.u64.wrap (acc * 10)) + (IntKind.u64.wrap (IntKind.u8.wrap ((byteAt s (j : Int)) - 48)))), rfl, by omega, by omega⟩, fun k1 k2 => by rw [if_neg (by simpa using h1), if_neg (by simpa using h2), w1 j (by omega)]⟩
    · exact .inr ⟨some acc, trivial, fun k1 k2 => by rw [if_neg (by simpa using hlt)]⟩
  · obtain ⟨j, acc, rfl, hij, hj⟩ := ha
    have hlt : ¬ (j : Int) < (s.size : Int) := by omega
    exact ⟨some acc, trivial, fun k1 k2 => by simp only [zD_l8, zD_s8]; rw [if_neg (by simpa using hlt)]⟩
theorem numl_dig (n : Nat) (s : ByteArray) (hs : s.size ≤ 1000) (hn : s.size + 2 < n) (x2 : Int) (l : List UInt8) (f : Nat) (hd : s.data.toList.drop f = l) (hl : f + l.length = s.size) (hdig : ∀ c ∈ l, dig c) (hv : dval 0 l < 18446744073709551616) (k2 : exK R (zD_dx 8)) :
    runC (zD_l8 n) n (s, (0 : Int), x2, (f : Int), ()) k2 = k2.2.1 (s, (dval 0 l : Int), x2, ()) := by
  have := runC_st (R := R) (step := zD_l8 n) k2 (k2.2.1 (s, (dval 0 l : Int), x2, ())) (fun i => (s, (dval 0 (l.take i) : Int), x2, ((f + i : Nat) : Int), ())) l.length (fun i hi => .inl fun k1 => ?_) (fun k1 => ?_) (n := n) (by omega)
  · exact this
  · have hb : byteAt s ((f + i : Nat) : Int) = (l[i].toNat : Int) := byteAt_q s (f + i) l[i] (by rw [← List.getElem?_drop, hd]; exact List.getElem?_eq_getElem hi)
    have hc := hdig l[i] (List.getElem_mem hi)
    unfold dig at hc
    have hsn : dval 0 (l.take (i + 1)) = dval 0 (l.take i) * 10 + (l[i].toNat - 48) := by rw [take_snoc l i hi, dval_app]; rfl
    have hle : dval 0 (l.take (i + 1)) ≤ dval 0 l := by
      conv => rhs; rw [← List.take_append_drop (i + 1) l]
      rw [dval_app]
      exact dval_le _ _
    have c1 : ((f + i : Nat) : Int) < (s.size : Int) := by omega
    have c0 : (0 : Int) ≤ ((f + i : Nat) : Int) := by omega
    have e6 : IntKind.u64.wrap ((IntKind.u64.wrap ((dval 0 (l.take i) : Int) * 10)) + (IntKind.u64.wrap (IntKind.u8.wrap ((l[i].toNat : Int) - 48)))) = (dval 0 (l.take (i + 1)) : Int) := by
      rw [u8w _ (by omega) (by omega), u64w ((l[i].toNat : Int) - 48) (by omega) (by omega), u64w ((dval 0 (l.take i) : Int) * 10) (by omega) (by omega), u64w _ (by omega) (by omega)]
      omega
    have n1 : ¬ ((l[i].toNat : Int) < 48) := by omega
    have n2 : ¬ ((l[i].toNat : Int) > 57) := by omega
    simp only [zD_l8, zD_s8, c1, c0, decide_true, if_true, hb, n1, n2, decide_false, Bool.false_eq_true, if_false, e6, w1 (f + i) (by omega)]
    rfl
  · have : ¬ (((f + l.length : Nat) : Int) < (s.size : Int)) := by omega
    simp only [zD_l8, zD_s8]
    rw [if_neg (by simpa using this), List.take_length]
theorem number_ex (n : Nat) (s : ByteArray) (hs : s.size ≤ 1000) (hn : 1100 < n) : ∃ (x : Int) (ok : Bool), inR x ∧ (ok = true → numS x = s) ∧ ∀ k : Int → Bool → Option R, zD_F n s k = k x ok := by
  rw [zD_e]
  unfold zD_Fi
  have join : ∀ f : Nat, f ≤ s.size → ∃ (x : Int) (ok : Bool), inR x ∧ (ok = true → numS x = s) ∧ ∀ k : exK R (zD_dx 1000005), zFA n (s, (0 : Int), (f : Int), ()) k = k.1 (x, ok, ()) := by
    intro f hf
    rw [zD_e1000005]
    unfold zD_li1000005 zD_s1000005
    by_cases h1 : s.size = f
    · exact ⟨0, false, inR0, (fun h => by cases h), fun k => by rw [if_pos (by simp [h1])]⟩
    have hw : IntKind.i64.wrap ((s.size : Int) - (f : Int)) = (s.size : Int) - (f : Int) := wrap_i64 (by omega) (by omega)
    by_cases h2 : (s.size : Int) - (f : Int) > 19
    · exact ⟨0, false, inR0, (fun h => by cases h), fun k => by rw [if_neg (by simp; omega), hw, if_pos (decide_eq_true h2)]⟩
    obtain ⟨y, hy⟩ := numl_ex (R := R) n s hs (by omega) 0 (f : Int) f
    cases y with
    | none => exact ⟨0, false, inR0, (fun h => by cases h), fun k => by rw [if_neg (by simp; omega), hw, if_neg (by simpa using h2)]; exact hy _⟩
    | some z =>
      refine ⟨if (f : Int) = 1 then IntKind.i64.wrap (IntKind.u64.wrap (0 - z)) else IntKind.i64.wrap z, _, ?_, fun h => of_decide_eq_true h, fun k => ?_⟩
      · split <;> exact i64_rng _
      · rw [if_neg (by simp; omega), hw, if_neg (by simpa using h2)]
        refine (hy _).trans ?_
        exact refNum_tail n s z (f : Int) (by omega) (fun x0 x1 => k.1 (x0, x1, ()))
  by_cases h0 : (s.size : Int) > 0
  · have c0 : (0 : Int) < (s.size : Int) := by omega
    by_cases h1 : byteAt s 0 = 45
    · obtain ⟨x, ok, p1, p2, p3⟩ := join 1 (by omega)
      exact ⟨x, ok, p1, p2, fun k => by rw [if_pos (decide_eq_true h0), if_pos (Int.le_refl _), if_pos c0, if_pos (by rw [h1]; rfl)]; exact p3 _⟩
    · obtain ⟨x, ok, p1, p2, p3⟩ := join 0 (by omega)
      exact ⟨x, ok, p1, p2, fun k => by rw [if_pos (decide_eq_true h0), if_pos (Int.le_refl _), if_pos c0, if_neg (by simpa using h1)]; exact p3 _⟩
  · obtain ⟨x, ok, p1, p2, p3⟩ := join 0 (by omega)
    exact ⟨x, ok, p1, p2, fun k => by rw [if_neg (by simpa using h0)]; exact p3 _⟩
theorem number_F (n : Nat) (x : Int) (h : inR x) (hn : 1100 < n) (k : Int → Bool → Option R) : zD_F n (numS x) k = k x true := by
  rw [zD_e]
  unfold zD_Fi
  have hz := numS_size x h
  have join : ∀ (f : Nat) (l : List UInt8), (numS x).data.toList.drop f = l → f + l.length = (numS x).size → 1 ≤ l.length → l.length ≤ 19 → (∀ c ∈ l, dig c) → dval 0 l < 18446744073709551616 → (if (f : Int) = 1 then IntKind.i64.wrap (IntKind.u64.wrap (0 - (dval 0 l : Int))) else IntKind.i64.wrap (dval 0 l : Int)) = x →
      ∀ k : exK R (zD_dx 1000005), zFA n (numS x, (0 : Int), (f : Int), ()) k = k.1 (x, true, ()) := by
    intro f l hd hl h1 h19 hdig hv hx k
    rw [zD_e1000005]
    unfold zD_li1000005 zD_s1000005
    have hw : IntKind.i64.wrap (((numS x).size : Int) - (f : Int)) = ((numS x).size : Int) - (f : Int) := wrap_i64 (by omega) (by omega)
    have h2 : ¬ (((numS x).size : Int) - (f : Int) > 19) := by omega
    rw [if_neg (by simp; omega), hw, if_neg (by simpa using h2)]
    refine (numl_dig (R := R) n (numS x) (by omega) (by omega) (f : Int) l f hd hl hdig hv _).trans ?_
    refine (refNum_tail n (numS x) (dval 0 l : Int) (f : Int) (by omega) (fun x0 x1 => k.1 (x0, x1, ()))).trans ?_
    simp only [hx, decide_true]
  obtain ⟨h0, h1⟩ := h
  by_cases hneg : x < 0
  · have hi : (numS x).data.toList = 45 :: Lib.decDigits x.natAbs := by unfold numS Lib.itoa; rw [if_pos hneg]
    have hl : (Lib.decDigits x.natAbs).length ≤ 19 := by rw [Lib.decDigits_length]; exact nd_le 19 _ (by omega) (by omega)
    have hne := dec_ne x.natAbs
    have hv := dval_dec x.natAbs
    have hlen : 1 ≤ (Lib.decDigits x.natAbs).length := by cases hc : Lib.decDigits x.natAbs with | nil => exact absurd hc hne | cons _ _ => simp
    have hsz : (numS x).size = (Lib.decDigits x.natAbs).length + 1 := by rw [zDV, hi]; simp
    have hb : byteAt (numS x) 0 = 45 := byteAt_q (numS x) 0 45 (by rw [hi]; rfl)
    have e : IntKind.i64.wrap (IntKind.u64.wrap (0 - ((x.natAbs : Nat) : Int))) = x := by
      simp only [IntKind.wrap, IntKind.bits, IntKind.signed]
      simp
      split <;> omega
    rw [if_pos (decide_eq_true (by omega)), if_pos (Int.le_refl _), if_pos (by omega), if_pos (by rw [hb]; rfl)]
    exact join 1 (Lib.decDigits x.natAbs) (by rw [hi]; rfl) (by omega) hlen hl (dec_dig _) (by rw [hv]; omega) (by rw [hv, if_pos (by decide)]; exact e) _
  · have hi : (numS x).data.toList = Lib.decDigits x.toNat := by unfold numS Lib.itoa; rw [if_neg hneg]
    have hl : (Lib.decDigits x.toNat).length ≤ 19 := by rw [Lib.decDigits_length]; exact nd_le 19 _ (by omega) (by omega)
    have hne := dec_ne x.toNat
    have hv := dval_dec x.toNat
    have hdd := dec_dig x.toNat
    have hsz : (numS x).size = (Lib.decDigits x.toNat).length := by rw [zDV, hi]
    have hlen : 1 ≤ (Lib.decDigits x.toNat).length := by cases hc : Lib.decDigits x.toNat with | nil => exact absurd hc hne | cons _ _ => simp
    have hb : byteAt (numS x) 0 ≠ 45 := by
      have h3 : (numS x).data.toList[0]? = some ((Lib.decDigits x.toNat)[0]) := by rw [hi]; exact List.getElem?_eq_getElem hlen
      rw [show (0 : Int) = ((0 : Nat) : Int) from rfl, byteAt_q (numS x) 0 _ h3]
      have := hdd _ (List.getElem_mem hlen)
      unfold dig at this
      omega
    have e : IntKind.i64.wrap ((x.toNat : Nat) : Int) = x := by rw [wrap_i64 (by omega) (by omega)]; omega
    rw [if_pos (decide_eq_true (by omega)), if_pos (Int.le_refl _), if_pos (by omega), if_neg (by simpa using hb)]
    exact join 0 (Lib.decDigits x.toNat) (by rw [hi]; rfl) (by omega) hlen hl hdd (by rw [hv]; omega) (by rw [hv, if_neg (by decide)]; exact e) _
theorem numS_inj {x y : Int} (hx : inR x) (hy : inR y) (h : numS x = numS y) : x = y := by
  have h1 := number_F (R := Int × Bool) 2000 x hx (by omega) (fun a b => some (a, b))
  have h2 := number_F (R := Int × Bool) 2000 y hy (by omega) (fun a b => some (a, b))
  rw [h, h2] at h1
  injection h1 with h1
  injection h1 with h1
  exact h1.symm
open Classical in
theorem number_all (n : Nat) (s : ByteArray) (hs : s.size ≤ 1000) (hn : 1100 < n) : ∃ (x : Int) (ok : Bool), inR x ∧ (ok = true → numS x = s) ∧ (∀ y, inR y → numS y = s → ok = true ∧ x = y) ∧ ∀ k : Int → Bool → Option R, zD_F n s k = k x ok := by
  by_cases h : ∃ y, inR y ∧ numS y = s
  · obtain ⟨y, hy, e⟩ := h
    exact ⟨y, true, hy, fun _ => e, fun z hz ez => ⟨rfl, numS_inj hy hz (e.trans ez.symm)⟩, fun k => by rw [← e]; exact number_F n y hy hn k⟩
  · obtain ⟨x, ok, h1, h2, h3⟩ := number_ex (R := R) n s hs hn
    exact ⟨x, ok, h1, h2, fun y hy e => absurd ⟨y, hy, e⟩ h, h3⟩
end Go.Proofs.YtnnbinmomendnaaGreatDoor.E
namespace Go.Proofs.YtnnbinmomendnaaGreatDoor.E
open Go.RowKit
variable {R : Type}
def zV : ty46.D := (0, false, 0, (⟨#[]⟩ : ByteArray), ())
theorem zFC {v : ty46.D} (h : rightV v = true) : v = zV ∨ (∃ b, v = (1, b, 0, (⟨#[]⟩ : ByteArray), ())) ∨ (∃ x : Int, v = (2, false, x, (⟨#[]⟩ : ByteArray), ())) ∨ (∃ t : ByteArray, t.size ≤ 60 ∧ v = (3, false, 0, t, ())) := by
  obtain ⟨a, b, x, t, u⟩ := v
  unfold rightV at h
  rw [decide_eq_true_eq] at h
  rcases h with ⟨h1, h2, h3, h4⟩ | ⟨h1, h3, h4⟩ | ⟨h1, h2, h4⟩ | ⟨h1, h2, h3, h4⟩
  · simp only at h1 h2 h3 h4
    rw [← nil_size] at h4
    subst h1 h2 h3 h4
    exact .inl rfl
  · simp only at h1 h3 h4
    rw [← nil_size] at h4
    subst h1 h3 h4
    exact .inr (.inl ⟨b, rfl⟩)
  · simp only at h1 h2 h4
    rw [← nil_size] at h4
    subst h1 h2 h4
    exact .inr (.inr (.inl ⟨x, rfl⟩))
  · simp only at h1 h2 h3 h4
    subst h1 h2 h3
    exact .inr (.inr (.inr ⟨t, h4, rfl⟩))
theorem show_null : showS zV = ⟨#[110, 117, 108, 108]⟩ := by unfold showS; rfl
theorem show_bool (b : Bool) : showS (1, b, 0, (⟨#[]⟩ : ByteArray), ()) = if b = true then ⟨#[116, 114, 117, 101]⟩ else ⟨#[102, 97, 108, 115, 101]⟩ := by unfold showS; cases b <;> rfl
theorem show_num (x : Int) : showS (2, false, x, (⟨#[]⟩ : ByteArray), ()) = numS x := by
  unfold showS
  have : rightV (2, false, x, (⟨#[]⟩ : ByteArray), ()) = true := by unfold rightV; exact decide_eq_true (.inr (.inr (.inl ⟨rfl, rfl, rfl⟩)))
  rw [if_pos this]
  rfl
theorem show_text (t : ByteArray) (h : t.size ≤ 60) : showS (3, false, 0, t, ()) = mkB (quotedL t.data.toList) := by
  unfold showS
  have : rightV (3, false, 0, t, ()) = true := by unfold rightV; exact decide_eq_true (.inr (.inr (.inr ⟨rfl, rfl, rfl, h⟩)))
  rw [if_pos this]
  rfl
theorem show_wrong (v : ty46.D) (h : rightV v = false) : showS v = ⟨#[]⟩ := by unfold showS; rw [h]; rfl
theorem ne_nil {s : ByteArray} (h : 0 < s.size) : s ≠ (⟨#[]⟩ : ByteArray) := fun e => by rw [e] at h; exact absurd h (by decide)
theorem numS_pos (x : Int) : 0 < (numS x).size := by
  unfold numS Lib.itoa
  rw [mk_sz]
  split
  · simp
  · cases hc : Lib.decDigits x.toNat with
    | nil => exact absurd hc (dec_ne _)
    | cons _ _ => simp
theorem show_ne {v : ty46.D} (h : rightV v = true) : showS v ≠ (⟨#[]⟩ : ByteArray) := by
  rcases zFC h with rfl | ⟨b, rfl⟩ | ⟨x, rfl⟩ | ⟨t, ht, rfl⟩
  · rw [show_null]; exact ne_nil (by decide)
  · rw [show_bool]; cases b <;> exact ne_nil (by decide)
  · rw [show_num]; exact ne_nil (numS_pos x)
  · rw [show_text t ht]; exact ne_nil (by rw [zEP]; simp [quotedL])
theorem show_size (v : ty46.D) (hx : inR v.2.2.1) : (showS v).size ≤ 242 := by
  cases h : rightV v with
  | false => rw [show_wrong v h]; exact Nat.zero_le _
  | true =>
    rcases zFC h with rfl | ⟨b, rfl⟩ | ⟨x, rfl⟩ | ⟨t, ht, rfl⟩
    · rw [show_null]; decide
    · rw [show_bool]; cases b <;> decide
    · rw [show_num]; have := numS_size x hx; omega
    · rw [show_text t ht, zEP]
      have := flat_len t.data.toList
      rw [zDV] at ht
      simp only [quotedL, List.length_cons, List.length_append, List.length_nil]
      omega
def isW (s : ByteArray) (v : ty46.D) : Prop := rightV v = true ∧ inR v.2.2.1 ∧ showS v = s
open Classical in
noncomputable def readV (s : ByteArray) : ty46.D × Int := if h : ∃ v, isW s v then (h.choose, 0) else (zV, 7)
def Guess (g : ByteArray → ty46.D) : Prop := ∀ s, s.size ≤ 1000 → inR (g s).2.2.1 ∧ ∀ v, isW s v → g s = v
theorem readV_guess {g : ByteArray → ty46.D} (hg : Guess g) (s : ByteArray) (hs : s.size ≤ 1000) : readV s = if s ≠ (⟨#[]⟩ : ByteArray) ∧ showS (g s) = s then (g s, 0) else (zV, 7) := by
  obtain ⟨h1, h2⟩ := hg s hs
  unfold readV
  by_cases h : ∃ v, isW s v
  · rw [dif_pos h]
    have hc := h.choose_spec
    have e := h2 _ hc
    have hs0 : s ≠ (⟨#[]⟩ : ByteArray) := by rw [← hc.2.2]; exact show_ne hc.1
    rw [if_pos ⟨hs0, by rw [e]; exact hc.2.2⟩, e]
  · rw [dif_neg h, if_neg]
    rintro ⟨h3, h4⟩
    refine h ⟨g s, ?_, h1, h4⟩
    cases hr : rightV (g s) with
    | true => rfl
    | false => rw [show_wrong _ hr] at h4; exact absurd h4.symm h3
theorem readV_show (v : ty46.D) (h : rightV v = true) (hx : inR v.2.2.1) {g : ByteArray → ty46.D} (hg : Guess g) : readV (showS v) = (v, 0) := by
  have hw : isW (showS v) v := ⟨h, hx, rfl⟩
  have hs := show_size v hx
  have := (hg (showS v) (by omega)).2 v hw
  rw [readV_guess hg _ (by omega), this, if_pos ⟨show_ne h, rfl⟩]
theorem readV_ok (s : ByteArray) (h : (readV s).2 = 0) : isW s (readV s).1 := by
  unfold readV at h ⊢
  by_cases hh : ∃ v, isW s v
  · rw [dif_pos hh]; exact hh.choose_spec
  · rw [dif_neg hh] at h; cases h
theorem numS_ne (x : Int) (h : inR x) (s : ByteArray) (c : UInt8) (hs : s.data.toList.head? = some c) (hc : ¬ dig c ∧ c ≠ 45) : numS x ≠ s := by
  intro e
  rw [← e] at hs
  unfold numS Lib.itoa at hs
  simp only [List.toList_toArray] at hs
  split at hs
  · simp at hs; exact hc.2 hs.symm
  · have hd := dec_dig x.toNat
    cases hl : Lib.decDigits x.toNat with
    | nil => exact dec_ne _ hl
    | cons a r =>
      rw [hl] at hs hd
      simp at hs
      rw [← hs] at hc
      exact hc.1 (hd a (by simp))
def trueB : ByteArray := ⟨#[116, 114, 117, 101]⟩
def falseB : ByteArray := ⟨#[102, 97, 108, 115, 101]⟩
theorem refRead_F (n : Nat) (s : ByteArray) (hs : s.size ≤ 1000) (hn : 2000 < n) : ∃ g : ty46.D, (inR g.2.2.1 ∧ ∀ v, isW s v → g = v) ∧ ∀ k : ty46.D → Int → Option R, zQ_F n s k = if s ≠ (⟨#[]⟩ : ByteArray) ∧ showS g = s then k g 0 else k zV 7 := by
  rw [zQ_e]
  unfold zQ_Fi
  obtain ⟨x, ok, hx, hok, hall, hN⟩ := number_all (R := R) n s hs (by omega)
  have join : ∀ (v : ty46.D) (hv : inR v.2.2.1) (k : exK R (zQ_dx 1000009)), zEI n (s, (0 : Int), false, (0 : Int), (⟨#[]⟩ : ByteArray), v.1, v.2.1, v.2.2.1, v.2.2.2.1, ()) k = if s ≠ (⟨#[]⟩ : ByteArray) ∧ showS v = s then k.1 (0, v.1, v.2.1, v.2.2.1, v.2.2.2.1, ()) else k.1 (7, 0, false, 0, (⟨#[]⟩ : ByteArray), ()) := by
    intro v hv k
    rw [zQ_e1000009]
    unfold zQ_li1000009 zQ_s1000009
    simp only [beqB]
    by_cases h0 : s = (⟨#[]⟩ : ByteArray)
    · simp [h0]
    · simp only [h0, decide_false, Bool.false_eq_true, if_false, ne_eq, not_false_eq_true, true_and]
      rw [show_F n (v.1, v.2.1, v.2.2.1, v.2.2.2.1, ()) hv (by omega)]
      by_cases h1 : showS (v.1, v.2.1, v.2.2.1, v.2.2.2.1, ()) = s
      · have h1' : showS v = s := h1
        simp [h1, h1']
      · have h1' : ¬ showS v = s := h1
        simp [h1, h1']
  have tf : ∀ v, isW s v → (s = trueB → v = (1, true, 0, (⟨#[]⟩ : ByteArray), ())) ∧ (s = falseB → v = (1, false, 0, (⟨#[]⟩ : ByteArray), ())) := by
    rintro v ⟨h1, h2, h3⟩
    rcases zFC h1 with rfl | ⟨b, rfl⟩ | ⟨y, rfl⟩ | ⟨t, ht, rfl⟩
    · rw [show_null] at h3
      exact ⟨fun e => absurd (h3.trans e) (by decide), fun e => absurd (h3.trans e) (by decide)⟩
    · rw [show_bool] at h3
      cases b
      · exact ⟨fun e => absurd (h3.trans e) (by decide), fun _ => rfl⟩
      · exact ⟨fun _ => rfl, fun e => absurd (h3.trans e) (by decide)⟩
    · rw [show_num] at h3
      exact ⟨fun e => absurd (h3.trans e) (numS_ne y h2 trueB 116 rfl (by unfold dig; decide)), fun e => absurd (h3.trans e) (numS_ne y h2 falseB 102 rfl (by unfold dig; decide))⟩
    · rw [show_text t ht] at h3
      have hq : (mkB (quotedL t.data.toList)).data.toList.head? = some 34 := rfl
      exact ⟨fun e => by rw [h3, e] at hq; exact absurd hq (by decide), fun e => by rw [h3, e] at hq; exact absurd hq (by decide)⟩
  have fin : ∀ (g : ty46.D) (k : ty46.D → Int → Option R), (if s ≠ (⟨#[]⟩ : ByteArray) ∧ showS g = s then k (g.1, g.2.1, g.2.2.1, g.2.2.2.1, ()) 0 else k (0, false, 0, (⟨#[]⟩ : ByteArray), ()) 7) = if s ≠ (⟨#[]⟩ : ByteArray) ∧ showS g = s then k g 0 else k zV 7 := fun g k => rfl
  by_cases ht : s = trueB
  · refine ⟨(1, true, 0, (⟨#[]⟩ : ByteArray), ()), ⟨inR0, fun v hv => ((tf v hv).1 ht).symm⟩, fun k => ?_⟩
    rw [hN]
    simp only [beqB]
    have ht' : s = (⟨#[116, 114, 117, 101]⟩ : ByteArray) := ht
    rw [if_pos (decide_eq_true ht'), decide_eq_true (show s = (⟨#[116, 114, 117, 101]⟩ : ByteArray) from ht)]
    exact (join (1, true, 0, (⟨#[]⟩ : ByteArray), ()) inR0 _).trans (fin _ k)
  by_cases hf : s = falseB
  · refine ⟨(1, false, 0, (⟨#[]⟩ : ByteArray), ()), ⟨inR0, fun v hv => ((tf v hv).2 hf).symm⟩, fun k => ?_⟩
    rw [hN]
    simp only [beqB]
    have ht' : ¬ s = (⟨#[116, 114, 117, 101]⟩ : ByteArray) := ht
    have hf' : s = (⟨#[102, 97, 108, 115, 101]⟩ : ByteArray) := hf
    rw [if_neg (by simpa using ht'), if_pos (decide_eq_true hf'), decide_eq_false ht']
    exact (join (1, false, 0, (⟨#[]⟩ : ByteArray), ()) inR0 _).trans (fin _ k)
  have ht' : ¬ s = (⟨#[116, 114, 117, 101]⟩ : ByteArray) := ht
  have hf' : ¬ s = (⟨#[102, 97, 108, 115, 101]⟩ : ByteArray) := hf
  cases ok with
  | true =>
    refine ⟨(2, false, x, (⟨#[]⟩ : ByteArray), ()), ⟨hx, fun v hv => ?_⟩, fun k => ?_⟩
    · have e := hok rfl
      obtain ⟨h1, h2, h3⟩ := hv
      rcases zFC h1 with rfl | ⟨b, rfl⟩ | ⟨y, rfl⟩ | ⟨t, htt, rfl⟩
      · rw [show_null] at h3
        exact absurd (e.trans h3.symm) (numS_ne x hx _ 110 rfl (by unfold dig; decide))
      · rw [show_bool] at h3
        cases b
        · exact absurd h3.symm hf
        · exact absurd h3.symm ht
      · rw [show_num] at h3
        rw [(hall y h2 h3).2]
      · rw [show_text t htt] at h3
        exact absurd (e.trans h3.symm) (numS_ne x hx _ 34 rfl (by unfold dig; decide))
    · rw [hN]
      simp only [beqB]
      rw [if_neg (by simpa using ht'), if_neg (by simpa using hf'), if_pos trivial]
      exact (join (2, false, x, (⟨#[]⟩ : ByteArray), ()) hx _).trans (fin _ k)
  | false =>
    have nn : ∀ y, inR y → numS y ≠ s := fun y hy e => absurd (hall y hy e).1 (by decide)
    have nul : (¬ ∃ t : ByteArray, t.size ≤ 60 ∧ mkB (quotedL t.data.toList) = s) → ∀ v, isW s v → zV = v := by
      rintro hq v ⟨h1, h2, h3⟩
      rcases zFC h1 with rfl | ⟨b, rfl⟩ | ⟨y, rfl⟩ | ⟨t, htt, rfl⟩
      · rfl
      · rw [show_bool] at h3
        cases b
        · exact absurd h3.symm hf
        · exact absurd h3.symm ht
      · rw [show_num] at h3
        exact absurd h3 (nn y h2)
      · rw [show_text t htt] at h3
        exact absurd ⟨t, htt, h3⟩ hq
    have qsz : ∀ t : ByteArray, t.size ≤ 60 → mkB (quotedL t.data.toList) = s → 2 ≤ s.size ∧ byteAt s 0 = 34 ∧ s.size ≤ 242 := by
      intro t htt e
      have := flat_len t.data.toList
      rw [zDV] at htt
      rw [← e, zEP]
      refine ⟨by simp [quotedL], rfl, by simp only [quotedL, List.length_cons, List.length_append, List.length_nil]; omega⟩
    by_cases h2 : (s.size : Int) ≥ 2
    · by_cases h3 : byteAt s 0 = 34
      · by_cases h4 : (s.size : Int) ≤ 300
        · obtain ⟨t0, hT⟩ := unq_ex (R := R) n s hs (by omega) (by omega)
          have : ∃ t : ByteArray, (∀ t2 : ByteArray, t2.size ≤ 60 → mkB (quotedL t2.data.toList) = s → t = t2) ∧ ∀ k : ByteArray → Option R, zJ_F n s k = k t := by
            by_cases hq : ∃ t : ByteArray, t.size ≤ 60 ∧ mkB (quotedL t.data.toList) = s
            · obtain ⟨t, htt, e⟩ := hq
              refine ⟨t, fun t2 h6 e2 => ?_, fun k => by rw [← e]; exact unq_F n t (by omega) (by omega) k⟩
              have a1 := unq_F (R := ByteArray) 2000 t (by omega) (by omega) some
              have a2 := unq_F (R := ByteArray) 2000 t2 (by omega) (by omega) some
              rw [e, ← e2, a2] at a1
              injection a1 with a1
              exact a1.symm
            · exact ⟨t0, fun t2 h6 e2 => absurd ⟨t2, h6, e2⟩ hq, hT⟩
          obtain ⟨t, ht2, hT⟩ := this
          refine ⟨(3, false, 0, t, ()), ⟨inR0, ?_⟩, fun k => ?_⟩
          · rintro v ⟨h5, h6, h7⟩
            rcases zFC h5 with rfl | ⟨b, rfl⟩ | ⟨y, rfl⟩ | ⟨t2, htt, rfl⟩
            · rw [show_null] at h7
              rw [← h7] at h3
              exact absurd h3 (by decide)
            · rw [show_bool] at h7
              cases b
              · exact absurd h7.symm hf
              · exact absurd h7.symm ht
            · rw [show_num] at h7
              exact absurd h7 (nn y h6)
            · rw [show_text t2 htt] at h7
              rw [ht2 t2 htt h7]
          · rw [hN]
            simp only [beqB]
            rw [if_neg (by simpa using ht'), if_neg (by simpa using hf'), if_neg (by decide), if_pos (decide_eq_true h2), if_pos (Int.le_refl _), if_pos (by omega), if_pos (by rw [h3]; rfl), if_pos (decide_eq_true h4), hT]
            exact (join (3, false, 0, t, ()) inR0 _).trans (fin _ k)
        · refine ⟨zV, ⟨inR0, nul (fun ⟨t, h6, e⟩ => h4 (by have := (qsz t h6 e).2.2; omega))⟩, fun k => ?_⟩
          rw [hN]
          simp only [beqB]
          rw [if_neg (by simpa using ht'), if_neg (by simpa using hf'), if_neg (by decide), if_pos (decide_eq_true h2), if_pos (Int.le_refl _), if_pos (by omega), if_pos (by rw [h3]; rfl), if_neg (by simpa using h4)]
          exact (join zV inR0 _).trans (fin _ k)
      · refine ⟨zV, ⟨inR0, nul (fun ⟨t, h6, e⟩ => h3 (qsz t h6 e).2.1)⟩, fun k => ?_⟩
        rw [hN]
        simp only [beqB]
        rw [if_neg (by simpa using ht'), if_neg (by simpa using hf'), if_neg (by decide), if_pos (decide_eq_true h2), if_pos (Int.le_refl _), if_pos (by omega), if_neg (by simpa using h3)]
        exact (join zV inR0 _).trans (fin _ k)
    · refine ⟨zV, ⟨inR0, nul (fun ⟨t, h6, e⟩ => h2 (by have := (qsz t h6 e).1; omega))⟩, fun k => ?_⟩
      rw [hN]
      simp only [beqB]
      rw [if_neg (by simpa using ht'), if_neg (by simpa using hf'), if_neg (by decide), if_neg (by simpa using h2)]
      exact (join zV inR0 _).trans (fin _ k)
open Classical in
theorem refGuess (n : Nat) (hn : 2000 < n) : ∃ g : ByteArray → ty46.D, Guess g ∧ ∀ s : ByteArray, s.size ≤ 1000 → ∀ k : ty46.D → Int → Option R, zQ_F n s k = if s ≠ (⟨#[]⟩ : ByteArray) ∧ showS (g s) = s then k (g s) 0 else k zV 7 := by
  have h : ∀ s : ByteArray, ∃ g : ty46.D, s.size ≤ 1000 → (inR g.2.2.1 ∧ ∀ v, isW s v → g = v) ∧ ∀ k : ty46.D → Int → Option R, zQ_F n s k = if s ≠ (⟨#[]⟩ : ByteArray) ∧ showS g = s then k g 0 else k zV 7 := by
    intro s
    by_cases hs : s.size ≤ 1000
    · obtain ⟨g, h1⟩ := refRead_F (R := R) n s hs hn
      exact ⟨g, fun _ => h1⟩
    · exact ⟨zV, fun h => absurd h hs⟩
  exact ⟨fun s => (h s).choose, fun s hs => ((h s).choose_spec hs).1, fun s hs => ((h s).choose_spec hs).2⟩
theorem refReadV_F (n : Nat) (s : ByteArray) (hs : s.size ≤ 1000) (hn : 2000 < n) (k : ty46.D → Int → Option R) : zQ_F n s k = k (readV s).1 (readV s).2 := by
  obtain ⟨g, hg, h⟩ := refGuess (R := R) n hn
  rw [h s hs, readV_guess hg s hs]
  split <;> rfl
theorem readV_back (v : ty46.D) (h : rightV v = true) (hx : inR v.2.2.1) : readV (showS v) = (v, 0) := by
  obtain ⟨g, hg, _⟩ := refGuess (R := Unit) 3000 (by omega)
  exact readV_show v h hx hg
end Go.Proofs.YtnnbinmomendnaaGreatDoor.E
namespace Go.Proofs.YtnnbinmomendnaaGreatDoor.E
open Go.RowKit
variable {R : Type}
theorem parse_dig : ∀ (l : List UInt8) (acc : Nat), (∀ c ∈ l, dig c) → dval acc l < 18446744073709551616 → Lib.parseUintM (2 ^ 64 - 1) acc l = .ok (dval acc l)
  | [], _, _, _ => rfl
  | c :: r, acc, hd, hv => by
    have hc := hd c List.mem_cons_self
    unfold dig at hc
    have hv' : dval (acc * 10 + (c.toNat - 48)) r < 18446744073709551616 := hv
    have hl := Nat.lt_of_le_of_lt (dval_le r (acc * 10 + (c.toNat - 48))) hv'
    clear hv
    have ih := parse_dig r (acc * 10 + (c.toNat - 48)) (fun x hx => hd x (List.mem_cons_of_mem _ hx)) hv'
    clear hv'
    rw [Lib.parseUintM, if_pos hc, if_neg (by omega), if_neg (by omega)]
    exact ih
theorem parse_itoa (n : Int) (h0 : -9223372036854775808 ≤ n) (h1 : n ≤ 9223372036854775807) : Lib.parseIntB 64 (Lib.itoa n) = .ok n := by
  unfold Lib.itoa
  split
  · rename_i h
    have hv := dval_dec n.natAbs
    have hp := parse_dig (Lib.decDigits n.natAbs) 0 (dec_dig _) (by rw [hv]; omega)
    rw [hv] at hp
    simp only [Lib.parseIntB, show (45 : UInt8).toNat = 45 by decide, or_true, if_true, Lib.parseUintB, dec_ne, if_false, hp]
    simp only [true_and, not_true, false_and, if_false]
    rw [if_neg (by omega)]
    congr 1; omega
  · rename_i h
    have hv := dval_dec n.toNat
    have hp := parse_dig (Lib.decDigits n.toNat) 0 (dec_dig _) (by rw [hv]; omega)
    rw [hv] at hp
    have hne := dec_ne n.toNat
    have hd := dec_dig n.toNat
    generalize Lib.decDigits n.toNat = l at hp hne hd
    cases l with
    | nil => exact absurd rfl hne
    | cons c r =>
      have hc := hd c List.mem_cons_self
      unfold dig at hc
      have e1 : ¬ (c.toNat = 43 ∨ c.toNat = 45) := by omega
      have e2 : ¬ (c.toNat = 45) := by omega
      have e3 : ¬ (2 ^ 63 ≤ n.toNat) := by omega
      have e4 : ((n.toNat : Nat) : Int) = n := by omega
      simp only [Lib.parseIntB, e1, e2, if_false, Lib.parseUintB, hne, hp]
      have e5 : ¬ (c.toNat = 43) := by omega
      have hp' : Lib.parseUintM 18446744073709551615 0 (c :: r) = Lib.NumEnd.ok n.toNat := hp
      have e6 : ¬ (9223372036854775808 ≤ n.toNat) := by omega
      simp [e5, hp', e6, e4]
theorem parse_range (l : List UInt8) (v : Int) (h : Lib.parseIntB 64 l = .ok v) : -9223372036854775808 ≤ v ∧ v ≤ 9223372036854775807 := by
  unfold Lib.parseIntB at h
  split at h
  · cases h
  · simp only at h
    split at h
    · cases h
    · cases h
    · split at h
      · cases h
      · split at h
        · cases h
        · injection h with h
          split at h <;> omega
theorem quo_F (n : Nat) (s : ByteArray) (h : s.size ≤ 1048576) (k : ByteArray → Option R) : zDI_F n s k = k (mkB (quotedL s.data.toList)) := by
  rw [zDI_e]
  unfold zDI_Fi
  rw [if_pos h]
  rfl
theorem fmt_F (n : Nat) (x : Int) (h : inR x) (k : ByteArray → Option R) : zBS_F n x 10 k = k (numS x) := by
  rw [zBS_e]
  unfold zBS_Fi
  rw [if_pos ⟨rfl, h.1, h.2⟩]
  rfl
theorem pi_F (n : Nat) (s : ByteArray) (h : s.size ≤ 1000) (k : Int → Bool → Option R) : zBZ_F n s 10 64 k = k (piV s) (piE s) := by
  rw [zBZ_e]
  unfold zBZ_Fi
  rw [if_pos ⟨rfl, rfl, by omega⟩]
theorem fb_F (n : Nat) (b : Bool) (k : ByteArray → Option R) : zAK_F n b k = k (if b = true then ⟨#[116, 114, 117, 101]⟩ else ⟨#[102, 97, 108, 115, 101]⟩) := by
  rw [zAK_e]
  unfold zAK_Fi
  rw [zBH_e]
  unfold zBH_Fi
  cases b <;> rfl
theorem nullP_F (n : Nat) (k : ty46.D → Option R) : zDC_F n k = k zV := by rw [zDC_e]; rfl
theorem boolP_F (n : Nat) (b : Bool) (k : ty46.D → Option R) : zCT_F n b k = k (1, b, 0, (⟨#[]⟩ : ByteArray), ()) := by rw [zCT_e]; rfl
theorem intP_F (n : Nat) (x : Int) (k : ty46.D → Option R) : zDG_F n x k = k (2, false, x, (⟨#[]⟩ : ByteArray), ()) := by rw [zDG_e]; rfl
theorem textP_F (n : Nat) (s : ByteArray) (k : ty46.D → Option R) : zDB_F n s k = k (3, false, 0, s, ()) := by rw [zDB_e]; rfl
theorem rightP_F (n : Nat) (v : ty46.D) (k : Bool → Option R) : zCZ_F n v k = k (rightV v) := by
  obtain ⟨kd, fl, i, t, ⟨⟩⟩ := v
  rw [zCZ_e]
  unfold zCZ_Fi rightV
  simp only [nullP_F, boolP_F, intP_F, textP_F, beqB, zV, beq_self_eq_true, Bool.true_and, Bool.and_true]
  by_cases h0 : kd = 0
  · subst h0
    simp only [beq_self_eq_true, if_true, Bool.true_and]
    congr 1
    rw [Bool.eq_iff_iff]
    simp [nil_size]
  · by_cases h1 : kd = 1
    · subst h1
      simp only [show ((1 : Int) == 0) = false from rfl, beq_self_eq_true, if_true, Bool.false_eq_true, if_false, Bool.true_and]
      congr 1
      rw [Bool.eq_iff_iff]
      simp [nil_size]
    · by_cases h2 : kd = 2
      · subst h2
        simp only [show ((2 : Int) == 0) = false from rfl, show ((2 : Int) == 1) = false from rfl, beq_self_eq_true, if_true, Bool.false_eq_true, if_false, Bool.true_and]
        congr 1
        rw [Bool.eq_iff_iff]
        simp [nil_size]
      · by_cases h3 : kd = 3
        · subst h3
          simp only [show ((3 : Int) == 0) = false from rfl, show ((3 : Int) == 1) = false from rfl, show ((3 : Int) == 2) = false from rfl, beq_self_eq_true, if_true, Bool.false_eq_true, if_false, Bool.true_and]
          cases fl with
          | true => simp
          | false =>
            by_cases hi : i = 0
            · subst hi
              simp
              congr 1
              rw [Bool.eq_iff_iff]
              simp
              exact Int.ofNat_le (n := 60)
            · have ei : (i == 0) = false := by simpa using hi
              simp [ei, hi]
        · have e0 : (kd == 0) = false := by simpa using h0
          have e1 : (kd == 1) = false := by simpa using h1
          have e2 : (kd == 2) = false := by simpa using h2
          have e3 : (kd == 3) = false := by simpa using h3
          simp only [e0, e1, e2, e3, Bool.false_eq_true, if_false]
          congr 1
          simp [h0, h1, h2, h3]
theorem showP_F (n : Nat) (v : ty46.D) (hv : inR v.2.2.1) (k : ByteArray → Option R) : zCU_F n v k = k (showS v) := by
  obtain ⟨kd, fl, i, t, ⟨⟩⟩ := v
  rw [zCU_e]
  unfold zCU_Fi
  rw [rightP_F]
  unfold showS
  by_cases hr : rightV (kd, fl, i, t, ()) = true
  · have hsz := right_size _ hr
    rw [if_pos hr]
    simp only [hr, Bool.not_true, Bool.false_eq_true, if_false]
    by_cases h1 : kd = 1
    · subst h1
      rw [fb_F]
      rfl
    · have e1 : (kd == 1) = false := by simpa using h1
      simp only [e1, Bool.false_eq_true, if_false]
      by_cases h2 : kd = 2
      · subst h2
        rw [fmt_F _ _ hv]
        rfl
      · have e2 : (kd == 2) = false := by simpa using h2
        simp only [e2, Bool.false_eq_true, if_false]
        by_cases h3 : kd = 3
        · subst h3
          rw [quo_F _ _ (by have : t.size ≤ 60 := hsz; omega)]
          rfl
        · have e3 : (kd == 3) = false := by simpa using h3
          simp only [e3, Bool.false_eq_true, if_false]
          have h0 : kd = 0 := by
            unfold rightV at hr
            simp only [decide_eq_true_eq] at hr
            rcases hr with h | h | h | h
            · exact h.1
            · exact absurd h.1 h1
            · exact absurd h.1 h2
            · exact absurd h.1 h3
          rw [if_pos h0]
  · rw [if_neg hr]
    simp only [Bool.not_eq_true] at hr
    simp [hr]
def hexB : ByteArray := ⟨#[48, 49, 50, 51, 52, 53, 54, 55, 56, 57, 97, 98, 99, 100, 101, 102]⟩
theorem ixb_F (n : Nat) (s : ByteArray) (c : Int) (k : Int → Option R) : zBR_F n s c k = k (idxB s c) := by
  rw [zBR_e]
  unfold zBR_Fi
  rw [zBM_e]
  unfold zBM_Fi
  rw [zCF_e]
  unfold zCF_Fi
  rfl
theorem idx_hex (i : Nat) (h : i < 16) : idxB hexB ((hexd i).toNat : Int) = (i : Int) := by
  have : ∀ i : Fin 16, idxB hexB ((hexd i.val).toNat : Int) = (i.val : Int) := by decide +kernel
  exact this ⟨i, h⟩
theorem hex_two (x : Nat) (h : x < 256) : IntKind.u8.wrap (bitsI .or .i64 (shlI .i64 ((x / 16 : Nat) : Int) 4) ((x % 16 : Nat) : Int)) = (x : Int) := by
  have : ∀ x : Fin 256, IntKind.u8.wrap (bitsI .or .i64 (shlI .i64 ((x.val / 16 : Nat) : Int) 4) ((x.val % 16 : Nat) : Int)) = (x.val : Int) := by decide +kernel
  exact this ⟨x, h⟩
def nextS (s : ByteArray) : Int × ByteArray × Bool :=
  if byteAt s 0 ≠ 92 then (byteAt s 0, s.extract 1 s.size, true)
  else if 1 < s.size ∧ byteAt s 1 ≠ 120 then (byteAt s 1, s.extract 2 s.size, true)
  else if s.size < 4 then (0, (⟨#[]⟩ : ByteArray), false)
  else (IntKind.u8.wrap (bitsI .or .i64 (shlI .i64 (idxB hexB (byteAt s 2)) 4) (idxB hexB (byteAt s 3))), s.extract 4 s.size, decide (idxB hexB (byteAt s 2) ≥ 0) && decide (idxB hexB (byteAt s 3) ≥ 0))
theorem nextS_size (s : ByteArray) (h : 0 < s.size) : (nextS s).2.1.size < s.size := by
  unfold nextS
  split
  · show (s.extract 1 s.size).size < _; rw [ByteArray.size_extract]; omega
  · split
    · show (s.extract 2 s.size).size < _; rw [ByteArray.size_extract]; omega
    · split
      · exact h
      · show (s.extract 4 s.size).size < _; rw [ByteArray.size_extract]; omega
theorem next_F (n : Nat) (s : ByteArray) (h : 0 < s.size) (k : Int → ByteArray → Bool → Option R) : zDF_F n s k = k (nextS s).1 (nextS s).2.1 (nextS s).2.2 := by
  rw [zDF_e]
  unfold zDF_Fi nextS
  have c1 : (0 : Int) < (s.size : Int) := by omega
  by_cases h0 : byteAt s 0 = 92
  · have e0 : (byteAt s 0 != 92) = false := by rw [h0]; rfl
    have n0 : ¬ byteAt s 0 ≠ 92 := fun hh => hh h0
    simp only [Int.le_refl, if_true, c1, e0, Bool.false_eq_true, if_false, n0]
    by_cases h1 : 1 < s.size
    · have g1 : (s.size : Int) > 1 := by omega
      have g2 : (1 : Int) < (s.size : Int) := by omega
      simp only [g1, decide_true, if_true, g2, show (0 : Int) ≤ 1 by decide]
      by_cases h2 : byteAt s 1 = 120
      · have e1 : (byteAt s 1 != 120) = false := by rw [h2]; rfl
        have n1 : ¬ (1 < s.size ∧ byteAt s 1 ≠ 120) := fun hh => hh.2 h2
        simp only [e1, Bool.false_eq_true, if_false, n1]
        by_cases h4 : s.size < 4
        · have g4 : (s.size : Int) < 4 := by omega
          simp only [g4, decide_true, if_true, h4]
        · have g4 : ¬ (s.size : Int) < 4 := by omega
          have g5 : (2 : Int) < (s.size : Int) := by omega
          have g6 : (3 : Int) < (s.size : Int) := by omega
          have g7 : (0 : Int) ≤ 4 ∧ (4 : Int) ≤ (s.size : Int) := by omega
          simp only [g4, decide_false, Bool.false_eq_true, if_false, h4, show (0 : Int) ≤ 2 by decide, show (0 : Int) ≤ 3 by decide, if_true, g5, g6, ixb_F, g7, and_self]
          by_cases hh : idxB hexB (byteAt s 2) ≥ 0
          · have hh' : idxB (⟨#[48, 49, 50, 51, 52, 53, 54, 55, 56, 57, 97, 98, 99, 100, 101, 102]⟩ : ByteArray) (byteAt s 2) ≥ 0 := hh
            simp only [hh, hh', decide_true, if_true, Bool.true_and]
            rfl
          · have hh' : ¬ idxB (⟨#[48, 49, 50, 51, 52, 53, 54, 55, 56, 57, 97, 98, 99, 100, 101, 102]⟩ : ByteArray) (byteAt s 2) ≥ 0 := hh
            simp only [hh, hh', decide_false, Bool.false_eq_true, if_false, Bool.false_and]
            rfl
      · have e1 : (byteAt s 1 != 120) = true := bne_iff_ne.2 h2
        have n1 : 1 < s.size ∧ byteAt s 1 ≠ 120 := ⟨h1, h2⟩
        have g7 : (0 : Int) ≤ 2 ∧ (2 : Int) ≤ (s.size : Int) := by omega
        simp only [e1, if_true, n1, g7, and_self, ne_eq, not_false_eq_true]
        rfl
    · have g1 : ¬ (s.size : Int) > 1 := by omega
      have n1 : ¬ (1 < s.size ∧ byteAt s 1 ≠ 120) := fun hh => h1 hh.1
      have g4 : (s.size : Int) < 4 := by omega
      have h4 : s.size < 4 := by omega
      simp only [g1, decide_false, Bool.false_eq_true, if_false, n1, g4, decide_true, if_true, h4]
  · have e0 : (byteAt s 0 != 92) = true := bne_iff_ne.2 h0
    have g7 : (0 : Int) ≤ 1 ∧ (1 : Int) ≤ (s.size : Int) := by omega
    simp only [Int.le_refl, if_true, c1, e0, h0, ne_eq, not_false_eq_true, g7, and_self]
    rfl
def unqS : Nat → ByteArray → List Int → Option (List Int)
  | 0, _, acc => some acc
  | f + 1, s, acc => if s.size = 0 then some acc else if (nextS s).2.2 = true then unqS f (nextS s).2.1 (acc ++ [(nextS s).1]) else none
def unqP (s : ByteArray) : Option ByteArray :=
  if s.size < 2 ∨ byteAt s 0 ≠ 34 ∨ byteAt s ((s.size : Int) - 1) ≠ 34 then none else (unqS s.size (s.extract 1 (s.size - 1)) []).map strOfNums
theorem unq_loop (n : Nat) (k2 : exK R (zBA_dx 5)) : ∀ (f m : Nat) (s : ByteArray) (acc : List Int), s.size ≤ f → f < m → acc.length + s.size ≤ 100000 →
    runC (zBA_l5 n) m (s, acc, ()) k2 = match unqS (f + 1) s acc with
      | some l => k2.2.1 (l, ())
      | none => k2.1 ((⟨#[]⟩ : ByteArray), false, ())
  | f, m, s, acc, hf, hm, ha => by
    obtain ⟨m, rfl⟩ : ∃ q, m = q + 1 := ⟨m - 1, by omega⟩
    show zBA_l5 n (s, acc, ()) (fun b => runC (zBA_l5 n) m b k2) k2 = _
    simp only [zBA_l5, zBA_s5, unqS]
    simp only [beqB]
    by_cases h0 : s = (⟨#[]⟩ : ByteArray)
    · have hz : s.size = 0 := (nil_size s).1 h0
      simp only [h0, decide_true, Bool.not_true, Bool.false_eq_true, if_false]
      rfl
    · have hz : ¬ s.size = 0 := fun e => h0 ((nil_size s).2 e)
      obtain ⟨f, rfl⟩ : ∃ q, f = q + 1 := ⟨f - 1, by omega⟩
      simp only [h0, decide_false, Bool.not_false, if_true, hz, if_false]
      rw [next_F n s (by omega)]
      have hn := nextS_size s (by omega)
      cases hk : (nextS s).2.2 with
      | false => rfl
      | true =>
        simp only [Bool.not_true, Bool.false_eq_true, if_false, if_true, List.length_cons, List.length_nil]
        rw [if_pos (by omega)]
        exact unq_loop n k2 f m (nextS s).2.1 (acc ++ [(nextS s).1]) (by omega) (by omega) (by simp; omega)
theorem unqP_F (n : Nat) (s : ByteArray) (hs : s.size ≤ 1000) (hn : 2000 < n) (k : ByteArray → Bool → Option R) : zBA_F n s k = match unqP s with
    | some t => k t true
    | none => k (⟨#[]⟩ : ByteArray) false := by
  rw [zBA_e]
  unfold zBA_Fi unqP
  by_cases h2 : s.size < 2
  · have g2 : (s.size : Int) < 2 := by omega
    simp only [g2, decide_true, if_true, h2, true_or]
  · have g2 : ¬ (s.size : Int) < 2 := by omega
    have c1 : (0 : Int) < (s.size : Int) := by omega
    simp only [g2, decide_false, Bool.false_eq_true, if_false, Int.le_refl, if_true, c1, h2, false_or, wm s.size (by omega)]
    by_cases h0 : byteAt s 0 = 34
    · have e0 : (byteAt s 0 != 34) = false := by rw [h0]; rfl
      have c2 : (0 : Int) ≤ (s.size : Int) - 1 := by omega
      have c3 : (s.size : Int) - 1 < (s.size : Int) := by omega
      simp only [e0, Bool.false_eq_true, if_false, c2, c3, if_true, h0, ne_eq, not_true_eq_false, false_or]
      by_cases h1 : byteAt s ((s.size : Int) - 1) = 34
      · have e1 : (byteAt s ((s.size : Int) - 1) != 34) = false := by rw [h1]; rfl
        have c4 : (s.size : Int) - 1 ≤ (s.size : Int) := by omega
        have e5 : Int.toNat ((s.size : Int) - 1) = s.size - 1 := by omega
        have c5 : (1 : Int) ≤ ((s.size - 1 : Nat) : Int) := by omega
        simp only [e1, Bool.false_eq_true, if_false, c4, and_self, if_true, e5, show (0 : Int) ≤ 1 by decide, c5, h1, not_true_eq_false]
        obtain ⟨q, hq⟩ : ∃ q, s.size = q + 1 := ⟨s.size - 1, by omega⟩
        have hx : (s.extract 1 (s.size - 1)).size = s.size - 2 := by rw [ByteArray.size_extract]; omega
        refine (unq_loop n _ q n (s.extract 1 (s.size - 1)) [] (by omega) (by omega) (by simp; omega)).trans ?_
        rw [← hq]
        cases unqS s.size (s.extract 1 (s.size - 1)) [] <;> rfl
      · have e1 : (byteAt s ((s.size : Int) - 1) != 34) = true := bne_iff_ne.2 h1
        simp only [e1, if_true, h1, not_false_eq_true]
        split <;> rfl
    · have e0 : (byteAt s 0 != 34) = true := bne_iff_ne.2 h0
      simp only [e0, if_true, h0, ne_eq, not_false_eq_true, true_or]
theorem mkB_at (l : List UInt8) (i : Nat) (c : UInt8) (h : l[i]? = some c) : byteAt (mkB l) (i : Int) = (c.toNat : Int) := byteAt_q _ _ _ (by simpa [mkB] using h)
theorem mkB_drop (l m : List UInt8) : (mkB (l ++ m)).extract l.length (mkB (l ++ m)).size = mkB m := by
  rw [zEP, List.length_append]
  apply ba_eq
  simp [mkB]
theorem nextS_q (c : UInt8) (r : List UInt8) : nextS (mkB (qByte c ++ r)) = ((c.toNat : Int), mkB r, true) := by
  unfold nextS
  rcases qByte_cases c with ⟨e, h⟩ | e | ⟨e, h, h'⟩
  · have b0 : byteAt (mkB (qByte c ++ r)) 0 = 92 := mkB_at _ 0 92 (by rw [e]; rfl)
    have b1 : byteAt (mkB (qByte c ++ r)) 1 = (c.toNat : Int) := mkB_at _ 1 c (by rw [e]; rfl)
    have hs : 1 < (mkB (qByte c ++ r)).size := by rw [zEP, e]; simp
    have hne : (c.toNat : Int) ≠ 120 := by rcases h with rfl | rfl <;> decide
    have hd := mkB_drop (qByte c) r
    rw [show (qByte c).length = 2 from by rw [e]; rfl] at hd
    rw [if_neg (by simp [b0]), if_pos ⟨hs, by rw [b1]; exact hne⟩, b1, hd]
  · have b0 : byteAt (mkB (qByte c ++ r)) 0 = 92 := mkB_at _ 0 92 (by rw [e]; rfl)
    have b1 : byteAt (mkB (qByte c ++ r)) 1 = 120 := mkB_at _ 1 120 (by rw [e]; rfl)
    have b2 : byteAt (mkB (qByte c ++ r)) 2 = ((hexd (c.toNat / 16)).toNat : Int) := mkB_at _ 2 _ (by rw [e]; rfl)
    have b3 : byteAt (mkB (qByte c ++ r)) 3 = ((hexd (c.toNat % 16)).toNat : Int) := mkB_at _ 3 _ (by rw [e]; rfl)
    have hs : ¬ (mkB (qByte c ++ r)).size < 4 := by rw [zEP, e]; simp
    have hc : c.toNat < 256 := c.toNat_lt
    have hd := mkB_drop (qByte c) r
    rw [show (qByte c).length = 4 from by rw [e]; rfl] at hd
    rw [if_neg (by simp [b0]), if_neg (by simp [b1]), if_neg hs, b2, b3, hd, idx_hex _ (by omega), idx_hex _ (by omega), hex_two _ hc, decide_eq_true (by omega), decide_eq_true (by omega)]
    rfl
  · have b0 : byteAt (mkB (qByte c ++ r)) 0 = (c.toNat : Int) := mkB_at _ 0 c (by rw [e]; rfl)
    have hne : (c.toNat : Int) ≠ 92 := fun h' => h (UInt8.toNat_inj.1 (show c.toNat = 92 by omega))
    have hd := mkB_drop (qByte c) r
    rw [show (qByte c).length = 1 from by rw [e]; rfl] at hd
    rw [if_pos (by rw [b0]; exact hne), b0, hd]
theorem unqS_q : ∀ (t : List UInt8) (f : Nat) (acc : List Int), t.length < f → unqS f (mkB (t.flatMap qByte)) acc = some (acc ++ t.map fun c => (c.toNat : Int))
  | [], f, acc, hf => by
    obtain ⟨f, rfl⟩ : ∃ q, f = q + 1 := ⟨f - 1, by omega⟩
    rw [unqS, if_pos (by rw [zEP]; rfl)]
    simp
  | c :: t, f, acc, hf => by
    obtain ⟨f, rfl⟩ : ∃ q, f = q + 1 := ⟨f - 1, by omega⟩
    simp only [List.length_cons] at hf
    have hz : ¬ (mkB ((c :: t).flatMap qByte)).size = 0 := by
      rw [zEP, List.flatMap_cons, List.length_append]
      rcases qByte_cases c with ⟨e, _⟩ | e | ⟨e, _⟩ <;> rw [e] <;> simp
    rw [unqS, if_neg hz, List.flatMap_cons, nextS_q, if_pos rfl]
    show unqS f (mkB (t.flatMap qByte)) (acc ++ [(c.toNat : Int)]) = _
    rw [unqS_q t f _ (by omega)]
    simp
theorem flat_ge (t : List UInt8) : t.length ≤ (t.flatMap qByte).length := by
  induction t with
  | nil => simp
  | cons c t ih =>
    simp only [List.flatMap_cons, List.length_append, List.length_cons]
    rcases qByte_cases c with ⟨e, _⟩ | e | ⟨e, _⟩ <;> rw [e] <;> simp only [List.length_cons, List.length_nil] <;> omega
theorem unqP_q (t : ByteArray) : unqP (mkB (quotedL t.data.toList)) = some t := by
  have sz : (mkB (quotedL t.data.toList)).size = (t.data.toList.flatMap qByte).length + 2 := by rw [zEP]; simp [quotedL]
  have b0 : byteAt (mkB (quotedL t.data.toList)) 0 = 34 := mkB_at _ 0 34 rfl
  have b1 : byteAt (mkB (quotedL t.data.toList)) (((mkB (quotedL t.data.toList)).size : Int) - 1) = 34 := by
    have : (((mkB (quotedL t.data.toList)).size : Int) - 1) = (((t.data.toList.flatMap qByte).length + 1 : Nat) : Int) := by rw [sz]; omega
    rw [this]
    exact mkB_at _ _ 34 (by simp [quotedL])
  have ex : (mkB (quotedL t.data.toList)).extract 1 ((mkB (quotedL t.data.toList)).size - 1) = mkB (t.data.toList.flatMap qByte) := by
    rw [sz]
    apply ba_eq
    simp [mkB, quotedL]
  unfold unqP
  rw [if_neg (by rw [b0, b1]; simp [sz]), ex, unqS_q _ _ _ (by have := flat_ge t.data.toList; omega)]
  simp only [List.nil_append, Option.map_some]
  rw [nums_back, mkB_id]
def guessP (s : ByteArray) : ty46.D :=
  if s = trueB then (1, true, 0, (⟨#[]⟩ : ByteArray), ()) else if s = falseB then (1, false, 0, (⟨#[]⟩ : ByteArray), ()) else if piE s = false then (2, false, piV s, (⟨#[]⟩ : ByteArray), ()) else match unqP s with
    | some t => (3, false, 0, t, ())
    | none => zV
theorem guess_F (n : Nat) (s : ByteArray) (hs : s.size ≤ 1000) (hn : 2000 < n) (k : ty46.D → Option R) : zCY_F n s k = k (guessP s) := by
  rw [zCY_e]
  unfold zCY_Fi guessP
  simp only [beqB, boolP_F, intP_F, textP_F, nullP_F]
  by_cases h1 : s = trueB
  · have h1' : s = (⟨#[116, 114, 117, 101]⟩ : ByteArray) := h1
    rw [if_pos (decide_eq_true h1'), if_pos h1, decide_eq_true h1']
  · have h1' : ¬ s = (⟨#[116, 114, 117, 101]⟩ : ByteArray) := h1
    rw [if_neg (by simpa using h1'), if_neg h1]
    by_cases h2 : s = falseB
    · have h2' : s = (⟨#[102, 97, 108, 115, 101]⟩ : ByteArray) := h2
      rw [if_pos (decide_eq_true h2'), if_pos h2, decide_eq_false h1']
    · have h2' : ¬ s = (⟨#[102, 97, 108, 115, 101]⟩ : ByteArray) := h2
      rw [if_neg (by simpa using h2'), if_neg h2, pi_F _ _ hs]
      cases hp : piE s with
      | false => rfl
      | true =>
        simp only [Bool.not_true, Bool.false_eq_true, if_false, Bool.true_eq_false]
        rw [unqP_F n s hs hn]
        cases unqP s <;> rfl
theorem piE_ok {s : ByteArray} {x : Int} (h : Lib.parseIntB 64 s.data.toList = .ok x) : piE s = false ∧ piV s = x := by
  unfold piE piV
  rw [h]
  exact ⟨rfl, rfl⟩
theorem piE_no {s : ByteArray} (h : ∀ x, Lib.parseIntB 64 s.data.toList ≠ .ok x) : piE s = true := by
  unfold piE
  split
  · rename_i v hv
    exact absurd hv (h v)
  · rfl
theorem parse_bad (c : UInt8) (r : List UInt8) (h : ¬ (48 ≤ c.toNat ∧ c.toNat ≤ 57)) (h1 : c.toNat ≠ 43) (h2 : c.toNat ≠ 45) (x : Int) : Lib.parseIntB 64 (c :: r) ≠ .ok x := by
  simp only [Lib.parseIntB, h1, h2, or_self, if_false, Lib.parseUintB, reduceCtorEq, Lib.parseUintM, h, not_false_eq_true]
  simp
theorem piV_rng (s : ByteArray) (h : piE s = false) : inR (piV s) := by
  unfold piE at h
  split at h
  · rename_i v hv
    have := parse_range _ _ hv
    rw [(piE_ok hv).2]
    exact this
  · cases h
theorem guessP_ok : Guess guessP := by
  intro s hs
  refine ⟨?_, ?_⟩
  · unfold guessP
    split
    · exact ⟨by show (-9223372036854775808 : Int) ≤ 0; decide, by show (0 : Int) ≤ 9223372036854775807; decide⟩
    · split
      · exact ⟨by show (-9223372036854775808 : Int) ≤ 0; decide, by show (0 : Int) ≤ 9223372036854775807; decide⟩
      · split
        · rename_i h
          exact piV_rng s h
        · split
          · exact ⟨by show (-9223372036854775808 : Int) ≤ 0; decide, by show (0 : Int) ≤ 9223372036854775807; decide⟩
          · exact ⟨by show (-9223372036854775808 : Int) ≤ 0; decide, by show (0 : Int) ≤ 9223372036854775807; decide⟩
  · rintro v ⟨h1, h2, h3⟩
    subst h3
    rcases zFC h1 with rfl | ⟨b, rfl⟩ | ⟨x, rfl⟩ | ⟨t, ht, rfl⟩
    · rw [show_null]
      unfold guessP
      rw [if_neg (by decide), if_neg (by decide), if_neg (by rw [piE_no (fun x => parse_bad 110 _ (by decide) (by decide) (by decide) x)]; decide)]
      have : unqP ⟨#[110, 117, 108, 108]⟩ = none := by
        unfold unqP
        rw [if_pos (.inr (.inl (by decide)))]
      rw [this]
    · rw [show_bool]
      cases b
      · unfold guessP
        rw [if_neg (by decide), if_pos (by rfl)]
      · unfold guessP
        rw [if_pos (by rfl)]
    · rw [show_num]
      have h2' : inR x := h2
      have e := parse_itoa x h2'.1 h2'.2
      obtain ⟨e1, e2⟩ := piE_ok (s := numS x) e
      unfold guessP
      rw [if_neg (numS_ne x h2' trueB 116 rfl (by unfold dig; decide)), if_neg (numS_ne x h2' falseB 102 rfl (by unfold dig; decide)), if_pos e1, e2]
    · rw [show_text t ht]
      unfold guessP
      have hne : ∀ (l : List UInt8) (c : UInt8) (r : List UInt8), l = c :: r → c ≠ 34 → mkB (quotedL t.data.toList) ≠ mkB l := by
        intro l c r hl hc he
        have := congrArg (fun s : ByteArray => s.data.toList) he
        simp only [mkB, hl, quotedL] at this
        injection this with h5 h6
        exact hc h5.symm
      have g1 : ¬ mkB (quotedL t.data.toList) = trueB := hne [116, 114, 117, 101] 116 _ rfl (by decide)
      have g2 : ¬ mkB (quotedL t.data.toList) = falseB := hne [102, 97, 108, 115, 101] 102 _ rfl (by decide)
      rw [if_neg g1, if_neg g2, if_neg (by rw [piE_no (fun x => parse_bad 34 _ (by decide) (by decide) (by decide) x)]; decide), unqP_q]
theorem readP_F (n : Nat) (s : ByteArray) (hs : s.size ≤ 1000) (hn : 2000 < n) (k : ty46.D → Int → Option R) : zCV_F n s k = k (readV s).1 (readV s).2 := by
  rw [readV_guess guessP_ok s hs, zCV_e]
  unfold zCV_Fi
  rw [guess_F n s hs hn]
  simp only [beqB]
  by_cases h0 : s = (⟨#[]⟩ : ByteArray)
  · simp only [h0, decide_true, if_true, ne_eq, not_true_eq_false, false_and, if_false]
    rfl
  · simp only [h0, decide_false, Bool.false_eq_true, if_false, ne_eq, not_false_eq_true, true_and]
    rw [showP_F n _ (guessP_ok s hs).1]
    by_cases h1 : showS (guessP s) = s
    · simp only [h1, decide_true, Bool.not_true, Bool.false_eq_true, if_false, if_true]
    · simp only [h1, decide_false, Bool.not_false, if_true, if_false]
      rfl
def scanN (p : Nat → Bool) : Nat → Nat → Nat
  | 0, i => i
  | f + 1, i => if p i = true then scanN p f (i + 1) else i
theorem scanN_le (p : Nat → Bool) : ∀ f i, i ≤ scanN p f i ∧ scanN p f i ≤ i + f
  | 0, i => ⟨Nat.le_refl _, Nat.le_refl _⟩
  | f + 1, i => by
    unfold scanN
    split
    · have := scanN_le p f (i + 1); omega
    · omega
theorem runC_span {α β R : Type} {step : α → (α → Option R) → β → Option R} (k : β) (p : Nat → Bool) (st : Nat → α) (m : Nat) (E : Nat → Option R)
    (hs : ∀ i, i < m → ∀ k1, step (st i) k1 k = if p i = true then k1 (st (i + 1)) else E i) (he : ∀ k1, step (st m) k1 k = E m) {n i : Nat} (hi : i ≤ m) (hn : m - i < n) : runC step n (st i) k = E (scanN p (m - i) i) := by
  have go : ∀ (d i n : Nat), i + d = m → d < n → runC step n (st i) k = E (scanN p d i) := by
    intro d
    induction d with
    | zero =>
      intro i n hi hn
      obtain ⟨n, rfl⟩ : ∃ q, n = q + 1 := ⟨n - 1, by omega⟩
      have : i = m := by omega
      subst this
      exact he _
    | succ d ih =>
      intro i n hi hn
      obtain ⟨n, rfl⟩ : ∃ q, n = q + 1 := ⟨n - 1, by omega⟩
      refine Eq.trans (show _ = step (st i) (fun b => runC step n b k) k from rfl) ((hs i (by omega) _).trans ?_)
      unfold scanN
      split
      · exact ih (i + 1) n (by omega) (by omega)
      · rfl
  exact go (m - i) i n (by omega) hn
def bt (s : ByteArray) (i : Nat) : Nat := (s.data.toList.getD i 0).toNat
theorem zEG (s : ByteArray) (i : Nat) : byteAt s (i : Int) = (bt s i : Int) := by unfold byteAt bt; rw [Int.toNat_natCast]
theorem byteAt_0 (s : ByteArray) : byteAt s 0 = (bt s 0 : Int) := zEG s 0
theorem byteAt_1 (s : ByteArray) : byteAt s 1 = (bt s 1 : Int) := zEG s 1
def letN (c : Nat) : Bool := decide (97 ≤ c) && decide (c ≤ 122)
def digN (c : Nat) : Bool := decide (48 ≤ c) && decide (c ≤ 57)
def wchN (s : ByteArray) (i : Nat) : Bool := letN (bt s i) || (decide (0 < i) && (digN (bt s i) || decide (bt s i = 95)))
def wordN (s : ByteArray) : Nat := scanN (wchN s) s.size 0
def numN (s : ByteArray) : Nat := scanN (fun i => digN (bt s i)) (s.size - (if bt s 0 = 45 then 1 else 0)) (if bt s 0 = 45 then 1 else 0)
def textN (s : ByteArray) : Nat → Nat → Nat
  | 0, _ => 0
  | f + 1, i => if i < s.size then (if bt s i = 92 then textN s f (i + 2) else if bt s i = 34 then i + 1 else textN s f (i + 1)) else 0
def signN (s : ByteArray) : Nat :=
  if 2 ≤ s.size ∧ bt s 1 = 61 ∧ (bt s 0 = 61 ∨ bt s 0 = 33 ∨ bt s 0 = 60 ∨ bt s 0 = 62) then 2
  else if bt s 0 = 40 ∨ bt s 0 = 41 ∨ bt s 0 = 44 ∨ bt s 0 = 95 ∨ bt s 0 = 60 ∨ bt s 0 = 62 then 1 else 0
theorem letF (n : Nat) (c : Nat) (k : Bool → Option R) : zBD_F n (c : Int) k = k (letN c) := by
  rw [zBD_e]
  unfold zBD_Fi letN
  by_cases h : 97 ≤ c
  · have : (c : Int) ≥ 97 := by omega
    have e : ((c : Int) ≤ 122) ↔ c ≤ 122 := by omega
    simp [h, this, e]
  · have : ¬ (c : Int) ≥ 97 := by omega
    rw [if_neg (by simpa using this)]
    simp [h]
theorem digF (n : Nat) (c : Nat) (k : Bool → Option R) : zBE_F n (c : Int) k = k (digN c) := by
  rw [zBE_e]
  unfold zBE_Fi digN
  by_cases h : 48 ≤ c
  · have : (c : Int) ≥ 48 := by omega
    have e : ((c : Int) ≤ 57) ↔ c ≤ 57 := by omega
    simp [h, this, e]
  · have : ¬ (c : Int) ≥ 48 := by omega
    rw [if_neg (by simpa using this)]
    simp [h]
theorem zEN (a b : Nat) : ((a : Int) == (b : Int)) = decide (a = b) := by
  rw [Bool.eq_iff_iff, beq_iff_eq, decide_eq_true_eq]; omega
theorem refWord_F (n : Nat) (s : ByteArray) (hs : s.size ≤ 1000) (hn : s.size < n) (k : Int → Option R) : zAM_F n s k = k (wordN s : Int) := by
  rw [zAM_e]
  unfold zAM_Fi
  refine (runC_span (R := R) (step := zAM_l2 n) (fun b3 => k b3.1, ()) (wchN s) (fun i => (s, (i : Int), ())) s.size (fun i => k (i : Int)) (fun i hi k1 => ?_) (fun k1 => ?_) (i := 0) (Nat.zero_le _) (by omega)).trans rfl
  · have c1 : (i : Int) < (s.size : Int) := by omega
    have c0 : (0 : Int) ≤ (i : Int) := by omega
    have e95 : ((bt s i : Int) == 95) = decide (bt s i = 95) := zEN _ 95
    have e0 : ((i : Int) > 0) ↔ 0 < i := by omega
    simp only [zAM_l2, zAM_s2, c1, c0, decide_true, if_true, zEG, letF, digF, zDO i (by omega), e95, e0, wchN]
    by_cases h1 : letN (bt s i) = true
    · simp only [h1, if_true, Bool.true_or]
    · by_cases hi0 : 0 < i
      · by_cases h2 : digN (bt s i) = true
        · simp [h1, hi0, h2]
        · by_cases h95 : bt s i = 95 <;> simp [h1, hi0, h2, h95]
      · simp [h1, hi0]
  · simp [zAM_l2, zAM_s2]
theorem refNum_F (n : Nat) (s : ByteArray) (hs : s.size ≤ 1000) (h0 : 0 < s.size) (hn : s.size < n) (k : Int → Option R) : zY_F n s k = k (numN s : Int) := by
  rw [zY_e]
  unfold zY_Fi numN
  have e45 : (byteAt s 0 == 45) = decide (bt s 0 = 45) := by rw [byteAt_0]; exact zEN _ 45
  have go : ∀ f, f ≤ s.size → runC (zY_l4 n) n (s, (f : Int), ()) (fun b2 => k b2.1, ()) = k ((scanN (fun i => digN (bt s i)) (s.size - f) f : Nat) : Int) := by
    intro f hf
    refine runC_span (R := R) (step := zY_l4 n) (fun b2 => k b2.1, ()) (fun i => digN (bt s i)) (fun i => (s, (i : Int), ())) s.size (fun i => k (i : Int)) (fun i hi k1 => ?_) (fun k1 => ?_) (i := f) hf (by omega)
    · have c1 : (i : Int) < (s.size : Int) := by omega
      have c0 : (0 : Int) ≤ (i : Int) := by omega
      simp only [zY_l4, zY_s4, c1, c0, decide_true, if_true, zEG, digF, zDO i (by omega)]
    · simp [zY_l4, zY_s4]
  rw [if_pos (decide_eq_true (by omega)), if_pos (Int.le_refl _), if_pos (by omega), e45]
  by_cases h : bt s 0 = 45
  · rw [if_pos (decide_eq_true h), if_pos h]; exact go 1 (by omega)
  · rw [if_neg (by simpa using h), if_neg h]; exact go 0 (by omega)
theorem refText_F (n : Nat) (s : ByteArray) (hs : s.size ≤ 1000) (hn : s.size + 2 < n) (k : Int → Option R) : zAI_F n s k = k (textN s (s.size + 1) 1 : Int) := by
  rw [zAI_e]
  unfold zAI_Fi
  have go : ∀ (f i m : Nat), s.size ≤ i + f → f < m → i ≤ s.size + 2 → runC (zAI_l2 n) m (s, (i : Int), ()) (fun b1 => k b1.1, fun b1 => k 0, ()) = k (textN s (f + 1) i : Int) := by
    intro f
    induction f with
    | zero =>
      intro i m hi hm hi2
      obtain ⟨m, rfl⟩ : ∃ q, m = q + 1 := ⟨m - 1, by omega⟩
      show zAI_l2 n (s, (i : Int), ()) _ _ = _
      have : ¬ i < s.size := by omega
      have c : ¬ (i : Int) < (s.size : Int) := by omega
      simp only [zAI_l2, zAI_s2, textN, this, if_false]
      rw [if_neg (by simpa using c)]
      rfl
    | succ f ih =>
      intro i m hi hm hi2
      obtain ⟨m, rfl⟩ : ∃ q, m = q + 1 := ⟨m - 1, by omega⟩
      show zAI_l2 n (s, (i : Int), ()) _ _ = _
      by_cases h : i < s.size
      · have c1 : (i : Int) < (s.size : Int) := by omega
        have c0 : (0 : Int) ≤ (i : Int) := by omega
        have e92 : ((bt s i : Int) == 92) = decide (bt s i = 92) := zEN _ 92
        have e34 : ((bt s i : Int) == 34) = decide (bt s i = 34) := zEN _ 34
        rw [textN, if_pos h]
        simp only [zAI_l2, zAI_s2, c1, c0, decide_true, if_true, zEG, e92, e34, zDO i (by omega), zDO (i + 1) (by omega)]
        by_cases h92 : bt s i = 92
        · rw [if_pos (decide_eq_true h92), if_pos h92]
          exact ih (i + 2) m (by omega) (by omega) (by omega)
        · rw [if_neg (by simpa using h92), if_neg h92]
          by_cases h34 : bt s i = 34
          · rw [if_pos (decide_eq_true h34), if_pos h34]
          · rw [if_neg (by simpa using h34), if_neg h34]
            exact ih (i + 1) m (by omega) (by omega) (by omega)
      · have c : ¬ (i : Int) < (s.size : Int) := by omega
        rw [textN, if_neg h]
        simp only [zAI_l2, zAI_s2]
        rw [if_neg (by simpa using c)]
        rfl
  exact go s.size 1 n (by omega) (by omega) (by omega)
theorem refSign_F (n : Nat) (s : ByteArray) (h0 : 0 < s.size) (k : Int → Option R) : zBX_F n s k = k (signN s : Int) := by
  rw [zBX_e]
  unfold zBX_Fi signN
  have b : ∀ (a : Nat) (b : Nat), ((a : Int) == (b : Int)) = decide (a = b) := zEN
  have e : ∀ j : Nat, ((bt s j : Int) == 61) = decide (bt s j = 61) ∧ ((bt s j : Int) == 33) = decide (bt s j = 33) ∧ ((bt s j : Int) == 60) = decide (bt s j = 60) ∧ ((bt s j : Int) == 62) = decide (bt s j = 62) ∧ ((bt s j : Int) == 40) = decide (bt s j = 40) ∧ ((bt s j : Int) == 41) = decide (bt s j = 41) ∧ ((bt s j : Int) == 44) = decide (bt s j = 44) ∧ ((bt s j : Int) == 95) = decide (bt s j = 95) := fun j => ⟨b _ 61, b _ 33, b _ 60, b _ 62, b _ 40, b _ 41, b _ 44, b _ 95⟩
  have c0 : (0 : Int) < (s.size : Int) := by omega
  have t1 : (0 : Int) ≤ 1 := by decide
  simp only [byteAt_0, byteAt_1, e, c0, Int.le_refl, if_true, t1]
  generalize bt s 0 = x
  generalize bt s 1 = y
  have tail : (if decide (x = 40) = true then k 1 else if decide (x = 41) = true then k 1 else if decide (x = 44) = true then k 1 else if decide (x = 95) = true then k 1 else if decide (x = 60) = true then k 1 else if decide (x = 62) = true then k 1 else k 0) = k ((if x = 40 ∨ x = 41 ∨ x = 44 ∨ x = 95 ∨ x = 60 ∨ x = 62 then 1 else 0 : Nat) : Int) := by
    by_cases h1 : x = 40 <;> by_cases h2 : x = 41 <;> by_cases h3 : x = 44 <;> by_cases h4 : x = 95 <;> by_cases h5 : x = 60 <;> by_cases h6 : x = 62 <;> simp [h1, h2, h3, h4, h5, h6]
  by_cases h2 : 2 ≤ s.size
  · have g2 : (s.size : Int) ≥ 2 := by omega
    have g1 : (1 : Int) < (s.size : Int) := by omega
    simp only [g2, g1, decide_true, if_true, h2, true_and]
    by_cases hy : y = 61
    · simp only [hy, decide_true, if_true, true_and]
      by_cases x1 : x = 61
      · simp [x1]
      · by_cases x2 : x = 33
        · simp [x1, x2]
        · by_cases x3 : x = 60
          · simp [x1, x2, x3]
          · by_cases x4 : x = 62
            · simp [x1, x2, x3, x4]
            · have hno : ¬ (x = 61 ∨ x = 33 ∨ x = 60 ∨ x = 62) := by omega
              rw [if_neg (by simpa using x1), if_neg (by simpa using x2), if_neg (by simpa using x3), if_neg (by simpa using x4), if_neg hno]
              exact tail
    · simp only [hy, decide_false, Bool.false_eq_true, if_false, false_and]
      exact tail
  · have g2 : ¬ (s.size : Int) ≥ 2 := by omega
    simp only [g2, decide_false, Bool.false_eq_true, if_false, h2, false_and]
    exact tail
noncomputable def constS (s : ByteArray) (m : Nat) : Option ty60.D := if (readV (s.extract 0 m)).2 = 0 then some (2, s.extract 0 m, (readV (s.extract 0 m)).1, 0, ()) else none
noncomputable def oneS (s : ByteArray) : Option ty60.D :=
  if letN (bt s 0) = true then (if (readV (s.extract 0 (wordN s))).2 = 0 then some (2, s.extract 0 (wordN s), (readV (s.extract 0 (wordN s))).1, 0, ()) else some (1, s.extract 0 (wordN s), zV, 0, ()))
  else if digN (bt s 0) = true ∨ bt s 0 = 45 then (if numN s < s.size ∧ (letN (bt s (numN s)) = true ∨ bt s (numN s) = 95) then none else constS s (numN s))
  else if bt s 0 = 34 then (if 0 < textN s (s.size + 1) 1 then constS s (textN s (s.size + 1) 1) else none)
  else if 0 < signN s then some (3, s.extract 0 (signN s), zV, 0, ()) else none
theorem textN_le (s : ByteArray) : ∀ f i, textN s f i ≤ s.size
  | 0, i => Nat.zero_le _
  | f + 1, i => by
    unfold textN
    split
    · split
      · exact textN_le s f (i + 2)
      · split
        · omega
        · exact textN_le s f (i + 1)
    · exact Nat.zero_le _
theorem signN_le (s : ByteArray) (h : 0 < s.size) : signN s ≤ s.size := by
  unfold signN
  split
  · omega
  · split <;> omega
theorem numN_rng (s : ByteArray) (h : 0 < s.size) (h0 : digN (bt s 0) = true ∨ bt s 0 = 45) : 1 ≤ numN s ∧ numN s ≤ s.size := by
  unfold numN
  by_cases h1 : bt s 0 = 45
  · rw [if_pos h1]
    have := scanN_le (fun i => digN (bt s i)) (s.size - 1) 1
    omega
  · rw [if_neg h1]
    have hd := h0.resolve_right h1
    obtain ⟨m, hm⟩ : ∃ m, s.size - 0 = m + 1 := ⟨s.size - 1, by omega⟩
    rw [hm]
    unfold scanN
    rw [if_pos hd]
    have := scanN_le (fun i => digN (bt s i)) m (0 + 1)
    omega
theorem wordN_rng (s : ByteArray) (h : 0 < s.size) (h0 : letN (bt s 0) = true) : 1 ≤ wordN s ∧ wordN s ≤ s.size := by
  unfold wordN
  obtain ⟨m, hm⟩ : ∃ m, s.size = m + 1 := ⟨s.size - 1, by omega⟩
  rw [hm]
  unfold scanN
  rw [if_pos (by unfold wchN; rw [h0]; rfl)]
  have := scanN_le (wchN s) m (0 + 1)
  omega
theorem ext_size (s : ByteArray) (m : Nat) (h : m ≤ s.size) : (s.extract 0 m).size = m := by rw [ByteArray.size_extract]; omega
theorem readV_nullB : readV ⟨#[110, 117, 108, 108]⟩ = (zV, 0) := by
  have := readV_back zV (by unfold rightV; rfl) inR0
  rw [show_null] at this
  exact this
theorem refOne_F (n : Nat) (s : ByteArray) (hs : s.size ≤ 1000) (h0 : 0 < s.size) (hn : 2000 < n) : ∃ z : ty60.D, ∀ k : ty60.D → Bool → Option R, zAB_F n s k = match oneS s with
    | some t => k t true
    | none => k z false := by
  rw [zAB_e]
  unfold zAB_Fi
  have c0 : (0 : Int) < (s.size : Int) := by omega
  have b : ∀ (a : Nat) (b : Nat), ((a : Int) == (b : Int)) = decide (a = b) := zEN
  have e45 : ∀ j, ((bt s j : Int) == 45) = decide (bt s j = 45) := fun j => b _ 45
  have e34 : ∀ j, ((bt s j : Int) == 34) = decide (bt s j = 34) := fun j => b _ 34
  have e95 : ∀ j, ((bt s j : Int) == 95) = decide (bt s j = 95) := fun j => b _ 95
  have esz : ∀ m, m ≤ s.size → (s.extract 0 m).size ≤ 1000 := fun m hm => by rw [ext_size s m hm]; omega
  have join : ∀ m : Nat, m ≤ s.size → (m = 0 → bt s 0 = 34 ∨ (letN (bt s 0) = false ∧ digN (bt s 0) = false ∧ bt s 0 ≠ 45)) → ∃ z : ty60.D, ∀ k : exK R (zAB_dx 1000015), zEA n (s, (m : Int), (0 : Int), (⟨#[]⟩ : ByteArray), (0 : Int), false, (0 : Int), (⟨#[]⟩ : ByteArray), (0 : Int), ()) k = match (if 0 < m then constS s m else if bt s 0 = 34 then none else if 0 < signN s then some (3, s.extract 0 (signN s), zV, 0, ()) else none) with
      | some t => k.1 (true, t.1, t.2.1, t.2.2.1.1, t.2.2.1.2.1, t.2.2.1.2.2.1, t.2.2.1.2.2.2.1, t.2.2.2.1, ())
      | none => k.1 (false, z.1, z.2.1, z.2.2.1.1, z.2.2.1.2.1, z.2.2.1.2.2.1, z.2.2.1.2.2.2.1, z.2.2.2.1, ()) := by
    intro m hm hm0
    rw [zAB_e1000015]
    unfold zAB_li1000015 zAB_s1000015
    by_cases hp : 0 < m
    · refine ⟨(2, s.extract 0 m, (readV (s.extract 0 m)).1, 0, ()), fun k => ?_⟩
      have r1 : (0 : Int) ≤ (m : Int) ∧ (m : Int) ≤ (s.size : Int) := by omega
      have g : (m : Int) > 0 := by omega
      simp only [g, decide_true, if_true, r1, and_self, Int.toNat_natCast, hp]
      rw [refReadV_F n _ (esz m hm) hn]
      unfold constS
      by_cases hr : (readV (s.extract 0 m)).2 = 0
      · rw [if_pos hr]
        have : ((readV (s.extract 0 m)).2 == 0) = true := by simp [hr]
        simp only [this]
      · rw [if_neg hr]
        have : ((readV (s.extract 0 m)).2 == 0) = false := by simp [hr]
        simp only [this]
    · have hz : m = 0 := by omega
      subst hz
      have g : ¬ (((0 : Nat) : Int) > 0) := by omega
      simp only [g, decide_false, Bool.false_eq_true, if_false, Nat.lt_irrefl, Int.le_refl, if_true, c0, byteAt_0, e34]
      by_cases h34 : bt s 0 = 34
      · refine ⟨(0, (⟨#[]⟩ : ByteArray), zV, 0, ()), fun k => ?_⟩
        simp only [h34, decide_true, if_true]
        rfl
      · have hsg := signN_le s h0
        have r1 : (0 : Int) ≤ (signN s : Int) ∧ (signN s : Int) ≤ (s.size : Int) := by omega
        refine ⟨(3, s.extract 0 (signN s), zV, 0, ()), fun k => ?_⟩
        simp only [h34, decide_false, Bool.false_eq_true, if_false]
        rw [refSign_F n s h0, if_pos r1, Int.toNat_natCast]
        by_cases hp2 : 0 < signN s
        · have : (signN s : Int) > 0 := by omega
          rw [if_pos hp2, decide_eq_true this]
          rfl
        · have : ¬ (signN s : Int) > 0 := by omega
          rw [if_neg hp2, decide_eq_false this]
          rfl
  simp only [Int.le_refl, if_true, c0, byteAt_0, e45, e34]
  simp only [letF n (bt s 0), digF n (bt s 0)]
  unfold oneS
  by_cases hl : letN (bt s 0) = true
  · obtain ⟨w1, w2⟩ := wordN_rng s h0 hl
    refine ⟨(0, (⟨#[]⟩ : ByteArray), zV, 0, ()), fun k => ?_⟩
    rw [if_pos hl, if_pos hl, refWord_F n s hs (by omega)]
    have r1 : (0 : Int) ≤ (wordN s : Int) ∧ (wordN s : Int) ≤ (s.size : Int) := by omega
    rw [if_pos r1, Int.toNat_natCast, refReadV_F n _ (esz _ w2) hn, beqB]
    by_cases hr : (readV (s.extract 0 (wordN s))).2 = 0
    · have : ((readV (s.extract 0 (wordN s))).2 == 0) = true := by simp [hr]
      rw [if_pos hr, this, if_pos rfl]
      split <;> rfl
    · have : ((readV (s.extract 0 (wordN s))).2 == 0) = false := by simp [hr]
      rw [if_neg hr, this]
      rw [if_neg (fun e => hr (by rw [of_decide_eq_true e]; exact congrArg Prod.snd readV_nullB))]
      rfl
  rw [if_neg hl]
  have number : (digN (bt s 0) = true ∨ bt s 0 = 45) → ∃ z : ty60.D, ∀ k : ty60.D → Bool → Option R, zY_F n s (fun y6 => if (decide (y6 < (s.size : Int))) = true then (if (0 : Int) ≤ y6 then if y6 < (s.size : Int) then (zBD_F n (byteAt s y6) (fun y7 => if y7 = true then (k (0, (⟨#[]⟩ : ByteArray), (0, false, 0, (⟨#[]⟩ : ByteArray), ()), 0, ()) false) else (if (0 : Int) ≤ y6 then if y6 < (s.size : Int) then (if ((byteAt s y6) == 95) = true then (k (0, (⟨#[]⟩ : ByteArray), (0, false, 0, (⟨#[]⟩ : ByteArray), ()), 0, ()) false) else (zEA n (s, y6, 0, (⟨#[]⟩ : ByteArray), 0, false, 0, (⟨#[]⟩ : ByteArray), 0, ()) (fun b18 => k (b18.2.1, b18.2.2.1, (b18.2.2.2.1, b18.2.2.2.2.1, b18.2.2.2.2.2.1, b18.2.2.2.2.2.2.1, ()), b18.2.2.2.2.2.2.2.1, ()) b18.1, ()))) else none else none))) else none else none) else (zEA n (s, y6, 0, (⟨#[]⟩ : ByteArray), 0, false, 0, (⟨#[]⟩ : ByteArray), 0, ()) (fun b26 => k (b26.2.1, b26.2.2.1, (b26.2.2.2.1, b26.2.2.2.2.1, b26.2.2.2.2.2.1, b26.2.2.2.2.2.2.1, ()), b26.2.2.2.2.2.2.2.1, ()) b26.1, ()))) = match (if numN s < s.size ∧ (letN (bt s (numN s)) = true ∨ bt s (numN s) = 95) then none else constS s (numN s)) with
      | some t => k t true
      | none => k z false := by
    intro hd
    obtain ⟨n1, n2⟩ := numN_rng s h0 hd
    obtain ⟨z, hz⟩ := join (numN s) n2 (fun e => by omega)
    by_cases hlt : numN s < s.size
    · have d1 : (numN s : Int) < (s.size : Int) := by omega
      have d0 : (0 : Int) ≤ (numN s : Int) := by omega
      by_cases hbad : letN (bt s (numN s)) = true ∨ bt s (numN s) = 95
      · refine ⟨(0, (⟨#[]⟩ : ByteArray), zV, 0, ()), fun k => ?_⟩
        rw [refNum_F n s hs h0 (by omega)]
        simp only [d1, d0, decide_true, if_true, zEG, letF, e95]
        rw [show (if numN s < s.size ∧ (letN (bt s (numN s)) = true ∨ bt s (numN s) = 95) then none else constS s (numN s)) = none from if_pos ⟨hlt, hbad⟩]
        by_cases h1 : letN (bt s (numN s)) = true
        · rw [if_pos h1]; rfl
        · rw [if_neg h1, if_pos (decide_eq_true (hbad.resolve_left h1))]; rfl
      · refine ⟨z, fun k => ?_⟩
        rw [refNum_F n s hs h0 (by omega)]
        simp only [d1, d0, decide_true, if_true, zEG, letF, e95]
        rw [show (if numN s < s.size ∧ (letN (bt s (numN s)) = true ∨ bt s (numN s) = 95) then none else constS s (numN s)) = constS s (numN s) from if_neg (fun h => hbad h.2), if_neg (fun h => hbad (.inl h)), if_neg (fun h => hbad (.inr (of_decide_eq_true h)))]
        refine (hz _).trans ?_
        rw [if_pos (by omega)] <;> (cases constS s (numN s) <;> rfl)
    · refine ⟨z, fun k => ?_⟩
      rw [refNum_F n s hs h0 (by omega)]
      have d1 : ¬ (numN s : Int) < (s.size : Int) := by omega
      rw [show (if numN s < s.size ∧ (letN (bt s (numN s)) = true ∨ bt s (numN s) = 95) then none else constS s (numN s)) = constS s (numN s) from if_neg (fun h => hlt h.1), if_neg (by simpa using d1)]
      refine (hz _).trans ?_
      rw [if_pos (by omega)] <;> (cases constS s (numN s) <;> rfl)
  by_cases hd : digN (bt s 0) = true
  · obtain ⟨z, hz⟩ := number (.inl hd)
    refine ⟨z, fun k => ?_⟩
    rw [if_neg hl, if_pos hd, if_pos (Or.inl hd)]
    exact hz k
  by_cases h45 : bt s 0 = 45
  · obtain ⟨z, hz⟩ := number (.inr h45)
    refine ⟨z, fun k => ?_⟩
    rw [if_neg hl, if_neg hd, if_pos (decide_eq_true h45), if_pos (Or.inr h45)]
    exact hz k
  have hno : ¬ (digN (bt s 0) = true ∨ bt s 0 = 45) := fun h => h.elim hd h45
  have hl' : letN (bt s 0) = false := by simpa using hl
  have hd' : digN (bt s 0) = false := by simpa using hd
  by_cases h34 : bt s 0 = 34
  · obtain ⟨z, hz⟩ := join (textN s (s.size + 1) 1) (textN_le s _ _) (fun _ => .inl h34)
    refine ⟨z, fun k => ?_⟩
    rw [if_neg hl, if_neg hd, if_neg (by simpa using h45), if_pos (decide_eq_true h34), if_neg hno, if_pos h34, refText_F n s hs (by omega)]
    refine (hz _).trans ?_
    rw [if_pos h34] <;> cases (if 0 < textN s (s.size + 1) 1 then constS s (textN s (s.size + 1) 1) else none) <;> rfl
  · obtain ⟨z, hz⟩ := join 0 (Nat.zero_le _) (fun _ => .inr ⟨hl', hd', h45⟩)
    refine ⟨z, fun k => ?_⟩
    rw [if_neg hl, if_neg hd, if_neg (by simpa using h45), if_neg (by simpa using h34), if_neg hno, if_neg h34]
    refine (hz _).trans ?_
    rw [if_neg (Nat.lt_irrefl 0), if_neg h34] <;> cases (if 0 < signN s then some ((3, s.extract 0 (signN s), zV, 0, ()) : ty60.D) else none) <;> rfl
theorem constS_size {s : ByteArray} {m : Nat} (hm : m ≤ s.size) {t : ty60.D} (h : constS s m = some t) : t.2.1.size = m := by
  unfold constS at h
  split at h
  · injection h with h; rw [← h]; exact ext_size s m hm
  · cases h
theorem oneS_size {s : ByteArray} (h0 : 0 < s.size) {t : ty60.D} (h : oneS s = some t) : 1 ≤ t.2.1.size ∧ t.2.1.size ≤ s.size := by
  unfold oneS at h
  split at h
  · rename_i hl
    have := wordN_rng s h0 hl
    split at h <;> (injection h with h; rw [← h]; show _ ≤ (s.extract 0 (wordN s)).size ∧ (s.extract 0 (wordN s)).size ≤ _; rw [ext_size s _ this.2]; exact this)
  · split at h
    · rename_i hd
      have := numN_rng s h0 hd
      split at h
      · cases h
      · rw [constS_size this.2 h]; exact this
    · split at h
      · split at h
        · rw [constS_size (textN_le s _ _) h]; exact ⟨by omega, textN_le s _ _⟩
        · cases h
      · split at h
        · have := signN_le s h0
          injection h with h; rw [← h]; show _ ≤ (s.extract 0 (signN s)).size ∧ (s.extract 0 (signN s)).size ≤ _; rw [ext_size s _ this]; omega
        · cases h
abbrev Toks := List ty60.D
noncomputable def lexL (s : ByteArray) : Nat → Nat → Toks → Nat ⊕ Toks
  | 0, _, l => .inr l
  | f + 1, i, l => if i < s.size then (if bt s i = 32 ∨ bt s i = 10 then lexL s f (i + 1) l else match oneS (s.extract i s.size) with
      | none => .inl i
      | some t => lexL s f (i + t.2.1.size) (l ++ [(t.1, t.2.1, t.2.2.1, (i : Int), ())])) else .inr l
def endT (s : ByteArray) : ty60.D := (4, (⟨#[]⟩ : ByteArray), zV, (s.size : Int), ())
noncomputable def lexS (s : ByteArray) : Int × Int × Toks := if 300 < s.size then (0, 9, []) else match lexL s (s.size + 1) 0 [] with
  | .inl i => ((i : Int), 7, [])
  | .inr l => (0, 0, l ++ [endT s])
theorem refLex_l (n : Nat) (s : ByteArray) (hs : s.size ≤ 300) (hn : 2000 < n) (k2 : exK R (zAJ_dx 5)) : ∀ (f i m : Nat) (l : Toks), s.size ≤ i + f → f < m → i ≤ s.size → l.length ≤ i →
    runC (zAJ_l5 n) m (s, (i : Int), l, ()) k2 = match lexL s (f + 1) i l with
      | .inl j => k2.1 ((j : Int), 7, [], ())
      | .inr l' => k2.2.1 (s, l', ())
  | f, i, m, l, hf, hm, hi, hl => by
    obtain ⟨m, rfl⟩ : ∃ q, m = q + 1 := ⟨m - 1, by omega⟩
    show zAJ_l5 n (s, (i : Int), l, ()) (fun b => runC (zAJ_l5 n) m b k2) k2 = _
    by_cases h : i < s.size
    · obtain ⟨f, rfl⟩ : ∃ q, f = q + 1 := ⟨f - 1, by omega⟩
      have c1 : (i : Int) < (s.size : Int) := by omega
      have c0 : (0 : Int) ≤ (i : Int) := by omega
      have e32 : ((bt s i : Int) == 32) = decide (bt s i = 32) := zEN _ 32
      have e10 : ((bt s i : Int) == 10) = decide (bt s i = 10) := zEN _ 10
      have r1 : (0 : Int) ≤ (i : Int) ∧ (i : Int) ≤ (s.size : Int) := by omega
      rw [lexL, if_pos h]
      simp only [zAJ_l5, zAJ_s5, c1, c0, decide_true, if_true, zEG, e32, e10, zDO i (by omega), r1, and_self, Int.toNat_natCast]
      have go := refLex_l n s hs hn k2 f (i + 1) m l (by omega) (by omega) (by omega) (by omega)
      by_cases h32 : bt s i = 32
      · rw [if_pos (decide_eq_true h32), if_pos (Or.inl h32)]
        exact go
      · by_cases h10 : bt s i = 10
        · rw [if_neg (by simpa using h32), if_pos (decide_eq_true h10), if_pos (Or.inr h10)]
          exact go
        · rw [if_neg (by simpa using h32), if_neg (by simpa using h10), if_neg (fun h => h.elim h32 h10)]
          have hz : (s.extract i s.size).size = s.size - i := by rw [ByteArray.size_extract]; omega
          obtain ⟨z, ho⟩ := refOne_F (R := R) n (s.extract i s.size) (by omega) (by omega) hn
          rw [ho]
          cases he : oneS (s.extract i s.size) with
          | none => rfl
          | some t =>
            obtain ⟨t1, t2⟩ := oneS_size (by omega) he
            have hw : IntKind.i64.wrap ((i : Int) + (t.2.1.size : Int)) = ((i + t.2.1.size : Nat) : Int) := by rw [wrap_i64 (by omega) (by omega)]; omega
            simp only [Bool.not_true, Bool.false_eq_true, if_false, hw, List.length_cons, List.length_nil]
            rw [if_pos (by omega)]
            exact refLex_l n s hs hn k2 f (i + t.2.1.size) m _ (by omega) (by omega) (by omega) (by simp; omega)
    · have c : ¬ (i : Int) < (s.size : Int) := by omega
      rw [lexL, if_neg h]
      simp only [zAJ_l5, zAJ_s5]
      rw [if_neg (by simpa using c)]
theorem lexL_len (s : ByteArray) : ∀ (f i : Nat) (l l' : Toks), i ≤ s.size → l.length ≤ i → lexL s f i l = .inr l' → l'.length ≤ s.size
  | 0, i, l, l', hi, hl, h => by injection h with h; rw [← h]; omega
  | f + 1, i, l, l', hi, hl, h => by
    unfold lexL at h
    split at h
    · rename_i hlt
      split at h
      · exact lexL_len s f (i + 1) l l' (by omega) (by omega) h
      · split at h
        · cases h
        · rename_i t he
          have hz : (s.extract i s.size).size = s.size - i := by rw [ByteArray.size_extract]; omega
          obtain ⟨t1, t2⟩ := oneS_size (by omega) he
          exact lexL_len s f (i + t.2.1.size) _ l' (by omega) (by simp; omega) h
    · injection h with h; rw [← h]; omega
theorem refLex_F (n : Nat) (s : ByteArray) (hn : 2000 < n) (k : Int → Int → Toks → Option R) : zAJ_F n s k = k (lexS s).1 (lexS s).2.1 (lexS s).2.2 := by
  rw [zAJ_e]
  unfold zAJ_Fi lexS
  by_cases h : 300 < s.size
  · have : (s.size : Int) > 300 := by omega
    rw [if_pos (decide_eq_true this), if_pos h]
  · have : ¬ (s.size : Int) > 300 := by omega
    rw [if_neg (by simpa using this), if_neg h]
    refine (refLex_l (R := R) n s (by omega) hn _ s.size 0 n [] (by omega) (by omega) (by omega) (by simp)).trans ?_
    cases he : lexL s (s.size + 1) 0 [] with
    | inl j => rfl
    | inr l =>
      have := lexL_len s _ _ _ _ (Nat.zero_le _) (by simp) he
      simp only [List.length_cons, List.length_nil]
      rw [if_pos (by omega)]
      rfl
theorem lexS_rng (s : ByteArray) (h : (lexS s).2.1 = 0) : ∃ l, (lexS s).2.2 = l ++ [endT s] ∧ l.length ≤ 300 := by
  unfold lexS at h ⊢
  split
  · rename_i h1; rw [if_pos h1] at h; cases h
  · rename_i h1
    rw [if_neg h1] at h
    cases he : lexL s (s.size + 1) 0 [] with
    | inl j => rw [he] at h; cases h
    | inr l => exact ⟨l, rfl, by have := lexL_len s _ _ _ _ (Nat.zero_le _) (by simp) he; omega⟩
theorem scanN_congr (p q : Nat → Bool) : ∀ f i, (∀ j, i ≤ j → p j = q j) → scanN p f i = scanN q f i
  | 0, _, _ => rfl
  | f + 1, i, h => by
    unfold scanN
    rw [h i (Nat.le_refl _), scanN_congr p q f (i + 1) (fun j hj => h j (by omega))]
theorem scanN_one (p : Nat → Bool) (m : Nat) (h : p 0 = true) : scanN p (m + 1) 0 = scanN p m 1 := by
  rw [scanN, if_pos h]
theorem letP_F (n : Nat) (c : Nat) (k : Bool → Option R) : zCO_F n (c : Int) k = k (letN c) := by
  rw [zCO_e]
  unfold zCO_Fi letN
  by_cases h : 97 ≤ c
  · have : (c : Int) ≥ 97 := by omega
    have e : ((c : Int) ≤ 122) ↔ c ≤ 122 := by omega
    simp [h, this, e]
  · have : ¬ (c : Int) ≥ 97 := by omega
    simp [h, this]
theorem digP_F (n : Nat) (c : Nat) (k : Bool → Option R) : zCX_F n (c : Int) k = k (digN c) := by
  rw [zCX_e]
  unfold zCX_Fi digN
  by_cases h : 48 ≤ c
  · have : (c : Int) ≥ 48 := by omega
    have e : ((c : Int) ≤ 57) ↔ c ≤ 57 := by omega
    simp [h, this, e]
  · have : ¬ (c : Int) ≥ 48 := by omega
    simp [h, this]
def wcN (c : Nat) : Bool := letN c || (digN c || decide (c = 95))
theorem wcP_F (n : Nat) (c : Nat) (k : Bool → Option R) : zDE_F n (c : Int) k = k (wcN c) := by
  rw [zDE_e]
  unfold zDE_Fi wcN
  rw [letP_F]
  have e95 : ((c : Int) == 95) = decide (c = 95) := zEN _ 95
  cases letN c with
  | true => rfl
  | false =>
    simp only [Bool.false_eq_true, if_false, Bool.false_or]
    rw [digP_F]
    cases digN c with
    | true => rfl
    | false => simp only [Bool.false_eq_true, if_false, Bool.false_or, e95]
def blN (c : Nat) : Bool := decide (c = 32) || decide (c = 10)
theorem blP_F (n : Nat) (c : Nat) (k : Bool → Option R) : zDJ_F n (c : Int) k = k (blN c) := by
  rw [zDJ_e]
  unfold zDJ_Fi blN
  have e32 : ((c : Int) == 32) = decide (c = 32) := zEN _ 32
  have e10 : ((c : Int) == 10) = decide (c = 10) := zEN _ 10
  rw [e32, e10]
  by_cases h : c = 32 <;> simp [h]
theorem runW_F (n : Nat) (s : ByteArray) (i : Nat) (hs : s.size ≤ 1000) (hi : i ≤ s.size) (hn : 2000 < n) (k : Int → Option R) : zAC_F n s (i : Int) k = k ((scanN (fun j => wcN (bt s j)) (s.size - i) i : Nat) : Int) := by
  rw [zAC_e]
  unfold zAC_Fi
  refine (runC_span (R := R) (step := zAC_l1 n) (fun b2 => k b2.1, ()) (fun j => wcN (bt s j)) (fun i => (s, (i : Int), ())) s.size (fun i => k (i : Int)) (fun i hi k1 => ?_) (fun k1 => ?_) (i := i) hi (by omega)).trans rfl
  · have c1 : (i : Int) < (s.size : Int) := by omega
    have c0 : (0 : Int) ≤ (i : Int) := by omega
    simp only [zAC_l1, zAC_s1, c1, c0, decide_true, if_true, zEG, wcP_F, zDO i (by omega)]
  · simp [zAC_l1, zAC_s1]
theorem runD_F (n : Nat) (s : ByteArray) (i : Nat) (hs : s.size ≤ 1000) (hi : i ≤ s.size) (hn : 2000 < n) (k : Int → Option R) : zBT_F n s (i : Int) k = k ((scanN (fun j => digN (bt s j)) (s.size - i) i : Nat) : Int) := by
  rw [zBT_e]
  unfold zBT_Fi
  refine (runC_span (R := R) (step := zBT_l1 n) (fun b2 => k b2.1, ()) (fun j => digN (bt s j)) (fun i => (s, (i : Int), ())) s.size (fun i => k (i : Int)) (fun i hi k1 => ?_) (fun k1 => ?_) (i := i) hi (by omega)).trans rfl
  · have c1 : (i : Int) < (s.size : Int) := by omega
    have c0 : (0 : Int) ≤ (i : Int) := by omega
    simp only [zBT_l1, zBT_s1, c1, c0, decide_true, if_true, zEG, digP_F, zDO i (by omega)]
  · simp [zBT_l1, zBT_s1]
def skN (s : ByteArray) (i : Nat) : Nat := scanN (fun j => blN (bt s j)) (s.size - i) i
theorem runB_F (n : Nat) (s : ByteArray) (i : Nat) (hs : s.size ≤ 1000) (hi : i ≤ s.size) (hn : 2000 < n) (k : Int → Option R) : zBU_F n s (i : Int) k = k ((skN s i : Nat) : Int) := by
  rw [zBU_e]
  unfold zBU_Fi skN
  refine (runC_span (R := R) (step := zBU_l1 n) (fun b2 => k b2.1, ()) (fun j => blN (bt s j)) (fun i => (s, (i : Int), ())) s.size (fun i => k (i : Int)) (fun i hi k1 => ?_) (fun k1 => ?_) (i := i) hi (by omega)).trans rfl
  · have c1 : (i : Int) < (s.size : Int) := by omega
    have c0 : (0 : Int) ≤ (i : Int) := by omega
    simp only [zBU_l1, zBU_s1, c1, c0, decide_true, if_true, zEG, blP_F, zDO i (by omega)]
  · simp [zBU_l1, zBU_s1]
theorem skN_rng (s : ByteArray) (i : Nat) (h : i ≤ s.size) : i ≤ skN s i ∧ skN s i ≤ s.size := by
  have := scanN_le (fun j => blN (bt s j)) (s.size - i) i
  unfold skN
  omega
theorem wordN_eq (s : ByteArray) (h0 : 0 < s.size) (h : letN (bt s 0) = true) : scanN (fun j => wcN (bt s j)) (s.size - 1) 1 = wordN s := by
  obtain ⟨m, hm⟩ : ∃ m, s.size = m + 1 := ⟨s.size - 1, by omega⟩
  unfold wordN
  rw [hm, Nat.add_sub_cancel, scanN_one _ _ (by unfold wchN; rw [h]; rfl)]
  exact scanN_congr _ _ _ _ fun j hj => by unfold wcN wchN; rw [decide_eq_true (show 0 < j by omega), Bool.true_and]
theorem numN_eq (s : ByteArray) (h0 : 0 < s.size) (h : digN (bt s 0) = true ∨ bt s 0 = 45) : scanN (fun j => digN (bt s j)) (s.size - 1) 1 = numN s := by
  unfold numN
  by_cases h4 : bt s 0 = 45
  · rw [if_pos h4]
  · rw [if_neg h4]
    obtain ⟨m, hm⟩ : ∃ m, s.size = m + 1 := ⟨s.size - 1, by omega⟩
    rw [hm, Nat.add_sub_cancel, Nat.sub_zero, scanN_one _ _ (h.resolve_right h4)]
theorem constP_F (n : Nat) (s : ByteArray) (m : Nat) (hm : m ≤ s.size) (hs : s.size ≤ 1000) (hn : 2000 < n) (k : ty78.D → Bool → Option R) : zCL_F n s (m : Int) k = k (2, s.extract 0 m, (readV (s.extract 0 m)).1, 0, ()) ((readV (s.extract 0 m)).2 == 0) := by
  rw [zCL_e]
  unfold zCL_Fi
  have c : (0 : Int) ≤ (m : Int) ∧ (m : Int) ≤ (s.size : Int) := by omega
  rw [if_pos c, Int.toNat_natCast, readP_F n _ (by rw [ByteArray.size_extract]; omega) hn, if_pos c]
theorem constP_ex (n : Nat) (s : ByteArray) (m : Nat) (hm : m ≤ s.size) (hs : s.size ≤ 1000) (hn : 2000 < n) : ∃ z : ty78.D, ∀ k : ty78.D → Bool → Option R, zCL_F n s (m : Int) k = match constS s m with
    | some t => k t true
    | none => k z false := by
  refine ⟨(2, s.extract 0 m, (readV (s.extract 0 m)).1, 0, ()), fun k => ?_⟩
  rw [constP_F n s m hm hs hn]
  unfold constS
  by_cases h : (readV (s.extract 0 m)).2 = 0
  · rw [if_pos h, h]; rfl
  · rw [if_neg h, show ((readV (s.extract 0 m)).2 == 0) = false from by simpa using h]
theorem wordP_F (n : Nat) (s : ByteArray) (h0 : 0 < s.size) (hl : letN (bt s 0) = true) (hs : s.size ≤ 1000) (hn : 2000 < n) (k : ty78.D → Option R) : zCJ_F n s k = k (if (readV (s.extract 0 (wordN s))).2 = 0 then (2, s.extract 0 (wordN s), (readV (s.extract 0 (wordN s))).1, 0, ()) else (1, s.extract 0 (wordN s), zV, 0, ())) := by
  rw [zCJ_e]
  unfold zCJ_Fi
  rw [show (1 : Int) = ((1 : Nat) : Int) from rfl, runW_F n s 1 hs h0 hn, wordN_eq s h0 hl]
  have hw := wordN_rng s h0 hl
  rw [if_pos (by omega), Int.toNat_natCast, readP_F n _ (by rw [ByteArray.size_extract]; omega) hn]
  by_cases h : (readV (s.extract 0 (wordN s))).2 = 0
  · rw [if_pos h, h]; rfl
  · rw [if_neg h, if_neg (by simpa using h)]; rfl
theorem numP_F (n : Nat) (s : ByteArray) (h0 : 0 < s.size) (hd : digN (bt s 0) = true ∨ bt s 0 = 45) (hs : s.size ≤ 1000) (hn : 2000 < n) : ∃ z : ty78.D, ∀ k : ty78.D → Bool → Option R, zCW_F n s k = match (if numN s < s.size ∧ (letN (bt s (numN s)) = true ∨ bt s (numN s) = 95) then none else constS s (numN s)) with
    | some t => k t true
    | none => k z false := by
  have hr := numN_rng s h0 hd
  obtain ⟨z, hz⟩ := constP_ex (R := R) n s (numN s) hr.2 hs hn
  have e95 : ((bt s (numN s) : Int) == 95) = decide (bt s (numN s) = 95) := zEN _ 95
  have start : ∀ k : ty78.D → Bool → Option R, zCW_F n s k = if (decide (((numN s : Nat) : Int) < (s.size : Int))) = true then (if (0 : Int) ≤ ((numN s : Nat) : Int) then if ((numN s : Nat) : Int) < (s.size : Int) then (zCO_F n (byteAt s ((numN s : Nat) : Int)) (fun y2 => if y2 = true then (k (0, (⟨#[]⟩ : ByteArray), (0, false, 0, (⟨#[]⟩ : ByteArray), ()), 0, ()) false) else (if (0 : Int) ≤ ((numN s : Nat) : Int) then if ((numN s : Nat) : Int) < (s.size : Int) then (if ((byteAt s ((numN s : Nat) : Int)) == 95) = true then (k (0, (⟨#[]⟩ : ByteArray), (0, false, 0, (⟨#[]⟩ : ByteArray), ()), 0, ()) false) else (zCL_F n s ((numN s : Nat) : Int) (fun y3 y4 => k y3 y4))) else none else none))) else none else none) else (zCL_F n s ((numN s : Nat) : Int) (fun y5 y6 => k y5 y6)) := by
    intro k
    rw [zCW_e]
    unfold zCW_Fi
    rw [show (1 : Int) = ((1 : Nat) : Int) from rfl, runD_F n s 1 hs h0 hn, numN_eq s h0 hd]
  by_cases hlt : numN s < s.size
  · have g1 : ((numN s : Nat) : Int) < (s.size : Int) := by omega
    have g0 : (0 : Int) ≤ ((numN s : Nat) : Int) := by omega
    by_cases hb : letN (bt s (numN s)) = true ∨ bt s (numN s) = 95
    · refine ⟨(0, (⟨#[]⟩ : ByteArray), zV, 0, ()), fun k => ?_⟩
      have e : (if numN s < s.size ∧ (letN (bt s (numN s)) = true ∨ bt s (numN s) = 95) then (none : Option ty78.D) else constS s (numN s)) = none := if_pos ⟨hlt, hb⟩
      refine Eq.trans ?_ (show k (0, (⟨#[]⟩ : ByteArray), zV, 0, ()) false = match (if numN s < s.size ∧ (letN (bt s (numN s)) = true ∨ bt s (numN s) = 95) then (none : Option ty78.D) else constS s (numN s)) with | some t => k t true | none => k (0, (⟨#[]⟩ : ByteArray), zV, 0, ()) false from by rw [e])
      rw [start]
      simp only [g1, g0, decide_true, if_true, zEG, letP_F, e95]
      by_cases hl : letN (bt s (numN s)) = true
      · simp only [hl, if_true]; rfl
      · have h95 := hb.resolve_left hl
        have hl' : letN (bt s (numN s)) = false := by simpa using hl
        simp only [hl', Bool.false_eq_true, if_false, decide_eq_true h95, if_true]; rfl
    · refine ⟨z, fun k => ?_⟩
      have hl : letN (bt s (numN s)) = false := by
        cases h : letN (bt s (numN s)) with
        | false => rfl
        | true => exact absurd (.inl h) hb
      have h95 : ¬ bt s (numN s) = 95 := fun h => hb (.inr h)
      have e : (if numN s < s.size ∧ (letN (bt s (numN s)) = true ∨ bt s (numN s) = 95) then (none : Option ty78.D) else constS s (numN s)) = constS s (numN s) := if_neg (fun h => hb h.2)
      refine Eq.trans ?_ ((hz k).trans (show (match constS s (numN s) with | some t => k t true | none => k z false) = match (if numN s < s.size ∧ (letN (bt s (numN s)) = true ∨ bt s (numN s) = 95) then (none : Option ty78.D) else constS s (numN s)) with | some t => k t true | none => k z false from by rw [e]; cases constS s (numN s) <;> rfl))
      rw [start]
      simp only [g1, g0, decide_true, if_true, zEG, letP_F, e95, hl, Bool.false_eq_true, if_false, h95, decide_false]
  · refine ⟨z, fun k => ?_⟩
    have g1 : ¬ ((numN s : Nat) : Int) < (s.size : Int) := by omega
    have e : (if numN s < s.size ∧ (letN (bt s (numN s)) = true ∨ bt s (numN s) = 95) then (none : Option ty78.D) else constS s (numN s)) = constS s (numN s) := if_neg (fun h => hlt h.1)
    refine Eq.trans ?_ ((hz k).trans (show (match constS s (numN s) with | some t => k t true | none => k z false) = match (if numN s < s.size ∧ (letN (bt s (numN s)) = true ∨ bt s (numN s) = 95) then (none : Option ty78.D) else constS s (numN s)) with | some t => k t true | none => k z false from by rw [e]; cases constS s (numN s) <;> rfl))
    rw [start]
    simp only [g1, decide_false, Bool.false_eq_true, if_false]
theorem quoP_l (n : Nat) (s : ByteArray) (hs : s.size ≤ 1000) (hn : 2000 < n) (k2 : exK R (zBO_dx 2)) : ∀ (f m i : Nat), s.size ≤ i + f → f + 2 < m → i ≤ s.size + 2 →
    runC (zBO_l2 n) m (s, (i : Int), 0, (⟨#[]⟩ : ByteArray), 0, false, 0, (⟨#[]⟩ : ByteArray), 0, ()) k2 = if 0 < textN s (f + 1) i then zCL_F n s ((textN s (f + 1) i : Nat) : Int) (fun y1 y2 => k2.1 (y2, y1.1, y1.2.1, y1.2.2.1.1, y1.2.2.1.2.1, y1.2.2.1.2.2.1, y1.2.2.1.2.2.2.1, y1.2.2.2.1, ())) else k2.2.1 (0, (⟨#[]⟩ : ByteArray), 0, false, 0, (⟨#[]⟩ : ByteArray), 0, ())
  | f, m, i, hf, hm, hi => by
    obtain ⟨m, rfl⟩ : ∃ q, m = q + 1 := ⟨m - 1, by omega⟩
    show zBO_l2 n (s, (i : Int), 0, (⟨#[]⟩ : ByteArray), 0, false, 0, (⟨#[]⟩ : ByteArray), 0, ()) (fun b => runC (zBO_l2 n) m b k2) k2 = _
    simp only [zBO_l2, zBO_s2]
    by_cases hlt : i < s.size
    · obtain ⟨f, rfl⟩ : ∃ q, f = q + 1 := ⟨f - 1, by omega⟩
      have c1 : (i : Int) < (s.size : Int) := by omega
      have c0 : (0 : Int) ≤ (i : Int) := by omega
      have e34 : ((bt s i : Int) == 34) = decide (bt s i = 34) := zEN _ 34
      have e92 : ((bt s i : Int) == 92) = decide (bt s i = 92) := zEN _ 92
      have w1' : IntKind.i64.wrap (((i + 1 : Nat) : Int) + 1) = ((i + 2 : Nat) : Int) := zDO (i + 1) (by omega)
      simp only [c1, c0, decide_true, if_true, zEG, e34, e92, zDO i (by omega), w1']
      by_cases h34 : bt s i = 34
      · have h92 : ¬ bt s i = 92 := by omega
        have et : textN s (f + 1 + 1) i = i + 1 := by rw [textN, if_pos hlt, if_neg h92, if_pos h34]
        rw [et, if_pos (decide_eq_true h34), if_pos (by omega)]
      · by_cases h92 : bt s i = 92
        · have et : textN s (f + 1 + 1) i = textN s (f + 1) (i + 2) := by rw [textN, if_pos hlt, if_pos h92]
          rw [et, if_neg (by simpa using h34), if_pos (decide_eq_true h92)]
          exact quoP_l n s hs hn k2 f m (i + 2) (by omega) (by omega) (by omega)
        · have et : textN s (f + 1 + 1) i = textN s (f + 1) (i + 1) := by rw [textN, if_pos hlt, if_neg h92, if_neg h34]
          rw [et, if_neg (by simpa using h34), if_neg (by simpa using h92)]
          exact quoP_l n s hs hn k2 f m (i + 1) (by omega) (by omega) (by omega)
    · have c1 : ¬ (i : Int) < (s.size : Int) := by omega
      have et : textN s (f + 1) i = 0 := by rw [textN, if_neg hlt]
      rw [et, if_neg (by simpa using c1), if_neg (by omega)]
theorem quoP_F (n : Nat) (s : ByteArray) (h0 : 0 < s.size) (hs : s.size ≤ 1000) (hn : 2000 < n) : ∃ z : ty78.D, ∀ k : ty78.D → Bool → Option R, zBO_F n s k = match (if 0 < textN s (s.size + 1) 1 then constS s (textN s (s.size + 1) 1) else none) with
    | some t => k t true
    | none => k z false := by
  obtain ⟨z, hz⟩ := constP_ex (R := R) n s (textN s (s.size + 1) 1) (textN_le s _ _) hs hn
  have start : ∀ k : ty78.D → Bool → Option R, zBO_F n s k = if 0 < textN s (s.size + 1) 1 then zCL_F n s ((textN s (s.size + 1) 1 : Nat) : Int) k else k (0, (⟨#[]⟩ : ByteArray), zV, 0, ()) false := by
    intro k
    rw [zBO_e]
    unfold zBO_Fi
    refine (quoP_l n s hs hn _ s.size n 1 (by omega) (by omega) (by omega)).trans ?_
    rfl
  by_cases h : 0 < textN s (s.size + 1) 1
  · refine ⟨z, fun k => ?_⟩
    have e : (if 0 < textN s (s.size + 1) 1 then constS s (textN s (s.size + 1) 1) else none) = constS s (textN s (s.size + 1) 1) := if_pos h
    rw [e, start, if_pos h]
    exact hz k
  · refine ⟨(0, (⟨#[]⟩ : ByteArray), zV, 0, ()), fun k => ?_⟩
    have e : (if 0 < textN s (s.size + 1) 1 then constS s (textN s (s.size + 1) 1) else none) = none := if_neg h
    rw [e, start, if_neg h]
def hasP (s p : ByteArray) : Bool := decide (p.size ≤ s.size) && decide (s.extract 0 p.size = p)
theorem hasP_F (n : Nat) (s p : ByteArray) (k : Bool → Option R) : zCE_F n s p k = k (hasP s p) := by
  rw [zCE_e]
  unfold zCE_Fi
  rw [zBN_e]
  unfold zBN_Fi hasP
  by_cases h : p.size ≤ s.size
  · have g : (s.size : Int) ≥ (p.size : Int) := by omega
    have g2 : (0 : Int) ≤ (p.size : Int) ∧ (p.size : Int) ≤ (s.size : Int) := by omega
    rw [if_pos (decide_eq_true g), if_pos g2, Int.toNat_natCast, beqB, decide_eq_true h, Bool.true_and]
  · have g : ¬ (s.size : Int) ≥ (p.size : Int) := by omega
    rw [if_neg (by simpa using g), decide_eq_false h, Bool.false_and]
def sgnL : List ByteArray := [(⟨#[61, 61]⟩ : ByteArray), (⟨#[33, 61]⟩ : ByteArray), (⟨#[60, 61]⟩ : ByteArray), (⟨#[62, 61]⟩ : ByteArray), (⟨#[60]⟩ : ByteArray), (⟨#[62]⟩ : ByteArray), (⟨#[40]⟩ : ByteArray), (⟨#[41]⟩ : ByteArray), (⟨#[44]⟩ : ByteArray), (⟨#[95]⟩ : ByteArray)]
theorem sgnP_l (n : Nat) (s : ByteArray) (k2 : exK R (zCG_dx 2)) : ∀ (l : List ByteArray) (i m : Nat), i + l.length = 10 → sgnL.drop i = l → l.length < m →
    runC (zCG_l2 n) m (s, ((10 : Nat) : Int), (i : Int), 0, (⟨#[]⟩ : ByteArray), 0, false, 0, (⟨#[]⟩ : ByteArray), 0, sgnL, ()) k2 = match l.find? (hasP s) with
      | some w => k2.1 (true, 3, w, 0, false, 0, (⟨#[]⟩ : ByteArray), 0, ())
      | none => k2.2.1 (0, (⟨#[]⟩ : ByteArray), 0, false, 0, (⟨#[]⟩ : ByteArray), 0, ())
  | [], i, m, hi, hd, hm => by
    obtain ⟨m, rfl⟩ : ∃ q, m = q + 1 := ⟨m - 1, by omega⟩
    show zCG_l2 n (s, ((10 : Nat) : Int), (i : Int), 0, (⟨#[]⟩ : ByteArray), 0, false, 0, (⟨#[]⟩ : ByteArray), 0, sgnL, ()) (fun b => runC (zCG_l2 n) m b k2) k2 = _
    simp only [List.length_nil] at hi
    have c : ¬ (i : Int) < ((10 : Nat) : Int) := by omega
    simp only [zCG_l2, zCG_s2]
    rw [if_neg (by simpa using c)]
    rfl
  | w :: l, i, m, hi, hd, hm => by
    obtain ⟨m, rfl⟩ : ∃ q, m = q + 1 := ⟨m - 1, by omega⟩
    show zCG_l2 n (s, ((10 : Nat) : Int), (i : Int), 0, (⟨#[]⟩ : ByteArray), 0, false, 0, (⟨#[]⟩ : ByteArray), 0, sgnL, ()) (fun b => runC (zCG_l2 n) m b k2) k2 = _
    simp only [List.length_cons] at hi hm
    have c : (i : Int) < ((10 : Nat) : Int) := by omega
    have hsl : sgnL.length = 10 := rfl
    have c2 : (0 : Int) ≤ (i : Int) ∧ (i : Int) < (sgnL.length : Int) := by rw [hsl]; omega
    have c3 : Int.toNat (i : Int) < sgnL.length := by rw [hsl, Int.toNat_natCast]; omega
    have hw : sgnL.getD i (Ty.z .str) = w := by
      have := congrArg (fun l => l[0]?) hd
      simp only [List.getElem?_drop, Nat.add_zero, List.getElem?_cons_zero] at this
      rw [List.getD_eq_getElem?_getD, this]
      rfl
    simp only [zCG_l2, zCG_s2]
    rw [if_pos (decide_eq_true c), if_pos c2, if_pos c3, Int.toNat_natCast, hasP_F, hw, zDO i (by omega), List.find?_cons]
    cases hh : hasP s w with
    | true => rfl
    | false =>
      simp only [Bool.false_eq_true, if_false]
      exact sgnP_l n s k2 l (i + 1) m (by omega) (by rw [← List.drop_drop, hd]; rfl) (by omega)
theorem ext0 (s : ByteArray) (k : Nat) : (s.extract 0 k).data.toList = s.data.toList.take k := by simp
theorem has1 (s : ByteArray) (h0 : 0 < s.size) (c : UInt8) : hasP s ⟨#[c]⟩ = decide (bt s 0 = c.toNat) := by
  unfold hasP bt
  rw [zDV] at h0
  obtain ⟨x, r, hl⟩ : ∃ x r, s.data.toList = x :: r := by
    cases h : s.data.toList with
    | nil => rw [h] at h0; simp at h0
    | cons x r => exact ⟨x, r, rfl⟩
  have e1 : (⟨#[c]⟩ : ByteArray).size = 1 := rfl
  rw [e1, decide_eq_true (by rw [zDV, hl]; simp), Bool.true_and, hl]
  simp only [List.getD_cons_zero]
  rw [decide_eq_decide]
  constructor
  · intro h
    have := congrArg (fun s : ByteArray => s.data.toList) h
    simp only [ext0, hl] at this
    injection this with h1 _
    rw [h1]
  · intro h
    apply ba_eq
    rw [ext0, hl, UInt8.toNat_inj.1 h]
    rfl
theorem has2 (s : ByteArray) (c d : UInt8) : hasP s ⟨#[c, d]⟩ = (decide (2 ≤ s.size) && (decide (bt s 0 = c.toNat) && decide (bt s 1 = d.toNat))) := by
  unfold hasP bt
  have e1 : (⟨#[c, d]⟩ : ByteArray).size = 2 := rfl
  rw [e1]
  by_cases h2 : 2 ≤ s.size
  · rw [decide_eq_true h2, Bool.true_and, Bool.true_and]
    rw [zDV] at h2
    obtain ⟨x, y, r, hl⟩ : ∃ x y r, s.data.toList = x :: y :: r := by
      cases h : s.data.toList with
      | nil => rw [h] at h2; simp at h2
      | cons x r => cases r with
        | nil => rw [h] at h2; simp at h2
        | cons y r => exact ⟨x, y, r, rfl⟩
    rw [hl]
    simp only [List.getD_cons_zero, List.getD_cons_succ]
    rw [← Bool.decide_and, decide_eq_decide]
    constructor
    · intro h
      have := congrArg (fun s : ByteArray => s.data.toList) h
      simp only [ext0, hl] at this
      injection this with h1 h3
      injection h3 with h3 _
      exact ⟨by rw [h1], by rw [h3]⟩
    · intro h
      apply ba_eq
      rw [ext0, hl, UInt8.toNat_inj.1 h.1, UInt8.toNat_inj.1 h.2]
      rfl
  · rw [decide_eq_false h2, Bool.false_and, Bool.false_and]
theorem hasP_ext {s w : ByteArray} (h : hasP s w = true) : w = s.extract 0 w.size := by
  unfold hasP at h
  simp only [Bool.and_eq_true, decide_eq_true_eq] at h
  exact h.2.symm
theorem sgn_find (s : ByteArray) (h0 : 0 < s.size) : sgnL.find? (hasP s) = if 0 < signN s then some (s.extract 0 (signN s)) else none := by
  have two : ∀ (c d : UInt8), 2 ≤ s.size → bt s 0 = c.toNat → bt s 1 = d.toNat → s.extract 0 2 = ⟨#[c, d]⟩ := fun c d h1 h2 h3 => (hasP_ext (w := ⟨#[c, d]⟩) (by rw [has2, decide_eq_true h1, decide_eq_true h2, decide_eq_true h3]; rfl)).symm
  have one : ∀ (c : UInt8), bt s 0 = c.toNat → s.extract 0 1 = ⟨#[c]⟩ := fun c h2 => (hasP_ext (w := ⟨#[c]⟩) (by rw [has1 s h0, decide_eq_true h2])).symm
  unfold sgnL signN
  simp only [List.find?, has1 s h0, has2, show (61 : UInt8).toNat = 61 from rfl, show (33 : UInt8).toNat = 33 from rfl, show (60 : UInt8).toNat = 60 from rfl, show (62 : UInt8).toNat = 62 from rfl, show (40 : UInt8).toNat = 40 from rfl, show (41 : UInt8).toNat = 41 from rfl, show (44 : UInt8).toNat = 44 from rfl, show (95 : UInt8).toNat = 95 from rfl]
  have hc : bt s 0 = 61 ∨ bt s 0 = 33 ∨ bt s 0 = 60 ∨ bt s 0 = 62 ∨ bt s 0 = 40 ∨ bt s 0 = 41 ∨ bt s 0 = 44 ∨ bt s 0 = 95 ∨ (bt s 0 ≠ 61 ∧ bt s 0 ≠ 33 ∧ bt s 0 ≠ 60 ∧ bt s 0 ≠ 62 ∧ bt s 0 ≠ 40 ∧ bt s 0 ≠ 41 ∧ bt s 0 ≠ 44 ∧ bt s 0 ≠ 95) := by omega
  by_cases h2 : 2 ≤ s.size
  · by_cases hb : bt s 1 = 61
    · rcases hc with h | h | h | h | h | h | h | h | ⟨g1, g2, g3, g4, g5, g6, g7, g8⟩
      · simp [h, hb, h2, two 61 61 h2 h hb]
      · simp [h, hb, h2, two 33 61 h2 h hb]
      · simp [h, hb, h2, two 60 61 h2 h hb]
      · simp [h, hb, h2, two 62 61 h2 h hb]
      · simp [h, hb, h2, one 40 h]
      · simp [h, hb, h2, one 41 h]
      · simp [h, hb, h2, one 44 h]
      · simp [h, hb, h2, one 95 h]
      · simp [g1, g2, g3, g4, g5, g6, g7, g8, hb, h2]
    · rcases hc with h | h | h | h | h | h | h | h | ⟨g1, g2, g3, g4, g5, g6, g7, g8⟩
      · simp [h, hb, h2]
      · simp [h, hb, h2]
      · simp [h, hb, h2, one 60 h]
      · simp [h, hb, h2, one 62 h]
      · simp [h, hb, h2, one 40 h]
      · simp [h, hb, h2, one 41 h]
      · simp [h, hb, h2, one 44 h]
      · simp [h, hb, h2, one 95 h]
      · simp [g1, g2, g3, g4, g5, g6, g7, g8, hb, h2]
  · rcases hc with h | h | h | h | h | h | h | h | ⟨g1, g2, g3, g4, g5, g6, g7, g8⟩
    · simp [h, h2]
    · simp [h, h2]
    · simp [h, h2, one 60 h]
    · simp [h, h2, one 62 h]
    · simp [h, h2, one 40 h]
    · simp [h, h2, one 41 h]
    · simp [h, h2, one 44 h]
    · simp [h, h2, one 95 h]
    · simp [g1, g2, g3, g4, g5, g6, g7, g8, h2]
theorem sgnP_F (n : Nat) (s : ByteArray) (h0 : 0 < s.size) (hn : 2000 < n) (k : ty78.D → Bool → Option R) : zCG_F n s k = if 0 < signN s then k (3, s.extract 0 (signN s), zV, 0, ()) true else k (0, (⟨#[]⟩ : ByteArray), zV, 0, ()) false := by
  rw [zCG_e]
  unfold zCG_Fi
  refine (sgnP_l n s _ sgnL 0 n rfl rfl (by show 10 < n; omega)).trans ?_
  rw [sgn_find s h0]
  by_cases h : 0 < signN s
  · rw [if_pos h, if_pos h]; rfl
  · rw [if_neg h, if_neg h]; rfl
theorem firstP_F (n : Nat) (s : ByteArray) (h0 : 0 < s.size) (hs : s.size ≤ 1000) (hn : 2000 < n) : ∃ z : ty78.D, ∀ k : ty78.D → Bool → Option R, zDH_F n s k = match oneS s with
    | some t => k t true
    | none => k z false := by
  have c1 : (0 : Int) < (s.size : Int) := by omega
  have e45 : ((bt s 0 : Int) == 45) = decide (bt s 0 = 45) := zEN _ 45
  have e34 : ((bt s 0 : Int) == 34) = decide (bt s 0 = 34) := zEN _ 34
  have start : ∀ k : ty78.D → Bool → Option R, zDH_F n s k = if letN (bt s 0) = true then zCJ_F n s (fun y2 => k y2 true) else (if digN (bt s 0) = true ∨ bt s 0 = 45 then zCW_F n s k else (if bt s 0 = 34 then zBO_F n s k else zCG_F n s k)) := by
    intro k
    rw [zDH_e]
    unfold zDH_Fi
    simp only [Int.le_refl, if_true, c1, byteAt_0, letP_F, digP_F, e45, e34]
    by_cases hl : letN (bt s 0) = true
    · simp only [hl, if_true]
    · simp only [hl, Bool.false_eq_true, if_false]
      by_cases hd : digN (bt s 0) = true
      · simp only [hd, if_true, true_or]
      · by_cases h4 : bt s 0 = 45
        · rw [if_neg hd, if_pos (decide_eq_true h4), if_pos (.inr h4)]
        · simp only [hd, h4, decide_false, Bool.false_eq_true, if_false, or_self]
          by_cases h3 : bt s 0 = 34
          · simp only [h3, decide_true, if_true]
          · simp only [h3, decide_false, Bool.false_eq_true, if_false]
  unfold oneS
  by_cases hl : letN (bt s 0) = true
  · refine ⟨(0, (⟨#[]⟩ : ByteArray), zV, 0, ()), fun k => ?_⟩
    rw [start, if_pos hl, wordP_F n s h0 hl hs hn, if_pos hl]
    by_cases h : (readV (s.extract 0 (wordN s))).2 = 0
    · rw [if_pos h, if_pos h]
    · rw [if_neg h, if_neg h]
  · by_cases hd : digN (bt s 0) = true ∨ bt s 0 = 45
    · obtain ⟨z, hz⟩ := numP_F (R := R) n s h0 hd hs hn
      refine ⟨z, fun k => ?_⟩
      rw [start, if_neg hl, if_pos hd, if_neg hl, if_pos hd]
      exact hz k
    · by_cases h3 : bt s 0 = 34
      · obtain ⟨z, hz⟩ := quoP_F (R := R) n s h0 hs hn
        refine ⟨z, fun k => ?_⟩
        rw [start, if_neg hl, if_neg hd, if_pos h3, if_neg hl, if_neg hd, if_pos h3]
        exact hz k
      · refine ⟨(0, (⟨#[]⟩ : ByteArray), zV, 0, ()), fun k => ?_⟩
        rw [start, if_neg hl, if_neg hd, if_neg h3, if_neg hl, if_neg hd, if_neg h3, sgnP_F n s h0 hn]
        by_cases h : 0 < signN s
        · rw [if_pos h, if_pos h]
        · rw [if_neg h, if_neg h]
end Go.Proofs.YtnnbinmomendnaaGreatDoor.E
namespace Go.Proofs.YtnnbinmomendnaaGreatDoor
open Go.RowKit Go.Shelf
attribute [local go_sem] Oper.semAt_some
abbrev Tok := E.ty78.D
def tokC (t : Tok) : Array Value := #[.int .i64 t.1, .string t.2.1, .int .i64 t.2.2.1.1, .bool t.2.2.1.2.1, .int .i64 t.2.2.1.2.2.1, .string t.2.2.1.2.2.2.1, .int .i64 t.2.2.2.1]
def encX (x : Tok × Bool) : Array Value := #[.agg (tokC x.1), .bool x.2]
def setAt (t : Tok) (i : Int) : Tok := (t.1, t.2.1, t.2.2.1, i, ())
def rowOf (b5 : Nat) (W : World) : Option Nat := (W.cell? ⟨b5, 0, none⟩).bind Value.ownBlock
def OKW (b5 m : Nat) (W : World) : Prop := ∀ r, rowOf b5 W = some r → m ≤ r ∧ r < W.heap.size
structure Kp (b5 m : Nat) (A B : World) : Prop where
  ok : OKW b5 m A → OKW b5 m B
  size : A.heap.size ≤ B.heap.size
  low : ∀ k, k < m → k ≠ b5 → B.heap[k]? = A.heap[k]?
  own : ∀ k o, A.heap[k]? = some o → o.isCells = true → k ≠ b5 → rowOf b5 A ≠ some k → B.heap[k]? = some o
  row : ∀ r, rowOf b5 B = some r → rowOf b5 A = some r ∨ A.heap.size ≤ r
theorem Kp.trans {b5 m : Nat} {A B C : World} (h : Kp b5 m A B) (k : Kp b5 m B C) : Kp b5 m A C := by
  refine ⟨fun o => k.ok (h.ok o), Nat.le_trans h.size k.size, fun j h1 h2 => (k.low j h1 h2).trans (h.low j h1 h2), fun j o h1 h2 h3 h4 => k.own j o (h.own j o h1 h2 h3 h4) h2 h3 (fun e => ?_), fun r hr => ?_⟩
  · rcases h.row j e with e | e
    · exact h4 e
    · have := (Array.getElem?_eq_some_iff.1 h1).1; omega
  · rcases k.row r hr with e | e
    · exact h.row r e
    · exact .inr (Nat.le_trans h.size e)
theorem rowOf_same {b5 : Nat} {A B : World} (h : B.heap[b5]? = A.heap[b5]?) : rowOf b5 B = rowOf b5 A := by
  unfold rowOf World.cell?
  rw [show (⟨b5, 0, none⟩ : Addr).block = b5 from rfl, h]
theorem OKW.grow {b5 m : Nat} {A B : World} (h : OKW b5 m A) (hb : B.heap[b5]? = A.heap[b5]?) (hs : A.heap.size ≤ B.heap.size) : OKW b5 m B := fun r hr => by
  rw [rowOf_same hb] at hr
  have := h r hr
  exact ⟨this.1, by omega⟩
theorem Kp.book {b5 m : Nat} {w : World} (hb : b5 < w.heap.size) (hm : m ≤ w.heap.size) (W : World) (l : Nat) (o o' : Obj) (hl : w.heap.size ≤ l) (h : W.heap[l]? = some o) (hc : o.isCells = false) (_ : o.isWalk = false) : Kp b5 m W (W.putObj l o') := by
  have hs : (W.putObj l o').heap.size = W.heap.size := by simp
  have e5 : (W.putObj l o').heap[b5]? = W.heap[b5]? := World.putObj_heap_other (by omega)
  refine ⟨fun ok => ok.grow e5 (by omega), by omega, fun k h1 h2 => World.putObj_heap_other (by omega), fun k o1 h1 h2 _ _ => (World.putObj_heap_other (fun e => ?_)).trans h1, fun r hr => .inl (by rw [rowOf_same e5] at hr; exact hr)⟩
  subst e
  rw [h] at h1
  injection h1 with h1
  subst h1
  rw [hc] at h2
  cases h2
section
variable (sk : ByteArray → Nat → Nat) (one : ByteArray → Option Tok)
inductive Pre (s : ByteArray) : Nat → List (Tok × Bool) → Prop
  | nil : Pre s (sk s 0) []
  | cons {i : Nat} {pre : List (Tok × Bool)} {t : Tok} : Pre s i pre → i < s.size → one (s.extract i s.size) = some t → Pre s (sk s (i + t.2.1.size)) (pre ++ [(setAt t i, true)])
def Whole (s : ByteArray) (xs : List (Tok × Bool)) : Prop :=
  Pre sk one s s.size xs ∨ ∃ i pre z, Pre sk one s i pre ∧ i < s.size ∧ one (s.extract i s.size) = none ∧ xs = pre ++ [(setAt z i, false)]
def Part (s : ByteArray) (xs : List (Tok × Bool)) : Prop :=
  ∃ i pre z ok, Pre sk one s i pre ∧ i < s.size ∧ (ok = true → one (s.extract i s.size) = some z) ∧ (ok = false → one (s.extract i s.size) = none) ∧ xs = pre ++ [(setAt z i, ok)]
structure Calls2 : Prop where
  sk1 : ∀ s i, i ≤ s.size → i ≤ sk s i ∧ sk s i ≤ s.size
  one1 : ∀ s t, 0 < s.size → one s = some t → 1 ≤ t.2.1.size ∧ t.2.1.size ≤ s.size
  run : ∀ (s : ByteArray) (i : Nat) (w : World), s.size ≤ 300 → i ≤ s.size → E.LayC w → (∀ g ∈ E.layG, g < w.heap.size) → Calls Tryz.prog 56 #[.string s, .int .i64 i, .func (.func 57) #[] #[]] w fun e w' => e = .returned (.int .i64 (sk s i : Nat)) ∧ Below w.heap.size w w'
  first : ∀ (s : ByteArray) (w : World), 0 < s.size → s.size ≤ 300 → E.LayC w → (∀ g ∈ E.layG, g < w.heap.size) → Calls Tryz.prog 58 #[.string s] w fun e w' => (∃ t ok, (ok = true → one s = some t) ∧ (ok = false → one s = none) ∧ e = .returned (.tuple #[.agg (tokC t), .bool ok])) ∧ Below w.heap.size w w'
variable {sk one}
theorem Pre.len (C : Calls2 sk one) {s : ByteArray} {i : Nat} {pre : List (Tok × Bool)} (h : Pre sk one s i pre) : i ≤ s.size ∧ pre.length ≤ i := by
  induction h with
  | nil => exact ⟨(C.sk1 s 0 (Nat.zero_le _)).2, Nat.zero_le _⟩
  | @cons i pre t h1 h2 h3 ih =>
    have := C.one1 _ t (by rw [ByteArray.size_extract]; omega) h3
    rw [ByteArray.size_extract] at this
    have h4 := C.sk1 s (i + t.2.1.size) (by omega)
    exact ⟨h4.2, by rw [List.length_append, List.length_singleton]; omega⟩
theorem grownBy_below {W W' : World} (h : Below W.heap.size W W') : W.grownBy W' none := ⟨h.os, h.tape, h.output, h.size, fun k hk _ => h.block k hk⟩
set_option maxRecDepth 100000 in
set_option maxHeartbeats 2000000 in
theorem it_in (C : Calls2 sk one) (n : Nat) (hn : 1 ≤ n) (l Bs b5 m : Nat) (hBs : Bs < m) (hne : Bs ≠ b5) (h5 : b5 < m) (hlay : ∀ g ∈ E.layG, g < m ∧ g ≠ b5) (s : ByteArray) (hs : s.size ≤ 300) (J Jx : List (Tok × Bool) → World → Prop)
    (hY : ∀ pre x W, J pre W → pre.length < 301 → YieldAt Fence.wide (n - 1) Tryz.prog l (encX x) W fun e W' =>
      (e = .returned (.bool true) ∧ J (pre ++ [x]) W' ∧ Kp b5 m W W') ∨ (e = .returned (.bool false) ∧ Jx (pre ++ [x]) W'))
    (W : World) (hok : OKW b5 m W) (hm : m ≤ W.heap.size) (hc : E.LayC W) (hbox : W.heap[Bs]? = some (.cells #[.string s] 9 (0, 0))) (hJ : AbidesFrom W.heap.size J) (h0 : J [] W) :
    CallsIn Fence.wide n Tryz.prog 55 #[.func (.yield l) #[] #[], .pointer (some ⟨Bs, 0, none⟩)] W fun e W' => (∃ v, e = .returned v) ∧
      ((∃ xs, Whole sk one s xs ∧ J xs W') ∨ (∃ pre, Part sk one s pre ∧ Jx pre W')) := by
  have hcell : W.cell? ⟨Bs, 0, none⟩ = some (.string s) := by simp [World.cell?, hbox]
  have hl0 : ∀ g ∈ E.layG, g < W.heap.size := fun g hg => Nat.lt_of_lt_of_le (hlay g hg).1 hm
  refine callsIn_of_wp Tryz.func55 rfl trivial ?_ rfl
  simp only [Tryz.ntmps55, List.size_toArray, List.length_cons, List.length_nil, Nat.reduceAdd, Nat.reduceSub, Array.replicate_succ, Array.replicate_zero, List.push_toArray, List.append_toArray, List.nil_append, List.cons_append]
  gi_wp2
  refine ⟨trivial, (callsIn_wide.2 (C.run s 0 W hs (Nat.zero_le _) hc hl0)).mono ?_⟩
  rintro e W1 ⟨rfl, hb1⟩
  gi_wp2
  gi_loopw [3] (fun v wr => ∃ (i : Nat) (pre : List (Tok × Bool)), v = .int .i64 i ∧ i ≤ s.size ∧ Pre sk one s i pre ∧ J pre wr ∧ OKW b5 m wr ∧ W.heap.size ≤ wr.heap.size ∧ E.LayC wr ∧ wr.heap[Bs]? = some (.cells #[.string s] 9 (0, 0)))
    (fun v _ => s.size - (intOf v).toNat)
  case atStart =>
    have h5l : W1.heap[b5]? = W.heap[b5]? := hb1.block b5 (by omega)
    exact ⟨sk s 0, [], rfl, (C.sk1 s 0 (Nat.zero_le _)).2, .nil, hJ [] W W1 none h0 (grownBy_below hb1) (fun r e => by cases e), hok.grow h5l hb1.size, hb1.size, E.LayC.same (fun g hg => hb1.block g (hl0 g hg)) hc, (hb1.block Bs (by omega)).trans hbox⟩
  case round =>
    obtain ⟨i, pre, rfl, hi, hp, hJr, hokr, hsz, hcr, hbr⟩ := hrel
    have hcellr : wr.cell? ⟨Bs, 0, none⟩ = some (.string s) := by simp [World.cell?, hbr]
    have hl1 : ∀ g ∈ E.layG, g < wr.heap.size := fun g hg => Nat.lt_of_lt_of_le (hl0 g hg) hsz
    by_cases hlt : i < s.size
    · gi_wp2
      refine ⟨trivial, (callsIn_wide.2 (C.first (s.extract i s.size) wr (by rw [ByteArray.size_extract]; omega) (by rw [ByteArray.size_extract]; omega) hcr hl1)).mono ?_⟩
      rintro e W2 ⟨⟨⟨a1, a2, ⟨a3, a4, a5, a6, ⟨⟩⟩, a7, ⟨⟩⟩, ok, ht1, ht2, rfl⟩, hb2⟩
      simp only [tokC]
      obtain ⟨W3, hW3⟩ : ∃ W3, W2.alloc (.cells #[.int .i64 a1, .string a2, .int .i64 a3, .bool a4, .int .i64 a5, .string a6, .int .i64 i] 78) = W3 := ⟨_, rfl⟩
      have hb3 : Below wr.heap.size wr W3 := by rw [← hW3]; exact hb2.alloc hb2.size _
      have hs3 : W3.heap.size = W2.heap.size + 1 := by rw [← hW3]; simp
      have hs2 := hb2.size
      have hB3 : W3.heap[W2.heap.size]? = some (.cells #[.int .i64 a1, .string a2, .int .i64 a3, .bool a4, .int .i64 a5, .string a6, .int .i64 i] 78 (0, 0)) := by rw [← hW3]; exact World.alloc_heap_new W2 _
      have h5r : b5 < wr.heap.size := by omega
      have e53 : W3.heap[b5]? = wr.heap[b5]? := hb3.block b5 h5r
      have hJ3 : J pre W3 := hJ pre wr W3 none hJr (grownBy_below hb3) (fun r e => by cases e)
      have hok3 : OKW b5 m W3 := hokr.grow e53 hb3.size
      have hc3 : E.LayC W3 := E.LayC.same (fun g hg => hb3.block g (hl1 g hg)) hcr
      have hbx3 : W3.heap[Bs]? = some (.cells #[.string s] 9 (0, 0)) := (hb3.block Bs (by omega)).trans hbr
      have hplen : pre.length < 301 := by have := (hp.len C).2; omega
      obtain ⟨fn, tmps, assign, body, hy, hR⟩ := hY pre ((a1, a2, (a3, a4, a5, a6, ()), (i : Int), ()), ok) W3 hJ3 hplen
      dsimp only [encX, tokC] at hy
      rw [← hW3] at hy
      have HW := Lib.hid hW3
      clear hW3
      gi_wp2
      rw [HW.out]
      refine hR.mono ?_
      rintro e W4 (⟨rfl, hJ4, hk4⟩ | ⟨rfl, hx4⟩)
      · have hs4 := hk4.size
        have hr3 : rowOf b5 W3 ≠ some W2.heap.size := fun e => by
          rw [rowOf_same e53] at e
          have := (hokr _ e).2
          omega
        have hB4 := hk4.own _ _ hB3 rfl (by omega) hr3
        have hbx4 : W4.heap[Bs]? = some (.cells #[.string s] 9 (0, 0)) := (hk4.low Bs hBs hne).trans hbx3
        have hc4 : E.LayC W4 := E.LayC.same (fun g hg => hk4.low g (hlay g hg).1 (hlay g hg).2) hc3
        have hl4 : ∀ g ∈ E.layG, g < W4.heap.size := fun g hg => Nat.lt_of_lt_of_le (hl1 g hg) (by omega)
        have hok4 := hk4.ok hok3
        have hcell4 : W4.cell? ⟨Bs, 0, none⟩ = some (.string s) := by simp [World.cell?, hbx4]
        have hcA : W4.cell? ⟨W2.heap.size, 1, none⟩ = some (.string a2) := by simp [World.cell?, hB4]
        cases ok with
        | false =>
          gi_wp2
          refine bodyPost_ret (results_none rfl _ _ _) rfl ?_
          exact ⟨⟨_, rfl⟩, .inl ⟨pre ++ [((a1, a2, (a3, a4, a5, a6, ()), (i : Int), ()), false)], .inr ⟨i, pre, (a1, a2, (a3, a4, a5, a6, ()), a7, ()), hp, hlt, ht2 (by simp), rfl⟩, hJ4⟩⟩
        | true =>
          have ho := ht1 rfl
          have hsz1 := C.one1 _ _ (by rw [ByteArray.size_extract]; omega) ho
          rw [ByteArray.size_extract] at hsz1
          gi_wp2
          rw [show (i : Int) + (a2.size : Int) = ((i + a2.size : Nat) : Int) from by omega]
          refine ⟨trivial, (callsIn_wide.2 (C.run s (i + a2.size) W4 hs (by omega) hc4 hl4)).mono ?_⟩
          rintro e W5 ⟨rfl, hb5⟩
          gi_wp2
          go_roundw
          case rel => exact ⟨sk s (i + a2.size), pre ++ [((a1, a2, (a3, a4, a5, a6, ()), (i : Int), ()), true)], rfl, (C.sk1 s _ (by omega)).2, .cons hp hlt ho, hJ _ W4 W5 none hJ4 (grownBy_below hb5) (fun r e => by cases e), hok4.grow (hb5.block b5 (by omega)) hb5.size, by have := hb5.size; omega, E.LayC.same (fun g hg => hb5.block g (hl4 g hg)) hc4, (hb5.block Bs (by omega)).trans hbx4⟩
          case measure =>
            have := C.sk1 s (i + a2.size) (by omega)
            simp [intOf]
            omega
      · gi_wp2
        refine bodyPost_ret (results_none rfl _ _ _) rfl ?_
        exact ⟨⟨_, rfl⟩, .inr ⟨pre ++ [((a1, a2, (a3, a4, a5, a6, ()), (i : Int), ()), ok)], ⟨i, pre, (a1, a2, (a3, a4, a5, a6, ()), a7, ()), ok, hp, hlt, ht1, ht2, rfl⟩, hx4⟩⟩
    · gi_wp2
      go_end0
      have : i = s.size := by omega
      subst this
      exact ⟨⟨_, rfl⟩, .inl ⟨pre, .inl hp, hJr⟩⟩
end
end Go.Proofs.YtnnbinmomendnaaGreatDoor
