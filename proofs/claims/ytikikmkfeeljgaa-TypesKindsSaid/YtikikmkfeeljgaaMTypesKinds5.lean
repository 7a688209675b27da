/- A text of the proof that the law TypesKinds returns true: nothing is assumed in it. -/
import Derived.Test.YtikikmkfeeljgaaMTypesKinds4
import Derived.Test.YtikikmkfeeljgaaProg
import Derived.KernelRfl
import Derived.Test.YtikikmkfeeljgaaMTypesKinds3
import Derived.ChangeArms
import Derived.ChangeSame
import Derived.WideLaws
import Derived.Deep.Slices
import Derived.Laws.Bits64
set_option linter.unusedVariables false
set_option linter.unusedSimpArgs false
set_option linter.unusedVariables false
set_option maxRecDepth 100000
namespace Go.Proofs.Ytikikmkfeeljgaa.E
open Go.Proofs
noncomputable section
variable {R : Type}
/-! (*verderer/types.env).body: function 65 -/
def types_env_body_ds : Nat → Desc
  | 6 => ⟨[(0, .pt 0 0), (1, .d (.sl ty41)), (6, .d (.int .i64)), (7, .d (.int .i64)), (9, .d .bool), (13, .ow 5), (14, .d (.int .i64)), (15, .d (.int .i64)), (19, .d (.sl ty41)), (20, .d (.int .i64)), (21, .d (.int .i64))], [.box true 95 [.pt 1 0, .d (.sl ty82), .mp 3, .ow 4], .box true 80 [.ow 2], .arr 82 ty82, .mpp 63 .str ty63, .arr 9 .str, .arr 4 .bool]⟩
  | 3 => ⟨[(0, .pt 0 0), (1, .d (.sl ty41)), (6, .d (.int .i64)), (7, .d (.int .i64)), (13, .ow 5), (14, .d (.int .i64)), (15, .d (.int .i64))], [.box true 95 [.pt 1 0, .d (.sl ty82), .mp 3, .ow 4], .box true 80 [.ow 2], .arr 82 ty82, .mpp 63 .str ty63, .arr 9 .str, .arr 4 .bool]⟩
  | _ => ⟨[], []⟩
def types_env_body_dx : Nat → List (X × Desc)
  | 6 => [(.e 0, ⟨[(6, .d (.int .i64)), (7, .d (.int .i64))], [.box true 95 [.pt 1 0, .d (.sl ty82), .mp 3, .ow 4], .box true 80 [.ow 2], .arr 82 ty82, .mpp 63 .str ty63, .arr 9 .str]⟩), (.e 2, ⟨[(0, .pt 0 0), (1, .d (.sl ty41)), (6, .d (.int .i64)), (7, .d (.int .i64)), (13, .ow 5), (14, .d (.int .i64)), (15, .d (.int .i64))], [.box true 95 [.pt 1 0, .d (.sl ty82), .mp 3, .ow 4], .box true 80 [.ow 2], .arr 82 ty82, .mpp 63 .str ty63, .arr 9 .str, .arr 4 .bool]⟩)]
  | 3 => [(.e 0, ⟨[(6, .d (.int .i64)), (7, .d (.int .i64))], [.box true 95 [.pt 1 0, .d (.sl ty82), .mp 3, .ow 4], .box true 80 [.ow 2], .arr 82 ty82, .mpp 63 .str ty63, .arr 9 .str]⟩)]
  | _ => []
def types_env_body_s6 (n : Nat) (x0 : (List ty41.D)) (x1 : Int) (x2 : Int) (x3 : Bool) (x4 : Int) (x5 : Int) (x6 : (List ty41.D)) (x7 : Int) (x8 : Int) (x9 : (List ty82.D)) (x10 : (List ty82.D)) (x11 : (List (ByteArray × ty63.D))) (x12 : (List ByteArray)) (x13 : (List Bool)) (k1 : (List ty41.D) → Int → Int → Bool → Int → Int → (List ty41.D) → Int → Int → (List ty82.D) → (List ty82.D) → (List (ByteArray × ty63.D)) → (List ByteArray) → (List Bool) → Option R) (qe0 : Int → Int → (List ty82.D) → (List ty82.D) → (List (ByteArray × ty63.D)) → (List ByteArray) → Option R) (qe2 : (List ty41.D) → Int → Int → Int → Int → (List ty82.D) → (List ty82.D) → (List (ByteArray × ty63.D)) → (List ByteArray) → (List Bool) → Option R) : Option R :=
  if (decide (x8 < x7)) = true then (if (0 : Int) ≤ x8 ∧ x8 < (x6.length : Int) then (if ((x6.getD (Int.toNat x8) (Ty.z ty41)).2.2.2.1 == 0) = true then (if (!((!(x6.getD (Int.toNat x8) (Ty.z ty41)).1) == x3)) = true then (k1 x0 x1 x2 x3 x4 x5 x6 x7 (IntKind.i64.wrap (x8 + 1)) x9 x10 x11 x12 x13) else (if ((x6.getD (Int.toNat x8) (Ty.z ty41)).2.2.2.1 == 0) = true then (types_env_atom_F n (x6.getD (Int.toNat x8) (Ty.z ty41)) x9 x10 x11 x12 (fun y1 y2 y3 y4 y5 => if (y1 != 0) = true then (qe0 x8 y1 y2 y3 y4 y5) else (k1 x0 x1 y1 x3 x4 x5 x6 x7 (IntKind.i64.wrap (x8 + 1)) y2 y3 y4 y5 x13))) else (types_env_comparison_F n (x6.getD (Int.toNat x8) (Ty.z ty41)) x9 x10 x11 x12 (fun y6 y7 y8 y9 y10 => if (y6 != 0) = true then (qe0 x8 y6 y7 y8 y9 y10) else (k1 x0 x1 y6 x3 x4 x5 x6 x7 (IntKind.i64.wrap (x8 + 1)) y7 y8 y9 y10 x13))))) else (if (!(false == x3)) = true then (k1 x0 x1 x2 x3 x4 x5 x6 x7 (IntKind.i64.wrap (x8 + 1)) x9 x10 x11 x12 x13) else (if ((x6.getD (Int.toNat x8) (Ty.z ty41)).2.2.2.1 == 0) = true then (types_env_atom_F n (x6.getD (Int.toNat x8) (Ty.z ty41)) x9 x10 x11 x12 (fun y11 y12 y13 y14 y15 => if (y11 != 0) = true then (qe0 x8 y11 y12 y13 y14 y15) else (k1 x0 x1 y11 x3 x4 x5 x6 x7 (IntKind.i64.wrap (x8 + 1)) y12 y13 y14 y15 x13))) else (types_env_comparison_F n (x6.getD (Int.toNat x8) (Ty.z ty41)) x9 x10 x11 x12 (fun y16 y17 y18 y19 y20 => if (y16 != 0) = true then (qe0 x8 y16 y17 y18 y19 y20) else (k1 x0 x1 y16 x3 x4 x5 x6 x7 (IntKind.i64.wrap (x8 + 1)) y17 y18 y19 y20 x13)))))) else none) else (qe2 x0 x1 x2 x4 x5 x9 x10 x11 x12 x13)
def types_env_body_l6 (n : Nat) (a : (types_env_body_ds 6).D) (k1 : (types_env_body_ds 6).D → Option R) (k2 : exK R (types_env_body_dx 6)) : Option R :=
  types_env_body_s6 n a.1 a.2.1 a.2.2.1 a.2.2.2.1 a.2.2.2.2.1 a.2.2.2.2.2.1 a.2.2.2.2.2.2.1 a.2.2.2.2.2.2.2.1 a.2.2.2.2.2.2.2.2.1 a.2.2.2.2.2.2.2.2.2.1 a.2.2.2.2.2.2.2.2.2.2.1 a.2.2.2.2.2.2.2.2.2.2.2.1 a.2.2.2.2.2.2.2.2.2.2.2.2.1 a.2.2.2.2.2.2.2.2.2.2.2.2.2.1 (fun x0 x1 x2 x3 x4 x5 x6 x7 x8 x9 x10 x11 x12 x13 => k1 (x0, x1, x2, x3, x4, x5, x6, x7, x8, x9, x10, x11, x12, x13, ())) (fun x0 x1 x2 x3 x4 x5 => k2.1 (x0, x1, x2, x3, x4, x5, ())) (fun x0 x1 x2 x3 x4 x5 x6 x7 x8 x9 => k2.2.1 (x0, x1, x2, x3, x4, x5, x6, x7, x8, x9, ()))
def types_env_body_s3 (n : Nat) (x0 : (List ty41.D)) (x1 : Int) (x2 : Int) (x3 : Int) (x4 : Int) (x5 : (List ty82.D)) (x6 : (List ty82.D)) (x7 : (List (ByteArray × ty63.D))) (x8 : (List ByteArray)) (x9 : (List Bool)) (k1 : (List ty41.D) → Int → Int → Int → Int → (List ty82.D) → (List ty82.D) → (List (ByteArray × ty63.D)) → (List ByteArray) → (List Bool) → Option R) (qe0 : Int → Int → (List ty82.D) → (List ty82.D) → (List (ByteArray × ty63.D)) → (List ByteArray) → Option R) : Option R :=
  if (decide (x4 < x3)) = true then (if (0 : Int) ≤ x4 ∧ x4 < (x9.length : Int) then (if (Int.toNat x4) < x9.length then (runC (types_env_body_l6 n) n (x0, x1, x2, (x9.getD (Int.toNat x4) (Ty.z .bool)), x3, x4, x0, (x0.length : Int), 0, x5, x6, x7, x8, x9, ()) (fun b26 => qe0 b26.1 b26.2.1 b26.2.2.1 b26.2.2.2.1 b26.2.2.2.2.1 b26.2.2.2.2.2.1, fun b36 => k1 b36.1 b36.2.1 b36.2.2.1 b36.2.2.2.1 (IntKind.i64.wrap (b36.2.2.2.2.1 + 1)) b36.2.2.2.2.2.1 b36.2.2.2.2.2.2.1 b36.2.2.2.2.2.2.2.1 b36.2.2.2.2.2.2.2.2.1 b36.2.2.2.2.2.2.2.2.2.1, ())) else none) else none) else (qe0 x1 x2 x5 x6 x7 x8)
def types_env_body_l3 (n : Nat) (a : (types_env_body_ds 3).D) (k1 : (types_env_body_ds 3).D → Option R) (k2 : exK R (types_env_body_dx 3)) : Option R :=
  types_env_body_s3 n a.1 a.2.1 a.2.2.1 a.2.2.2.1 a.2.2.2.2.1 a.2.2.2.2.2.1 a.2.2.2.2.2.2.1 a.2.2.2.2.2.2.2.1 a.2.2.2.2.2.2.2.2.1 a.2.2.2.2.2.2.2.2.2.1 (fun x0 x1 x2 x3 x4 x5 x6 x7 x8 x9 => k1 (x0, x1, x2, x3, x4, x5, x6, x7, x8, x9, ())) (fun x0 x1 x2 x3 x4 x5 => k2.1 (x0, x1, x2, x3, x4, x5, ()))
@[reducible] def types_env_body_d : Desc := ⟨[(0, .pt 0 0), (1, .d (.sl ty41))], [.box true 95 [.pt 1 0, .d (.sl ty82), .mp 3, .ow 4], .box true 80 [.ow 2], .arr 82 ty82, .mpp 63 .str ty63, .arr 9 .str]⟩
def types_env_body_Fi (n : Nat) (a0 : (List ty41.D)) (a1 : (List ty82.D)) (a2 : (List ty82.D)) (a3 : (List (ByteArray × ty63.D))) (a4 : (List ByteArray)) (k0 : Int → Int → (List ty82.D) → (List ty82.D) → (List (ByteArray × ty63.D)) → (List ByteArray) → Option R) : Option R :=
  runC (types_env_body_l3 n) n (a0, 0, 0, ([true, false].length : Int), 0, a1, a2, a3, a4, [true, false], ()) (fun b42 => k0 b42.1 b42.2.1 b42.2.2.1 b42.2.2.2.1 b42.2.2.2.2.1 b42.2.2.2.2.2.1, ())
def types_env_body_F {R : Type} := lazyN (@types_env_body_Fi R)
theorem types_env_body_e : @types_env_body_F R = @types_env_body_Fi R := lazyN_eq _
def types_env_body_g (n : Nat) : Gx R := typed 2 types_env_body_d fun x k => types_env_body_F n x.1 x.2.1 x.2.2.1 x.2.2.2.1 x.2.2.2.2.1 (fun y0 y1 y2 y3 y4 y5 => k (.tu [(.c (.i .i64 y0)), (.c (.i .i64 y1))]) [(.box true 95 [(.pt 1 0), (.fz ty82 y2), (.mp 3), (.ow 4)]), (.box true 80 [(.ow 2)]), (.arr 82 ty82 y3), (.mp (some 63) .str ty63 y4), (.arr 9 .str y5)])
def types_env_body_cs (R : Type) (n : Nat) : List (Nat × Gx R) := [(79, types_env_atom_g n), (80, types_env_comparison_g n)]
def types_env_body_lp (n : Nat) : (i : Nat) → (types_env_body_ds i).D → exK R (types_env_body_dx i) → Option R
  | 6, a, k => runC (types_env_body_l6 n) n a k
  | 3, a, k => runC (types_env_body_l3 n) n a k
  | _, _, _ => none
def types_env_body_cx (R : Type) (n : Nat) : Cx R := ⟨Try.prog, Gof (types_env_body_cs R n), types_env_body_ds, types_env_body_dx, types_env_body_lp n, drawP Try.prog (Gof (types_env_body_cs R n)), false, noJn, noFz⟩
theorem types_env_body_ok (n : Nat) : Good Try.prog 65 (types_env_body_g (R := R) n) := by
  unfold types_env_body_g
  rw [types_env_body_e]
  exact Good.fn (cx := types_env_body_cx R n) (by kernel_rfl) (AllGood.cons (types_env_atom_ok n) (AllGood.cons (types_env_comparison_ok n) (AllGood.nil))) rfl Try.func65 (by kernel_rfl) rfl (by
    have e : fnLoops noJn Try.f65 = [((fnLoops noJn Try.f65)[0]?).getD (false, .skip), ((fnLoops noJn Try.f65)[1]?).getD (false, .skip)] := by kernel_rfl
    show LoopRuns _ _ (fnLoops noJn _)
    rw [e]
    exact ⟨LoopRun.loop (by kernel_rfl) (i := 3) (m := n) (step := types_env_body_l3 n) (by kernel_rfl) (fun a k1 k2 => by kernel_rfl) (fun _ _ => rfl), ⟨LoopRun.loop (by kernel_rfl) (i := 6) (m := n) (step := types_env_body_l6 n) (by kernel_rfl) (fun a k1 k2 => by kernel_rfl) (fun _ _ => rfl), trivial⟩⟩) 2 types_env_body_d (by kernel_rfl) (fun x k => by kernel_rfl)
end
end Go.Proofs.Ytikikmkfeeljgaa.E
set_option linter.unusedVariables false
set_option maxRecDepth 100000
namespace Go.Proofs.Ytikikmkfeeljgaa.E
open Go.Proofs
noncomputable section
variable {R : Type}
/-! verderer/types.read: function 48 -/
@[reducible] def types_read_v1_d : Desc := ⟨[(0, .d ty25), (1, .pt 0 0), (2, .d (.sl ty82))], [.box true 80 [.ow 1], .arr 82 ty82]⟩
def types_read_v1_Fi (n : Nat) (a0 : ty25.D) (a1 : (List ty82.D)) (a2 : (List ty82.D)) (k0 : Int → Int → (List ty82.D) → (List ty82.D) → (List (ByteArray × ty63.D)) → (List ByteArray) → Option R) : Option R :=
  types_env_body_F n a0.2.2.2.2.2.2.1 a1 a2 [] ([] : List ByteArray) (fun y1 y2 y3 y4 y5 y6 => k0 y1 y2 y4 y3 y5 y6)
def types_read_v1_F {R : Type} := lazyN (@types_read_v1_Fi R)
theorem types_read_v1_e : @types_read_v1_F R = @types_read_v1_Fi R := lazyN_eq _
def types_read_v1_g (n : Nat) : Gx R := typed 3 types_read_v1_d fun x k => types_read_v1_F n x.1 x.2.1 x.2.2.1 (fun y0 y1 y2 y3 y4 y5 => k (.tu [(.c (.pt 2 0)), (.c (.i .i64 y0)), (.c (.i .i64 y1))]) [(.box true 80 [(.ow 1)]), (.arr 82 ty82 y2), (.box false 95 [(.pt 0 0), (.fz ty82 y3), (.mp 3), (.ow 4)]), (.mp (some 63) .str ty63 y4), (.arr 9 .str y5)])
def types_read_v1_cs (R : Type) (n : Nat) : List (Nat × Gx R) := [(65, types_env_body_g n)]
def types_read_v1_cx (R : Type) (n : Nat) : Cx R := ⟨Try.prog, Gof (types_read_v1_cs R n), noDs, noDx, noLp, drawP Try.prog (Gof (types_read_v1_cs R n)), false, noJn, noFz⟩
theorem types_read_v1_ok (n : Nat) : Good Try.prog 48 (types_read_v1_g (R := R) n) := by
  unfold types_read_v1_g
  rw [types_read_v1_e]
  exact Good.fn (cx := types_read_v1_cx R n) (by kernel_rfl) (AllGood.cons (types_env_body_ok n) (AllGood.nil)) rfl Try.func48 (by kernel_rfl) rfl trivial 3 types_read_v1_d (by kernel_rfl) (fun x k => by kernel_rfl)
end
end Go.Proofs.Ytikikmkfeeljgaa.E
set_option linter.unusedVariables false
set_option maxRecDepth 100000
namespace Go.Proofs.Ytikikmkfeeljgaa.E
open Go.Proofs
noncomputable section
variable {R : Type}
/-! verderer/types.Head: function 21 -/
def types_Head_v1_ds : Nat → Desc
  | 6 => ⟨[(3, .pt 2 0), (9, .pt 4 0), (12, .ow 7), (33, .d (.sl .str)), (34, .d (.int .i64)), (35, .d (.int .i64))], [.box true 80 [.ow 1], .arr 82 ty82, .box false 25 [.d (.int .i64), .d .str, .d (.sl .str), .d (.int .i64), .d .str, .d (.int .i64), .d (.sl ty41)], .no, .box false 95 [.pt 0 0, .d (.sl ty82), .mp 5, .ow 6], .mpp 63 .str ty63, .arr 9 .str, .arr 63 ty63]⟩
  | 1000021 => ⟨[(3, .pt 2 0), (12, .ow 7), (17, .pt 8 0)], [.box true 80 [.ow 1], .arr 82 ty82, .box false 25 [.d (.int .i64), .d .str, .d (.sl .str), .d (.int .i64), .d .str, .d (.int .i64), .d (.sl ty41)], .no, .no, .no, .no, .arr 63 ty63, .box false 63 [.d .str, .d (.int .i64), .d .bool]]⟩
  | _ => ⟨[], []⟩
def types_Head_v1_dx : Nat → List (X × Desc)
  | 6 => [(.r, ⟨[(6, .ow 8), (7, .d (.int .i64)), (8, .d (.int .i64))], [.box true 80 [.ow 1], .arr 82 ty82, .no, .no, .no, .no, .no, .no, .arr 63 ty63]⟩), (.e 0, ⟨[(3, .pt 2 0), (9, .pt 4 0), (12, .ow 7)], [.box true 80 [.ow 1], .arr 82 ty82, .box false 25 [.d (.int .i64), .d .str, .d (.sl .str), .d (.int .i64), .d .str, .d (.int .i64), .d (.sl ty41)], .no, .box false 95 [.pt 0 0, .d (.sl ty82), .mp 5, .ow 6], .mpp 63 .str ty63, .arr 9 .str, .arr 63 ty63]⟩)]
  | 1000021 => [(.r, ⟨[(6, .ow 9), (7, .d (.int .i64)), (8, .d (.int .i64))], [.box true 80 [.ow 1], .arr 82 ty82, .no, .no, .no, .no, .no, .no, .no, .arr 63 ty63]⟩), (.r, ⟨[(6, .ow 7), (7, .d (.int .i64)), (8, .d (.int .i64))], [.box true 80 [.ow 1], .arr 82 ty82, .no, .no, .no, .no, .no, .arr 63 ty63]⟩)]
  | _ => []
def types_Head_v1_s6 (n : Nat) (x0 : (List ByteArray)) (x1 : Int) (x2 : Int) (x3 : (List ty82.D)) (x4 : Int) (x5 : ByteArray) (x6 : (List ByteArray)) (x7 : Int) (x8 : ByteArray) (x9 : Int) (x10 : (List ty41.D)) (x11 : (List ty82.D)) (x12 : (List (ByteArray × ty63.D))) (x13 : (List ByteArray)) (x14 : (List ty63.D)) (k1 : (List ByteArray) → Int → Int → (List ty82.D) → Int → ByteArray → (List ByteArray) → Int → ByteArray → Int → (List ty41.D) → (List ty82.D) → (List (ByteArray × ty63.D)) → (List ByteArray) → (List ty63.D) → Option R) (qr : Int → Int → (List ty82.D) → (List ty63.D) → Option R) (qe0 : (List ty82.D) → Int → ByteArray → (List ByteArray) → Int → ByteArray → Int → (List ty41.D) → (List ty82.D) → (List (ByteArray × ty63.D)) → (List ByteArray) → (List ty63.D) → Option R) : Option R :=
  if (decide (x2 < x1)) = true then (if (0 : Int) ≤ x2 ∧ x2 < (x0.length : Int) then (if (mhas (kt := .str) (vt := ty63) x12 (x0.getD (Int.toNat x2) (Ty.z .str))) = true then (if (midx (kt := .str) (vt := ty63) x12 (x0.getD (Int.toNat x2) (Ty.z .str))) < x12.length then (if (List.length x14 + List.length [((x12.getD (midx (kt := .str) (vt := ty63) x12 (x0.getD (Int.toNat x2) (Ty.z .str))) (Ty.z .str, Ty.z ty63)).2)]) * 32 ≤ 140737488355328 then (k1 x0 x1 (IntKind.i64.wrap (x2 + 1)) x3 x4 x5 x6 x7 x8 x9 x10 x11 x12 x13 (x14 ++ [((x12.getD (midx (kt := .str) (vt := ty63) x12 (x0.getD (Int.toNat x2) (Ty.z .str))) (Ty.z .str, Ty.z ty63)).2)])) else none) else none) else (qr (-1) 12 x3 ([] : List ty63.D))) else none) else (qe0 x3 x4 x5 x6 x7 x8 x9 x10 x11 x12 x13 x14)
def types_Head_v1_l6 (n : Nat) (a : (types_Head_v1_ds 6).D) (k1 : (types_Head_v1_ds 6).D → Option R) (k2 : exK R (types_Head_v1_dx 6)) : Option R :=
  types_Head_v1_s6 n a.1 a.2.1 a.2.2.1 a.2.2.2.1 a.2.2.2.2.1 a.2.2.2.2.2.1 a.2.2.2.2.2.2.1 a.2.2.2.2.2.2.2.1 a.2.2.2.2.2.2.2.2.1 a.2.2.2.2.2.2.2.2.2.1 a.2.2.2.2.2.2.2.2.2.2.1 a.2.2.2.2.2.2.2.2.2.2.2.1 a.2.2.2.2.2.2.2.2.2.2.2.2.1 a.2.2.2.2.2.2.2.2.2.2.2.2.2.1 a.2.2.2.2.2.2.2.2.2.2.2.2.2.2.1 (fun x0 x1 x2 x3 x4 x5 x6 x7 x8 x9 x10 x11 x12 x13 x14 => k1 (x0, x1, x2, x3, x4, x5, x6, x7, x8, x9, x10, x11, x12, x13, x14, ())) (fun x0 x1 x2 x3 => k2.1 (x0, x1, x2, x3, ())) (fun x0 x1 x2 x3 x4 x5 x6 x7 x8 x9 x10 x11 => k2.2.1 (x0, x1, x2, x3, x4, x5, x6, x7, x8, x9, x10, x11, ()))
def types_Head_v1_s1000021 (n : Nat) (x0 : (List ty82.D)) (x1 : Int) (x2 : ByteArray) (x3 : (List ByteArray)) (x4 : Int) (x5 : ByteArray) (x6 : Int) (x7 : (List ty41.D)) (x8 : (List ty63.D)) (x9 : ByteArray) (x10 : Int) (x11 : Bool) (qr : Int → Int → (List ty82.D) → (List ty63.D) → Option R) (qr_1 : Int → Int → (List ty82.D) → (List ty63.D) → Option R) : Option R :=
  if (x1 == 3) = true then (if (decide ((x8.length : Int) > 0)) = true then (if (0 : Int) ≤ 0 ∧ 0 < (x8.length : Int) then (if (Int.toNat 0) < x8.length then (if ((x8.getD (Int.toNat 0) (Ty.z ty63)).2.1 != 3) = true then (qr (-1) 11 x0 ([] : List ty63.D)) else (if (0 : Int) ≤ 0 ∧ 0 < (x8.length : Int) then (if (Int.toNat 0) < x8.length then (if (x8.getD (Int.toNat 0) (Ty.z ty63)).2.2.1 = true then (qr (-1) 11 x0 ([] : List ty63.D)) else (if (decide (x4 ≥ 1)) = true then (if (List.length x8 + List.length [(x9, x10, x11, ())]) * 32 ≤ 140737488355328 then (qr_1 0 0 x0 (x8 ++ [(x9, x10, x11, ())])) else none) else (qr_1 0 0 x0 x8))) else none) else none)) else none) else none) else (if (decide (x4 ≥ 1)) = true then (if (List.length x8 + List.length [(x9, x10, x11, ())]) * 32 ≤ 140737488355328 then (qr_1 0 0 x0 (x8 ++ [(x9, x10, x11, ())])) else none) else (qr_1 0 0 x0 x8))) else (if (decide (x4 ≥ 1)) = true then (if (List.length x8 + List.length [(x9, x10, x11, ())]) * 32 ≤ 140737488355328 then (qr_1 0 0 x0 (x8 ++ [(x9, x10, x11, ())])) else none) else (qr_1 0 0 x0 x8))
def types_Head_v1_li1000021 (n : Nat) (a : (types_Head_v1_ds 1000021).D) (k2 : exK R (types_Head_v1_dx 1000021)) : Option R :=
  types_Head_v1_s1000021 n a.1 a.2.1 a.2.2.1 a.2.2.2.1 a.2.2.2.2.1 a.2.2.2.2.2.1 a.2.2.2.2.2.2.1 a.2.2.2.2.2.2.2.1 a.2.2.2.2.2.2.2.2.1 a.2.2.2.2.2.2.2.2.2.1 a.2.2.2.2.2.2.2.2.2.2.1 a.2.2.2.2.2.2.2.2.2.2.2.1 (fun x0 x1 x2 x3 => k2.1 (x0, x1, x2, x3, ())) (fun x0 x1 x2 x3 => k2.2.1 (x0, x1, x2, x3, ()))
def types_Head_v1_l1000021 {R : Type} := lazyN (@types_Head_v1_li1000021 R)
theorem types_Head_v1_e1000021 : @types_Head_v1_l1000021 R = @types_Head_v1_li1000021 R := lazyN_eq _
@[reducible] def types_Head_v1_d : Desc := ⟨[(0, .d ty25), (1, .pt 0 0), (2, .d (.sl ty82))], [.box true 80 [.ow 1], .arr 82 ty82]⟩
def types_Head_v1_Fi (n : Nat) (a0 : ty25.D) (a1 : (List ty82.D)) (a2 : (List ty82.D)) (k0 : Int → Int → (List ty82.D) → (List ty63.D) → Option R) : Option R :=
  types_read_v1_F n a0 a1 a2 (fun y1 y2 y3 y4 y5 y6 => if (y2 != 0) = true then (k0 y1 y2 y3 ([] : List ty63.D)) else (runC (types_Head_v1_l6 n) n (a0.2.2.1, (a0.2.2.1.length : Int), 0, y3, a0.1, a0.2.1, a0.2.2.1, a0.2.2.2.1, a0.2.2.2.2.1, a0.2.2.2.2.2.1, a0.2.2.2.2.2.2.1, y4, y5, y6, ([] : List ty63.D), ()) (fun b10 => k0 b10.1 b10.2.1 b10.2.2.1 b10.2.2.2.1, fun b22 => if (decide (b22.2.2.2.2.1 ≥ 2)) = true then (if (mhas (kt := .str) (vt := ty63) b22.2.2.2.2.2.2.2.2.2.1 b22.2.2.2.2.2.1) = true then (if (midx (kt := .str) (vt := ty63) b22.2.2.2.2.2.2.2.2.2.1 b22.2.2.2.2.2.1) < b22.2.2.2.2.2.2.2.2.2.1.length then (if (((b22.2.2.2.2.2.2.2.2.2.1.getD (midx (kt := .str) (vt := ty63) b22.2.2.2.2.2.2.2.2.2.1 b22.2.2.2.2.2.1) (Ty.z .str, Ty.z ty63)).2).2.1 != 2) = true then (k0 (-1) 11 b22.1 ([] : List ty63.D)) else (if (midx (kt := .str) (vt := ty63) b22.2.2.2.2.2.2.2.2.2.1 b22.2.2.2.2.2.1) < b22.2.2.2.2.2.2.2.2.2.1.length then (if ((b22.2.2.2.2.2.2.2.2.2.1.getD (midx (kt := .str) (vt := ty63) b22.2.2.2.2.2.2.2.2.2.1 b22.2.2.2.2.2.1) (Ty.z .str, Ty.z ty63)).2).2.2.1 = true then (k0 (-1) 11 b22.1 ([] : List ty63.D)) else (types_Head_v1_l1000021 n (b22.1, b22.2.1, b22.2.2.1, b22.2.2.2.1, b22.2.2.2.2.1, b22.2.2.2.2.2.1, b22.2.2.2.2.2.2.1, b22.2.2.2.2.2.2.2.1, b22.2.2.2.2.2.2.2.2.2.2.2.1, b22.2.2.2.2.2.1, 2, false, ()) (fun b26 => k0 b26.1 b26.2.1 b26.2.2.1 b26.2.2.2.1, fun b30 => k0 b30.1 b30.2.1 b30.2.2.1 b30.2.2.2.1, ()))) else none)) else none) else (k0 (-1) 12 b22.1 ([] : List ty63.D))) else (types_Head_v1_l1000021 n (b22.1, b22.2.1, b22.2.2.1, b22.2.2.2.1, b22.2.2.2.2.1, b22.2.2.2.2.2.1, b22.2.2.2.2.2.2.1, b22.2.2.2.2.2.2.2.1, b22.2.2.2.2.2.2.2.2.2.2.2.1, (⟨#[99, 111, 117, 110, 116]⟩ : ByteArray), 2, false, ()) (fun b34 => k0 b34.1 b34.2.1 b34.2.2.1 b34.2.2.2.1, fun b38 => k0 b38.1 b38.2.1 b38.2.2.1 b38.2.2.2.1, ())), ())))
def types_Head_v1_F {R : Type} := lazyN (@types_Head_v1_Fi R)
theorem types_Head_v1_e : @types_Head_v1_F R = @types_Head_v1_Fi R := lazyN_eq _
def types_Head_v1_g (n : Nat) : Gx R := typed 3 types_Head_v1_d fun x k => types_Head_v1_F n x.1 x.2.1 x.2.2.1 (fun y0 y1 y2 y3 => k (.tu [(.c (.ow 2)), (.c (.i .i64 y0)), (.c (.i .i64 y1))]) [(.box true 80 [(.ow 1)]), (.arr 82 ty82 y2), (.arr 63 ty63 y3)])
def types_Head_v1_cs (R : Type) (n : Nat) : List (Nat × Gx R) := [(48, types_read_v1_g n)]
def types_Head_v1_lp (n : Nat) : (i : Nat) → (types_Head_v1_ds i).D → exK R (types_Head_v1_dx i) → Option R
  | 6, a, k => runC (types_Head_v1_l6 n) n a k
  | 1000021, a, k => types_Head_v1_l1000021 n a k
  | _, _, _ => none
def types_Head_v1_cx (R : Type) (n : Nat) : Cx R := ⟨Try.prog, Gof (types_Head_v1_cs R n), types_Head_v1_ds, types_Head_v1_dx, types_Head_v1_lp n, drawP Try.prog (Gof (types_Head_v1_cs R n)), false, (memN [21]), noFz⟩
theorem types_Head_v1_ok (n : Nat) : Good Try.prog 21 (types_Head_v1_g (R := R) n) := by
  unfold types_Head_v1_g
  rw [types_Head_v1_e]
  exact Good.fn (cx := types_Head_v1_cx R n) (by kernel_rfl) (AllGood.cons (types_read_v1_ok n) (AllGood.nil)) rfl Try.func21 (by kernel_rfl) rfl (by
    have e : fnLoops (memN [21]) Try.f21 = [((fnLoops (memN [21]) Try.f21)[0]?).getD (false, .skip), ((fnLoops (memN [21]) Try.f21)[1]?).getD (false, .skip)] := by kernel_rfl
    show LoopRuns _ _ (fnLoops (memN [21]) _)
    rw [e]
    exact ⟨LoopRun.loop (by kernel_rfl) (i := 6) (m := n) (step := types_Head_v1_l6 n) (by kernel_rfl) (fun a k1 k2 => by kernel_rfl) (fun _ _ => rfl), ⟨LoopRun.joinS (by kernel_rfl) (i := 21) (L := types_Head_v1_l1000021 n) (Li := types_Head_v1_li1000021 n) (by rw [types_Head_v1_e1000021]) (by kernel_rfl) (fun a k => by kernel_rfl) (fun a k => by kernel_rfl), trivial⟩⟩) 3 types_Head_v1_d (by kernel_rfl) (fun x k => by kernel_rfl)
end
end Go.Proofs.Ytikikmkfeeljgaa.E
set_option linter.unusedVariables false
set_option maxRecDepth 100000
namespace Go.Proofs.Ytikikmkfeeljgaa.E
open Go.Proofs
noncomputable section
variable {R : Type}
/-! verderer/types.Vars: function 26 -/
def types_Vars_v1_ds : Nat → Desc
  | 6 => ⟨[(9, .pt 4 0), (12, .ow 7), (30, .ow 6), (31, .d (.int .i64)), (32, .d (.int .i64))], [.box true 80 [.ow 1], .arr 82 ty82, .no, .no, .box false 95 [.pt 0 0, .d (.sl ty82), .mp 5, .ow 6], .mpp 63 .str ty63, .arr 9 .str, .arr 63 ty63]⟩
  | _ => ⟨[], []⟩
def types_Vars_v1_dx : Nat → List (X × Desc)
  | 6 => [(.e 0, ⟨[(12, .ow 7)], [.box true 80 [.ow 1], .arr 82 ty82, .no, .no, .no, .no, .no, .arr 63 ty63]⟩)]
  | _ => []
def types_Vars_v1_s6 (n : Nat) (x0 : Int) (x1 : Int) (x2 : (List ty82.D)) (x3 : (List ty82.D)) (x4 : (List (ByteArray × ty63.D))) (x5 : (List ByteArray)) (x6 : (List ty63.D)) (k1 : Int → Int → (List ty82.D) → (List ty82.D) → (List (ByteArray × ty63.D)) → (List ByteArray) → (List ty63.D) → Option R) (qe0 : (List ty82.D) → (List ty63.D) → Option R) : Option R :=
  if (decide (x1 < x0)) = true then (if (0 : Int) ≤ x1 ∧ x1 < (x5.length : Int) then (if (Int.toNat x1) < x5.length then (if (mhas (kt := .str) (vt := ty63) x4 (x5.getD (Int.toNat x1) (Ty.z .str))) = true then (if (midx (kt := .str) (vt := ty63) x4 (x5.getD (Int.toNat x1) (Ty.z .str))) < x4.length then (if (List.length x6 + List.length [((x4.getD (midx (kt := .str) (vt := ty63) x4 (x5.getD (Int.toNat x1) (Ty.z .str))) (Ty.z .str, Ty.z ty63)).2)]) * 32 ≤ 140737488355328 then (k1 x0 (IntKind.i64.wrap (x1 + 1)) x2 x3 x4 x5 (x6 ++ [((x4.getD (midx (kt := .str) (vt := ty63) x4 (x5.getD (Int.toNat x1) (Ty.z .str))) (Ty.z .str, Ty.z ty63)).2)])) else none) else none) else none) else none) else none) else (qe0 x2 x6)
def types_Vars_v1_l6 (n : Nat) (a : (types_Vars_v1_ds 6).D) (k1 : (types_Vars_v1_ds 6).D → Option R) (k2 : exK R (types_Vars_v1_dx 6)) : Option R :=
  types_Vars_v1_s6 n a.1 a.2.1 a.2.2.1 a.2.2.2.1 a.2.2.2.2.1 a.2.2.2.2.2.1 a.2.2.2.2.2.2.1 (fun x0 x1 x2 x3 x4 x5 x6 => k1 (x0, x1, x2, x3, x4, x5, x6, ())) (fun x0 x1 => k2.1 (x0, x1, ()))
@[reducible] def types_Vars_v1_d : Desc := ⟨[(0, .d ty25), (1, .pt 0 0), (2, .d (.sl ty82))], [.box true 80 [.ow 1], .arr 82 ty82]⟩
def types_Vars_v1_Fi (n : Nat) (a0 : ty25.D) (a1 : (List ty82.D)) (a2 : (List ty82.D)) (k0 : Int → Int → (List ty82.D) → (List ty63.D) → Option R) : Option R :=
  types_read_v1_F n a0 a1 a2 (fun y1 y2 y3 y4 y5 y6 => if (y2 != 0) = true then (k0 y1 y2 y3 ([] : List ty63.D)) else (runC (types_Vars_v1_l6 n) n ((y6.length : Int), 0, y3, y4, y5, y6, ([] : List ty63.D), ()) (fun b8 => k0 0 0 b8.1 b8.2.1, ())))
def types_Vars_v1_F {R : Type} := lazyN (@types_Vars_v1_Fi R)
theorem types_Vars_v1_e : @types_Vars_v1_F R = @types_Vars_v1_Fi R := lazyN_eq _
def types_Vars_v1_g (n : Nat) : Gx R := typed 3 types_Vars_v1_d fun x k => types_Vars_v1_F n x.1 x.2.1 x.2.2.1 (fun y0 y1 y2 y3 => k (.tu [(.c (.ow 2)), (.c (.i .i64 y0)), (.c (.i .i64 y1))]) [(.box true 80 [(.ow 1)]), (.arr 82 ty82 y2), (.arr 63 ty63 y3)])
def types_Vars_v1_cs (R : Type) (n : Nat) : List (Nat × Gx R) := [(48, types_read_v1_g n)]
def types_Vars_v1_lp (n : Nat) : (i : Nat) → (types_Vars_v1_ds i).D → exK R (types_Vars_v1_dx i) → Option R
  | 6, a, k => runC (types_Vars_v1_l6 n) n a k
  | _, _, _ => none
def types_Vars_v1_cx (R : Type) (n : Nat) : Cx R := ⟨Try.prog, Gof (types_Vars_v1_cs R n), types_Vars_v1_ds, types_Vars_v1_dx, types_Vars_v1_lp n, drawP Try.prog (Gof (types_Vars_v1_cs R n)), false, noJn, noFz⟩
theorem types_Vars_v1_ok (n : Nat) : Good Try.prog 26 (types_Vars_v1_g (R := R) n) := by
  unfold types_Vars_v1_g
  rw [types_Vars_v1_e]
  exact Good.fn (cx := types_Vars_v1_cx R n) (by kernel_rfl) (AllGood.cons (types_read_v1_ok n) (AllGood.nil)) rfl Try.func26 (by kernel_rfl) rfl (by
    have e : fnLoops noJn Try.f26 = [((fnLoops noJn Try.f26)[0]?).getD (false, .skip)] := by kernel_rfl
    show LoopRuns _ _ (fnLoops noJn _)
    rw [e]
    exact ⟨LoopRun.loop (by kernel_rfl) (i := 6) (m := n) (step := types_Vars_v1_l6 n) (by kernel_rfl) (fun a k1 k2 => by kernel_rfl) (fun _ _ => rfl), trivial⟩) 3 types_Vars_v1_d (by kernel_rfl) (fun x k => by kernel_rfl)
end
end Go.Proofs.Ytikikmkfeeljgaa.E
set_option linter.unusedVariables false
set_option maxRecDepth 100000
namespace Go.Proofs.Ytikikmkfeeljgaa.E
open Go.Proofs
noncomputable section
variable {R : Type}
/-! verderer/verdererlaw14.known: function 17 -/
@[reducible] def verdererlaw14_known_d : Desc := ⟨[], []⟩
def verdererlaw14_known_Fi (n : Nat) (k0 : Bool → Option R) : Option R :=
  verdererlaw08_Kinds_F n (fun y1 => schema_New_F n y1 (fun y2 => verdererref12_Rule_F n (⟨#[118, 105, 101, 119, 32, 118, 40, 115, 44, 32, 115, 117, 109, 32, 99, 41, 32, 105, 102, 32, 112, 111, 100, 40, 115, 44, 32, 110, 44, 32, 95, 44, 32, 99, 44, 32, 111, 41, 44, 32, 111, 32, 61, 61, 32, 110, 117, 108, 108]⟩ : ByteArray) (fun y3 y4 y5 y6 y7 y8 y9 y10 y11 => verdererref12_Rule_F n (⟨#[100, 101, 110, 121, 32, 100, 40, 99, 41, 32, 105, 102, 32, 112, 111, 100, 40, 115, 44, 32, 110, 44, 32, 95, 44, 32, 99, 44, 32, 95, 41, 44, 32, 99, 32, 61, 61, 32, 34, 120, 34]⟩ : ByteArray) (fun y12 y13 y14 y15 y16 y17 y18 y19 y20 => types_Head_F n (y3, y4, y10, y5, y6, y7, y11, ()) [] (fun y21 y22 y23 => types_Vars_F n (y12, y13, y19, y14, y15, y16, y20, ()) [] (fun y24 y25 y26 => if (y9 == 0) = true then (if (y18 == 0) = true then (if (y22 == 0) = true then (verdererref14_Same_F n y23 [((⟨#[115]⟩ : ByteArray), 3, false, ()), ((⟨#[99]⟩ : ByteArray), 2, false, ())] (fun y27 => if y27 = true then (if (y24 == 1) = true then (k0 (y25 == 11)) else (k0 false)) else (k0 false))) else (k0 false)) else (k0 false)) else (k0 false)))))) (fun y28 y29 => verdererref12_Rule_F n (⟨#[118, 105, 101, 119, 32, 118, 40, 115, 44, 32, 115, 117, 109, 32, 99, 41, 32, 105, 102, 32, 112, 111, 100, 40, 115, 44, 32, 110, 44, 32, 95, 44, 32, 99, 44, 32, 111, 41, 44, 32, 111, 32, 61, 61, 32, 110, 117, 108, 108]⟩ : ByteArray) (fun y30 y31 y32 y33 y34 y35 y36 y37 y38 => verdererref12_Rule_F n (⟨#[100, 101, 110, 121, 32, 100, 40, 99, 41, 32, 105, 102, 32, 112, 111, 100, 40, 115, 44, 32, 110, 44, 32, 95, 44, 32, 99, 44, 32, 95, 41, 44, 32, 99, 32, 61, 61, 32, 34, 120, 34]⟩ : ByteArray) (fun y39 y40 y41 y42 y43 y44 y45 y46 y47 => types_Head_v1_F n (y30, y31, y37, y32, y33, y34, y38, ()) [] y29 (fun y48 y49 y50 y51 => types_Vars_v1_F n (y39, y40, y46, y41, y42, y43, y47, ()) [] y50 (fun y52 y53 y54 y55 => if (y36 == 0) = true then (if (y45 == 0) = true then (if (y49 == 0) = true then (verdererref14_Same_F n y51 [((⟨#[115]⟩ : ByteArray), 3, false, ()), ((⟨#[99]⟩ : ByteArray), 2, false, ())] (fun y56 => if y56 = true then (if (y52 == 1) = true then (k0 (y53 == 11)) else (k0 false)) else (k0 false))) else (k0 false)) else (k0 false)) else (k0 false)))))))
def verdererlaw14_known_F {R : Type} := lazyN (@verdererlaw14_known_Fi R)
theorem verdererlaw14_known_e : @verdererlaw14_known_F R = @verdererlaw14_known_Fi R := lazyN_eq _
def verdererlaw14_known_g (n : Nat) : Gx R := typed 0 verdererlaw14_known_d fun x k => verdererlaw14_known_F n (fun y0 => k (.a (.c (.b y0))) [])
def verdererlaw14_known_cs (R : Type) (n : Nat) : List (Nat × Gx R) := [(18, verdererref12_Rule_g n), (19, schema_New_g n), (21, orG (types_Head_g n) (types_Head_v1_g n) (fits 3 types_Head_d)), (23, verdererref14_Same_g n), (25, verdererlaw08_Kinds_g n), (26, orG (types_Vars_g n) (types_Vars_v1_g n) (fits 3 types_Vars_d))]
def verdererlaw14_known_cx (R : Type) (n : Nat) : Cx R := ⟨Try.prog, Gof (verdererlaw14_known_cs R n), noDs, noDx, noLp, drawP Try.prog (Gof (verdererlaw14_known_cs R n)), false, noJn, noFz⟩
theorem verdererlaw14_known_ok (n : Nat) : Good Try.prog 17 (verdererlaw14_known_g (R := R) n) := by
  unfold verdererlaw14_known_g
  rw [verdererlaw14_known_e]
  exact Good.fn (cx := verdererlaw14_known_cx R n) (by kernel_rfl) (AllGood.cons (verdererref12_Rule_ok n) (AllGood.cons (schema_New_ok n) (AllGood.cons (Good.or (types_Head_ok n) (types_Head_v1_ok n) _) (AllGood.cons (verdererref14_Same_ok n) (AllGood.cons (verdererlaw08_Kinds_ok n) (AllGood.cons (Good.or (types_Vars_ok n) (types_Vars_v1_ok n) _) (AllGood.nil))))))) rfl Try.func17 (by kernel_rfl) rfl trivial 0 verdererlaw14_known_d (by kernel_rfl) (fun x k => by kernel_rfl)
end
end Go.Proofs.Ytikikmkfeeljgaa.E
set_option linter.unusedVariables false
set_option maxRecDepth 100000
namespace Go.Proofs.Ytikikmkfeeljgaa.E
open Go.Proofs
noncomputable section
variable {R : Type}
/-! verderer/verdererref07.columns: function 47 -/
def verdererref07_columns_ds : Nat → Desc
  | 11 => ⟨[(0, .d (.sl ty63)), (3, .d (.int .i64)), (4, .d (.int .i64)), (28, .d (.sl ty63)), (29, .d (.int .i64)), (32, .d (.int .i64)), (33, .d .bool)], []⟩
  | 4 => ⟨[(0, .d (.sl ty63)), (3, .d (.int .i64))], []⟩
  | _ => ⟨[], []⟩
def verdererref07_columns_dx : Nat → List (X × Desc)
  | 11 => [(.r, ⟨[(2, .d (.int .i64))], []⟩), (.e 2, ⟨[(0, .d (.sl ty63)), (3, .d (.int .i64)), (28, .d (.sl ty63)), (29, .d (.int .i64)), (32, .d (.int .i64)), (33, .d .bool)], []⟩)]
  | 4 => [(.r, ⟨[(2, .d (.int .i64))], []⟩), (.e 0, ⟨[], []⟩)]
  | _ => []
def verdererref07_columns_s11 (n : Nat) (x0 : (List ty63.D)) (x1 : Int) (x2 : Int) (x3 : (List ty63.D)) (x4 : Int) (x5 : Int) (x6 : Bool) (k1 : (List ty63.D) → Int → Int → (List ty63.D) → Int → Int → Bool → Option R) (qr : Int → Option R) (qe2 : (List ty63.D) → Int → (List ty63.D) → Int → Int → Bool → Option R) : Option R :=
  if (decide (x2 < x1)) = true then (if (0 : Int) ≤ x2 ∧ x2 < (x0.length : Int) then (if (0 : Int) ≤ x1 ∧ x1 < (x0.length : Int) then (if (((x0.getD (Int.toNat x2) (Ty.z ty63)).1).toList == ((x0.getD (Int.toNat x1) (Ty.z ty63)).1).toList) = true then (qr 4) else (k1 x0 x1 (IntKind.i64.wrap (x2 + 1)) x3 x4 x5 x6)) else none) else none) else (qe2 x0 x1 x3 x4 x5 x6)
def verdererref07_columns_l11 (n : Nat) (a : (verdererref07_columns_ds 11).D) (k1 : (verdererref07_columns_ds 11).D → Option R) (k2 : exK R (verdererref07_columns_dx 11)) : Option R :=
  verdererref07_columns_s11 n a.1 a.2.1 a.2.2.1 a.2.2.2.1 a.2.2.2.2.1 a.2.2.2.2.2.1 a.2.2.2.2.2.2.1 (fun x0 x1 x2 x3 x4 x5 x6 => k1 (x0, x1, x2, x3, x4, x5, x6, ())) (fun x0 => k2.1 (x0, ())) (fun x0 x1 x2 x3 x4 x5 => k2.2.1 (x0, x1, x2, x3, x4, x5, ()))
def verdererref07_columns_s4 (n : Nat) (x0 : (List ty63.D)) (x1 : Int) (k1 : (List ty63.D) → Int → Option R) (qr : Int → Option R) (qe0 : Option R) : Option R :=
  if (decide (x1 < (x0.length : Int))) = true then (if (0 : Int) ≤ x1 ∧ x1 < (x0.length : Int) then (verdererref07_Name_F n ((x0.getD (Int.toNat x1) (Ty.z ty63)).1) (fun y1 => if (!y1) = true then (qr 3) else (if (0 : Int) ≤ x1 ∧ x1 < (x0.length : Int) then (if (decide ((x0.getD (Int.toNat x1) (Ty.z ty63)).2.1 < 1)) = true then (qr 11) else (if (0 : Int) ≤ x1 ∧ x1 < (x0.length : Int) then (if (decide ((x0.getD (Int.toNat x1) (Ty.z ty63)).2.1 > 3)) = true then (qr 11) else (runC (verdererref07_columns_l11 n) n (x0, x1, 0, x0, x1, (x0.getD (Int.toNat x1) (Ty.z ty63)).2.1, (decide ((x0.getD (Int.toNat x1) (Ty.z ty63)).2.1 > 3)), ()) (fun b2 => qr b2.1, fun b8 => k1 b8.1 (IntKind.i64.wrap (b8.2.1 + 1)), ()))) else none)) else none))) else none) else qe0
def verdererref07_columns_l4 (n : Nat) (a : (verdererref07_columns_ds 4).D) (k1 : (verdererref07_columns_ds 4).D → Option R) (k2 : exK R (verdererref07_columns_dx 4)) : Option R :=
  verdererref07_columns_s4 n a.1 a.2.1 (fun x0 x1 => k1 (x0, x1, ())) (fun x0 => k2.1 (x0, ())) (k2.2.1 (()))
@[reducible] def verdererref07_columns_d : Desc := ⟨[(0, .d (.sl ty63))], []⟩
def verdererref07_columns_Fi (n : Nat) (a0 : (List ty63.D)) (k0 : Int → Option R) : Option R :=
  if (decide ((a0.length : Int) > 6)) = true then (k0 9) else (runC (verdererref07_columns_l4 n) n (a0, 0, ()) (fun b9 => k0 b9.1, fun b9 => k0 0, ()))
def verdererref07_columns_F {R : Type} := lazyN (@verdererref07_columns_Fi R)
theorem verdererref07_columns_e : @verdererref07_columns_F R = @verdererref07_columns_Fi R := lazyN_eq _
def verdererref07_columns_g (n : Nat) : Gx R := typed 1 verdererref07_columns_d fun x k => verdererref07_columns_F n x.1 (fun y0 => k (.a (.c (.i .i64 y0))) [])
def verdererref07_columns_cs (R : Type) (n : Nat) : List (Nat × Gx R) := [(46, verdererref07_Name_g n)]
def verdererref07_columns_lp (n : Nat) : (i : Nat) → (verdererref07_columns_ds i).D → exK R (verdererref07_columns_dx i) → Option R
  | 11, a, k => runC (verdererref07_columns_l11 n) n a k
  | 4, a, k => runC (verdererref07_columns_l4 n) n a k
  | _, _, _ => none
def verdererref07_columns_cx (R : Type) (n : Nat) : Cx R := ⟨Try.prog, Gof (verdererref07_columns_cs R n), verdererref07_columns_ds, verdererref07_columns_dx, verdererref07_columns_lp n, drawP Try.prog (Gof (verdererref07_columns_cs R n)), false, noJn, noFz⟩
theorem verdererref07_columns_ok (n : Nat) : Good Try.prog 47 (verdererref07_columns_g (R := R) n) := by
  unfold verdererref07_columns_g
  rw [verdererref07_columns_e]
  exact Good.fn (cx := verdererref07_columns_cx R n) (by kernel_rfl) (AllGood.cons (verdererref07_Name_ok n) (AllGood.nil)) rfl Try.func47 (by kernel_rfl) rfl (by
    have e : fnLoops noJn Try.f47 = [((fnLoops noJn Try.f47)[0]?).getD (false, .skip), ((fnLoops noJn Try.f47)[1]?).getD (false, .skip)] := by kernel_rfl
    show LoopRuns _ _ (fnLoops noJn _)
    rw [e]
    exact ⟨LoopRun.loop (by kernel_rfl) (i := 4) (m := n) (step := verdererref07_columns_l4 n) (by kernel_rfl) (fun a k1 k2 => by kernel_rfl) (fun _ _ => rfl), ⟨LoopRun.loop (by kernel_rfl) (i := 11) (m := n) (step := verdererref07_columns_l11 n) (by kernel_rfl) (fun a k1 k2 => by kernel_rfl) (fun _ _ => rfl), trivial⟩⟩) 1 verdererref07_columns_d (by kernel_rfl) (fun x k => by kernel_rfl)
end
end Go.Proofs.Ytikikmkfeeljgaa.E
set_option linter.unusedVariables false
set_option maxRecDepth 100000
namespace Go.Proofs.Ytikikmkfeeljgaa.E
open Go.Proofs
noncomputable section
variable {R : Type}
/-! verderer/verdererref07.Check: function 20 -/
def verdererref07_Check_ds : Nat → Desc
  | 9 => ⟨[(0, .d (.sl ty82)), (3, .d (.int .i64)), (4, .d (.int .i64)), (23, .d (.sl ty82)), (24, .d (.int .i64)), (27, .d .str), (28, .d .bool)], []⟩
  | 4 => ⟨[(0, .d (.sl ty82)), (3, .d (.int .i64))], []⟩
  | _ => ⟨[], []⟩
def verdererref07_Check_dx : Nat → List (X × Desc)
  | 9 => [(.r, ⟨[(2, .d (.int .i64))], []⟩), (.e 2, ⟨[(0, .d (.sl ty82)), (3, .d (.int .i64)), (23, .d (.sl ty82)), (24, .d (.int .i64)), (27, .d .str), (28, .d .bool)], []⟩)]
  | 4 => [(.r, ⟨[(2, .d (.int .i64))], []⟩), (.e 0, ⟨[], []⟩)]
  | _ => []
def verdererref07_Check_s9 (n : Nat) (x0 : (List ty82.D)) (x1 : Int) (x2 : Int) (x3 : (List ty82.D)) (x4 : Int) (x5 : ByteArray) (x6 : Bool) (k1 : (List ty82.D) → Int → Int → (List ty82.D) → Int → ByteArray → Bool → Option R) (qr : Int → Option R) (qe2 : (List ty82.D) → Int → (List ty82.D) → Int → ByteArray → Bool → Option R) : Option R :=
  if (decide (x2 < x1)) = true then (if (0 : Int) ≤ x2 ∧ x2 < (x0.length : Int) then (if (0 : Int) ≤ x1 ∧ x1 < (x0.length : Int) then (if (((x0.getD (Int.toNat x2) (Ty.z ty82)).1).toList == ((x0.getD (Int.toNat x1) (Ty.z ty82)).1).toList) = true then (qr 4) else (k1 x0 x1 (IntKind.i64.wrap (x2 + 1)) x3 x4 x5 x6)) else none) else none) else (qe2 x0 x1 x3 x4 x5 x6)
def verdererref07_Check_l9 (n : Nat) (a : (verdererref07_Check_ds 9).D) (k1 : (verdererref07_Check_ds 9).D → Option R) (k2 : exK R (verdererref07_Check_dx 9)) : Option R :=
  verdererref07_Check_s9 n a.1 a.2.1 a.2.2.1 a.2.2.2.1 a.2.2.2.2.1 a.2.2.2.2.2.1 a.2.2.2.2.2.2.1 (fun x0 x1 x2 x3 x4 x5 x6 => k1 (x0, x1, x2, x3, x4, x5, x6, ())) (fun x0 => k2.1 (x0, ())) (fun x0 x1 x2 x3 x4 x5 => k2.2.1 (x0, x1, x2, x3, x4, x5, ()))
def verdererref07_Check_s4 (n : Nat) (x0 : (List ty82.D)) (x1 : Int) (k1 : (List ty82.D) → Int → Option R) (qr : Int → Option R) (qe0 : Option R) : Option R :=
  if (decide (x1 < (x0.length : Int))) = true then (if (0 : Int) ≤ x1 ∧ x1 < (x0.length : Int) then (verdererref07_Name_F n ((x0.getD (Int.toNat x1) (Ty.z ty82)).1) (fun y1 => if (!y1) = true then (qr 3) else (if (0 : Int) ≤ x1 ∧ x1 < (x0.length : Int) then (if (((x0.getD (Int.toNat x1) (Ty.z ty82)).1).toList == (⟨#[116, 101, 110, 97, 110, 116]⟩ : ByteArray).toList) = true then (qr 3) else (runC (verdererref07_Check_l9 n) n (x0, x1, 0, x0, x1, (x0.getD (Int.toNat x1) (Ty.z ty82)).1, (((x0.getD (Int.toNat x1) (Ty.z ty82)).1).toList == (⟨#[116, 101, 110, 97, 110, 116]⟩ : ByteArray).toList), ()) (fun b2 => qr b2.1, fun b8 => if (0 : Int) ≤ b8.2.1 ∧ b8.2.1 < (b8.1.length : Int) then (verdererref07_columns_F n ((b8.1.getD (Int.toNat b8.2.1) (Ty.z ty82)).2.1) (fun y9 => if (y9 != 0) = true then (qr y9) else (k1 b8.1 (IntKind.i64.wrap (b8.2.1 + 1))))) else none, ()))) else none))) else none) else qe0
def verdererref07_Check_l4 (n : Nat) (a : (verdererref07_Check_ds 4).D) (k1 : (verdererref07_Check_ds 4).D → Option R) (k2 : exK R (verdererref07_Check_dx 4)) : Option R :=
  verdererref07_Check_s4 n a.1 a.2.1 (fun x0 x1 => k1 (x0, x1, ())) (fun x0 => k2.1 (x0, ())) (k2.2.1 (()))
@[reducible] def verdererref07_Check_d : Desc := ⟨[(0, .d (.sl ty82))], []⟩
def verdererref07_Check_Fi (n : Nat) (a0 : (List ty82.D)) (k0 : Int → Option R) : Option R :=
  if (decide ((a0.length : Int) > 8)) = true then (k0 9) else (runC (verdererref07_Check_l4 n) n (a0, 0, ()) (fun b10 => k0 b10.1, fun b10 => k0 0, ()))
def verdererref07_Check_F {R : Type} := lazyN (@verdererref07_Check_Fi R)
theorem verdererref07_Check_e : @verdererref07_Check_F R = @verdererref07_Check_Fi R := lazyN_eq _
def verdererref07_Check_g (n : Nat) : Gx R := typed 1 verdererref07_Check_d fun x k => verdererref07_Check_F n x.1 (fun y0 => k (.a (.c (.i .i64 y0))) [])
def verdererref07_Check_cs (R : Type) (n : Nat) : List (Nat × Gx R) := [(46, verdererref07_Name_g n), (47, verdererref07_columns_g n)]
def verdererref07_Check_lp (n : Nat) : (i : Nat) → (verdererref07_Check_ds i).D → exK R (verdererref07_Check_dx i) → Option R
  | 9, a, k => runC (verdererref07_Check_l9 n) n a k
  | 4, a, k => runC (verdererref07_Check_l4 n) n a k
  | _, _, _ => none
def verdererref07_Check_cx (R : Type) (n : Nat) : Cx R := ⟨Try.prog, Gof (verdererref07_Check_cs R n), verdererref07_Check_ds, verdererref07_Check_dx, verdererref07_Check_lp n, drawP Try.prog (Gof (verdererref07_Check_cs R n)), false, noJn, noFz⟩
theorem verdererref07_Check_ok (n : Nat) : Good Try.prog 20 (verdererref07_Check_g (R := R) n) := by
  unfold verdererref07_Check_g
  rw [verdererref07_Check_e]
  exact Good.fn (cx := verdererref07_Check_cx R n) (by kernel_rfl) (AllGood.cons (verdererref07_Name_ok n) (AllGood.cons (verdererref07_columns_ok n) (AllGood.nil))) rfl Try.func20 (by kernel_rfl) rfl (by
    have e : fnLoops noJn Try.f20 = [((fnLoops noJn Try.f20)[0]?).getD (false, .skip), ((fnLoops noJn Try.f20)[1]?).getD (false, .skip)] := by kernel_rfl
    show LoopRuns _ _ (fnLoops noJn _)
    rw [e]
    exact ⟨LoopRun.loop (by kernel_rfl) (i := 4) (m := n) (step := verdererref07_Check_l4 n) (by kernel_rfl) (fun a k1 k2 => by kernel_rfl) (fun _ _ => rfl), ⟨LoopRun.loop (by kernel_rfl) (i := 9) (m := n) (step := verdererref07_Check_l9 n) (by kernel_rfl) (fun a k1 k2 => by kernel_rfl) (fun _ _ => rfl), trivial⟩⟩) 1 verdererref07_Check_d (by kernel_rfl) (fun x k => by kernel_rfl)
end
end Go.Proofs.Ytikikmkfeeljgaa.E
set_option linter.unusedVariables false
set_option maxRecDepth 100000
namespace Go.Proofs.Ytikikmkfeeljgaa.E
open Go.Proofs
noncomputable section
variable {R : Type}
/-! verderer/verdererref07.Find: function 99 -/
def verdererref07_Find_ds : Nat → Desc
  | 2 => ⟨[(0, .d (.sl ty82)), (1, .d .str), (4, .pt 1 0), (6, .d (.int .i64))], [.arr 63 ty63, .box false 82 [.d .str, .ow 0]]⟩
  | _ => ⟨[], []⟩
def verdererref07_Find_dx : Nat → List (X × Desc)
  | 2 => [(.r, ⟨[(4, .pt 1 0), (5, .d (.int .i64))], [.no, .box false 82 [.d .str, .d (.sl ty63)]]⟩), (.e 0, ⟨[(4, .pt 1 0)], [.arr 63 ty63, .box false 82 [.d .str, .ow 0]]⟩)]
  | _ => []
def verdererref07_Find_s2 (n : Nat) (x0 : (List ty82.D)) (x1 : ByteArray) (x2 : Int) (x3 : (List ty63.D)) (x4 : ByteArray) (k1 : (List ty82.D) → ByteArray → Int → (List ty63.D) → ByteArray → Option R) (qr : Int → ByteArray → (List ty63.D) → Option R) (qe0 : (List ty63.D) → ByteArray → Option R) : Option R :=
  if (decide (x2 < (x0.length : Int))) = true then (if (0 : Int) ≤ x2 ∧ x2 < (x0.length : Int) then (if (((x0.getD (Int.toNat x2) (Ty.z ty82)).1).toList == x1.toList) = true then (if (0 : Int) ≤ x2 ∧ x2 < (x0.length : Int) then (qr 0 ((x0.getD (Int.toNat x2) (Ty.z ty82)).1) ((x0.getD (Int.toNat x2) (Ty.z ty82)).2.1)) else none) else (k1 x0 x1 (IntKind.i64.wrap (x2 + 1)) x3 x4)) else none) else (qe0 x3 x4)
def verdererref07_Find_l2 (n : Nat) (a : (verdererref07_Find_ds 2).D) (k1 : (verdererref07_Find_ds 2).D → Option R) (k2 : exK R (verdererref07_Find_dx 2)) : Option R :=
  verdererref07_Find_s2 n a.1 a.2.1 a.2.2.1 a.2.2.2.1 a.2.2.2.2.1 (fun x0 x1 x2 x3 x4 => k1 (x0, x1, x2, x3, x4, ())) (fun x0 x1 x2 => k2.1 (x0, x1, x2, ())) (fun x0 x1 => k2.2.1 (x0, x1, ()))
@[reducible] def verdererref07_Find_d : Desc := ⟨[(0, .d (.sl ty82)), (1, .d .str)], []⟩
def verdererref07_Find_Fi (n : Nat) (a0 : (List ty82.D)) (a1 : ByteArray) (k0 : ty82.D → Int → Option R) : Option R :=
  runC (verdererref07_Find_l2 n) n (a0, a1, 0, ([] : List ty63.D), (⟨#[]⟩ : ByteArray), ()) (fun b3 => k0 (b3.2.1, b3.2.2.1, ()) b3.1, fun b5 => k0 ((⟨#[]⟩ : ByteArray), ([] : List ty63.D), ()) 20, ())
def verdererref07_Find_F {R : Type} := lazyN (@verdererref07_Find_Fi R)
theorem verdererref07_Find_e : @verdererref07_Find_F R = @verdererref07_Find_Fi R := lazyN_eq _
def verdererref07_Find_g (n : Nat) : Gx R := typed 2 verdererref07_Find_d fun x k => verdererref07_Find_F n x.1 x.2.1 (fun y0 y1 => k (.tu [(encA ty82 y0), (.c (.i .i64 y1))]) [])
def verdererref07_Find_cs (R : Type) (n : Nat) : List (Nat × Gx R) := []
def verdererref07_Find_lp (n : Nat) : (i : Nat) → (verdererref07_Find_ds i).D → exK R (verdererref07_Find_dx i) → Option R
  | 2, a, k => runC (verdererref07_Find_l2 n) n a k
  | _, _, _ => none
def verdererref07_Find_cx (R : Type) (n : Nat) : Cx R := ⟨Try.prog, Gof (verdererref07_Find_cs R n), verdererref07_Find_ds, verdererref07_Find_dx, verdererref07_Find_lp n, drawP Try.prog (Gof (verdererref07_Find_cs R n)), false, noJn, noFz⟩
theorem verdererref07_Find_ok (n : Nat) : Good Try.prog 99 (verdererref07_Find_g (R := R) n) := by
  unfold verdererref07_Find_g
  rw [verdererref07_Find_e]
  exact Good.fnF (cx := verdererref07_Find_cx R n) (by kernel_rfl) (AllGood.nil) rfl Try.func99 (by kernel_rfl) rfl (by
    have e : fnLoops noJn Try.f99 = [((fnLoops noJn Try.f99)[0]?).getD (false, .skip)] := by kernel_rfl
    show LoopRuns _ _ (fnLoops noJn _)
    rw [e]
    exact ⟨LoopRun.loop (by kernel_rfl) (i := 2) (m := n) (step := verdererref07_Find_l2 n) (by kernel_rfl) (fun a k1 k2 => by kernel_rfl) (fun _ _ => rfl), trivial⟩) 2 verdererref07_Find_d (by kernel_rfl) rfl (fun x k => by kernel_rfl)
end
end Go.Proofs.Ytikikmkfeeljgaa.E
set_option linter.unusedVariables false
set_option maxRecDepth 100000
namespace Go.Proofs.Ytikikmkfeeljgaa.E
open Go.Proofs
noncomputable section
variable {R : Type}
/-! verderer/verdererref07.Columns: function 91 -/
@[reducible] def verdererref07_Columns_d : Desc := ⟨[(0, .d (.sl ty82)), (1, .d .str)], []⟩
def verdererref07_Columns_Fi (n : Nat) (a0 : (List ty82.D)) (a1 : ByteArray) (k0 : Int → (List ty63.D) → Option R) : Option R :=
  if (a1.toList == (⟨#[116, 101, 110, 97, 110, 116]⟩ : ByteArray).toList) = true then (k0 0 [((⟨#[110, 97, 109, 101]⟩ : ByteArray), 3, false, ()), ((⟨#[112, 97, 114, 101, 110, 116]⟩ : ByteArray), 3, false, ())]) else (verdererref07_Find_F n a0 a1 (fun y1 y2 => if (y2 != 0) = true then (k0 y2 ([] : List ty63.D)) else (if (List.length [((⟨#[115, 112, 97, 99, 101]⟩ : ByteArray), 3, false, ()), ((⟨#[110, 97, 109, 101]⟩ : ByteArray), 3, false, ())] + List.length y1.2.1) * 32 ≤ 140737488355328 then (k0 0 ([((⟨#[115, 112, 97, 99, 101]⟩ : ByteArray), 3, false, ()), ((⟨#[110, 97, 109, 101]⟩ : ByteArray), 3, false, ())] ++ y1.2.1)) else none)))
def verdererref07_Columns_F {R : Type} := lazyN (@verdererref07_Columns_Fi R)
theorem verdererref07_Columns_e : @verdererref07_Columns_F R = @verdererref07_Columns_Fi R := lazyN_eq _
def verdererref07_Columns_g (n : Nat) : Gx R := typed 2 verdererref07_Columns_d fun x k => verdererref07_Columns_F n x.1 x.2.1 (fun y0 y1 => k (.tu [(.c (.ow 0)), (.c (.i .i64 y0))]) [(.arr 63 ty63 y1)])
def verdererref07_Columns_cs (R : Type) (n : Nat) : List (Nat × Gx R) := [(99, verdererref07_Find_g n)]
def verdererref07_Columns_cx (R : Type) (n : Nat) : Cx R := ⟨Try.prog, Gof (verdererref07_Columns_cs R n), noDs, noDx, noLp, drawP Try.prog (Gof (verdererref07_Columns_cs R n)), false, noJn, noFz⟩
theorem verdererref07_Columns_ok (n : Nat) : Good Try.prog 91 (verdererref07_Columns_g (R := R) n) := by
  unfold verdererref07_Columns_g
  rw [verdererref07_Columns_e]
  exact Good.fn (cx := verdererref07_Columns_cx R n) (by kernel_rfl) (AllGood.cons (verdererref07_Find_ok n) (AllGood.nil)) rfl Try.func91 (by kernel_rfl) rfl trivial 2 verdererref07_Columns_d (by kernel_rfl) (fun x k => by kernel_rfl)
end
end Go.Proofs.Ytikikmkfeeljgaa.E
set_option linter.unusedVariables false
set_option maxRecDepth 100000
namespace Go.Proofs.Ytikikmkfeeljgaa.E
open Go.Proofs
noncomputable section
variable {R : Type}
/-! (*verderer/verdererref14.env).columns: function 81 -/
def verdererref14_env_columns_ds : Nat → Desc
  | 5 => ⟨[(0, .pt 0 0), (1, .d .str), (8, .d (.int .i64))], [.box true 98 [.d (.sl ty82), .d (.sl ty82), .ow 1], .arr 63 ty63]⟩
  | _ => ⟨[], []⟩
def verdererref14_env_columns_dx : Nat → List (X × Desc)
  | 5 => [(.r, ⟨[(4, .d (.sl ty63)), (5, .d (.int .i64))], [.box true 98 [.d (.sl ty82), .d (.sl ty82), .ow 1], .arr 63 ty63]⟩), (.e 0, ⟨[], [.box true 98 [.d (.sl ty82), .d (.sl ty82), .ow 1], .arr 63 ty63]⟩)]
  | _ => []
def verdererref14_env_columns_s5 (n : Nat) (x0 : ByteArray) (x1 : Int) (x2 : (List ty82.D)) (x3 : (List ty82.D)) (x4 : (List ty63.D)) (k1 : ByteArray → Int → (List ty82.D) → (List ty82.D) → (List ty63.D) → Option R) (qr : (List ty63.D) → Int → (List ty82.D) → (List ty82.D) → (List ty63.D) → Option R) (qe0 : (List ty82.D) → (List ty82.D) → (List ty63.D) → Option R) : Option R :=
  if (decide (x1 < (x3.length : Int))) = true then (if (0 : Int) ≤ x1 ∧ x1 < (x3.length : Int) then (if (((x3.getD (Int.toNat x1) (Ty.z ty82)).1).toList == x0.toList) = true then (if (0 : Int) ≤ x1 ∧ x1 < (x3.length : Int) then (qr ((x3.getD (Int.toNat x1) (Ty.z ty82)).2.1) 0 x2 x3 x4) else none) else (k1 x0 (IntKind.i64.wrap (x1 + 1)) x2 x3 x4)) else none) else (qe0 x2 x3 x4)
def verdererref14_env_columns_l5 (n : Nat) (a : (verdererref14_env_columns_ds 5).D) (k1 : (verdererref14_env_columns_ds 5).D → Option R) (k2 : exK R (verdererref14_env_columns_dx 5)) : Option R :=
  verdererref14_env_columns_s5 n a.1 a.2.1 a.2.2.1 a.2.2.2.1 a.2.2.2.2.1 (fun x0 x1 x2 x3 x4 => k1 (x0, x1, x2, x3, x4, ())) (fun x0 x1 x2 x3 x4 => k2.1 (x0, x1, x2, x3, x4, ())) (fun x0 x1 x2 => k2.2.1 (x0, x1, x2, ()))
@[reducible] def verdererref14_env_columns_d : Desc := ⟨[(0, .pt 0 0), (1, .d .str)], [.box true 98 [.d (.sl ty82), .d (.sl ty82), .ow 1], .arr 63 ty63]⟩
def verdererref14_env_columns_Fi (n : Nat) (a0 : ByteArray) (a1 : (List ty82.D)) (a2 : (List ty82.D)) (a3 : (List ty63.D)) (k0 : Int → (List ty82.D) → (List ty82.D) → (List ty63.D) → (List ty63.D) → Option R) (k1 : (List ty63.D) → Int → (List ty82.D) → (List ty82.D) → (List ty63.D) → Option R) : Option R :=
  verdererref07_Columns_F n a1 a0 (fun y1 y2 => if (y1 == 0) = true then (k0 y1 a1 a2 a3 y2) else (runC (verdererref14_env_columns_l5 n) n (a0, 0, a1, a2, a3, ()) (fun b7 => k1 b7.1 b7.2.1 b7.2.2.1 b7.2.2.2.1 b7.2.2.2.2.1, fun b10 => k0 20 b10.1 b10.2.1 b10.2.2.1 ([] : List ty63.D), ())))
def verdererref14_env_columns_F {R : Type} := lazyN (@verdererref14_env_columns_Fi R)
theorem verdererref14_env_columns_e : @verdererref14_env_columns_F R = @verdererref14_env_columns_Fi R := lazyN_eq _
def verdererref14_env_columns_g (n : Nat) : Gx R := typed 2 verdererref14_env_columns_d fun x k => verdererref14_env_columns_F n x.1 x.2.1 x.2.2.1 x.2.2.2.1 (fun y0 y1 y2 y3 y4 => k (.tu [(.c (.ow 2)), (.c (.i .i64 y0))]) [(.box true 98 [(.fz ty82 y1), (.fz ty82 y2), (.ow 1)]), (.arr 63 ty63 y3), (.arr 63 ty63 y4)]) (fun y0 y1 y2 y3 y4 => k (.tu [(.c (.fz ty63 y0)), (.c (.i .i64 y1))]) [(.box true 98 [(.fz ty82 y2), (.fz ty82 y3), (.ow 1)]), (.arr 63 ty63 y4)])
def verdererref14_env_columns_cs (R : Type) (n : Nat) : List (Nat × Gx R) := [(91, verdererref07_Columns_g n)]
def verdererref14_env_columns_lp (n : Nat) : (i : Nat) → (verdererref14_env_columns_ds i).D → exK R (verdererref14_env_columns_dx i) → Option R
  | 5, a, k => runC (verdererref14_env_columns_l5 n) n a k
  | _, _, _ => none
def verdererref14_env_columns_cx (R : Type) (n : Nat) : Cx R := ⟨Try.prog, Gof (verdererref14_env_columns_cs R n), verdererref14_env_columns_ds, verdererref14_env_columns_dx, verdererref14_env_columns_lp n, drawP Try.prog (Gof (verdererref14_env_columns_cs R n)), false, noJn, noFz⟩
theorem verdererref14_env_columns_ok (n : Nat) : Good Try.prog 81 (verdererref14_env_columns_g (R := R) n) := by
  unfold verdererref14_env_columns_g
  rw [verdererref14_env_columns_e]
  exact Good.fn (cx := verdererref14_env_columns_cx R n) (by kernel_rfl) (AllGood.cons (verdererref07_Columns_ok n) (AllGood.nil)) rfl Try.func81 (by kernel_rfl) rfl (by
    have e : fnLoops noJn Try.f81 = [((fnLoops noJn Try.f81)[0]?).getD (false, .skip)] := by kernel_rfl
    show LoopRuns _ _ (fnLoops noJn _)
    rw [e]
    exact ⟨LoopRun.loop (by kernel_rfl) (i := 5) (m := n) (step := verdererref14_env_columns_l5 n) (by kernel_rfl) (fun a k1 k2 => by kernel_rfl) (fun _ _ => rfl), trivial⟩) 2 verdererref14_env_columns_d (by kernel_rfl) (fun x k => by kernel_rfl)
end
end Go.Proofs.Ytikikmkfeeljgaa.E
set_option linter.unusedVariables false
set_option maxRecDepth 100000
namespace Go.Proofs.Ytikikmkfeeljgaa.E
open Go.Proofs
noncomputable section
variable {R : Type}
/-! (*verderer/verdererref14.env).find: function 50 -/
def verdererref14_env_find_ds : Nat → Desc
  | 2 => ⟨[(0, .pt 0 0), (1, .d .str), (5, .d (.int .i64))], [.box true 98 [.d (.sl ty82), .d (.sl ty82), .ow 1], .arr 63 ty63]⟩
  | _ => ⟨[], []⟩
def verdererref14_env_find_dx : Nat → List (X × Desc)
  | 2 => [(.r, ⟨[(4, .d (.int .i64))], [.box true 98 [.d (.sl ty82), .d (.sl ty82), .ow 1], .arr 63 ty63]⟩), (.e 0, ⟨[], [.box true 98 [.d (.sl ty82), .d (.sl ty82), .ow 1], .arr 63 ty63]⟩)]
  | _ => []
def verdererref14_env_find_s2 (n : Nat) (x0 : ByteArray) (x1 : Int) (x2 : (List ty82.D)) (x3 : (List ty82.D)) (x4 : (List ty63.D)) (k1 : ByteArray → Int → (List ty82.D) → (List ty82.D) → (List ty63.D) → Option R) (qr : Int → (List ty82.D) → (List ty82.D) → (List ty63.D) → Option R) (qe0 : (List ty82.D) → (List ty82.D) → (List ty63.D) → Option R) : Option R :=
  if (decide (x1 < (x4.length : Int))) = true then (if (0 : Int) ≤ x1 ∧ x1 < (x4.length : Int) then (if (Int.toNat x1) < x4.length then (if (((x4.getD (Int.toNat x1) (Ty.z ty63)).1).toList == x0.toList) = true then (qr x1 x2 x3 x4) else (k1 x0 (IntKind.i64.wrap (x1 + 1)) x2 x3 x4)) else none) else none) else (qe0 x2 x3 x4)
def verdererref14_env_find_l2 (n : Nat) (a : (verdererref14_env_find_ds 2).D) (k1 : (verdererref14_env_find_ds 2).D → Option R) (k2 : exK R (verdererref14_env_find_dx 2)) : Option R :=
  verdererref14_env_find_s2 n a.1 a.2.1 a.2.2.1 a.2.2.2.1 a.2.2.2.2.1 (fun x0 x1 x2 x3 x4 => k1 (x0, x1, x2, x3, x4, ())) (fun x0 x1 x2 x3 => k2.1 (x0, x1, x2, x3, ())) (fun x0 x1 x2 => k2.2.1 (x0, x1, x2, ()))
@[reducible] def verdererref14_env_find_d : Desc := ⟨[(0, .pt 0 0), (1, .d .str)], [.box true 98 [.d (.sl ty82), .d (.sl ty82), .ow 1], .arr 63 ty63]⟩
def verdererref14_env_find_Fi (n : Nat) (a0 : ByteArray) (a1 : (List ty82.D)) (a2 : (List ty82.D)) (a3 : (List ty63.D)) (k0 : Int → (List ty82.D) → (List ty82.D) → (List ty63.D) → Option R) : Option R :=
  runC (verdererref14_env_find_l2 n) n (a0, 0, a1, a2, a3, ()) (fun b4 => k0 b4.1 b4.2.1 b4.2.2.1 b4.2.2.2.1, fun b7 => k0 (-1) b7.1 b7.2.1 b7.2.2.1, ())
def verdererref14_env_find_F {R : Type} := lazyN (@verdererref14_env_find_Fi R)
theorem verdererref14_env_find_e : @verdererref14_env_find_F R = @verdererref14_env_find_Fi R := lazyN_eq _
def verdererref14_env_find_g (n : Nat) : Gx R := typed 2 verdererref14_env_find_d fun x k => verdererref14_env_find_F n x.1 x.2.1 x.2.2.1 x.2.2.2.1 (fun y0 y1 y2 y3 => k (.a (.c (.i .i64 y0))) [(.box true 98 [(.fz ty82 y1), (.fz ty82 y2), (.ow 1)]), (.arr 63 ty63 y3)])
def verdererref14_env_find_cs (R : Type) (n : Nat) : List (Nat × Gx R) := []
def verdererref14_env_find_lp (n : Nat) : (i : Nat) → (verdererref14_env_find_ds i).D → exK R (verdererref14_env_find_dx i) → Option R
  | 2, a, k => runC (verdererref14_env_find_l2 n) n a k
  | _, _, _ => none
def verdererref14_env_find_cx (R : Type) (n : Nat) : Cx R := ⟨Try.prog, Gof (verdererref14_env_find_cs R n), verdererref14_env_find_ds, verdererref14_env_find_dx, verdererref14_env_find_lp n, drawP Try.prog (Gof (verdererref14_env_find_cs R n)), false, noJn, noFz⟩
theorem verdererref14_env_find_ok (n : Nat) : Good Try.prog 50 (verdererref14_env_find_g (R := R) n) := by
  unfold verdererref14_env_find_g
  rw [verdererref14_env_find_e]
  exact Good.fn (cx := verdererref14_env_find_cx R n) (by kernel_rfl) (AllGood.nil) rfl Try.func50 (by kernel_rfl) rfl (by
    have e : fnLoops noJn Try.f50 = [((fnLoops noJn Try.f50)[0]?).getD (false, .skip)] := by kernel_rfl
    show LoopRuns _ _ (fnLoops noJn _)
    rw [e]
    exact ⟨LoopRun.loop (by kernel_rfl) (i := 2) (m := n) (step := verdererref14_env_find_l2 n) (by kernel_rfl) (fun a k1 k2 => by kernel_rfl) (fun _ _ => rfl), trivial⟩) 2 verdererref14_env_find_d (by kernel_rfl) (fun x k => by kernel_rfl)
end
end Go.Proofs.Ytikikmkfeeljgaa.E
set_option linter.unusedVariables false
set_option maxRecDepth 100000
namespace Go.Proofs.Ytikikmkfeeljgaa.E
open Go.Proofs
noncomputable section
variable {R : Type}
/-! (*verderer/verdererref14.env).arg: function 82 -/
@[reducible] def verdererref14_env_arg_d : Desc := ⟨[(0, .pt 0 0), (1, .d ty38), (2, .d ty63), (3, .d .bool)], [.box true 98 [.d (.sl ty82), .d (.sl ty82), .ow 1], .arr 63 ty63]⟩
def verdererref14_env_arg_Fi (n : Nat) (a0 : ty38.D) (a1 : ty63.D) (a2 : Bool) (a3 : (List ty82.D)) (a4 : (List ty82.D)) (a5 : (List ty63.D)) (k0 : Int → (List ty82.D) → (List ty82.D) → (List ty63.D) → Option R) : Option R :=
  if a0.2.1 = true then (k0 0 a3 a4 a5) else (if (a0.1.toList == (⟨#[]⟩ : ByteArray).toList) = true then (if (a0.2.2.1.1 == a1.2.1) = true then (k0 0 a3 a4 a5) else (if (a0.2.2.1.1 == 0) = true then (if a1.2.2.1 = true then (k0 0 a3 a4 a5) else (k0 11 a3 a4 a5)) else (k0 11 a3 a4 a5))) else (verdererref14_env_find_F n a0.1 a3 a4 a5 (fun y1 y2 y3 y4 => if (decide (y1 < 0)) = true then (if a2 = true then (if (List.length y4 + List.length [(a0.1, a1.2.1, a1.2.2.1, ())]) * 32 ≤ 140737488355328 then (k0 0 y2 y3 (y4 ++ [(a0.1, a1.2.1, a1.2.2.1, ())])) else none) else (k0 0 y2 y3 y4)) else (if (0 : Int) ≤ y1 ∧ y1 < (y4.length : Int) then (if (Int.toNat y1) < y4.length then (if ((y4.getD (Int.toNat y1) (Ty.z ty63)).2.1 != a1.2.1) = true then (k0 11 y2 y3 y4) else (if a2 = true then (if (!a1.2.2.1) = true then (if (0 : Int) ≤ y1 ∧ y1 < (y4.length : Int) then (if (Int.toNat y1) < y4.length then (k0 0 y2 y3 (y4.set (Int.toNat y1) ((y4.getD (Int.toNat y1) (Ty.z ty63)).1, (y4.getD (Int.toNat y1) (Ty.z ty63)).2.1, false, ()))) else none) else none) else (k0 0 y2 y3 y4)) else (k0 0 y2 y3 y4))) else none) else none))))
def verdererref14_env_arg_F {R : Type} := lazyN (@verdererref14_env_arg_Fi R)
theorem verdererref14_env_arg_e : @verdererref14_env_arg_F R = @verdererref14_env_arg_Fi R := lazyN_eq _
def verdererref14_env_arg_g (n : Nat) : Gx R := typed 4 verdererref14_env_arg_d fun x k => verdererref14_env_arg_F n x.1 x.2.1 x.2.2.1 x.2.2.2.1 x.2.2.2.2.1 x.2.2.2.2.2.1 (fun y0 y1 y2 y3 => k (.a (.c (.i .i64 y0))) [(.box true 98 [(.fz ty82 y1), (.fz ty82 y2), (.ow 1)]), (.arr 63 ty63 y3)])
def verdererref14_env_arg_cs (R : Type) (n : Nat) : List (Nat × Gx R) := [(50, verdererref14_env_find_g n)]
def verdererref14_env_arg_cx (R : Type) (n : Nat) : Cx R := ⟨Try.prog, Gof (verdererref14_env_arg_cs R n), noDs, noDx, noLp, drawP Try.prog (Gof (verdererref14_env_arg_cs R n)), false, noJn, noFz⟩
theorem verdererref14_env_arg_ok (n : Nat) : Good Try.prog 82 (verdererref14_env_arg_g (R := R) n) := by
  unfold verdererref14_env_arg_g
  rw [verdererref14_env_arg_e]
  exact Good.fn (cx := verdererref14_env_arg_cx R n) (by kernel_rfl) (AllGood.cons (verdererref14_env_find_ok n) (AllGood.nil)) rfl Try.func82 (by kernel_rfl) rfl trivial 4 verdererref14_env_arg_d (by kernel_rfl) (fun x k => by kernel_rfl)
end
end Go.Proofs.Ytikikmkfeeljgaa.E
set_option linter.unusedVariables false
set_option maxRecDepth 100000
namespace Go.Proofs.Ytikikmkfeeljgaa.E
open Go.Proofs
noncomputable section
variable {R : Type}
/-! (*verderer/verdererref14.env).atom: function 66 -/
def verdererref14_env_atom_ds : Nat → Desc
  | 7 => ⟨[(0, .pt 0 0), (3, .pt 2 0), (5, .d (.sl ty63)), (7, .d (.int .i64))], [.box true 98 [.d (.sl ty82), .d (.sl ty82), .ow 1], .arr 63 ty63, .box false 41 [.d .bool, .d .str, .d (.sl ty38), .d (.int .i64)]]⟩
  | _ => ⟨[], []⟩
def verdererref14_env_atom_dx : Nat → List (X × Desc)
  | 7 => [(.r, ⟨[(4, .d (.int .i64))], [.box true 98 [.d (.sl ty82), .d (.sl ty82), .ow 1], .arr 63 ty63]⟩), (.e 0, ⟨[], [.box true 98 [.d (.sl ty82), .d (.sl ty82), .ow 1], .arr 63 ty63]⟩)]
  | _ => []
def verdererref14_env_atom_s7 (n : Nat) (x0 : (List ty63.D)) (x1 : Int) (x2 : (List ty82.D)) (x3 : (List ty82.D)) (x4 : (List ty63.D)) (x5 : Bool) (x6 : ByteArray) (x7 : (List ty38.D)) (x8 : Int) (k1 : (List ty63.D) → Int → (List ty82.D) → (List ty82.D) → (List ty63.D) → Bool → ByteArray → (List ty38.D) → Int → Option R) (qr : Int → (List ty82.D) → (List ty82.D) → (List ty63.D) → Option R) (qe0 : (List ty82.D) → (List ty82.D) → (List ty63.D) → Option R) : Option R :=
  if (decide (x1 < (x0.length : Int))) = true then (if (decide (x1 < (x7.length : Int))) = true then (if (0 : Int) ≤ x1 ∧ x1 < (x7.length : Int) then (if (0 : Int) ≤ x1 ∧ x1 < (x0.length : Int) then (verdererref14_env_arg_F n ((x7.getD (Int.toNat x1) (Ty.z ty38)).1, (x7.getD (Int.toNat x1) (Ty.z ty38)).2.1, ((x7.getD (Int.toNat x1) (Ty.z ty38)).2.2.1), ()) (x0.getD (Int.toNat x1) (Ty.z ty63)) (!x5) x2 x3 x4 (fun y6 y7 y8 y9 => if (y6 != 0) = true then (qr y6 y7 y8 y9) else (k1 x0 (IntKind.i64.wrap (x1 + 1)) y7 y8 y9 x5 x6 x7 x8))) else none) else none) else (qe0 x2 x3 x4)) else (qe0 x2 x3 x4)
def verdererref14_env_atom_l7 (n : Nat) (a : (verdererref14_env_atom_ds 7).D) (k1 : (verdererref14_env_atom_ds 7).D → Option R) (k2 : exK R (verdererref14_env_atom_dx 7)) : Option R :=
  verdererref14_env_atom_s7 n a.1 a.2.1 a.2.2.1 a.2.2.2.1 a.2.2.2.2.1 a.2.2.2.2.2.1 a.2.2.2.2.2.2.1 a.2.2.2.2.2.2.2.1 a.2.2.2.2.2.2.2.2.1 (fun x0 x1 x2 x3 x4 x5 x6 x7 x8 => k1 (x0, x1, x2, x3, x4, x5, x6, x7, x8, ())) (fun x0 x1 x2 x3 => k2.1 (x0, x1, x2, x3, ())) (fun x0 x1 x2 => k2.2.1 (x0, x1, x2, ()))
@[reducible] def verdererref14_env_atom_d : Desc := ⟨[(0, .pt 0 0), (1, .d ty41)], [.box true 98 [.d (.sl ty82), .d (.sl ty82), .ow 1], .arr 63 ty63]⟩
def verdererref14_env_atom_Fi (n : Nat) (a0 : ty41.D) (a1 : (List ty82.D)) (a2 : (List ty82.D)) (a3 : (List ty63.D)) (k0 : Int → (List ty82.D) → (List ty82.D) → (List ty63.D) → Option R) : Option R :=
  verdererref14_env_columns_F n a0.2.1 a1 a2 a3 (fun y1 y2 y3 y4 y5 => if (y1 != 0) = true then (k0 y1 y2 y3 y4) else (if ((y5.length : Int) != (a0.2.2.1.length : Int)) = true then (k0 9 y2 y3 y4) else (runC (verdererref14_env_atom_l7 n) n (y5, 0, y2, y3, y4, a0.1, a0.2.1, a0.2.2.1, a0.2.2.2.1, ()) (fun b13 => k0 b13.1 b13.2.1 b13.2.2.1 b13.2.2.2.1, fun b16 => k0 0 b16.1 b16.2.1 b16.2.2.1, ())))) (fun y17 y18 y19 y20 y21 => if (y18 != 0) = true then (k0 y18 y19 y20 y21) else (if ((y17.length : Int) != (a0.2.2.1.length : Int)) = true then (k0 9 y19 y20 y21) else (runC (verdererref14_env_atom_l7 n) n (y17, 0, y19, y20, y21, a0.1, a0.2.1, a0.2.2.1, a0.2.2.2.1, ()) (fun b25 => k0 b25.1 b25.2.1 b25.2.2.1 b25.2.2.2.1, fun b28 => k0 0 b28.1 b28.2.1 b28.2.2.1, ()))))
def verdererref14_env_atom_F {R : Type} := lazyN (@verdererref14_env_atom_Fi R)
theorem verdererref14_env_atom_e : @verdererref14_env_atom_F R = @verdererref14_env_atom_Fi R := lazyN_eq _
def verdererref14_env_atom_g (n : Nat) : Gx R := typed 2 verdererref14_env_atom_d fun x k => verdererref14_env_atom_F n x.1 x.2.1 x.2.2.1 x.2.2.2.1 (fun y0 y1 y2 y3 => k (.a (.c (.i .i64 y0))) [(.box true 98 [(.fz ty82 y1), (.fz ty82 y2), (.ow 1)]), (.arr 63 ty63 y3)])
def verdererref14_env_atom_cs (R : Type) (n : Nat) : List (Nat × Gx R) := [(81, verdererref14_env_columns_g n), (82, verdererref14_env_arg_g n)]
def verdererref14_env_atom_lp (n : Nat) : (i : Nat) → (verdererref14_env_atom_ds i).D → exK R (verdererref14_env_atom_dx i) → Option R
  | 7, a, k => runC (verdererref14_env_atom_l7 n) n a k
  | _, _, _ => none
def verdererref14_env_atom_cx (R : Type) (n : Nat) : Cx R := ⟨Try.prog, Gof (verdererref14_env_atom_cs R n), verdererref14_env_atom_ds, verdererref14_env_atom_dx, verdererref14_env_atom_lp n, drawP Try.prog (Gof (verdererref14_env_atom_cs R n)), false, noJn, (fun i => match i with | 6 => [3] | _ => [])⟩
theorem verdererref14_env_atom_ok (n : Nat) : Good Try.prog 66 (verdererref14_env_atom_g (R := R) n) := by
  unfold verdererref14_env_atom_g
  rw [verdererref14_env_atom_e]
  exact Good.fn (cx := verdererref14_env_atom_cx R n) (by kernel_rfl) (AllGood.cons (verdererref14_env_columns_ok n) (AllGood.cons (verdererref14_env_arg_ok n) (AllGood.nil))) rfl Try.func66 (by kernel_rfl) rfl (by
    have e : fnLoops noJn Try.f66 = [((fnLoops noJn Try.f66)[0]?).getD (false, .skip)] := by kernel_rfl
    show LoopRuns _ _ (fnLoops noJn _)
    rw [e]
    exact ⟨LoopRun.loop (by kernel_rfl) (i := 7) (m := n) (step := verdererref14_env_atom_l7 n) (by kernel_rfl) (fun a k1 k2 => by kernel_rfl) (fun _ _ => rfl), trivial⟩) 2 verdererref14_env_atom_d (by kernel_rfl) (fun x k => by kernel_rfl)
end
end Go.Proofs.Ytikikmkfeeljgaa.E
set_option linter.unusedVariables false
set_option maxRecDepth 100000
namespace Go.Proofs.Ytikikmkfeeljgaa.E
open Go.Proofs
noncomputable section
variable {R : Type}
/-! (*verderer/verdererref14.env).kind: function 83 -/
@[reducible] def verdererref14_env_kind_d : Desc := ⟨[(0, .pt 0 0), (1, .d ty38)], [.box true 98 [.d (.sl ty82), .d (.sl ty82), .ow 1], .arr 63 ty63]⟩
def verdererref14_env_kind_Fi (n : Nat) (a0 : ty38.D) (a1 : (List ty82.D)) (a2 : (List ty82.D)) (a3 : (List ty63.D)) (k0 : Int → (List ty82.D) → (List ty82.D) → (List ty63.D) → Option R) : Option R :=
  if a0.2.1 = true then (k0 0 a1 a2 a3) else (if (a0.1.toList == (⟨#[]⟩ : ByteArray).toList) = true then (k0 a0.2.2.1.1 a1 a2 a3) else (verdererref14_env_find_F n a0.1 a1 a2 a3 (fun y1 y2 y3 y4 => if (decide (y1 < 0)) = true then (k0 0 y2 y3 y4) else (if (0 : Int) ≤ y1 ∧ y1 < (y4.length : Int) then (if (Int.toNat y1) < y4.length then (k0 ((y4.getD (Int.toNat y1) (Ty.z ty63)).2.1) y2 y3 y4) else none) else none))))
def verdererref14_env_kind_F {R : Type} := lazyN (@verdererref14_env_kind_Fi R)
theorem verdererref14_env_kind_e : @verdererref14_env_kind_F R = @verdererref14_env_kind_Fi R := lazyN_eq _
def verdererref14_env_kind_g (n : Nat) : Gx R := typed 2 verdererref14_env_kind_d fun x k => verdererref14_env_kind_F n x.1 x.2.1 x.2.2.1 x.2.2.2.1 (fun y0 y1 y2 y3 => k (.a (.c (.i .i64 y0))) [(.box true 98 [(.fz ty82 y1), (.fz ty82 y2), (.ow 1)]), (.arr 63 ty63 y3)])
def verdererref14_env_kind_cs (R : Type) (n : Nat) : List (Nat × Gx R) := [(50, verdererref14_env_find_g n)]
def verdererref14_env_kind_cx (R : Type) (n : Nat) : Cx R := ⟨Try.prog, Gof (verdererref14_env_kind_cs R n), noDs, noDx, noLp, drawP Try.prog (Gof (verdererref14_env_kind_cs R n)), false, noJn, noFz⟩
theorem verdererref14_env_kind_ok (n : Nat) : Good Try.prog 83 (verdererref14_env_kind_g (R := R) n) := by
  unfold verdererref14_env_kind_g
  rw [verdererref14_env_kind_e]
  exact Good.fn (cx := verdererref14_env_kind_cx R n) (by kernel_rfl) (AllGood.cons (verdererref14_env_find_ok n) (AllGood.nil)) rfl Try.func83 (by kernel_rfl) rfl trivial 2 verdererref14_env_kind_d (by kernel_rfl) (fun x k => by kernel_rfl)
end
end Go.Proofs.Ytikikmkfeeljgaa.E
set_option linter.unusedVariables false
set_option maxRecDepth 100000
namespace Go.Proofs.Ytikikmkfeeljgaa.E
open Go.Proofs
noncomputable section
variable {R : Type}
/-! (*verderer/verdererref14.env).comparison: function 67 -/
@[reducible] def verdererref14_env_comparison_d : Desc := ⟨[(0, .pt 0 0), (1, .d ty41)], [.box true 98 [.d (.sl ty82), .d (.sl ty82), .ow 1], .arr 63 ty63]⟩
def verdererref14_env_comparison_Fi (n : Nat) (a0 : ty41.D) (a1 : (List ty82.D)) (a2 : (List ty82.D)) (a3 : (List ty63.D)) (k0 : Int → (List ty82.D) → (List ty82.D) → (List ty63.D) → Option R) : Option R :=
  if ((a0.2.2.1.length : Int) != 2) = true then (k0 9 a1 a2 a3) else (if (0 : Int) ≤ 0 ∧ 0 < (a0.2.2.1.length : Int) then (verdererref14_env_kind_F n ((a0.2.2.1.getD (Int.toNat 0) (Ty.z ty38)).1, (a0.2.2.1.getD (Int.toNat 0) (Ty.z ty38)).2.1, ((a0.2.2.1.getD (Int.toNat 0) (Ty.z ty38)).2.2.1), ()) a1 a2 a3 (fun y1 y2 y3 y4 => if (0 : Int) ≤ 1 ∧ 1 < (a0.2.2.1.length : Int) then (verdererref14_env_kind_F n ((a0.2.2.1.getD (Int.toNat 1) (Ty.z ty38)).1, (a0.2.2.1.getD (Int.toNat 1) (Ty.z ty38)).2.1, ((a0.2.2.1.getD (Int.toNat 1) (Ty.z ty38)).2.2.1), ()) y2 y3 y4 (fun y5 y6 y7 y8 => if (y1 != 0) = true then (if (y5 != 0) = true then (if (y1 != y5) = true then (k0 11 y6 y7 y8) else (k0 0 y6 y7 y8)) else (k0 0 y6 y7 y8)) else (k0 0 y6 y7 y8))) else none)) else none)
def verdererref14_env_comparison_F {R : Type} := lazyN (@verdererref14_env_comparison_Fi R)
theorem verdererref14_env_comparison_e : @verdererref14_env_comparison_F R = @verdererref14_env_comparison_Fi R := lazyN_eq _
def verdererref14_env_comparison_g (n : Nat) : Gx R := typed 2 verdererref14_env_comparison_d fun x k => verdererref14_env_comparison_F n x.1 x.2.1 x.2.2.1 x.2.2.2.1 (fun y0 y1 y2 y3 => k (.a (.c (.i .i64 y0))) [(.box true 98 [(.fz ty82 y1), (.fz ty82 y2), (.ow 1)]), (.arr 63 ty63 y3)])
def verdererref14_env_comparison_cs (R : Type) (n : Nat) : List (Nat × Gx R) := [(83, verdererref14_env_kind_g n)]
def verdererref14_env_comparison_cx (R : Type) (n : Nat) : Cx R := ⟨Try.prog, Gof (verdererref14_env_comparison_cs R n), noDs, noDx, noLp, drawP Try.prog (Gof (verdererref14_env_comparison_cs R n)), false, noJn, noFz⟩
theorem verdererref14_env_comparison_ok (n : Nat) : Good Try.prog 67 (verdererref14_env_comparison_g (R := R) n) := by
  unfold verdererref14_env_comparison_g
  rw [verdererref14_env_comparison_e]
  exact Good.fn (cx := verdererref14_env_comparison_cx R n) (by kernel_rfl) (AllGood.cons (verdererref14_env_kind_ok n) (AllGood.nil)) rfl Try.func67 (by kernel_rfl) rfl trivial 2 verdererref14_env_comparison_d (by kernel_rfl) (fun x k => by kernel_rfl)
end
end Go.Proofs.Ytikikmkfeeljgaa.E
set_option linter.unusedVariables false
set_option maxRecDepth 100000
namespace Go.Proofs.Ytikikmkfeeljgaa.E
open Go.Proofs
noncomputable section
variable {R : Type}
/-! verderer/verdererref14.Vars: function 49 -/
def verdererref14_Vars_ds : Nat → Desc
  | 3 => ⟨[(3, .pt 0 0), (9, .pt 3 0), (10, .d (.int .i64))], [.box false 25 [.d (.int .i64), .d .str, .d (.sl .str), .d (.int .i64), .d .str, .d (.int .i64), .d (.sl ty41)], .no, .arr 63 ty63, .box false 98 [.d (.sl ty82), .d (.sl ty82), .ow 2]]⟩
  | 10 => ⟨[(3, .pt 0 0), (9, .pt 3 0), (12, .d (.int .i64))], [.box false 25 [.d (.int .i64), .d .str, .d (.sl .str), .d (.int .i64), .d .str, .d (.int .i64), .d (.sl ty41)], .no, .arr 63 ty63, .box false 98 [.d (.sl ty82), .d (.sl ty82), .ow 2]]⟩
  | _ => ⟨[], []⟩
def verdererref14_Vars_dx : Nat → List (X × Desc)
  | 3 => [(.r, ⟨[(6, .ow 4), (7, .d (.int .i64)), (8, .d (.int .i64))], [.no, .no, .no, .no, .arr 63 ty63]⟩), (.e 0, ⟨[(3, .pt 0 0), (9, .pt 3 0)], [.box false 25 [.d (.int .i64), .d .str, .d (.sl .str), .d (.int .i64), .d .str, .d (.int .i64), .d (.sl ty41)], .no, .arr 63 ty63, .box false 98 [.d (.sl ty82), .d (.sl ty82), .ow 2]]⟩)]
  | 10 => [(.r, ⟨[(6, .ow 4), (7, .d (.int .i64)), (8, .d (.int .i64))], [.no, .no, .no, .no, .arr 63 ty63]⟩), (.e 2, ⟨[(9, .pt 3 0)], [.no, .no, .arr 63 ty63, .box false 98 [.d (.sl ty82), .d (.sl ty82), .ow 2]]⟩)]
  | _ => []
def verdererref14_Vars_s3 (n : Nat) (x0 : Int) (x1 : Int) (x2 : ByteArray) (x3 : (List ByteArray)) (x4 : Int) (x5 : ByteArray) (x6 : Int) (x7 : (List ty41.D)) (x8 : (List ty63.D)) (x9 : (List ty82.D)) (x10 : (List ty82.D)) (k1 : Int → Int → ByteArray → (List ByteArray) → Int → ByteArray → Int → (List ty41.D) → (List ty63.D) → (List ty82.D) → (List ty82.D) → Option R) (qr : Int → Int → (List ty63.D) → Option R) (qe0 : Int → ByteArray → (List ByteArray) → Int → ByteArray → Int → (List ty41.D) → (List ty63.D) → (List ty82.D) → (List ty82.D) → Option R) : Option R :=
  if (decide (x0 < (x7.length : Int))) = true then (if (0 : Int) ≤ x0 ∧ x0 < (x7.length : Int) then (if ((x7.getD (Int.toNat x0) (Ty.z ty41)).2.2.2.1 == 0) = true then (if (0 : Int) ≤ x0 ∧ x0 < (x7.length : Int) then (if (!(x7.getD (Int.toNat x0) (Ty.z ty41)).1) = true then (if (0 : Int) ≤ x0 ∧ x0 < (x7.length : Int) then (verdererref14_env_atom_F n (x7.getD (Int.toNat x0) (Ty.z ty41)) x9 x10 x8 (fun y1 y2 y3 y4 => if (y1 != 0) = true then (qr x0 y1 ([] : List ty63.D)) else (k1 (IntKind.i64.wrap (x0 + 1)) x1 x2 x3 x4 x5 x6 x7 y4 y2 y3))) else none) else (k1 (IntKind.i64.wrap (x0 + 1)) x1 x2 x3 x4 x5 x6 x7 x8 x9 x10)) else none) else (k1 (IntKind.i64.wrap (x0 + 1)) x1 x2 x3 x4 x5 x6 x7 x8 x9 x10)) else none) else (qe0 x1 x2 x3 x4 x5 x6 x7 x8 x9 x10)
def verdererref14_Vars_l3 (n : Nat) (a : (verdererref14_Vars_ds 3).D) (k1 : (verdererref14_Vars_ds 3).D → Option R) (k2 : exK R (verdererref14_Vars_dx 3)) : Option R :=
  verdererref14_Vars_s3 n a.1 a.2.1 a.2.2.1 a.2.2.2.1 a.2.2.2.2.1 a.2.2.2.2.2.1 a.2.2.2.2.2.2.1 a.2.2.2.2.2.2.2.1 a.2.2.2.2.2.2.2.2.1 a.2.2.2.2.2.2.2.2.2.1 a.2.2.2.2.2.2.2.2.2.2.1 (fun x0 x1 x2 x3 x4 x5 x6 x7 x8 x9 x10 => k1 (x0, x1, x2, x3, x4, x5, x6, x7, x8, x9, x10, ())) (fun x0 x1 x2 => k2.1 (x0, x1, x2, ())) (fun x0 x1 x2 x3 x4 x5 x6 x7 x8 x9 => k2.2.1 (x0, x1, x2, x3, x4, x5, x6, x7, x8, x9, ()))
def verdererref14_Vars_s10 (n : Nat) (x0 : Int) (x1 : Int) (x2 : ByteArray) (x3 : (List ByteArray)) (x4 : Int) (x5 : ByteArray) (x6 : Int) (x7 : (List ty41.D)) (x8 : (List ty63.D)) (x9 : (List ty82.D)) (x10 : (List ty82.D)) (k1 : Int → Int → ByteArray → (List ByteArray) → Int → ByteArray → Int → (List ty41.D) → (List ty63.D) → (List ty82.D) → (List ty82.D) → Option R) (qr : Int → Int → (List ty63.D) → Option R) (qe2 : (List ty63.D) → (List ty82.D) → (List ty82.D) → Option R) : Option R :=
  if (decide (x0 < (x7.length : Int))) = true then (if (0 : Int) ≤ x0 ∧ x0 < (x7.length : Int) then (if ((x7.getD (Int.toNat x0) (Ty.z ty41)).2.2.2.1 != 0) = true then (if (0 : Int) ≤ x0 ∧ x0 < (x7.length : Int) then (verdererref14_env_comparison_F n (x7.getD (Int.toNat x0) (Ty.z ty41)) x9 x10 x8 (fun y18 y19 y20 y21 => if (y18 != 0) = true then (qr x0 y18 ([] : List ty63.D)) else (k1 (IntKind.i64.wrap (x0 + 1)) x1 x2 x3 x4 x5 x6 x7 y21 y19 y20))) else none) else (if (0 : Int) ≤ x0 ∧ x0 < (x7.length : Int) then (if (x7.getD (Int.toNat x0) (Ty.z ty41)).1 = true then (if (0 : Int) ≤ x0 ∧ x0 < (x7.length : Int) then (verdererref14_env_atom_F n (x7.getD (Int.toNat x0) (Ty.z ty41)) x9 x10 x8 (fun y22 y23 y24 y25 => if (y22 != 0) = true then (qr x0 y22 ([] : List ty63.D)) else (k1 (IntKind.i64.wrap (x0 + 1)) x1 x2 x3 x4 x5 x6 x7 y25 y23 y24))) else none) else (if (0 != 0) = true then (qr x0 0 ([] : List ty63.D)) else (k1 (IntKind.i64.wrap (x0 + 1)) x1 x2 x3 x4 x5 x6 x7 x8 x9 x10))) else none)) else none) else (qe2 x8 x9 x10)
def verdererref14_Vars_l10 (n : Nat) (a : (verdererref14_Vars_ds 10).D) (k1 : (verdererref14_Vars_ds 10).D → Option R) (k2 : exK R (verdererref14_Vars_dx 10)) : Option R :=
  verdererref14_Vars_s10 n a.1 a.2.1 a.2.2.1 a.2.2.2.1 a.2.2.2.2.1 a.2.2.2.2.2.1 a.2.2.2.2.2.2.1 a.2.2.2.2.2.2.2.1 a.2.2.2.2.2.2.2.2.1 a.2.2.2.2.2.2.2.2.2.1 a.2.2.2.2.2.2.2.2.2.2.1 (fun x0 x1 x2 x3 x4 x5 x6 x7 x8 x9 x10 => k1 (x0, x1, x2, x3, x4, x5, x6, x7, x8, x9, x10, ())) (fun x0 x1 x2 => k2.1 (x0, x1, x2, ())) (fun x0 x1 x2 => k2.2.1 (x0, x1, x2, ()))
@[reducible] def verdererref14_Vars_d : Desc := ⟨[(0, .d ty25), (1, .d (.sl ty82)), (2, .d (.sl ty82))], []⟩
def verdererref14_Vars_Fi (n : Nat) (a0 : ty25.D) (a1 : (List ty82.D)) (a2 : (List ty82.D)) (k0 : Int → Int → (List ty63.D) → Option R) : Option R :=
  runC (verdererref14_Vars_l3 n) n (0, a0.1, a0.2.1, a0.2.2.1, a0.2.2.2.1, a0.2.2.2.2.1, a0.2.2.2.2.2.1, a0.2.2.2.2.2.2.1, ([] : List ty63.D), a1, a2, ()) (fun b7 => k0 b7.1 b7.2.1 b7.2.2.1, fun b17 => runC (verdererref14_Vars_l10 n) n (0, b17.1, b17.2.1, b17.2.2.1, b17.2.2.2.1, b17.2.2.2.2.1, b17.2.2.2.2.2.1, b17.2.2.2.2.2.2.1, b17.2.2.2.2.2.2.2.1, b17.2.2.2.2.2.2.2.2.1, b17.2.2.2.2.2.2.2.2.2.1, ()) (fun b28 => k0 b28.1 b28.2.1 b28.2.2.1, fun b31 => k0 0 0 b31.1, ()), ())
def verdererref14_Vars_F {R : Type} := lazyN (@verdererref14_Vars_Fi R)
theorem verdererref14_Vars_e : @verdererref14_Vars_F R = @verdererref14_Vars_Fi R := lazyN_eq _
def verdererref14_Vars_g (n : Nat) : Gx R := typed 3 verdererref14_Vars_d fun x k => verdererref14_Vars_F n x.1 x.2.1 x.2.2.1 (fun y0 y1 y2 => k (.tu [(.c (.ow 0)), (.c (.i .i64 y0)), (.c (.i .i64 y1))]) [(.arr 63 ty63 y2)])
def verdererref14_Vars_cs (R : Type) (n : Nat) : List (Nat × Gx R) := [(66, verdererref14_env_atom_g n), (67, verdererref14_env_comparison_g n)]
def verdererref14_Vars_lp (n : Nat) : (i : Nat) → (verdererref14_Vars_ds i).D → exK R (verdererref14_Vars_dx i) → Option R
  | 3, a, k => runC (verdererref14_Vars_l3 n) n a k
  | 10, a, k => runC (verdererref14_Vars_l10 n) n a k
  | _, _, _ => none
def verdererref14_Vars_cx (R : Type) (n : Nat) : Cx R := ⟨Try.prog, Gof (verdererref14_Vars_cs R n), verdererref14_Vars_ds, verdererref14_Vars_dx, verdererref14_Vars_lp n, drawP Try.prog (Gof (verdererref14_Vars_cs R n)), false, noJn, noFz⟩
theorem verdererref14_Vars_ok (n : Nat) : Good Try.prog 49 (verdererref14_Vars_g (R := R) n) := by
  unfold verdererref14_Vars_g
  rw [verdererref14_Vars_e]
  exact Good.fn (cx := verdererref14_Vars_cx R n) (by kernel_rfl) (AllGood.cons (verdererref14_env_atom_ok n) (AllGood.cons (verdererref14_env_comparison_ok n) (AllGood.nil))) rfl Try.func49 (by kernel_rfl) rfl (by
    have e : fnLoops noJn Try.f49 = [((fnLoops noJn Try.f49)[0]?).getD (false, .skip), ((fnLoops noJn Try.f49)[1]?).getD (false, .skip)] := by kernel_rfl
    show LoopRuns _ _ (fnLoops noJn _)
    rw [e]
    exact ⟨LoopRun.loop (by kernel_rfl) (i := 3) (m := n) (step := verdererref14_Vars_l3 n) (by kernel_rfl) (fun a k1 k2 => by kernel_rfl) (fun _ _ => rfl), ⟨LoopRun.loop (by kernel_rfl) (i := 10) (m := n) (step := verdererref14_Vars_l10 n) (by kernel_rfl) (fun a k1 k2 => by kernel_rfl) (fun _ _ => rfl), trivial⟩⟩) 3 verdererref14_Vars_d (by kernel_rfl) (fun x k => by kernel_rfl)
end
end Go.Proofs.Ytikikmkfeeljgaa.E
set_option linter.unusedVariables false
set_option maxRecDepth 100000
namespace Go.Proofs.Ytikikmkfeeljgaa.E
open Go.Proofs
noncomputable section
variable {R : Type}
/-! (*verderer/verdererref14.env).find: function 50 -/
def verdererref14_env_find_v1_ds : Nat → Desc
  | 2 => ⟨[(0, .pt 0 0), (1, .d .str), (5, .d (.int .i64))], [.box true 98 [.ow 1, .ow 2, .ow 3], .arr 82 ty82, .arr 82 ty82, .arr 63 ty63]⟩
  | _ => ⟨[], []⟩
def verdererref14_env_find_v1_dx : Nat → List (X × Desc)
  | 2 => [(.r, ⟨[(4, .d (.int .i64))], [.box true 98 [.ow 1, .ow 2, .ow 3], .arr 82 ty82, .arr 82 ty82, .arr 63 ty63]⟩), (.e 0, ⟨[], [.box true 98 [.ow 1, .ow 2, .ow 3], .arr 82 ty82, .arr 82 ty82, .arr 63 ty63]⟩)]
  | _ => []
def verdererref14_env_find_v1_s2 (n : Nat) (x0 : ByteArray) (x1 : Int) (x2 : (List ty82.D)) (x3 : (List ty82.D)) (x4 : (List ty63.D)) (k1 : ByteArray → Int → (List ty82.D) → (List ty82.D) → (List ty63.D) → Option R) (qr : Int → (List ty82.D) → (List ty82.D) → (List ty63.D) → Option R) (qe0 : (List ty82.D) → (List ty82.D) → (List ty63.D) → Option R) : Option R :=
  if (decide (x1 < (x4.length : Int))) = true then (if (0 : Int) ≤ x1 ∧ x1 < (x4.length : Int) then (if (Int.toNat x1) < x4.length then (if (((x4.getD (Int.toNat x1) (Ty.z ty63)).1).toList == x0.toList) = true then (qr x1 x2 x3 x4) else (k1 x0 (IntKind.i64.wrap (x1 + 1)) x2 x3 x4)) else none) else none) else (qe0 x2 x3 x4)
def verdererref14_env_find_v1_l2 (n : Nat) (a : (verdererref14_env_find_v1_ds 2).D) (k1 : (verdererref14_env_find_v1_ds 2).D → Option R) (k2 : exK R (verdererref14_env_find_v1_dx 2)) : Option R :=
  verdererref14_env_find_v1_s2 n a.1 a.2.1 a.2.2.1 a.2.2.2.1 a.2.2.2.2.1 (fun x0 x1 x2 x3 x4 => k1 (x0, x1, x2, x3, x4, ())) (fun x0 x1 x2 x3 => k2.1 (x0, x1, x2, x3, ())) (fun x0 x1 x2 => k2.2.1 (x0, x1, x2, ()))
@[reducible] def verdererref14_env_find_v1_d : Desc := ⟨[(0, .pt 0 0), (1, .d .str)], [.box true 98 [.ow 1, .ow 2, .ow 3], .arr 82 ty82, .arr 82 ty82, .arr 63 ty63]⟩
def verdererref14_env_find_v1_Fi (n : Nat) (a0 : ByteArray) (a1 : (List ty82.D)) (a2 : (List ty82.D)) (a3 : (List ty63.D)) (k0 : Int → (List ty82.D) → (List ty82.D) → (List ty63.D) → Option R) : Option R :=
  runC (verdererref14_env_find_v1_l2 n) n (a0, 0, a1, a2, a3, ()) (fun b4 => k0 b4.1 b4.2.1 b4.2.2.1 b4.2.2.2.1, fun b7 => k0 (-1) b7.1 b7.2.1 b7.2.2.1, ())
def verdererref14_env_find_v1_F {R : Type} := lazyN (@verdererref14_env_find_v1_Fi R)
theorem verdererref14_env_find_v1_e : @verdererref14_env_find_v1_F R = @verdererref14_env_find_v1_Fi R := lazyN_eq _
def verdererref14_env_find_v1_g (n : Nat) : Gx R := typed 2 verdererref14_env_find_v1_d fun x k => verdererref14_env_find_v1_F n x.1 x.2.1 x.2.2.1 x.2.2.2.1 (fun y0 y1 y2 y3 => k (.a (.c (.i .i64 y0))) [(.box true 98 [(.ow 1), (.ow 2), (.ow 3)]), (.arr 82 ty82 y1), (.arr 82 ty82 y2), (.arr 63 ty63 y3)])
def verdererref14_env_find_v1_cs (R : Type) (n : Nat) : List (Nat × Gx R) := []
def verdererref14_env_find_v1_lp (n : Nat) : (i : Nat) → (verdererref14_env_find_v1_ds i).D → exK R (verdererref14_env_find_v1_dx i) → Option R
  | 2, a, k => runC (verdererref14_env_find_v1_l2 n) n a k
  | _, _, _ => none
def verdererref14_env_find_v1_cx (R : Type) (n : Nat) : Cx R := ⟨Try.prog, Gof (verdererref14_env_find_v1_cs R n), verdererref14_env_find_v1_ds, verdererref14_env_find_v1_dx, verdererref14_env_find_v1_lp n, drawP Try.prog (Gof (verdererref14_env_find_v1_cs R n)), false, noJn, noFz⟩
theorem verdererref14_env_find_v1_ok (n : Nat) : Good Try.prog 50 (verdererref14_env_find_v1_g (R := R) n) := by
  unfold verdererref14_env_find_v1_g
  rw [verdererref14_env_find_v1_e]
  exact Good.fn (cx := verdererref14_env_find_v1_cx R n) (by kernel_rfl) (AllGood.nil) rfl Try.func50 (by kernel_rfl) rfl (by
    have e : fnLoops noJn Try.f50 = [((fnLoops noJn Try.f50)[0]?).getD (false, .skip)] := by kernel_rfl
    show LoopRuns _ _ (fnLoops noJn _)
    rw [e]
    exact ⟨LoopRun.loop (by kernel_rfl) (i := 2) (m := n) (step := verdererref14_env_find_v1_l2 n) (by kernel_rfl) (fun a k1 k2 => by kernel_rfl) (fun _ _ => rfl), trivial⟩) 2 verdererref14_env_find_v1_d (by kernel_rfl) (fun x k => by kernel_rfl)
end
end Go.Proofs.Ytikikmkfeeljgaa.E
set_option linter.unusedVariables false
set_option maxRecDepth 100000
namespace Go.Proofs.Ytikikmkfeeljgaa.E
open Go.Proofs
noncomputable section
variable {R : Type}
/-! (*verderer/verdererref14.env).find: function 50 -/
def verdererref14_env_find_v2_ds : Nat → Desc
  | 2 => ⟨[(0, .pt 0 0), (1, .d .str), (5, .d (.int .i64))], [.box true 98 [.ow 1, .ow 2, .d (.sl ty63)], .arr 82 ty82, .arr 82 ty82]⟩
  | _ => ⟨[], []⟩
def verdererref14_env_find_v2_dx : Nat → List (X × Desc)
  | 2 => [(.r, ⟨[(4, .d (.int .i64))], [.box true 98 [.ow 1, .ow 2, .d (.sl ty63)], .arr 82 ty82, .arr 82 ty82]⟩), (.e 0, ⟨[], [.box true 98 [.ow 1, .ow 2, .d (.sl ty63)], .arr 82 ty82, .arr 82 ty82]⟩)]
  | _ => []
def verdererref14_env_find_v2_s2 (n : Nat) (x0 : ByteArray) (x1 : Int) (x2 : (List ty63.D)) (x3 : (List ty82.D)) (x4 : (List ty82.D)) (k1 : ByteArray → Int → (List ty63.D) → (List ty82.D) → (List ty82.D) → Option R) (qr : Int → (List ty63.D) → (List ty82.D) → (List ty82.D) → Option R) (qe0 : (List ty63.D) → (List ty82.D) → (List ty82.D) → Option R) : Option R :=
  if (decide (x1 < (x2.length : Int))) = true then (if (0 : Int) ≤ x1 ∧ x1 < (x2.length : Int) then (if (((x2.getD (Int.toNat x1) (Ty.z ty63)).1).toList == x0.toList) = true then (qr x1 x2 x3 x4) else (k1 x0 (IntKind.i64.wrap (x1 + 1)) x2 x3 x4)) else none) else (qe0 x2 x3 x4)
def verdererref14_env_find_v2_l2 (n : Nat) (a : (verdererref14_env_find_v2_ds 2).D) (k1 : (verdererref14_env_find_v2_ds 2).D → Option R) (k2 : exK R (verdererref14_env_find_v2_dx 2)) : Option R :=
  verdererref14_env_find_v2_s2 n a.1 a.2.1 a.2.2.1 a.2.2.2.1 a.2.2.2.2.1 (fun x0 x1 x2 x3 x4 => k1 (x0, x1, x2, x3, x4, ())) (fun x0 x1 x2 x3 => k2.1 (x0, x1, x2, x3, ())) (fun x0 x1 x2 => k2.2.1 (x0, x1, x2, ()))
@[reducible] def verdererref14_env_find_v2_d : Desc := ⟨[(0, .pt 0 0), (1, .d .str)], [.box true 98 [.ow 1, .ow 2, .d (.sl ty63)], .arr 82 ty82, .arr 82 ty82]⟩
def verdererref14_env_find_v2_Fi (n : Nat) (a0 : ByteArray) (a1 : (List ty63.D)) (a2 : (List ty82.D)) (a3 : (List ty82.D)) (k0 : Int → (List ty63.D) → (List ty82.D) → (List ty82.D) → Option R) : Option R :=
  runC (verdererref14_env_find_v2_l2 n) n (a0, 0, a1, a2, a3, ()) (fun b4 => k0 b4.1 b4.2.1 b4.2.2.1 b4.2.2.2.1, fun b7 => k0 (-1) b7.1 b7.2.1 b7.2.2.1, ())
def verdererref14_env_find_v2_F {R : Type} := lazyN (@verdererref14_env_find_v2_Fi R)
theorem verdererref14_env_find_v2_e : @verdererref14_env_find_v2_F R = @verdererref14_env_find_v2_Fi R := lazyN_eq _
def verdererref14_env_find_v2_g (n : Nat) : Gx R := typed 2 verdererref14_env_find_v2_d fun x k => verdererref14_env_find_v2_F n x.1 x.2.1 x.2.2.1 x.2.2.2.1 (fun y0 y1 y2 y3 => k (.a (.c (.i .i64 y0))) [(.box true 98 [(.ow 1), (.ow 2), (.fz ty63 y1)]), (.arr 82 ty82 y2), (.arr 82 ty82 y3)])
def verdererref14_env_find_v2_cs (R : Type) (n : Nat) : List (Nat × Gx R) := []
def verdererref14_env_find_v2_lp (n : Nat) : (i : Nat) → (verdererref14_env_find_v2_ds i).D → exK R (verdererref14_env_find_v2_dx i) → Option R
  | 2, a, k => runC (verdererref14_env_find_v2_l2 n) n a k
  | _, _, _ => none
def verdererref14_env_find_v2_cx (R : Type) (n : Nat) : Cx R := ⟨Try.prog, Gof (verdererref14_env_find_v2_cs R n), verdererref14_env_find_v2_ds, verdererref14_env_find_v2_dx, verdererref14_env_find_v2_lp n, drawP Try.prog (Gof (verdererref14_env_find_v2_cs R n)), false, noJn, noFz⟩
theorem verdererref14_env_find_v2_ok (n : Nat) : Good Try.prog 50 (verdererref14_env_find_v2_g (R := R) n) := by
  unfold verdererref14_env_find_v2_g
  rw [verdererref14_env_find_v2_e]
  exact Good.fn (cx := verdererref14_env_find_v2_cx R n) (by kernel_rfl) (AllGood.nil) rfl Try.func50 (by kernel_rfl) rfl (by
    have e : fnLoops noJn Try.f50 = [((fnLoops noJn Try.f50)[0]?).getD (false, .skip)] := by kernel_rfl
    show LoopRuns _ _ (fnLoops noJn _)
    rw [e]
    exact ⟨LoopRun.loop (by kernel_rfl) (i := 2) (m := n) (step := verdererref14_env_find_v2_l2 n) (by kernel_rfl) (fun a k1 k2 => by kernel_rfl) (fun _ _ => rfl), trivial⟩) 2 verdererref14_env_find_v2_d (by kernel_rfl) (fun x k => by kernel_rfl)
end
end Go.Proofs.Ytikikmkfeeljgaa.E
set_option linter.unusedVariables false
set_option maxRecDepth 100000
namespace Go.Proofs.Ytikikmkfeeljgaa.E
open Go.Proofs
noncomputable section
variable {R : Type}
/-! verderer/verdererref14.Head: function 22 -/
def verdererref14_Head_ds : Nat → Desc
  | 7 => ⟨[(3, .pt 0 0), (9, .d (.sl ty63)), (12, .pt 5 0), (13, .ow 6), (14, .d (.int .i64))], [.box false 25 [.d (.int .i64), .d .str, .d (.sl .str), .d (.int .i64), .d .str, .d (.int .i64), .d (.sl ty41)], .no, .no, .arr 82 ty82, .arr 82 ty82, .box false 98 [.ow 3, .ow 4, .d (.sl ty63)], .arr 63 ty63]⟩
  | 1000019 => ⟨[(3, .pt 0 0), (13, .ow 6)], [.box false 25 [.d (.int .i64), .d .str, .d (.sl .str), .d (.int .i64), .d .str, .d (.int .i64), .d (.sl ty41)], .no, .no, .no, .no, .no, .arr 63 ty63]⟩
  | _ => ⟨[], []⟩
def verdererref14_Head_dx : Nat → List (X × Desc)
  | 7 => [(.r, ⟨[(6, .ow 7), (7, .d (.int .i64)), (8, .d (.int .i64))], [.no, .no, .no, .no, .no, .no, .no, .arr 63 ty63]⟩), (.e 0, ⟨[(3, .pt 0 0), (9, .d (.sl ty63)), (12, .pt 5 0), (13, .ow 6)], [.box false 25 [.d (.int .i64), .d .str, .d (.sl .str), .d (.int .i64), .d .str, .d (.int .i64), .d (.sl ty41)], .no, .no, .arr 82 ty82, .arr 82 ty82, .box false 98 [.ow 3, .ow 4, .d (.sl ty63)], .arr 63 ty63]⟩)]
  | 1000019 => [(.r, ⟨[(6, .ow 7), (7, .d (.int .i64)), (8, .d (.int .i64))], [.no, .no, .no, .no, .no, .no, .no, .arr 63 ty63]⟩), (.r, ⟨[(6, .ow 6), (7, .d (.int .i64)), (8, .d (.int .i64))], [.no, .no, .no, .no, .no, .no, .arr 63 ty63]⟩)]
  | _ => []
def verdererref14_Head_s7 (n : Nat) (x0 : (List ty63.D)) (x1 : Int) (x2 : Int) (x3 : ByteArray) (x4 : (List ByteArray)) (x5 : Int) (x6 : ByteArray) (x7 : Int) (x8 : (List ty41.D)) (x9 : (List ty82.D)) (x10 : (List ty82.D)) (x11 : (List ty63.D)) (x12 : (List ty63.D)) (k1 : (List ty63.D) → Int → Int → ByteArray → (List ByteArray) → Int → ByteArray → Int → (List ty41.D) → (List ty82.D) → (List ty82.D) → (List ty63.D) → (List ty63.D) → Option R) (qr : Int → Int → (List ty63.D) → Option R) (qe0 : (List ty63.D) → Int → ByteArray → (List ByteArray) → Int → ByteArray → Int → (List ty41.D) → (List ty82.D) → (List ty82.D) → (List ty63.D) → (List ty63.D) → Option R) : Option R :=
  if (decide (x1 < (x4.length : Int))) = true then (if (0 : Int) ≤ x1 ∧ x1 < (x4.length : Int) then (verdererref14_env_find_v2_F n (x4.getD (Int.toNat x1) (Ty.z .str)) x11 x9 x10 (fun y4 y5 y6 y7 => if (decide (y4 < 0)) = true then (qr (-1) 12 ([] : List ty63.D)) else (if (0 : Int) ≤ y4 ∧ y4 < (x0.length : Int) then (if (List.length x12 + List.length [(x0.getD (Int.toNat y4) (Ty.z ty63))]) * 32 ≤ 140737488355328 then (k1 x0 (IntKind.i64.wrap (x1 + 1)) x2 x3 x4 x5 x6 x7 x8 y6 y7 y5 (x12 ++ [(x0.getD (Int.toNat y4) (Ty.z ty63))])) else none) else none))) else none) else (qe0 x0 x2 x3 x4 x5 x6 x7 x8 x9 x10 x11 x12)
def verdererref14_Head_l7 (n : Nat) (a : (verdererref14_Head_ds 7).D) (k1 : (verdererref14_Head_ds 7).D → Option R) (k2 : exK R (verdererref14_Head_dx 7)) : Option R :=
  verdererref14_Head_s7 n a.1 a.2.1 a.2.2.1 a.2.2.2.1 a.2.2.2.2.1 a.2.2.2.2.2.1 a.2.2.2.2.2.2.1 a.2.2.2.2.2.2.2.1 a.2.2.2.2.2.2.2.2.1 a.2.2.2.2.2.2.2.2.2.1 a.2.2.2.2.2.2.2.2.2.2.1 a.2.2.2.2.2.2.2.2.2.2.2.1 a.2.2.2.2.2.2.2.2.2.2.2.2.1 (fun x0 x1 x2 x3 x4 x5 x6 x7 x8 x9 x10 x11 x12 => k1 (x0, x1, x2, x3, x4, x5, x6, x7, x8, x9, x10, x11, x12, ())) (fun x0 x1 x2 => k2.1 (x0, x1, x2, ())) (fun x0 x1 x2 x3 x4 x5 x6 x7 x8 x9 x10 x11 => k2.2.1 (x0, x1, x2, x3, x4, x5, x6, x7, x8, x9, x10, x11, ()))
def verdererref14_Head_s1000019 (n : Nat) (x0 : Int) (x1 : ByteArray) (x2 : (List ByteArray)) (x3 : Int) (x4 : ByteArray) (x5 : Int) (x6 : (List ty41.D)) (x7 : (List ty63.D)) (qr : Int → Int → (List ty63.D) → Option R) (qr_1 : Int → Int → (List ty63.D) → Option R) : Option R :=
  if (x0 == 3) = true then (if (decide ((x7.length : Int) > 0)) = true then (if (0 : Int) ≤ 0 ∧ 0 < (x7.length : Int) then (if (Int.toNat 0) < x7.length then (if ((x7.getD (Int.toNat 0) (Ty.z ty63)).2.1 != 3) = true then (qr (-1) 11 ([] : List ty63.D)) else (if (0 : Int) ≤ 0 ∧ 0 < (x7.length : Int) then (if (Int.toNat 0) < x7.length then (if (x7.getD (Int.toNat 0) (Ty.z ty63)).2.2.1 = true then (qr (-1) 11 ([] : List ty63.D)) else (if (x3 == 1) = true then (if (List.length x7 + List.length [((⟨#[99, 111, 117, 110, 116]⟩ : ByteArray), 2, false, ())]) * 32 ≤ 140737488355328 then (if (decide (x3 ≥ 2)) = true then (if (List.length (x7 ++ [((⟨#[99, 111, 117, 110, 116]⟩ : ByteArray), 2, false, ())]) + List.length [(x4, 2, false, ())]) * 32 ≤ 140737488355328 then (qr_1 0 0 ((x7 ++ [((⟨#[99, 111, 117, 110, 116]⟩ : ByteArray), 2, false, ())]) ++ [(x4, 2, false, ())])) else none) else (qr_1 0 0 (x7 ++ [((⟨#[99, 111, 117, 110, 116]⟩ : ByteArray), 2, false, ())]))) else none) else (if (decide (x3 ≥ 2)) = true then (if (List.length x7 + List.length [(x4, 2, false, ())]) * 32 ≤ 140737488355328 then (qr_1 0 0 (x7 ++ [(x4, 2, false, ())])) else none) else (qr_1 0 0 x7)))) else none) else none)) else none) else none) else (if (x3 == 1) = true then (if (List.length x7 + List.length [((⟨#[99, 111, 117, 110, 116]⟩ : ByteArray), 2, false, ())]) * 32 ≤ 140737488355328 then (if (decide (x3 ≥ 2)) = true then (if (List.length (x7 ++ [((⟨#[99, 111, 117, 110, 116]⟩ : ByteArray), 2, false, ())]) + List.length [(x4, 2, false, ())]) * 32 ≤ 140737488355328 then (qr_1 0 0 ((x7 ++ [((⟨#[99, 111, 117, 110, 116]⟩ : ByteArray), 2, false, ())]) ++ [(x4, 2, false, ())])) else none) else (qr_1 0 0 (x7 ++ [((⟨#[99, 111, 117, 110, 116]⟩ : ByteArray), 2, false, ())]))) else none) else (if (decide (x3 ≥ 2)) = true then (if (List.length x7 + List.length [(x4, 2, false, ())]) * 32 ≤ 140737488355328 then (qr_1 0 0 (x7 ++ [(x4, 2, false, ())])) else none) else (qr_1 0 0 x7)))) else (if (x3 == 1) = true then (if (List.length x7 + List.length [((⟨#[99, 111, 117, 110, 116]⟩ : ByteArray), 2, false, ())]) * 32 ≤ 140737488355328 then (if (decide (x3 ≥ 2)) = true then (if (List.length (x7 ++ [((⟨#[99, 111, 117, 110, 116]⟩ : ByteArray), 2, false, ())]) + List.length [(x4, 2, false, ())]) * 32 ≤ 140737488355328 then (qr_1 0 0 ((x7 ++ [((⟨#[99, 111, 117, 110, 116]⟩ : ByteArray), 2, false, ())]) ++ [(x4, 2, false, ())])) else none) else (qr_1 0 0 (x7 ++ [((⟨#[99, 111, 117, 110, 116]⟩ : ByteArray), 2, false, ())]))) else none) else (if (decide (x3 ≥ 2)) = true then (if (List.length x7 + List.length [(x4, 2, false, ())]) * 32 ≤ 140737488355328 then (qr_1 0 0 (x7 ++ [(x4, 2, false, ())])) else none) else (qr_1 0 0 x7)))
def verdererref14_Head_li1000019 (n : Nat) (a : (verdererref14_Head_ds 1000019).D) (k2 : exK R (verdererref14_Head_dx 1000019)) : Option R :=
  verdererref14_Head_s1000019 n a.1 a.2.1 a.2.2.1 a.2.2.2.1 a.2.2.2.2.1 a.2.2.2.2.2.1 a.2.2.2.2.2.2.1 a.2.2.2.2.2.2.2.1 (fun x0 x1 x2 => k2.1 (x0, x1, x2, ())) (fun x0 x1 x2 => k2.2.1 (x0, x1, x2, ()))
def verdererref14_Head_l1000019 {R : Type} := lazyN (@verdererref14_Head_li1000019 R)
theorem verdererref14_Head_e1000019 : @verdererref14_Head_l1000019 R = @verdererref14_Head_li1000019 R := lazyN_eq _
@[reducible] def verdererref14_Head_d : Desc := ⟨[(0, .d ty25), (1, .d (.sl ty82)), (2, .d (.sl ty82))], []⟩
def verdererref14_Head_Fi (n : Nat) (a0 : ty25.D) (a1 : (List ty82.D)) (a2 : (List ty82.D)) (k0 : Int → Int → (List ty63.D) → Option R) : Option R :=
  verdererref14_Vars_F n a0 a1 a2 (fun y1 y2 y3 => if (y2 != 0) = true then (k0 y1 y2 ([] : List ty63.D)) else (runC (verdererref14_Head_l7 n) n (y3, 0, a0.1, a0.2.1, a0.2.2.1, a0.2.2.2.1, a0.2.2.2.2.1, a0.2.2.2.2.2.1, a0.2.2.2.2.2.2.1, ([] : List ty82.D), ([] : List ty82.D), y3, ([] : List ty63.D), ()) (fun b10 => k0 b10.1 b10.2.1 b10.2.2.1, fun b22 => if (decide (b22.2.2.2.2.1 ≥ 2)) = true then (verdererref14_env_find_v2_F n b22.2.2.2.2.2.1 b22.2.2.2.2.2.2.2.2.2.2.1 b22.2.2.2.2.2.2.2.2.1 b22.2.2.2.2.2.2.2.2.2.1 (fun y23 y24 y25 y26 => if (decide (y23 < 0)) = true then (k0 (-1) 12 ([] : List ty63.D)) else (if (0 : Int) ≤ y23 ∧ y23 < (b22.1.length : Int) then (if ((b22.1.getD (Int.toNat y23) (Ty.z ty63)).2.1 != 2) = true then (k0 (-1) 11 ([] : List ty63.D)) else (if (0 : Int) ≤ y23 ∧ y23 < (b22.1.length : Int) then (if (b22.1.getD (Int.toNat y23) (Ty.z ty63)).2.2.1 = true then (k0 (-1) 11 ([] : List ty63.D)) else (verdererref14_Head_l1000019 n (b22.2.1, b22.2.2.1, b22.2.2.2.1, b22.2.2.2.2.1, b22.2.2.2.2.2.1, b22.2.2.2.2.2.2.1, b22.2.2.2.2.2.2.2.1, b22.2.2.2.2.2.2.2.2.2.2.2.1, ()) (fun b29 => k0 b29.1 b29.2.1 b29.2.2.1, fun b32 => k0 b32.1 b32.2.1 b32.2.2.1, ()))) else none)) else none))) else (verdererref14_Head_l1000019 n (b22.2.1, b22.2.2.1, b22.2.2.2.1, b22.2.2.2.2.1, b22.2.2.2.2.2.1, b22.2.2.2.2.2.2.1, b22.2.2.2.2.2.2.2.1, b22.2.2.2.2.2.2.2.2.2.2.2.1, ()) (fun b35 => k0 b35.1 b35.2.1 b35.2.2.1, fun b38 => k0 b38.1 b38.2.1 b38.2.2.1, ())), ())))
def verdererref14_Head_F {R : Type} := lazyN (@verdererref14_Head_Fi R)
theorem verdererref14_Head_e : @verdererref14_Head_F R = @verdererref14_Head_Fi R := lazyN_eq _
def verdererref14_Head_g (n : Nat) : Gx R := typed 3 verdererref14_Head_d fun x k => verdererref14_Head_F n x.1 x.2.1 x.2.2.1 (fun y0 y1 y2 => k (.tu [(.c (.ow 0)), (.c (.i .i64 y0)), (.c (.i .i64 y1))]) [(.arr 63 ty63 y2)])
def verdererref14_Head_cs (R : Type) (n : Nat) : List (Nat × Gx R) := [(49, verdererref14_Vars_g n), (50, verdererref14_env_find_v2_g n)]
def verdererref14_Head_lp (n : Nat) : (i : Nat) → (verdererref14_Head_ds i).D → exK R (verdererref14_Head_dx i) → Option R
  | 7, a, k => runC (verdererref14_Head_l7 n) n a k
  | 1000019, a, k => verdererref14_Head_l1000019 n a k
  | _, _, _ => none
def verdererref14_Head_cx (R : Type) (n : Nat) : Cx R := ⟨Try.prog, Gof (verdererref14_Head_cs R n), verdererref14_Head_ds, verdererref14_Head_dx, verdererref14_Head_lp n, drawP Try.prog (Gof (verdererref14_Head_cs R n)), false, (memN [19]), (fun i => match i with | 2 => [2] | _ => [])⟩
theorem verdererref14_Head_ok (n : Nat) : Good Try.prog 22 (verdererref14_Head_g (R := R) n) := by
  unfold verdererref14_Head_g
  rw [verdererref14_Head_e]
  exact Good.fn (cx := verdererref14_Head_cx R n) (by kernel_rfl) (AllGood.cons (verdererref14_Vars_ok n) (AllGood.cons (verdererref14_env_find_v2_ok n) (AllGood.nil))) rfl Try.func22 (by kernel_rfl) rfl (by
    have e : fnLoops (memN [19]) Try.f22 = [((fnLoops (memN [19]) Try.f22)[0]?).getD (false, .skip), ((fnLoops (memN [19]) Try.f22)[1]?).getD (false, .skip)] := by kernel_rfl
    show LoopRuns _ _ (fnLoops (memN [19]) _)
    rw [e]
    exact ⟨LoopRun.loop (by kernel_rfl) (i := 7) (m := n) (step := verdererref14_Head_l7 n) (by kernel_rfl) (fun a k1 k2 => by kernel_rfl) (fun _ _ => rfl), ⟨LoopRun.joinS (by kernel_rfl) (i := 19) (L := verdererref14_Head_l1000019 n) (Li := verdererref14_Head_li1000019 n) (by rw [verdererref14_Head_e1000019]) (by kernel_rfl) (fun a k => by kernel_rfl) (fun a k => by kernel_rfl), trivial⟩⟩) 3 verdererref14_Head_d (by kernel_rfl) (fun x k => by kernel_rfl)
end
end Go.Proofs.Ytikikmkfeeljgaa.E
set_option linter.unusedVariables false
set_option maxRecDepth 100000
namespace Go.Proofs.Ytikikmkfeeljgaa.E
open Go.Proofs
noncomputable section
variable {R : Type}
/-! verderer/verdererlaw14.TypesKinds: function 5 -/
@[reducible] def verdererlaw14_TypesKinds_d : Desc := ⟨[(0, .d (.sl ty82)), (1, .d .str)], []⟩
def verdererlaw14_TypesKinds_Fi (n : Nat) (a0 : (List ty82.D)) (a1 : ByteArray) (k0 : Bool → Option R) : Option R :=
  if (decide ((a0.length : Int) > 20)) = true then (verdererlaw14_known_F n (fun y1 => k0 y1)) else (if (decide ((a1.size : Int) > 1000)) = true then (verdererlaw14_known_F n (fun y2 => k0 y2)) else (verdererref12_Rule_F n a1 (fun y3 y4 y5 y6 y7 y8 y9 y10 y11 => schema_New_F n a0 (fun y12 => if (y12 != 0) = true then (verdererref07_Check_F n a0 (fun y13 => if (y13 == y12) = true then (verdererlaw14_known_F n (fun y14 => k0 y14)) else (k0 false))) else (types_Head_F n (y3, y4, y10, y5, y6, y7, y11, ()) [] (fun y15 y16 y17 => verdererref14_Head_F n (y3, y4, y10, y5, y6, y7, y11, ()) a0 [] (fun y18 y19 y20 => verdererref14_Same_F n y17 y20 (fun y21 => if y21 = true then (if (y15 == y18) = true then (if (y16 == y19) = true then (verdererlaw14_known_F n (fun y22 => k0 y22)) else (k0 false)) else (k0 false)) else (k0 false)))))) (fun y23 y24 => if (y23 != 0) = true then (verdererref07_Check_F n a0 (fun y25 => if (y25 == y23) = true then (verdererlaw14_known_F n (fun y26 => k0 y26)) else (k0 false))) else (types_Head_v1_F n (y3, y4, y10, y5, y6, y7, y11, ()) [] y24 (fun y27 y28 y29 y30 => verdererref14_Head_F n (y3, y4, y10, y5, y6, y7, y11, ()) a0 [] (fun y31 y32 y33 => verdererref14_Same_F n y30 y33 (fun y34 => if y34 = true then (if (y27 == y31) = true then (if (y28 == y32) = true then (verdererlaw14_known_F n (fun y35 => k0 y35)) else (k0 false)) else (k0 false)) else (k0 false)))))))))
def verdererlaw14_TypesKinds_F {R : Type} := lazyN (@verdererlaw14_TypesKinds_Fi R)
theorem verdererlaw14_TypesKinds_e : @verdererlaw14_TypesKinds_F R = @verdererlaw14_TypesKinds_Fi R := lazyN_eq _
def verdererlaw14_TypesKinds_g (n : Nat) : Gx R := typed 2 verdererlaw14_TypesKinds_d fun x k => verdererlaw14_TypesKinds_F n x.1 x.2.1 (fun y0 => k (.a (.c (.b y0))) [])
def verdererlaw14_TypesKinds_cs (R : Type) (n : Nat) : List (Nat × Gx R) := [(17, verdererlaw14_known_g n), (18, verdererref12_Rule_g n), (19, schema_New_g n), (20, verdererref07_Check_g n), (21, orG (types_Head_g n) (types_Head_v1_g n) (fits 3 types_Head_d)), (22, verdererref14_Head_g n), (23, verdererref14_Same_g n)]
def verdererlaw14_TypesKinds_cx (R : Type) (n : Nat) : Cx R := ⟨Try.prog, Gof (verdererlaw14_TypesKinds_cs R n), noDs, noDx, noLp, drawP Try.prog (Gof (verdererlaw14_TypesKinds_cs R n)), false, noJn, noFz⟩
theorem verdererlaw14_TypesKinds_ok (n : Nat) : Good Try.prog 5 (verdererlaw14_TypesKinds_g (R := R) n) := by
  unfold verdererlaw14_TypesKinds_g
  rw [verdererlaw14_TypesKinds_e]
  exact Good.fn (cx := verdererlaw14_TypesKinds_cx R n) (by kernel_rfl) (AllGood.cons (verdererlaw14_known_ok n) (AllGood.cons (verdererref12_Rule_ok n) (AllGood.cons (schema_New_ok n) (AllGood.cons (verdererref07_Check_ok n) (AllGood.cons (Good.or (types_Head_ok n) (types_Head_v1_ok n) _) (AllGood.cons (verdererref14_Head_ok n) (AllGood.cons (verdererref14_Same_ok n) (AllGood.nil)))))))) rfl Try.func5 (by kernel_rfl) rfl trivial 2 verdererlaw14_TypesKinds_d (by kernel_rfl) (fun x k => by kernel_rfl)
end
end Go.Proofs.Ytikikmkfeeljgaa.E
set_option linter.unusedVariables false
set_option maxRecDepth 100000
namespace Go.Proofs.Ytikikmkfeeljgaa.E
open Go.Proofs
noncomputable section
variable {R : Type}
/-! verderer/verdererref13.Few: function 8 -/
def verdererref13_Few_ds : Nat → Desc
  | 4 => ⟨[(1, .pt 0 0), (3, .d (.int .i64))], [.box false 25 [.d (.int .i64), .d .str, .d (.sl .str), .d (.int .i64), .d .str, .d (.int .i64), .d (.sl ty41)]]⟩
  | 14 => ⟨[(1, .pt 0 0), (4, .d (.int .i64)), (5, .d (.int .i64)), (56, .pt 0 6), (57, .d (.sl ty41)), (58, .d (.int .i64)), (61, .d .str), (62, .d (.int .i64)), (63, .d .bool)], [.box false 25 [.d (.int .i64), .d .str, .d (.sl .str), .d (.int .i64), .d .str, .d (.int .i64), .d (.sl ty41)]]⟩
  | 9 => ⟨[(1, .pt 0 0), (4, .d (.int .i64))], [.box false 25 [.d (.int .i64), .d .str, .d (.sl .str), .d (.int .i64), .d .str, .d (.int .i64), .d (.sl ty41)]]⟩
  | _ => ⟨[], []⟩
def verdererref13_Few_dx : Nat → List (X × Desc)
  | 4 => [(.r, ⟨[(2, .d .bool)], []⟩), (.e 0, ⟨[(1, .pt 0 0)], [.box false 25 [.d (.int .i64), .d .str, .d (.sl .str), .d (.int .i64), .d .str, .d (.int .i64), .d (.sl ty41)]]⟩)]
  | 14 => [(.r, ⟨[(2, .d .bool)], []⟩), (.e 4, ⟨[(1, .pt 0 0), (4, .d (.int .i64)), (56, .pt 0 6), (57, .d (.sl ty41)), (58, .d (.int .i64)), (61, .d .str), (62, .d (.int .i64)), (63, .d .bool)], [.box false 25 [.d (.int .i64), .d .str, .d (.sl .str), .d (.int .i64), .d .str, .d (.int .i64), .d (.sl ty41)]]⟩)]
  | 9 => [(.r, ⟨[(2, .d .bool)], []⟩), (.e 2, ⟨[], []⟩)]
  | _ => []
def verdererref13_Few_s4 (n : Nat) (x0 : Int) (x1 : Int) (x2 : ByteArray) (x3 : (List ByteArray)) (x4 : Int) (x5 : ByteArray) (x6 : Int) (x7 : (List ty41.D)) (k1 : Int → Int → ByteArray → (List ByteArray) → Int → ByteArray → Int → (List ty41.D) → Option R) (qr : Bool → Option R) (qe0 : Int → ByteArray → (List ByteArray) → Int → ByteArray → Int → (List ty41.D) → Option R) : Option R :=
  if (decide (x0 < (x3.length : Int))) = true then (if (0 : Int) ≤ x0 ∧ x0 < (x3.length : Int) then (if (decide (((x3.getD (Int.toNat x0) (Ty.z .str)).size : Int) > 400)) = true then (qr false) else (k1 (IntKind.i64.wrap (x0 + 1)) x1 x2 x3 x4 x5 x6 x7)) else none) else (qe0 x1 x2 x3 x4 x5 x6 x7)
def verdererref13_Few_l4 (n : Nat) (a : (verdererref13_Few_ds 4).D) (k1 : (verdererref13_Few_ds 4).D → Option R) (k2 : exK R (verdererref13_Few_dx 4)) : Option R :=
  verdererref13_Few_s4 n a.1 a.2.1 a.2.2.1 a.2.2.2.1 a.2.2.2.2.1 a.2.2.2.2.2.1 a.2.2.2.2.2.2.1 a.2.2.2.2.2.2.2.1 (fun x0 x1 x2 x3 x4 x5 x6 x7 => k1 (x0, x1, x2, x3, x4, x5, x6, x7, ())) (fun x0 => k2.1 (x0, ())) (fun x0 x1 x2 x3 x4 x5 x6 => k2.2.1 (x0, x1, x2, x3, x4, x5, x6, ()))
def verdererref13_Few_s14 (n : Nat) (x0 : Int) (x1 : Int) (x2 : (List ty41.D)) (x3 : Int) (x4 : ByteArray) (x5 : Int) (x6 : Bool) (x7 : Int) (x8 : ByteArray) (x9 : (List ByteArray)) (x10 : Int) (x11 : ByteArray) (x12 : Int) (x13 : (List ty41.D)) (k1 : Int → Int → (List ty41.D) → Int → ByteArray → Int → Bool → Int → ByteArray → (List ByteArray) → Int → ByteArray → Int → (List ty41.D) → Option R) (qr : Bool → Option R) (qe4 : Int → (List ty41.D) → Int → ByteArray → Int → Bool → Int → ByteArray → (List ByteArray) → Int → ByteArray → Int → (List ty41.D) → Option R) : Option R :=
  if (0 : Int) ≤ x0 ∧ x0 < (x13.length : Int) then (if (decide (x1 < (((x13.getD (Int.toNat x0) (Ty.z ty41)).2.2.1).length : Int))) = true then (if (0 : Int) ≤ x0 ∧ x0 < (x13.length : Int) then (if (0 : Int) ≤ x1 ∧ x1 < (((x13.getD (Int.toNat x0) (Ty.z ty41)).2.2.1).length : Int) then (if (decide ((((((x13.getD (Int.toNat x0) (Ty.z ty41)).2.2.1).getD (Int.toNat x1) (Ty.z ty38)).1).size : Int) > 400)) = true then (qr false) else (k1 x0 (IntKind.i64.wrap (x1 + 1)) x2 x3 x4 x5 x6 x7 x8 x9 x10 x11 x12 x13)) else none) else none) else (qe4 x0 x2 x3 x4 x5 x6 x7 x8 x9 x10 x11 x12 x13)) else none
def verdererref13_Few_l14 (n : Nat) (a : (verdererref13_Few_ds 14).D) (k1 : (verdererref13_Few_ds 14).D → Option R) (k2 : exK R (verdererref13_Few_dx 14)) : Option R :=
  verdererref13_Few_s14 n a.1 a.2.1 a.2.2.1 a.2.2.2.1 a.2.2.2.2.1 a.2.2.2.2.2.1 a.2.2.2.2.2.2.1 a.2.2.2.2.2.2.2.1 a.2.2.2.2.2.2.2.2.1 a.2.2.2.2.2.2.2.2.2.1 a.2.2.2.2.2.2.2.2.2.2.1 a.2.2.2.2.2.2.2.2.2.2.2.1 a.2.2.2.2.2.2.2.2.2.2.2.2.1 a.2.2.2.2.2.2.2.2.2.2.2.2.2.1 (fun x0 x1 x2 x3 x4 x5 x6 x7 x8 x9 x10 x11 x12 x13 => k1 (x0, x1, x2, x3, x4, x5, x6, x7, x8, x9, x10, x11, x12, x13, ())) (fun x0 => k2.1 (x0, ())) (fun x0 x1 x2 x3 x4 x5 x6 x7 x8 x9 x10 x11 x12 => k2.2.1 (x0, x1, x2, x3, x4, x5, x6, x7, x8, x9, x10, x11, x12, ()))
def verdererref13_Few_s9 (n : Nat) (x0 : Int) (x1 : Int) (x2 : ByteArray) (x3 : (List ByteArray)) (x4 : Int) (x5 : ByteArray) (x6 : Int) (x7 : (List ty41.D)) (k1 : Int → Int → ByteArray → (List ByteArray) → Int → ByteArray → Int → (List ty41.D) → Option R) (qr : Bool → Option R) (qe2 : Option R) : Option R :=
  if (decide (x0 < (x7.length : Int))) = true then (if (0 : Int) ≤ x0 ∧ x0 < (x7.length : Int) then (if (decide ((((x7.getD (Int.toNat x0) (Ty.z ty41)).2.2.1).length : Int) > 100)) = true then (qr false) else (if (0 : Int) ≤ x0 ∧ x0 < (x7.length : Int) then (if (decide ((((x7.getD (Int.toNat x0) (Ty.z ty41)).2.1).size : Int) > 400)) = true then (qr false) else (runC (verdererref13_Few_l14 n) n (x0, 0, x7, x0, (x7.getD (Int.toNat x0) (Ty.z ty41)).2.1, (((x7.getD (Int.toNat x0) (Ty.z ty41)).2.1).size : Int), (decide ((((x7.getD (Int.toNat x0) (Ty.z ty41)).2.1).size : Int) > 400)), x1, x2, x3, x4, x5, x6, x7, ()) (fun b9 => qr b9.1, fun b22 => k1 (IntKind.i64.wrap (b22.1 + 1)) b22.2.2.2.2.2.2.1 b22.2.2.2.2.2.2.2.1 b22.2.2.2.2.2.2.2.2.1 b22.2.2.2.2.2.2.2.2.2.1 b22.2.2.2.2.2.2.2.2.2.2.1 b22.2.2.2.2.2.2.2.2.2.2.2.1 b22.2.2.2.2.2.2.2.2.2.2.2.2.1, ()))) else none)) else none) else qe2
def verdererref13_Few_l9 (n : Nat) (a : (verdererref13_Few_ds 9).D) (k1 : (verdererref13_Few_ds 9).D → Option R) (k2 : exK R (verdererref13_Few_dx 9)) : Option R :=
  verdererref13_Few_s9 n a.1 a.2.1 a.2.2.1 a.2.2.2.1 a.2.2.2.2.1 a.2.2.2.2.2.1 a.2.2.2.2.2.2.1 a.2.2.2.2.2.2.2.1 (fun x0 x1 x2 x3 x4 x5 x6 x7 => k1 (x0, x1, x2, x3, x4, x5, x6, x7, ())) (fun x0 => k2.1 (x0, ())) (k2.2.1 (()))
@[reducible] def verdererref13_Few_d : Desc := ⟨[(0, .d ty25)], []⟩
def verdererref13_Few_Fi (n : Nat) (a0 : ty25.D) (k0 : Bool → Option R) : Option R :=
  if (decide ((a0.2.2.1.length : Int) > 100)) = true then (k0 false) else (if (decide ((a0.2.2.2.2.2.2.1.length : Int) > 40)) = true then (k0 false) else (if (decide ((IntKind.i64.wrap ((a0.2.1.size : Int) + (a0.2.2.2.2.1.size : Int))) > 400)) = true then (k0 false) else (runC (verdererref13_Few_l4 n) n (0, a0.1, a0.2.1, a0.2.2.1, a0.2.2.2.1, a0.2.2.2.2.1, a0.2.2.2.2.2.1, a0.2.2.2.2.2.2.1, ()) (fun b1 => k0 b1.1, fun b8 => runC (verdererref13_Few_l9 n) n (0, b8.1, b8.2.1, b8.2.2.1, b8.2.2.2.1, b8.2.2.2.2.1, b8.2.2.2.2.2.1, b8.2.2.2.2.2.2.1, ()) (fun b23 => k0 b23.1, fun b23 => k0 true, ()), ()))))
def verdererref13_Few_F {R : Type} := lazyN (@verdererref13_Few_Fi R)
theorem verdererref13_Few_e : @verdererref13_Few_F R = @verdererref13_Few_Fi R := lazyN_eq _
def verdererref13_Few_g (n : Nat) : Gx R := typed 1 verdererref13_Few_d fun x k => verdererref13_Few_F n x.1 (fun y0 => k (.a (.c (.b y0))) [])
def verdererref13_Few_cs (R : Type) (n : Nat) : List (Nat × Gx R) := []
def verdererref13_Few_lp (n : Nat) : (i : Nat) → (verdererref13_Few_ds i).D → exK R (verdererref13_Few_dx i) → Option R
  | 4, a, k => runC (verdererref13_Few_l4 n) n a k
  | 14, a, k => runC (verdererref13_Few_l14 n) n a k
  | 9, a, k => runC (verdererref13_Few_l9 n) n a k
  | _, _, _ => none
def verdererref13_Few_cx (R : Type) (n : Nat) : Cx R := ⟨Try.prog, Gof (verdererref13_Few_cs R n), verdererref13_Few_ds, verdererref13_Few_dx, verdererref13_Few_lp n, drawP Try.prog (Gof (verdererref13_Few_cs R n)), false, noJn, noFz⟩
theorem verdererref13_Few_ok (n : Nat) : Good Try.prog 8 (verdererref13_Few_g (R := R) n) := by
  unfold verdererref13_Few_g
  rw [verdererref13_Few_e]
  exact Good.fn (cx := verdererref13_Few_cx R n) (by kernel_rfl) (AllGood.nil) rfl Try.func8 (by kernel_rfl) rfl (by
    have e : fnLoops noJn Try.f8 = [((fnLoops noJn Try.f8)[0]?).getD (false, .skip), ((fnLoops noJn Try.f8)[1]?).getD (false, .skip), ((fnLoops noJn Try.f8)[2]?).getD (false, .skip)] := by kernel_rfl
    show LoopRuns _ _ (fnLoops noJn _)
    rw [e]
    exact ⟨LoopRun.loop (by kernel_rfl) (i := 4) (m := n) (step := verdererref13_Few_l4 n) (by kernel_rfl) (fun a k1 k2 => by kernel_rfl) (fun _ _ => rfl), ⟨LoopRun.loop (by kernel_rfl) (i := 9) (m := n) (step := verdererref13_Few_l9 n) (by kernel_rfl) (fun a k1 k2 => by kernel_rfl) (fun _ _ => rfl), ⟨LoopRun.loop (by kernel_rfl) (i := 14) (m := n) (step := verdererref13_Few_l14 n) (by kernel_rfl) (fun a k1 k2 => by kernel_rfl) (fun _ _ => rfl), trivial⟩⟩⟩) 1 verdererref13_Few_d (by kernel_rfl) (fun x k => by kernel_rfl)
end
end Go.Proofs.Ytikikmkfeeljgaa.E
set_option linter.unusedVariables false
set_option maxRecDepth 100000
namespace Go.Proofs.Ytikikmkfeeljgaa.E
open Go.Proofs
noncomputable section
variable {R : Type}
/-! verderer/verdererlaw14.few: function 24 -/
def verdererlaw14_few_ds : Nat → Desc
  | 9 => ⟨[(0, .d (.sl ty82)), (3, .d (.int .i64)), (4, .d (.int .i64))], []⟩
  | 4 => ⟨[(0, .d (.sl ty82)), (3, .d (.int .i64))], []⟩
  | _ => ⟨[], []⟩
def verdererlaw14_few_dx : Nat → List (X × Desc)
  | 9 => [(.r, ⟨[(2, .d .bool)], []⟩), (.e 2, ⟨[(0, .d (.sl ty82)), (3, .d (.int .i64))], []⟩)]
  | 4 => [(.r, ⟨[(2, .d .bool)], []⟩), (.e 0, ⟨[], []⟩)]
  | _ => []
def verdererlaw14_few_s9 (n : Nat) (x0 : (List ty82.D)) (x1 : Int) (x2 : Int) (k1 : (List ty82.D) → Int → Int → Option R) (qr : Bool → Option R) (qe2 : (List ty82.D) → Int → Option R) : Option R :=
  if (0 : Int) ≤ x1 ∧ x1 < (x0.length : Int) then (if (decide (x2 < (((x0.getD (Int.toNat x1) (Ty.z ty82)).2.1).length : Int))) = true then (if (0 : Int) ≤ x1 ∧ x1 < (x0.length : Int) then (if (0 : Int) ≤ x2 ∧ x2 < (((x0.getD (Int.toNat x1) (Ty.z ty82)).2.1).length : Int) then (if (decide ((((x0.getD (Int.toNat x1) (Ty.z ty82)).2.1).getD (Int.toNat x2) (Ty.z ty63)).2.1 < 1)) = true then (qr false) else (if (0 : Int) ≤ x1 ∧ x1 < (x0.length : Int) then (if (0 : Int) ≤ x2 ∧ x2 < (((x0.getD (Int.toNat x1) (Ty.z ty82)).2.1).length : Int) then (if (decide ((((x0.getD (Int.toNat x1) (Ty.z ty82)).2.1).getD (Int.toNat x2) (Ty.z ty63)).2.1 > 3)) = true then (qr false) else (k1 x0 x1 (IntKind.i64.wrap (x2 + 1)))) else none) else none)) else none) else none) else (qe2 x0 x1)) else none
def verdererlaw14_few_l9 (n : Nat) (a : (verdererlaw14_few_ds 9).D) (k1 : (verdererlaw14_few_ds 9).D → Option R) (k2 : exK R (verdererlaw14_few_dx 9)) : Option R :=
  verdererlaw14_few_s9 n a.1 a.2.1 a.2.2.1 (fun x0 x1 x2 => k1 (x0, x1, x2, ())) (fun x0 => k2.1 (x0, ())) (fun x0 x1 => k2.2.1 (x0, x1, ()))
def verdererlaw14_few_s4 (n : Nat) (x0 : (List ty82.D)) (x1 : Int) (k1 : (List ty82.D) → Int → Option R) (qr : Bool → Option R) (qe0 : Option R) : Option R :=
  if (decide (x1 < (x0.length : Int))) = true then (if (0 : Int) ≤ x1 ∧ x1 < (x0.length : Int) then (if (decide ((((x0.getD (Int.toNat x1) (Ty.z ty82)).2.1).length : Int) > 60)) = true then (qr false) else (runC (verdererlaw14_few_l9 n) n (x0, x1, 0, ()) (fun b1 => qr b1.1, fun b3 => k1 b3.1 (IntKind.i64.wrap (b3.2.1 + 1)), ()))) else none) else qe0
def verdererlaw14_few_l4 (n : Nat) (a : (verdererlaw14_few_ds 4).D) (k1 : (verdererlaw14_few_ds 4).D → Option R) (k2 : exK R (verdererlaw14_few_dx 4)) : Option R :=
  verdererlaw14_few_s4 n a.1 a.2.1 (fun x0 x1 => k1 (x0, x1, ())) (fun x0 => k2.1 (x0, ())) (k2.2.1 (()))
@[reducible] def verdererlaw14_few_d : Desc := ⟨[(0, .d (.sl ty82))], []⟩
def verdererlaw14_few_Fi (n : Nat) (a0 : (List ty82.D)) (k0 : Bool → Option R) : Option R :=
  if (decide ((a0.length : Int) > 20)) = true then (k0 false) else (runC (verdererlaw14_few_l4 n) n (a0, 0, ()) (fun b4 => k0 b4.1, fun b4 => k0 true, ()))
def verdererlaw14_few_F {R : Type} := lazyN (@verdererlaw14_few_Fi R)
theorem verdererlaw14_few_e : @verdererlaw14_few_F R = @verdererlaw14_few_Fi R := lazyN_eq _
def verdererlaw14_few_g (n : Nat) : Gx R := typed 1 verdererlaw14_few_d fun x k => verdererlaw14_few_F n x.1 (fun y0 => k (.a (.c (.b y0))) [])
def verdererlaw14_few_cs (R : Type) (n : Nat) : List (Nat × Gx R) := []
def verdererlaw14_few_lp (n : Nat) : (i : Nat) → (verdererlaw14_few_ds i).D → exK R (verdererlaw14_few_dx i) → Option R
  | 9, a, k => runC (verdererlaw14_few_l9 n) n a k
  | 4, a, k => runC (verdererlaw14_few_l4 n) n a k
  | _, _, _ => none
def verdererlaw14_few_cx (R : Type) (n : Nat) : Cx R := ⟨Try.prog, Gof (verdererlaw14_few_cs R n), verdererlaw14_few_ds, verdererlaw14_few_dx, verdererlaw14_few_lp n, drawP Try.prog (Gof (verdererlaw14_few_cs R n)), false, noJn, noFz⟩
theorem verdererlaw14_few_ok (n : Nat) : Good Try.prog 24 (verdererlaw14_few_g (R := R) n) := by
  unfold verdererlaw14_few_g
  rw [verdererlaw14_few_e]
  exact Good.fn (cx := verdererlaw14_few_cx R n) (by kernel_rfl) (AllGood.nil) rfl Try.func24 (by kernel_rfl) rfl (by
    have e : fnLoops noJn Try.f24 = [((fnLoops noJn Try.f24)[0]?).getD (false, .skip), ((fnLoops noJn Try.f24)[1]?).getD (false, .skip)] := by kernel_rfl
    show LoopRuns _ _ (fnLoops noJn _)
    rw [e]
    exact ⟨LoopRun.loop (by kernel_rfl) (i := 4) (m := n) (step := verdererlaw14_few_l4 n) (by kernel_rfl) (fun a k1 k2 => by kernel_rfl) (fun _ _ => rfl), ⟨LoopRun.loop (by kernel_rfl) (i := 9) (m := n) (step := verdererlaw14_few_l9 n) (by kernel_rfl) (fun a k1 k2 => by kernel_rfl) (fun _ _ => rfl), trivial⟩⟩) 1 verdererlaw14_few_d (by kernel_rfl) (fun x k => by kernel_rfl)
end
end Go.Proofs.Ytikikmkfeeljgaa.E
set_option linter.unusedVariables false
set_option maxRecDepth 100000
namespace Go.Proofs.Ytikikmkfeeljgaa.E
open Go.Proofs
noncomputable section
variable {R : Type}
/-! verderer/verdererlaw14.TypesOrder: function 6 -/
def verdererlaw14_TypesOrder_ds : Nat → Desc
  | 7 => ⟨[(1, .d (.sl ty82)), (2, .pt 0 0), (5, .pt 2 0), (6, .d (.int .i64)), (7, .pt 6 0), (8, .d (.int .i64))], [.box false 25 [.d (.int .i64), .d .str, .d (.sl .str), .d (.int .i64), .d .str, .d (.int .i64), .d (.sl ty41)], .no, .box false 80 [.ow 3], .arr 82 ty82, .no, .no, .box false 25 [.d (.int .i64), .d .str, .d (.sl .str), .d (.int .i64), .d .str, .d (.int .i64), .ow 7], .arr 41 ty41]⟩
  | 12 => ⟨[(1, .d (.sl ty82)), (2, .pt 0 0), (5, .pt 2 0), (6, .d (.int .i64)), (7, .pt 6 0), (9, .d (.int .i64))], [.box false 25 [.d (.int .i64), .d .str, .d (.sl .str), .d (.int .i64), .d .str, .d (.int .i64), .d (.sl ty41)], .no, .box false 80 [.ow 3], .arr 82 ty82, .no, .no, .box false 25 [.d (.int .i64), .d .str, .d (.sl .str), .d (.int .i64), .d .str, .d (.int .i64), .ow 7], .arr 41 ty41]⟩
  | 1000003 => ⟨[(1, .d (.sl ty82)), (2, .pt 0 0)], [.box false 25 [.d (.int .i64), .d .str, .d (.sl .str), .d (.int .i64), .d .str, .d (.int .i64), .d (.sl ty41)]]⟩
  | _ => ⟨[], []⟩
def verdererlaw14_TypesOrder_dx : Nat → List (X × Desc)
  | 7 => [(.e 0, ⟨[(1, .d (.sl ty82)), (2, .pt 0 0), (5, .pt 2 0), (6, .d (.int .i64)), (7, .pt 6 0)], [.box false 25 [.d (.int .i64), .d .str, .d (.sl .str), .d (.int .i64), .d .str, .d (.int .i64), .d (.sl ty41)], .no, .box false 80 [.ow 3], .arr 82 ty82, .no, .no, .box false 25 [.d (.int .i64), .d .str, .d (.sl .str), .d (.int .i64), .d .str, .d (.int .i64), .ow 7], .arr 41 ty41]⟩)]
  | 12 => [(.e 2, ⟨[(1, .d (.sl ty82)), (2, .pt 0 0), (5, .pt 2 0), (6, .d (.int .i64)), (7, .pt 6 0)], [.box false 25 [.d (.int .i64), .d .str, .d (.sl .str), .d (.int .i64), .d .str, .d (.int .i64), .d (.sl ty41)], .no, .box false 80 [.ow 3], .arr 82 ty82, .no, .no, .box false 25 [.d (.int .i64), .d .str, .d (.sl .str), .d (.int .i64), .d .str, .d (.int .i64), .ow 7], .arr 41 ty41]⟩)]
  | 1000003 => [(.r, ⟨[(4, .d .bool)], []⟩)]
  | _ => []
def verdererlaw14_TypesOrder_s7 (n : Nat) (x0 : (List ty82.D)) (x1 : Int) (x2 : Int) (x3 : Int) (x4 : ByteArray) (x5 : (List ByteArray)) (x6 : Int) (x7 : ByteArray) (x8 : Int) (x9 : (List ty41.D)) (x10 : (List ty82.D)) (x11 : Int) (x12 : ByteArray) (x13 : (List ByteArray)) (x14 : Int) (x15 : ByteArray) (x16 : Int) (x17 : (List ty41.D)) (k1 : (List ty82.D) → Int → Int → Int → ByteArray → (List ByteArray) → Int → ByteArray → Int → (List ty41.D) → (List ty82.D) → Int → ByteArray → (List ByteArray) → Int → ByteArray → Int → (List ty41.D) → Option R) (qe0 : (List ty82.D) → Int → Int → ByteArray → (List ByteArray) → Int → ByteArray → Int → (List ty41.D) → (List ty82.D) → Int → ByteArray → (List ByteArray) → Int → ByteArray → Int → (List ty41.D) → Option R) : Option R :=
  if (decide (x2 < (x9.length : Int))) = true then (if (0 : Int) ≤ x2 ∧ x2 < (x9.length : Int) then (if ((x9.getD (Int.toNat x2) (Ty.z ty41)).2.2.2.1 == 0) = true then (if (0 : Int) ≤ x2 ∧ x2 < (x9.length : Int) then (if (!(x9.getD (Int.toNat x2) (Ty.z ty41)).1) = true then (if (0 : Int) ≤ x2 ∧ x2 < (x9.length : Int) then (if (List.length x17 + List.length [(x9.getD (Int.toNat x2) (Ty.z ty41))]) * 56 ≤ 140737488355328 then (k1 x0 x1 (IntKind.i64.wrap (x2 + 1)) x3 x4 x5 x6 x7 x8 x9 x10 x11 x12 x13 x14 x15 x16 (x17 ++ [(x9.getD (Int.toNat x2) (Ty.z ty41))])) else none) else none) else (k1 x0 x1 (IntKind.i64.wrap (x2 + 1)) x3 x4 x5 x6 x7 x8 x9 x10 x11 x12 x13 x14 x15 x16 x17)) else none) else (k1 x0 x1 (IntKind.i64.wrap (x2 + 1)) x3 x4 x5 x6 x7 x8 x9 x10 x11 x12 x13 x14 x15 x16 x17)) else none) else (qe0 x0 x1 x3 x4 x5 x6 x7 x8 x9 x10 x11 x12 x13 x14 x15 x16 x17)
def verdererlaw14_TypesOrder_l7 (n : Nat) (a : (verdererlaw14_TypesOrder_ds 7).D) (k1 : (verdererlaw14_TypesOrder_ds 7).D → Option R) (k2 : exK R (verdererlaw14_TypesOrder_dx 7)) : Option R :=
  verdererlaw14_TypesOrder_s7 n a.1 a.2.1 a.2.2.1 a.2.2.2.1 a.2.2.2.2.1 a.2.2.2.2.2.1 a.2.2.2.2.2.2.1 a.2.2.2.2.2.2.2.1 a.2.2.2.2.2.2.2.2.1 a.2.2.2.2.2.2.2.2.2.1 a.2.2.2.2.2.2.2.2.2.2.1 a.2.2.2.2.2.2.2.2.2.2.2.1 a.2.2.2.2.2.2.2.2.2.2.2.2.1 a.2.2.2.2.2.2.2.2.2.2.2.2.2.1 a.2.2.2.2.2.2.2.2.2.2.2.2.2.2.1 a.2.2.2.2.2.2.2.2.2.2.2.2.2.2.2.1 a.2.2.2.2.2.2.2.2.2.2.2.2.2.2.2.2.1 a.2.2.2.2.2.2.2.2.2.2.2.2.2.2.2.2.2.1 (fun x0 x1 x2 x3 x4 x5 x6 x7 x8 x9 x10 x11 x12 x13 x14 x15 x16 x17 => k1 (x0, x1, x2, x3, x4, x5, x6, x7, x8, x9, x10, x11, x12, x13, x14, x15, x16, x17, ())) (fun x0 x1 x2 x3 x4 x5 x6 x7 x8 x9 x10 x11 x12 x13 x14 x15 x16 => k2.1 (x0, x1, x2, x3, x4, x5, x6, x7, x8, x9, x10, x11, x12, x13, x14, x15, x16, ()))
def verdererlaw14_TypesOrder_s12 (n : Nat) (x0 : (List ty82.D)) (x1 : Int) (x2 : Int) (x3 : Int) (x4 : ByteArray) (x5 : (List ByteArray)) (x6 : Int) (x7 : ByteArray) (x8 : Int) (x9 : (List ty41.D)) (x10 : (List ty82.D)) (x11 : Int) (x12 : ByteArray) (x13 : (List ByteArray)) (x14 : Int) (x15 : ByteArray) (x16 : Int) (x17 : (List ty41.D)) (k1 : (List ty82.D) → Int → Int → Int → ByteArray → (List ByteArray) → Int → ByteArray → Int → (List ty41.D) → (List ty82.D) → Int → ByteArray → (List ByteArray) → Int → ByteArray → Int → (List ty41.D) → Option R) (qe2 : (List ty82.D) → Int → Int → ByteArray → (List ByteArray) → Int → ByteArray → Int → (List ty41.D) → (List ty82.D) → Int → ByteArray → (List ByteArray) → Int → ByteArray → Int → (List ty41.D) → Option R) : Option R :=
  if (decide (x2 > 0)) = true then (if (0 : Int) ≤ (IntKind.i64.wrap (x2 - 1)) ∧ (IntKind.i64.wrap (x2 - 1)) < (x9.length : Int) then (if ((x9.getD (Int.toNat (IntKind.i64.wrap (x2 - 1))) (Ty.z ty41)).2.2.2.1 != 0) = true then (if (0 : Int) ≤ (IntKind.i64.wrap (x2 - 1)) ∧ (IntKind.i64.wrap (x2 - 1)) < (x9.length : Int) then (if (List.length x17 + List.length [(x9.getD (Int.toNat (IntKind.i64.wrap (x2 - 1))) (Ty.z ty41))]) * 56 ≤ 140737488355328 then (k1 x0 x1 (IntKind.i64.wrap (x2 - 1)) x3 x4 x5 x6 x7 x8 x9 x10 x11 x12 x13 x14 x15 x16 (x17 ++ [(x9.getD (Int.toNat (IntKind.i64.wrap (x2 - 1))) (Ty.z ty41))])) else none) else none) else (if (0 : Int) ≤ (IntKind.i64.wrap (x2 - 1)) ∧ (IntKind.i64.wrap (x2 - 1)) < (x9.length : Int) then (if (x9.getD (Int.toNat (IntKind.i64.wrap (x2 - 1))) (Ty.z ty41)).1 = true then (if (0 : Int) ≤ (IntKind.i64.wrap (x2 - 1)) ∧ (IntKind.i64.wrap (x2 - 1)) < (x9.length : Int) then (if (List.length x17 + List.length [(x9.getD (Int.toNat (IntKind.i64.wrap (x2 - 1))) (Ty.z ty41))]) * 56 ≤ 140737488355328 then (k1 x0 x1 (IntKind.i64.wrap (x2 - 1)) x3 x4 x5 x6 x7 x8 x9 x10 x11 x12 x13 x14 x15 x16 (x17 ++ [(x9.getD (Int.toNat (IntKind.i64.wrap (x2 - 1))) (Ty.z ty41))])) else none) else none) else (k1 x0 x1 (IntKind.i64.wrap (x2 - 1)) x3 x4 x5 x6 x7 x8 x9 x10 x11 x12 x13 x14 x15 x16 x17)) else none)) else none) else (qe2 x0 x1 x3 x4 x5 x6 x7 x8 x9 x10 x11 x12 x13 x14 x15 x16 x17)
def verdererlaw14_TypesOrder_l12 (n : Nat) (a : (verdererlaw14_TypesOrder_ds 12).D) (k1 : (verdererlaw14_TypesOrder_ds 12).D → Option R) (k2 : exK R (verdererlaw14_TypesOrder_dx 12)) : Option R :=
  verdererlaw14_TypesOrder_s12 n a.1 a.2.1 a.2.2.1 a.2.2.2.1 a.2.2.2.2.1 a.2.2.2.2.2.1 a.2.2.2.2.2.2.1 a.2.2.2.2.2.2.2.1 a.2.2.2.2.2.2.2.2.1 a.2.2.2.2.2.2.2.2.2.1 a.2.2.2.2.2.2.2.2.2.2.1 a.2.2.2.2.2.2.2.2.2.2.2.1 a.2.2.2.2.2.2.2.2.2.2.2.2.1 a.2.2.2.2.2.2.2.2.2.2.2.2.2.1 a.2.2.2.2.2.2.2.2.2.2.2.2.2.2.1 a.2.2.2.2.2.2.2.2.2.2.2.2.2.2.2.1 a.2.2.2.2.2.2.2.2.2.2.2.2.2.2.2.2.1 a.2.2.2.2.2.2.2.2.2.2.2.2.2.2.2.2.2.1 (fun x0 x1 x2 x3 x4 x5 x6 x7 x8 x9 x10 x11 x12 x13 x14 x15 x16 x17 => k1 (x0, x1, x2, x3, x4, x5, x6, x7, x8, x9, x10, x11, x12, x13, x14, x15, x16, x17, ())) (fun x0 x1 x2 x3 x4 x5 x6 x7 x8 x9 x10 x11 x12 x13 x14 x15 x16 => k2.1 (x0, x1, x2, x3, x4, x5, x6, x7, x8, x9, x10, x11, x12, x13, x14, x15, x16, ()))
def verdererlaw14_TypesOrder_s1000003 (n : Nat) (x0 : (List ty82.D)) (x1 : Int) (x2 : ByteArray) (x3 : (List ByteArray)) (x4 : Int) (x5 : ByteArray) (x6 : Int) (x7 : (List ty41.D)) (qr : Bool → Option R) : Option R :=
  verdererlaw08_Kinds_F n (fun y5 => schema_New_F n y5 (fun y6 => none) (fun y7 y8 => runC (verdererlaw14_TypesOrder_l7 n) n (x0, y7, 0, x1, x2, x3, x4, x5, x6, x7, y8, x1, x2, x3, x4, x5, x6, ([] : List ty41.D), ()) (fun b25 => runC (verdererlaw14_TypesOrder_l12 n) n (b25.1, b25.2.1, (b25.2.2.2.2.2.2.2.2.1.length : Int), b25.2.2.1, b25.2.2.2.1, b25.2.2.2.2.1, b25.2.2.2.2.2.1, b25.2.2.2.2.2.2.1, b25.2.2.2.2.2.2.2.1, b25.2.2.2.2.2.2.2.2.1, b25.2.2.2.2.2.2.2.2.2.1, b25.2.2.2.2.2.2.2.2.2.2.1, b25.2.2.2.2.2.2.2.2.2.2.2.1, b25.2.2.2.2.2.2.2.2.2.2.2.2.1, b25.2.2.2.2.2.2.2.2.2.2.2.2.2.1, b25.2.2.2.2.2.2.2.2.2.2.2.2.2.2.1, b25.2.2.2.2.2.2.2.2.2.2.2.2.2.2.2.1, b25.2.2.2.2.2.2.2.2.2.2.2.2.2.2.2.2.1, ()) (fun b42 => types_Vars_v1_F n (b42.2.2.1, b42.2.2.2.1, b42.2.2.2.2.1, b42.2.2.2.2.2.1, b42.2.2.2.2.2.2.1, b42.2.2.2.2.2.2.2.1, b42.2.2.2.2.2.2.2.2.1, ()) b42.1 b42.2.2.2.2.2.2.2.2.2.1 (fun y43 y44 y45 y46 => types_Vars_v1_F n (b42.2.2.2.2.2.2.2.2.2.2.1, b42.2.2.2.2.2.2.2.2.2.2.2.1, b42.2.2.2.2.2.2.2.2.2.2.2.2.1, b42.2.2.2.2.2.2.2.2.2.2.2.2.2.1, b42.2.2.2.2.2.2.2.2.2.2.2.2.2.2.1, b42.2.2.2.2.2.2.2.2.2.2.2.2.2.2.2.1, b42.2.2.2.2.2.2.2.2.2.2.2.2.2.2.2.2.1, ()) b42.1 y45 (fun y47 y48 y49 y50 => if (b42.2.1 == 0) = true then (if ((y44 == 0) == (y48 == 0)) = true then (verdererref14_Same_F n y46 y50 (fun y51 => if y51 = true then (verdererlaw14_known_F n (fun y52 => qr y52)) else (qr false))) else (qr false)) else (qr false))), ()), ())))
def verdererlaw14_TypesOrder_li1000003 (n : Nat) (a : (verdererlaw14_TypesOrder_ds 1000003).D) (k2 : exK R (verdererlaw14_TypesOrder_dx 1000003)) : Option R :=
  verdererlaw14_TypesOrder_s1000003 n a.1 a.2.1 a.2.2.1 a.2.2.2.1 a.2.2.2.2.1 a.2.2.2.2.2.1 a.2.2.2.2.2.2.1 a.2.2.2.2.2.2.2.1 (fun x0 => k2.1 (x0, ()))
def verdererlaw14_TypesOrder_l1000003 {R : Type} := lazyN (@verdererlaw14_TypesOrder_li1000003 R)
theorem verdererlaw14_TypesOrder_e1000003 : @verdererlaw14_TypesOrder_l1000003 R = @verdererlaw14_TypesOrder_li1000003 R := lazyN_eq _
@[reducible] def verdererlaw14_TypesOrder_d : Desc := ⟨[(0, .d ty25), (1, .d (.sl ty82))], []⟩
def verdererlaw14_TypesOrder_Fi (n : Nat) (a0 : ty25.D) (a1 : (List ty82.D)) (k0 : Bool → Option R) : Option R :=
  verdererref13_Few_F n a0 (fun y1 => if (!y1) = true then (verdererlaw14_known_F n (fun y2 => k0 y2)) else (verdererlaw14_few_F n a1 (fun y3 => if (!y3) = true then (verdererlaw14_known_F n (fun y4 => k0 y4)) else (verdererlaw14_TypesOrder_l1000003 n (a1, a0.1, a0.2.1, a0.2.2.1, a0.2.2.2.1, a0.2.2.2.2.1, a0.2.2.2.2.2.1, a0.2.2.2.2.2.2.1, ()) (fun b53 => k0 b53.1, ())))))
def verdererlaw14_TypesOrder_F {R : Type} := lazyN (@verdererlaw14_TypesOrder_Fi R)
theorem verdererlaw14_TypesOrder_e : @verdererlaw14_TypesOrder_F R = @verdererlaw14_TypesOrder_Fi R := lazyN_eq _
def verdererlaw14_TypesOrder_g (n : Nat) : Gx R := typed 2 verdererlaw14_TypesOrder_d fun x k => verdererlaw14_TypesOrder_F n x.1 x.2.1 (fun y0 => k (.a (.c (.b y0))) [])
def verdererlaw14_TypesOrder_cs (R : Type) (n : Nat) : List (Nat × Gx R) := [(8, verdererref13_Few_g n), (17, verdererlaw14_known_g n), (19, schema_New_g n), (23, verdererref14_Same_g n), (24, verdererlaw14_few_g n), (25, verdererlaw08_Kinds_g n), (26, types_Vars_v1_g n)]
def verdererlaw14_TypesOrder_lp (n : Nat) : (i : Nat) → (verdererlaw14_TypesOrder_ds i).D → exK R (verdererlaw14_TypesOrder_dx i) → Option R
  | 7, a, k => runC (verdererlaw14_TypesOrder_l7 n) n a k
  | 12, a, k => runC (verdererlaw14_TypesOrder_l12 n) n a k
  | 1000003, a, k => verdererlaw14_TypesOrder_l1000003 n a k
  | _, _, _ => none
def verdererlaw14_TypesOrder_cx (R : Type) (n : Nat) : Cx R := ⟨Try.prog, Gof (verdererlaw14_TypesOrder_cs R n), verdererlaw14_TypesOrder_ds, verdererlaw14_TypesOrder_dx, verdererlaw14_TypesOrder_lp n, drawP Try.prog (Gof (verdererlaw14_TypesOrder_cs R n)), false, (memN [3]), noFz⟩
theorem verdererlaw14_TypesOrder_ok (n : Nat) : Good Try.prog 6 (verdererlaw14_TypesOrder_g (R := R) n) := by
  unfold verdererlaw14_TypesOrder_g
  rw [verdererlaw14_TypesOrder_e]
  exact Good.fn (cx := verdererlaw14_TypesOrder_cx R n) (by kernel_rfl) (AllGood.cons (verdererref13_Few_ok n) (AllGood.cons (verdererlaw14_known_ok n) (AllGood.cons (schema_New_ok n) (AllGood.cons (verdererref14_Same_ok n) (AllGood.cons (verdererlaw14_few_ok n) (AllGood.cons (verdererlaw08_Kinds_ok n) (AllGood.cons (types_Vars_v1_ok n) (AllGood.nil)))))))) rfl Try.func6 (by kernel_rfl) rfl (by
    have e : fnLoops (memN [3]) Try.f6 = [((fnLoops (memN [3]) Try.f6)[0]?).getD (false, .skip), ((fnLoops (memN [3]) Try.f6)[1]?).getD (false, .skip), ((fnLoops (memN [3]) Try.f6)[2]?).getD (false, .skip)] := by kernel_rfl
    show LoopRuns _ _ (fnLoops (memN [3]) _)
    rw [e]
    exact ⟨LoopRun.joinS (by kernel_rfl) (i := 3) (L := verdererlaw14_TypesOrder_l1000003 n) (Li := verdererlaw14_TypesOrder_li1000003 n) (by rw [verdererlaw14_TypesOrder_e1000003]) (by kernel_rfl) (fun a k => by kernel_rfl) (fun a k => by kernel_rfl), ⟨LoopRun.loop (by kernel_rfl) (i := 7) (m := n) (step := verdererlaw14_TypesOrder_l7 n) (by kernel_rfl) (fun a k1 k2 => by kernel_rfl) (fun _ _ => rfl), ⟨LoopRun.loop (by kernel_rfl) (i := 12) (m := n) (step := verdererlaw14_TypesOrder_l12 n) (by kernel_rfl) (fun a k1 k2 => by kernel_rfl) (fun _ _ => rfl), trivial⟩⟩⟩) 2 verdererlaw14_TypesOrder_d (by kernel_rfl) (fun x k => by kernel_rfl)
end
end Go.Proofs.Ytikikmkfeeljgaa.E
set_option linter.unusedVariables false
set_option maxRecDepth 100000
namespace Go.Proofs.Ytikikmkfeeljgaa.E
open Go.Proofs
noncomputable section
variable {R : Type}
/-! verderer/verdererlaw14.TypesNil: function 7 -/
@[reducible] def verdererlaw14_TypesNil_d : Desc := ⟨[(0, .d ty25)], []⟩
def verdererlaw14_TypesNil_Fi (n : Nat) (a0 : ty25.D) (k0 : Bool → Option R) : Option R :=
  verdererref13_Few_F n a0 (fun y1 => if (!y1) = true then (verdererlaw14_known_F n (fun y2 => k0 y2)) else (types_Vars_F n a0 [] (fun y3 y4 y5 => types_Head_F n a0 [] (fun y6 y7 y8 => if ((y5.length : Int) == 0) = true then (if (y3 == 0) = true then (if (y4 == 1) = true then (if ((y8.length : Int) == 0) = true then (if (y6 == 0) = true then (if (y7 == 1) = true then (verdererlaw14_known_F n (fun y9 => k0 y9)) else (k0 false)) else (k0 false)) else (k0 false)) else (k0 false)) else (k0 false)) else (k0 false)))))
def verdererlaw14_TypesNil_F {R : Type} := lazyN (@verdererlaw14_TypesNil_Fi R)
theorem verdererlaw14_TypesNil_e : @verdererlaw14_TypesNil_F R = @verdererlaw14_TypesNil_Fi R := lazyN_eq _
def verdererlaw14_TypesNil_g (n : Nat) : Gx R := typed 1 verdererlaw14_TypesNil_d fun x k => verdererlaw14_TypesNil_F n x.1 (fun y0 => k (.a (.c (.b y0))) [])
def verdererlaw14_TypesNil_cs (R : Type) (n : Nat) : List (Nat × Gx R) := [(8, verdererref13_Few_g n), (17, verdererlaw14_known_g n), (21, types_Head_g n), (26, types_Vars_g n)]
def verdererlaw14_TypesNil_cx (R : Type) (n : Nat) : Cx R := ⟨Try.prog, Gof (verdererlaw14_TypesNil_cs R n), noDs, noDx, noLp, drawP Try.prog (Gof (verdererlaw14_TypesNil_cs R n)), false, noJn, noFz⟩
theorem verdererlaw14_TypesNil_ok (n : Nat) : Good Try.prog 7 (verdererlaw14_TypesNil_g (R := R) n) := by
  unfold verdererlaw14_TypesNil_g
  rw [verdererlaw14_TypesNil_e]
  exact Good.fn (cx := verdererlaw14_TypesNil_cx R n) (by kernel_rfl) (AllGood.cons (verdererref13_Few_ok n) (AllGood.cons (verdererlaw14_known_ok n) (AllGood.cons (types_Head_ok n) (AllGood.cons (types_Vars_ok n) (AllGood.nil))))) rfl Try.func7 (by kernel_rfl) rfl trivial 1 verdererlaw14_TypesNil_d (by kernel_rfl) (fun x k => by kernel_rfl)
end
end Go.Proofs.Ytikikmkfeeljgaa.E
namespace Go.Proofs.Ytikikmkfeeljgaa.E
open Go.RowKit
/-! # 15. From the form's reading of an argument to data, and from a function's row to its calls -/
/-- what a reading pays -/
def Fine : (t : Ty) → t.D → Prop
  | .bool, _ => True
  | .int k, n => (Lit.int k n).wf = true
  | .str, s => s.size ≤ 9223372036854775807
  | .sl e, l => l.length ≤ 9223372036854775807 ∧ ∀ x ∈ l, Fine e x
  | .pr a b, x => Fine a x.1 ∧ Fine b x.2
  | .un, _ => True
def chkF (q : Nat → Ty → Bool) (P : Program) : List Field → Nat → Ty → Bool
  | f :: fs, off, .pr a b => Nat.beq f.offset off && q f.type a && Nat.beq (P.cellsOf f.type) a.sz && chkF q P fs (off + a.sz) b
  | [], _, .un => true
  | _, _, _ => false
def chkTy (P : Program) : Nat → Nat → Ty → Bool
  | 0, _, _ => false
  | d + 1, t, ty => match P.underlying t, ty with
    | some .bool, .bool => true
    | some (.int k), .int k' => decide (k = k')
    | some .string, .str => true
    | some (.slice e), .sl x => chkTy P d e x && Nat.beq (P.cellsOf e) x.sz && Nat.blt 0 x.sz
    | some (.struct fs), ty => chkF (chkTy P d) P fs.toList 0 ty && Nat.beq (P.cellsOf t) ty.sz
    | _, _ => false
theorem mapM_mem {α β : Type} {f : α → Option β} : ∀ {l : List α} {r : List β}, l.mapM f = some r → r.length = l.length ∧ ∀ (i : Nat) (a : α), l[i]? = some a → ∃ b, r[i]? = some b ∧ f a = some b
  | [], r, h => by
    simp only [List.mapM_nil] at h
    injection h with h
    subst h
    exact ⟨rfl, fun i a ha => by simp at ha⟩
  | x :: l, r, h => by
    simp only [List.mapM_cons, Option.bind_eq_bind] at h
    obtain ⟨b, hb, h⟩ := Option.bind_eq_some_iff.1 h
    obtain ⟨bs, hbs, h⟩ := Option.bind_eq_some_iff.1 h
    injection h with h
    subst h
    obtain ⟨hl, hi⟩ := mapM_mem hbs
    refine ⟨by simp [hl], fun i a ha => ?_⟩
    cases i with
    | zero => simp at ha; subst ha; exact ⟨b, rfl, hb⟩
    | succ i => simpa using hi i a (by simpa using ha)
theorem exists_list {α : Type} (Q : Nat → α → Prop) : ∀ n, (∀ i, i < n → ∃ x, Q i x) → ∃ l : List α, l.length = n ∧ ∀ i x, l[i]? = some x → Q i x
  | 0, _ => ⟨[], rfl, fun i x h => by simp at h⟩
  | n + 1, h => by
    obtain ⟨l, hl, hq⟩ := exists_list Q n (fun i hi => h i (by omega))
    obtain ⟨x, hx⟩ := h n (by omega)
    refine ⟨l ++ [x], by simp [hl], fun i y hy => ?_⟩
    rcases Nat.lt_or_ge i l.length with hi | hi
    · rw [List.getElem?_append_left hi] at hy; exact hq i y hy
    · rw [List.getElem?_append_right hi] at hy
      have : i - l.length = 0 := by
        rcases Nat.eq_zero_or_pos (i - l.length) with h0 | h0
        · exact h0
        · rw [List.getElem?_eq_none (by simp; omega)] at hy; cases hy
      rw [this] at hy
      simp at hy
      subst hy
      have : i = n := by omega
      rw [this]; exact hx
theorem cells_at {w : World} {base : Nat} {a : Addr} {n : Nat} {cs : List Value} (h : w.cells? base a n = some cs) : cs.length = n ∧ ∀ i u, cs[i]? = some u → w.cell? (a.add i) = some u := by
  unfold World.cells? at h
  split at h
  · obtain ⟨hl, hi⟩ := mapM_mem h
    simp only [List.length_range] at hl
    refine ⟨hl, fun i u hu => ?_⟩
    have hlt : i < n := by rw [← hl]; exact (List.getElem?_eq_some_iff.1 hu).1
    obtain ⟨b, hb, hc⟩ := hi i i (by rw [List.getElem?_range hlt])
    rw [hu] at hb
    injection hb with hb
    subst hb
    exact hc
  · cases h
theorem add_add (a : Addr) (i j : Nat) : (a.add i).add j = a.add (i + j) := by
  unfold Addr.add
  by_cases hi : i = 0
  · subst hi; simp
  · by_cases hj : j = 0
    · subst hj; simp [hi]
    · simp [hi, hj, Nat.add_assoc]
theorem cell_spot {w : World} {a : Addr} {u : Value} (h : w.cell? a = some u) : a.spot = none ∧ a.block < w.heap.size := by
  unfold World.cell? at h
  split at h
  · rename_i c e f hb
    split at h
    · cases h
    · rename_i hs
      refine ⟨?_, (Array.getElem?_eq_some_iff.1 hb).1⟩
      cases hsp : a.spot with
      | none => rfl
      | some _ => rw [hsp] at hs; simp at hs
  · cases h
/-- whatever reads at a type is data of it, and good -/
theorem trod_chk {P : Program} : ∀ (d t : Nat) (ty : Ty), chkTy P d t ty = true → ∀ (H : Type) (enc : TypeId × Value → H) (w : World) (sp : Nat → Bool) (fuel : Nat) (cs : List Value) (y : DataW H × List MemPlace),
    DataW.trod enc P w 0 sp true fuel t cs = some y → ∃ x : ty.D, DRep w (fun b => b < w.heap.size) ty x cs ∧ Fine ty x
  | 0, _, _, h => by cases h
  | d + 1, t, ty, h => by
    intro H enc w sp fuel cs y hy
    simp only [chkTy] at h
    split at h
    · rename_i hu
      obtain ⟨n, rfl, _⟩ := DataW.trod_bool hu hy
      exact ⟨n, rfl, trivial⟩
    · rename_i k k' hu
      have : k = k' := by simpa using h
      subst this
      obtain ⟨n, rfl, _, hw⟩ := DataW.trod_int hu hy
      exact ⟨n, rfl, hw⟩
    · rename_i hu
      obtain ⟨s, rfl, _, hs⟩ := DataW.trod_string hu hy
      exact ⟨s, rfl, by unfold maxLen at hs; exact hs⟩
    · rename_i e x hu
      simp only [Bool.and_eq_true] at h
      obtain ⟨⟨h1, h2⟩, h3⟩ := h
      have hs := Nat.eq_of_beq_eq_true h2
      have hpos : 0 < x.sz := Nat.le_of_ble_eq_true h3
      rcases DataW.trod_slice hu hy with ⟨rfl, _⟩ | ⟨a, len, cap, elems, rest, n, _, rfl, _, _, hlc, hcm, hel, hi, _⟩
      · exact ⟨[], ⟨none, 0, rfl, ⟨Nat.le_refl _, fun _ => rfl⟩, fun i hi => by simp at hi⟩, by simp [Fine]⟩
      · obtain ⟨l, hl, hq⟩ := exists_list (fun i (v : x.D) => (∃ c, c.length = x.sz ∧ DRep w (fun b => b < w.heap.size) x v c ∧ ∀ j u, c[j]? = some u → w.cell? (a.add (i * x.sz + j)) = some u) ∧ Fine x v) len (fun i hlt => by
          have hb := hi i hlt
          obtain ⟨z, hz⟩ : ∃ z, elems[i]? = some z := ⟨elems[i]'(by omega), List.getElem?_eq_getElem _⟩
          rw [hz] at hb
          obtain ⟨c, hc, hz'⟩ := Option.bind_eq_some_iff.1 hb
          obtain ⟨v, hK, hG⟩ := trod_chk d e x h1 H enc w sp n c z hz'
          obtain ⟨hcl, hcell⟩ := cells_at hc
          refine ⟨v, ⟨c, by rw [hcl, hs], hK, fun j u hu => ?_⟩, hG⟩
          have := hcell j u hu
          rw [hs, add_add] at this
          exact this)
        refine ⟨l, ⟨some a, cap, by rw [hl], ⟨by omega, fun h => by cases h⟩, fun i hi => ?_⟩, by unfold maxLen at hcm; omega, fun v hv => ?_⟩
        · obtain ⟨⟨c, hcl, hK, hcell⟩, _⟩ := hq i _ (List.getElem?_eq_getElem hi)
          obtain ⟨⟨c0, hcl0, _, hcell0⟩, _⟩ := hq 0 _ (List.getElem?_eq_getElem (by omega))
          have h0 := hcell0 0 (c0[0]'(by omega)) (List.getElem?_eq_getElem _)
          have ha0 : a.add (0 * x.sz + 0) = a := by simp [Addr.add]
          rw [ha0] at h0
          obtain ⟨sp1, sp2⟩ := cell_spot h0
          obtain ⟨b, o, s⟩ := a
          simp only at sp1 sp2
          subst sp1
          refine ⟨b, o, c, rfl, sp2, fun j u hu => ?_, hK⟩
          have := hcell j u hu
          rw [Addr.add_mid] at this
          rw [← this, Nat.add_assoc]
        · obtain ⟨j, hj⟩ := List.getElem?_of_mem hv
          exact (hq j v hj).2
    · rename_i fs hu
      simp only [Bool.and_eq_true] at h
      obtain ⟨h1, h2⟩ := h
      have hsz := Nat.eq_of_beq_eq_true h2
      obtain ⟨xs, n, _, _, hl, hx, hi⟩ := DataW.trod_struct hu hy
      have each : ∀ f ∈ fs.toList, ∃ y, DataW.trod enc P w 0 sp true n f.type ((cs.drop f.offset).take (P.cellsOf f.type)) = some y := by
        intro f hf
        obtain ⟨i, hf⟩ := List.getElem?_of_mem hf
        have hlt : i < fs.size := by have := (List.getElem?_eq_some_iff.1 hf).1; simpa using this
        have := hi i f (by simpa using hf)
        rw [List.getElem?_eq_getElem (by omega)] at this
        exact ⟨_, this⟩
      have key : ∀ (l : List Field) (off : Nat) (ty : Ty), chkF (chkTy P d) P l off ty = true → (∀ f ∈ l, ∃ y, DataW.trod enc P w 0 sp true n f.type ((cs.drop f.offset).take (P.cellsOf f.type)) = some y) →
          ∃ x : ty.D, DRep w (fun b => b < w.heap.size) ty x ((cs.drop off).take ty.sz) ∧ Fine ty x := by
        intro l
        induction l with
        | nil =>
          intro off ty h _
          cases ty <;> first | cases h | skip
          exact ⟨(), by simp [DRep, Ty.sz], trivial⟩
        | cons f l ih =>
          intro off ty h hf
          cases ty with
          | pr a b =>
            simp only [chkF, Bool.and_eq_true] at h
            obtain ⟨⟨⟨g1, g2⟩, g3⟩, g4⟩ := h
            have e1 := Nat.eq_of_beq_eq_true g1
            have e3 := Nat.eq_of_beq_eq_true g3
            obtain ⟨y1, hy1⟩ := hf f (by simp)
            rw [e1, e3] at hy1
            obtain ⟨x1, k1, f1⟩ := trod_chk d f.type a g2 H enc w sp n _ y1 hy1
            obtain ⟨x2, k2, f2⟩ := ih (off + a.sz) b g4 fun f hm => hf f (List.mem_cons_of_mem _ hm)
            refine ⟨(x1, x2), ⟨_, _, ?_, k1, k2⟩, f1, f2⟩
            show (cs.drop off).take (a.sz + b.sz) = _
            rw [List.take_add, List.drop_drop]
          | _ => cases h
      obtain ⟨x, hk, hg⟩ := key fs.toList 0 _ h1 each
      refine ⟨x, ?_, hg⟩
      rw [List.drop_zero, List.take_of_length_le (by omega)] at hk
      exact hk
    · cases h
section
variable {P : Program} {w : World} {F : Nat → Prop}
theorem repA_row (a b : Ty) {x : (Ty.pr a b).D} {cs : List Value} (h : DRep w F (.pr a b) x cs) : RepA w F [] (.agg cs.toArray) (encA (.pr a b) x) :=
  ⟨_, rfl, enc_rep h⟩
/-- a law: it comes to true, and leaves all that there was -/
theorem law_calls {f : Nat} {g : Gx Unit} (h : Good P f g) {fn : Func} (hf : P.funcs[f]? = some fn) (hname : (fn.name == "runtime.NumGoroutine") = false) (hb : fn.body.isSome = true) {args : List A} {vs : List Value} {W : World} (ha : All2 (RepA W (fun b => b < W.heap.size) []) vs args)
    (ht : g args [] (fun x _ => match x with | .a (.c (.b b)) => (bif b then some () else none) | _ => none) = some ()) : Calls P f vs.toArray W fun e W' => e = .returned (.bool true) ∧ Below W.heap.size W W' := by
  have hd := h.1 args [] _ () ht vs W _ [] (Inv.nil fun _ h => h) ha
  rcases hd with ⟨_, hd⟩ | ⟨v, hd, _⟩
  rotate_left
  · have h1 : ¬ fn.name = "runtime.NumGoroutine" := by simpa using hname
    have h2 : ¬ fn.body = none := by intro e; rw [e] at hb; cases hb
    simp [callFunc, hf, h1, h2, Sem.run_pure] at hd
  refine hd.mono ?_
  rintro e W' ⟨x, HN, v, F', hvN, hk, rfl, iN, hx⟩
  have hv : v = .bool true := by
    split at hk
    · rename_i b
      cases b with
      | true => exact hx
      | false => cases hk
    · cases hk
  subst hv
  exact ⟨rfl, iN.os, iN.tape, iN.output, iN.size, fun k hk => iN.old k hk noU⟩
end
end Go.Proofs.Ytikikmkfeeljgaa.E
namespace Go.Proofs.Ytikikmkfeeljgaa.E
open Go.RowKit
/-! # 16. Plain lemmas -/
theorem wrap_i64 {x : Int} (h1 : -9223372036854775808 ≤ x) (h2 : x < 9223372036854775808) : IntKind.i64.wrap x = x := by
  simp [IntKind.wrap, IntKind.bits, IntKind.signed]
  split <;> omega
theorem wrap_succ (i : Nat) (h : i < 9223372036854775807) : IntKind.i64.wrap ((i : Int) + 1) = ((i + 1 : Nat) : Int) := by
  rw [wrap_i64 (by omega) (by omega)]
  rfl
theorem runC_st {α β R : Type} {step : α → (α → Option R) → β → Option R} (k : β) (r : Option R) (st : Nat → α) (m : Nat)
    (hs : ∀ i, i < m → (∀ k1, step (st i) k1 k = k1 (st (i + 1))) ∨ ∀ k1, step (st i) k1 k = r) (he : ∀ k1, step (st m) k1 k = r) {n : Nat} (hn : m < n) : runC step n (st 0) k = r := by
  have go : ∀ (d i n : Nat), i + d = m → d < n → runC step n (st i) k = r := by
    intro d
    induction d with
    | zero =>
      intro i n hi hn
      obtain ⟨n, rfl⟩ : ∃ q, n = q + 1 := ⟨n - 1, by omega⟩
      have : i = m := by omega
      subst this
      exact he _
    | succ d ih =>
      intro i n hi hn
      obtain ⟨n, rfl⟩ : ∃ q, n = q + 1 := ⟨n - 1, by omega⟩
      rcases hs i (by omega) with h | h
      · exact (h _).trans (ih (i + 1) n (by omega) (by omega))
      · exact h _
  exact go m 0 n (by omega) hn
theorem runC_up {α β R : Type} {step : α → (α → Option R) → β → Option R} (k : β) (r : Option R) (I : Nat → α → Prop) (m : Nat)
    (hs : ∀ i a, i < m → I i a → (∃ a', I (i + 1) a' ∧ ∀ k1, step a k1 k = k1 a') ∨ ∀ k1, step a k1 k = r) (he : ∀ a, I m a → ∀ k1, step a k1 k = r) {n : Nat} {a : α} (hn : m < n) (ha : I 0 a) : runC step n a k = r := by
  have go : ∀ (d i n : Nat) (a : α), i + d = m → d < n → I i a → runC step n a k = r := by
    intro d
    induction d with
    | zero =>
      intro i n a hi hn ha
      obtain ⟨n, rfl⟩ : ∃ q, n = q + 1 := ⟨n - 1, by omega⟩
      have : i = m := by omega
      subst this
      exact he a ha _
    | succ d ih =>
      intro i n a hi hn ha
      obtain ⟨n, rfl⟩ : ∃ q, n = q + 1 := ⟨n - 1, by omega⟩
      rcases hs i a (by omega) ha with ⟨a', h1, h2⟩ | h
      · exact (h2 _).trans (ih (i + 1) n a' (by omega) (by omega) h1)
      · exact h _
  exact go m 0 n a (by omega) hn ha
theorem runC_ex {α β γ R : Type} {step : α → (α → Option R) → β → Option R} (out : γ → β → Option R) (Q : Nat → γ → Prop) (st : Nat → α) (m : Nat)
    (hs : ∀ i, i < m → ((∀ k1 k2, step (st i) k1 k2 = k1 (st (i + 1))) ∧ ∀ y, Q (i + 1) y → Q i y) ∨ ∃ y, Q i y ∧ ∀ k1 k2, step (st i) k1 k2 = out y k2)
    (he : ∃ y, Q m y ∧ ∀ k1 k2, step (st m) k1 k2 = out y k2) {n : Nat} (hn : m < n) : ∃ y, Q 0 y ∧ ∀ k2, runC step n (st 0) k2 = out y k2 := by
  have go : ∀ (d i n : Nat), i + d = m → d < n → ∃ y, Q i y ∧ ∀ k2, runC step n (st i) k2 = out y k2 := by
    intro d
    induction d with
    | zero =>
      intro i n hi hn
      obtain ⟨n, rfl⟩ : ∃ q, n = q + 1 := ⟨n - 1, by omega⟩
      have : i = m := by omega
      subst this
      obtain ⟨y, h1, h2⟩ := he
      exact ⟨y, h1, fun k2 => h2 _ k2⟩
    | succ d ih =>
      intro i n hi hn
      obtain ⟨n, rfl⟩ : ∃ q, n = q + 1 := ⟨n - 1, by omega⟩
      rcases hs i (by omega) with ⟨h1, h2⟩ | ⟨y, h1, h2⟩
      · obtain ⟨y, h3, h4⟩ := ih (i + 1) n (by omega) (by omega)
        exact ⟨y, h2 y h3, fun k2 => (h1 _ k2).trans (h4 k2)⟩
      · exact ⟨y, h1, fun k2 => h2 _ k2⟩
  exact go m 0 n (by omega) hn
theorem beqB (a b : ByteArray) : (a.toList == b.toList) = decide (a = b) := by
  rw [← beq_toListBytes]
  by_cases h : a = b
  · subst h; simpa using (MapKept.bytes_beq a a).2 rfl
  · rw [decide_eq_false h]
    cases e : (a == b) with
    | false => rfl
    | true => exact absurd ((MapKept.bytes_beq a b).1 e) h
instance decMem (s : ByteArray) (l : List ByteArray) : Decidable (s ∈ l) := decidable_of_iff (l.any (fun y => decide (y = s)) = true) (by simp)
theorem getD_nat {α : Type} (l : List α) (i : Nat) (h : i < l.length) (z : α) : l.getD i z = l[i] := by
  rw [List.getD_eq_getElem?_getD, List.getElem?_eq_getElem h]
  rfl
theorem in_nat {i m : Nat} (h : i < m) : (0 ≤ (i : Int) ∧ (i : Int) < (m : Int)) = True := by simp; omega
theorem lt_nat {i m : Nat} : (decide ((i : Int) < (m : Int))) = decide (i < m) := by simp
theorem take_snoc {α : Type} (l : List α) (i : Nat) (h : i < l.length) : l.take (i + 1) = l.take i ++ [l[i]] := by
  rw [List.take_add_one, List.getElem?_eq_getElem h]
  rfl
end Go.Proofs.Ytikikmkfeeljgaa.E
namespace Go.Proofs.Ytikikmkfeeljgaa.E
open Go.RowKit
variable {R : Type}
/-! loops that look for the first place where something is so -/
theorem runC_scan {α β R ρ : Type} {step : α → (α → Option R) → β → Option R} (k : β) (K : ρ → Option R) (E : Option R) (f : Nat → Option ρ) (st : Nat → α) (m : Nat)
    (hs : ∀ i, i < m → ∀ k1, step (st i) k1 k = match f i with
      | none => k1 (st (i + 1))
      | some y => K y) (he : ∀ k1, step (st m) k1 k = E) {n : Nat} (hn : m < n) : runC step n (st 0) k = match (List.range m).findSome? f with
      | none => E
      | some y => K y := by
  have go : ∀ (d i n : Nat), i + d = m → d < n → runC step n (st i) k = match (List.range' i d).findSome? f with
      | none => E
      | some y => K y := by
    intro d
    induction d with
    | zero =>
      intro i n hi hn
      obtain ⟨n, rfl⟩ : ∃ q, n = q + 1 := ⟨n - 1, by omega⟩
      have : i = m := by omega
      subst this
      exact he _
    | succ d ih =>
      intro i n hi hn
      obtain ⟨n, rfl⟩ : ∃ q, n = q + 1 := ⟨n - 1, by omega⟩
      rw [List.range'_succ, List.findSome?_cons]
      have h := hs i (by omega) (fun b => runC step n b k)
      refine Eq.trans (show _ = step (st i) (fun b => runC step n b k) k from rfl) (h.trans ?_)
      cases hf : f i with
      | some y => rfl
      | none => exact ih (i + 1) n (by omega) (by omega)
  have := go m 0 n (by omega) hn
  rw [← List.range_eq_range'] at this
  exact this
theorem runC_all {α β R : Type} {step : α → (α → Option R) → β → Option R} (k : β) (K E : Option R) (p : Nat → Bool) (st : Nat → α) (m : Nat)
    (hs : ∀ i, i < m → ∀ k1, step (st i) k1 k = if p i = true then k1 (st (i + 1)) else K) (he : ∀ k1, step (st m) k1 k = E) {n : Nat} (hn : m < n) : runC step n (st 0) k = if ((List.range m).all p) = true then E else K := by
  have h := runC_scan (ρ := Unit) k (fun _ => K) E (fun i => if p i = true then none else some ()) st m (fun i hi k1 => by rw [hs i hi k1]; by_cases hp : p i = true <;> simp [hp]) he hn
  rw [h]
  by_cases ha : (List.range m).all p = true
  · rw [if_pos ha]
    have : (List.range m).findSome? (fun i => if p i = true then none else some ()) = none := by
      rw [List.findSome?_eq_none_iff]
      intro i hi
      rw [if_pos (List.all_eq_true.1 ha i hi)]
    rw [this]
  · rw [if_neg ha]
    cases hf : (List.range m).findSome? (fun i => if p i = true then none else some ()) with
    | some y => rfl
    | none =>
      refine absurd (List.all_eq_true.2 fun i hi => ?_) ha
      have := (List.findSome?_eq_none_iff.1 hf) i hi
      by_cases hp : p i = true
      · exact hp
      · rw [if_neg hp] at this; cases this
/-! names -/
def letS (c : Int) : Bool := decide (97 ≤ c) && decide (c ≤ 122)
def othS (c : Int) : Bool := decide (c = 95) || (!decide (c < 48) && !decide (57 < c))
def chS (s : ByteArray) (i : Nat) : Bool := letS (byteAt s i) || (decide (i ≠ 0) && othS (byteAt s i))
def nameS (s : ByteArray) : Bool := decide (1 ≤ s.size) && (decide (s.size ≤ 16) && (List.range s.size).all (chS s))
theorem letter_F (n : Nat) (c : Int) (k : Bool → Option R) : schema_letter_F n c k = k (letS c) := by
  rw [schema_letter_e]
  unfold schema_letter_Fi letS
  by_cases h : 97 ≤ c <;> simp [h]
theorem in_size {i m : Nat} (h : i < m) : ((0 : Int) ≤ (i : Int)) = True ∧ ((i : Int) < (m : Int)) = True := by simp; omega
theorem refName_F (n : Nat) (s : ByteArray) (hn : 16 < n) (k : Bool → Option R) : verdererref07_Name_F n s k = k (nameS s) := by
  rw [verdererref07_Name_e]
  unfold verdererref07_Name_Fi nameS
  by_cases h1 : 1 ≤ s.size
  · by_cases h2 : s.size ≤ 16
    · have h1' : ¬ ((s.size : Int) < 1) := by omega
      have h2' : ¬ ((s.size : Int) > 16) := by omega
      simp only [h1, h2, h1', h2', decide_true, decide_false, Bool.true_and, Bool.false_eq_true, if_false]
      refine (runC_all (R := R) (step := verdererref07_Name_l4 n) _ (k false) (k true) (chS s) (fun i => (s, (i : Int), ())) s.size (fun i hi k1 => ?_) (fun k1 => ?_) (by omega)).trans ?_
      · simp only [verdererref07_Name_l4, verdererref07_Name_s4, lt_nat, hi, (in_size hi).1, (in_size hi).2, decide_true, if_true, wrap_succ i (by omega), chS, letS, othS]
        obtain ⟨c, hc⟩ : ∃ c, byteAt s i = c := ⟨_, rfl⟩
        simp only [hc]
        by_cases c1 : 97 ≤ c <;> by_cases c2 : c ≤ 122 <;> by_cases c3 : i = 0 <;> by_cases c4 : c = 95 <;> by_cases c5 : c < 48 <;> by_cases c6 : 57 < c <;> simp [c1, c2, c3, c4, c5, c6]
      · simp only [verdererref07_Name_l4, verdererref07_Name_s4, lt_nat, Nat.lt_irrefl, decide_false, Bool.false_eq_true, if_false]
      · cases (List.range s.size).all (chS s) <;> rfl
    · have h1' : ¬ ((s.size : Int) < 1) := by omega
      have h2' : ((s.size : Int) > 16) := by omega
      simp only [h1, h2, h1', h2', decide_true, decide_false, Bool.true_and, Bool.false_and, Bool.false_eq_true, if_false, if_true]
  · have h1' : ((s.size : Int) < 1) := by omega
    simp only [h1, h1', decide_true, decide_false, Bool.false_and, if_true]
theorem schName_F (n : Nat) (s : ByteArray) (hn : 16 < n) (k : Bool → Option R) : schema_Name_F n s k = k (nameS s) := by
  rw [schema_Name_e]
  unfold schema_Name_Fi
  simp only [beqB]
  by_cases h0 : s = (⟨#[]⟩ : ByteArray)
  · subst h0
    have : nameS (⟨#[]⟩ : ByteArray) = false := by unfold nameS; rfl
    simp [this]
  have h1 : 1 ≤ s.size := by
    rcases Nat.eq_zero_or_pos s.size with h | h
    · exact absurd (ByteArray.size_eq_zero_iff.1 h) h0
    · exact h
  by_cases h2 : s.size ≤ 16
  · have h2' : ¬ ((s.size : Int) > 16) := by omega
    have h3' : ((0 : Int) < (s.size : Int)) := by omega
    simp only [h0, h2', h3', decide_false, Bool.false_eq_true, if_false, Int.le_refl, if_true, letter_F]
    have e0 : byteAt s 0 = byteAt s ((0 : Nat) : Int) := rfl
    cases hl : letS (byteAt s 0) with
    | false =>
      simp only [Bool.not_false, if_true]
      have : nameS s = false := by
        unfold nameS
        have : (List.range s.size).all (chS s) = false := by
          rw [List.all_eq_false]
          exact ⟨0, List.mem_range.2 h1, by simp [chS, ← e0, hl]⟩
        rw [this]; simp
      rw [this]
    | true =>
      simp only [Bool.not_true, Bool.false_eq_true, if_false]
      refine (runC_all (R := R) (step := schema_Name_l4 n) _ (k false) (k true) (fun i => letS (byteAt s i) || othS (byteAt s i)) (fun i => (s, (s.size : Int), (i : Int), ())) s.size (fun i hi k1 => ?_) (fun k1 => ?_) (by omega)).trans ?_
      · simp only [schema_Name_l4, schema_Name_s4, lt_nat, hi, (in_size hi).1, (in_size hi).2, decide_true, if_true, wrap_succ i (by omega), letter_F, othS]
        obtain ⟨c, hc⟩ : ∃ c, byteAt s i = c := ⟨_, rfl⟩
        simp only [hc]
        cases letS c with
        | true => simp
        | false =>
          by_cases c4 : c = 95 <;> by_cases c5 : c < 48 <;> by_cases c6 : 57 < c <;> simp [c4, c5, c6]
      · simp only [schema_Name_l4, schema_Name_s4, lt_nat, Nat.lt_irrefl, decide_false, Bool.false_eq_true, if_false]
      · have : (List.range s.size).all (fun i => letS (byteAt s i) || othS (byteAt s i)) = (List.range s.size).all (chS s) := by
          rw [Bool.eq_iff_iff, List.all_eq_true, List.all_eq_true]
          refine forall_congr' fun i => forall_congr' fun hi => ?_
          unfold chS
          by_cases hi0 : i = 0
          · subst hi0; rw [← e0, hl]; simp
          · simp [hi0]
        rw [this]
        unfold nameS
        simp only [h1, h2, decide_true, Bool.true_and]
        cases (List.range s.size).all (chS s) <;> rfl
  · have h2' : ((s.size : Int) > 16) := by omega
    simp only [h0, h2', decide_false, decide_true, Bool.false_eq_true, if_false, if_true, nameS, h2, Bool.false_and, Bool.and_false]
end Go.Proofs.Ytikikmkfeeljgaa.E
namespace Go.Proofs.Ytikikmkfeeljgaa.E
open Go.RowKit
variable {R : Type}
theorem beq_b (a b : ByteArray) : (a.toList == b.toList) = decide (a = b) := beqB a b
/-! columns -/
def twin {α : Type} (key : α → ByteArray) (l : List α) (v : ByteArray) : Bool := l.any fun x => decide (key x = v)
theorem twin_snoc {α : Type} (key : α → ByteArray) (l : List α) (x : α) (v : ByteArray) : twin key (l ++ [x]) v = (twin key l v || decide (key x = v)) := by
  unfold twin; rw [List.any_append]; simp
def colF (l : List ty63.D) (i : Nat) : Option Int :=
  if nameS (l.getD i (Ty.z ty63)).1 = true then (if (l.getD i (Ty.z ty63)).2.1 < 1 then some 11 else if (l.getD i (Ty.z ty63)).2.1 > 3 then some 11 else if twin (fun c : ty63.D => c.1) (l.take i) (l.getD i (Ty.z ty63)).1 = true then some 4 else none) else some 3
def colsE (l : List ty63.D) : Int := if l.length > 6 then 9 else ((List.range l.length).findSome? (colF l)).getD 0
theorem colF_ne (l : List ty63.D) (i : Nat) (e : Int) (h : colF l i = some e) : e ≠ 0 := by
  unfold colF at h
  split at h
  · split at h
    · injection h with h; omega
    · split at h
      · injection h with h; omega
      · split at h
        · injection h with h; omega
        · cases h
  · injection h with h; omega
/-- is one of the first m like the i-th? -/
theorem any_take {α : Type} (p : α → Bool) (z : α) : ∀ (l : List α) (m : Nat), m ≤ l.length → (l.take m).any p = (List.range m).any fun j => p (l.getD j z) := by
  intro l m
  induction m with
  | zero => intro _; simp
  | succ m ih =>
    intro h
    rw [take_snoc l m h, List.any_append, ih (by omega), List.range_succ, List.any_append]
    simp only [List.any_cons, List.any_nil, Bool.or_false, getD_nat l m h]
theorem refCols_F (n : Nat) (l : List ty63.D) (hn : 16 < n) (k : Int → Option R) : verdererref07_columns_F n l k = k (colsE l) := by
  rw [verdererref07_columns_e]
  unfold verdererref07_columns_Fi colsE
  by_cases h6 : l.length > 6
  · have h6' : ((l.length : Int) > 6) := by omega
    simp only [h6, h6', decide_true, if_true]
  have h6' : ¬ ((l.length : Int) > 6) := by omega
  simp only [h6, h6', decide_false, Bool.false_eq_true, if_false]
  refine (runC_scan (R := R) (step := verdererref07_columns_l4 n) _ k (k 0) (colF l) (fun i => (l, (i : Int), ())) l.length (fun i hi k1 => ?_) (fun k1 => ?_) (by omega)).trans ?_
  · simp only [verdererref07_columns_l4, verdererref07_columns_s4, lt_nat, hi, in_nat hi, decide_true, if_true, Int.toNat_natCast]
    rw [refName_F _ _ hn]
    unfold colF
    obtain ⟨x, hx⟩ : ∃ x, l.getD i (Ty.z ty63) = x := ⟨_, rfl⟩
    simp only [hx]
    obtain ⟨x0, x1, x2⟩ := x
    simp only
    cases nameS x0 with
    | false => simp
    | true =>
      simp only [Bool.not_true, Bool.false_eq_true, if_false, if_true]
      by_cases c1 : x1 < 1
      · simp only [c1, decide_true, if_true]
      · simp only [c1, decide_false, Bool.false_eq_true, if_false]
        by_cases c2 : x1 > 3
        · simp only [c2, decide_true, if_true]
        · simp only [c2, decide_false, Bool.false_eq_true, if_false]
          refine (runC_all (R := R) (step := verdererref07_columns_l11 n) _ (k 4) (k1 (l, ((i + 1 : Nat) : Int), ())) (fun j => !decide ((l.getD j (Ty.z ty63)).1 = x0)) (fun j => (l, (i : Int), (j : Int), l, (i : Int), x1, false, ())) i (fun j hj k1 => ?_) (fun k1 => ?_) (by omega)).trans ?_
          · have hj2 : j < l.length := by omega
            simp only [verdererref07_columns_l11, verdererref07_columns_s11, lt_nat, hj, in_nat hj2, in_nat hi, decide_true, if_true, Int.toNat_natCast, hx, beq_b, wrap_succ j (by omega)]
            by_cases c3 : (l.getD j (Ty.z ty63)).1 = x0
            · simp only [c3, decide_true, if_true, Bool.not_true, Bool.false_eq_true, if_false]
            · simp only [c3, decide_false, if_true, Bool.not_false, Bool.false_eq_true, if_false]
          · simp only [verdererref07_columns_l11, verdererref07_columns_s11, lt_nat, Nat.lt_irrefl, decide_false, Bool.false_eq_true, if_false, wrap_succ i (by omega)]
          · have : twin (fun c : ty63.D => c.1) (l.take i) x0 = !((List.range i).all fun j => !decide ((l.getD j (Ty.z ty63)).1 = x0)) := by
              unfold twin
              rw [any_take _ (Ty.z ty63) l i (by omega)]
              rw [List.not_all_eq_any_not]
              simp
            rw [this]
            cases (List.range i).all fun j => !decide ((l.getD j (Ty.z ty63)).1 = x0) <;> rfl
  · simp only [verdererref07_columns_l4, verdererref07_columns_s4, lt_nat, Nat.lt_irrefl, decide_false, Bool.false_eq_true, if_false]
  · cases (List.range l.length).findSome? (colF l) <;> rfl
/-! kinds -/
def tenS : ByteArray := ⟨#[116, 101, 110, 97, 110, 116]⟩
def schF (l : List ty82.D) (i : Nat) : Option Int :=
  if nameS (l.getD i (Ty.z ty82)).1 = true then (if (l.getD i (Ty.z ty82)).1 = tenS then some 3 else if twin (fun c : ty82.D => c.1) (l.take i) (l.getD i (Ty.z ty82)).1 = true then some 4 else if colsE (l.getD i (Ty.z ty82)).2.1 = 0 then none else some (colsE (l.getD i (Ty.z ty82)).2.1)) else some 3
def chkE (l : List ty82.D) : Int := if l.length > 8 then 9 else ((List.range l.length).findSome? (schF l)).getD 0
theorem schF_ne (l : List ty82.D) (i : Nat) (e : Int) (h : schF l i = some e) : e ≠ 0 := by
  unfold schF at h
  split at h
  · split at h
    · injection h with h; omega
    · split at h
      · injection h with h; omega
      · split at h
        · cases h
        · injection h with h; omega
  · injection h with h; omega
theorem refCheck_F (n : Nat) (l : List ty82.D) (hn : 16 < n) (k : Int → Option R) : verdererref07_Check_F n l k = k (chkE l) := by
  rw [verdererref07_Check_e]
  unfold verdererref07_Check_Fi chkE
  by_cases h6 : l.length > 8
  · have h6' : ((l.length : Int) > 8) := by omega
    simp only [h6, h6', decide_true, if_true]
  have h6' : ¬ ((l.length : Int) > 8) := by omega
  simp only [h6, h6', decide_false, Bool.false_eq_true, if_false]
  refine (runC_scan (R := R) (step := verdererref07_Check_l4 n) _ k (k 0) (schF l) (fun i => (l, (i : Int), ())) l.length (fun i hi k1 => ?_) (fun k1 => ?_) (by omega)).trans ?_
  · simp only [verdererref07_Check_l4, verdererref07_Check_s4, lt_nat, hi, in_nat hi, decide_true, if_true, Int.toNat_natCast]
    rw [refName_F _ _ hn]
    unfold schF
    obtain ⟨x, hx⟩ : ∃ x, l.getD i (Ty.z ty82) = x := ⟨_, rfl⟩
    simp only [hx]
    obtain ⟨x0, x1, x2⟩ := x
    simp only [beq_b]
    cases nameS x0 with
    | false => simp
    | true =>
      simp only [Bool.not_true, Bool.false_eq_true, if_false, if_true]
      by_cases c1 : x0 = tenS
      · have c1' : x0 = (⟨#[116, 101, 110, 97, 110, 116]⟩ : ByteArray) := c1
        simp only [c1, decide_true, if_true]
        rw [if_pos (by simp [tenS])]
      · have c1' : ¬ x0 = (⟨#[116, 101, 110, 97, 110, 116]⟩ : ByteArray) := c1
        simp only [c1, c1', decide_false, Bool.false_eq_true, if_false]
        refine (runC_all (R := R) (step := verdererref07_Check_l9 n) _ (k 4) (if (colsE x1 != 0) = true then k (colsE x1) else k1 (l, ((i + 1 : Nat) : Int), ())) (fun j => !decide ((l.getD j (Ty.z ty82)).1 = x0)) (fun j => (l, (i : Int), (j : Int), l, (i : Int), x0, false, ())) i (fun j hj k1 => ?_) (fun k1 => ?_) (by omega)).trans ?_
        · have hj2 : j < l.length := by omega
          simp only [verdererref07_Check_l9, verdererref07_Check_s9, lt_nat, hj, in_nat hj2, in_nat hi, decide_true, if_true, Int.toNat_natCast, hx, beq_b, wrap_succ j (by omega)]
          by_cases c3 : (l.getD j (Ty.z ty82)).1 = x0
          · simp only [c3, decide_true, if_true, Bool.not_true, Bool.false_eq_true, if_false]
          · simp only [c3, decide_false, if_true, Bool.not_false, Bool.false_eq_true, if_false]
        · simp only [verdererref07_Check_l9, verdererref07_Check_s9, lt_nat, Nat.lt_irrefl, decide_false, Bool.false_eq_true, if_false, in_nat hi, if_true, Int.toNat_natCast, hx, refCols_F _ _ hn, wrap_succ i (by omega)]
        · have : twin (fun c : ty82.D => c.1) (l.take i) x0 = !((List.range i).all fun j => !decide ((l.getD j (Ty.z ty82)).1 = x0)) := by
            unfold twin
            rw [any_take _ (Ty.z ty82) l i (by omega)]
            rw [List.not_all_eq_any_not]
            simp
          rw [this]
          cases (List.range i).all fun j => !decide ((l.getD j (Ty.z ty82)).1 = x0) with
          | false => rfl
          | true =>
            by_cases c4 : colsE x1 = 0
            · simp [c4]
            · simp [c4]
  · simp only [verdererref07_Check_l4, verdererref07_Check_s4, lt_nat, Nat.lt_irrefl, decide_false, Bool.false_eq_true, if_false]
  · cases (List.range l.length).findSome? (schF l) <;> rfl
end Go.Proofs.Ytikikmkfeeljgaa.E
namespace Go.Proofs.Ytikikmkfeeljgaa.E
open Go.RowKit
variable {R : Type}
/-! a map from texts -/
theorem keq_s (a b : ByteArray) : keq .str a b = decide (a = b) := beqB a b
theorem mval_cons (p : ByteArray × Bool) (r : List (ByteArray × Bool)) (q : ByteArray) (z : Bool) : mval (kt := .str) (vt := .bool) (p :: r) q z = if q = p.1 then p.2 else mval (kt := .str) (vt := .bool) r q z := by
  unfold mval
  simp only [midx, keq_s]
  by_cases h : q = p.1
  · simp [h]
  · simp [h]
theorem mput_cons (p : ByteArray × Bool) (r : List (ByteArray × Bool)) (q : ByteArray) (y : Bool) : mput (kt := .str) (vt := .bool) (p :: r) q y = if q = p.1 then (q, y) :: r else p :: mput (kt := .str) (vt := .bool) r q y := by
  unfold mput mhas
  simp only [midx, keq_s]
  by_cases h : q = p.1
  · simp [h]
  · simp only [h, decide_false, cond_false, if_false, List.length_cons, Nat.add_lt_add_iff_right]
    by_cases h2 : midx (kt := .str) (vt := .bool) r q < r.length
    · simp [h2]
    · simp [h2]
theorem mval_mput (l : List (ByteArray × Bool)) (q v : ByteArray) (y z : Bool) : mval (kt := .str) (vt := .bool) (mput (kt := .str) (vt := .bool) l q y) v z = if v = q then y else mval (kt := .str) (vt := .bool) l v z := by
  induction l with
  | nil =>
    show mval (kt := .str) (vt := .bool) [(q, y)] v z = _
    rw [mval_cons]
  | cons p r ih =>
    rw [mput_cons]
    by_cases h : q = p.1
    · rw [if_pos h, mval_cons, mval_cons]
      by_cases h2 : v = q
      · simp [h2]
      · rw [if_neg h2, if_neg h2, if_neg (by rw [← h]; exact h2)]
    · rw [if_neg h, mval_cons, mval_cons, ih]
      by_cases h2 : v = p.1
      · rw [if_pos h2, if_pos h2, if_neg (by rw [h2]; exact fun e => h e.symm)]
      · rw [if_neg h2, if_neg h2]
def seenM (l : List ty63.D) : List (ByteArray × Bool) := l.foldl (fun m c => mput (kt := .str) (vt := .bool) m c.1 true) []
theorem seen_val (l : List ty63.D) (v : ByteArray) : mval (kt := .str) (vt := .bool) (seenM l) v false = twin (fun c : ty63.D => c.1) l v := by
  have go : ∀ (l : List ty63.D) (m : List (ByteArray × Bool)), mval (kt := .str) (vt := .bool) (l.foldl (fun m c => mput (kt := .str) (vt := .bool) m c.1 true) m) v false = (twin (fun c : ty63.D => c.1) l v || mval (kt := .str) (vt := .bool) m v false) := by
    intro l
    induction l with
    | nil => intro m; rfl
    | cons c l ih =>
      intro m
      rw [List.foldl_cons, ih, mval_mput]
      unfold twin
      rw [List.any_cons]
      by_cases h : v = c.1
      · simp [h]
      · have h2 : ¬ c.1 = v := fun e => h e.symm
        simp [h, h2]
  have := go l []
  rw [show mval (kt := .str) (vt := .bool) [] v false = false from rfl, Bool.or_false] at this
  exact this
/-! where something is -/
theorem range_find {α : Type} (p : α → Bool) (z : α) : ∀ l : List α, (match (List.range l.length).findSome? (fun i => if p (l.getD i z) = true then some i else none) with
    | none => l.find? p = none
    | some i => i < l.length ∧ l.find? p = some (l.getD i z)) := by
  intro l
  induction l with
  | nil => simp
  | cons x l ih =>
    rw [List.length_cons, List.range_succ_eq_map, List.findSome?_cons, List.findSome?_map]
    simp only [List.getD_cons_zero]
    by_cases h : p x = true
    · simp [h]
    · rw [if_neg h]
      simp only
      have e : (fun i => if p ((x :: l).getD i z) = true then some i else none) ∘ Nat.succ = fun i => (if p (l.getD i z) = true then some i else none).map Nat.succ := by
        funext i
        simp only [Function.comp, List.getD_cons_succ]
        split <;> rfl
      rw [e]
      have e2 : ∀ r : List Nat, r.findSome? (fun i => (if p (l.getD i z) = true then some i else none).map Nat.succ) = (r.findSome? fun i => if p (l.getD i z) = true then some i else none).map Nat.succ := by
        intro r
        induction r with
        | nil => rfl
        | cons i r ih2 =>
          rw [List.findSome?_cons, List.findSome?_cons, ih2]
          cases (if p (l.getD i z) = true then some i else none) <;> rfl
      rw [e2]
      cases hf : (List.range l.length).findSome? (fun i => if p (l.getD i z) = true then some i else none) with
      | none =>
        rw [hf] at ih
        simp only [Option.map_none] at ih ⊢
        rw [List.find?_cons, show p x = false by simpa using h]
        exact ih
      | some i =>
        rw [hf] at ih
        simp only [Option.map_some] at ih ⊢
        refine ⟨by simpa using ih.1, ?_⟩
        rw [List.find?_cons, show p x = false by simpa using h]
        exact ih.2
def findS (l : List ty82.D) (kind : ByteArray) : Option ty82.D := l.find? fun x => decide (x.1 = kind)
theorem index_F (n : Nat) (l : List ty82.D) (s : ByteArray) (hn : l.length < n) (hl : l.length < 1000000000) (k : Int → ByteArray → Option R) : slices_IndexFunc_61_F n l s k = match (List.range l.length).findSome? (fun i => if decide ((l.getD i (Ty.z ty82)).1 = s) = true then some i else none) with
    | none => k (-1) s
    | some i => k (i : Int) s := by
  rw [slices_IndexFunc_61_e]
  unfold slices_IndexFunc_61_Fi
  refine (runC_scan (R := R) (step := slices_IndexFunc_61_l2 n) _ (fun i : Nat => k (i : Int) s) (k (-1) s) (fun i => if decide ((l.getD i (Ty.z ty82)).1 = s) = true then some i else none) (fun i => (l, (l.length : Int), (i : Int), s, ())) l.length (fun i hi k1 => ?_) (fun k1 => ?_) hn).trans ?_
  · simp only [slices_IndexFunc_61_l2, slices_IndexFunc_61_s2, lt_nat, hi, in_nat hi, decide_true, if_true, Int.toNat_natCast]
    rw [schema_Set_find_1_e]
    unfold schema_Set_find_1_Fi
    simp only [beq_b, wrap_succ i (by omega)]
    by_cases h : (l.getD i (Ty.z ty82)).1 = s
    · simp only [h, decide_true, if_true]
    · simp only [h, decide_false, Bool.false_eq_true, if_false]
  · simp only [slices_IndexFunc_61_l2, slices_IndexFunc_61_s2, lt_nat, Nat.lt_irrefl, decide_false, Bool.false_eq_true, if_false]
  · cases (List.range l.length).findSome? (fun i => if decide ((l.getD i (Ty.z ty82)).1 = s) = true then some i else none) <;> rfl
theorem clone24_F (n : Nat) (x : ty82.D) (hx : x.2.1.length ≤ 1000000) (k : ByteArray → List ty63.D → Option R) : schema_clone_F n x k = k x.1 x.2.1 := by
  rw [schema_clone_e]
  unfold schema_clone_Fi
  rw [slices_Clone_64_e]
  unfold slices_Clone_64_Fi
  simp only [List.length_nil, List.nil_append]
  rw [if_pos (by omega)]
theorem find_F (n : Nat) (s : ByteArray) (l : List ty82.D) (hn : l.length < n) (hl : l.length < 1000000000) (hb : ∀ x ∈ l, x.2.1.length ≤ 1000000) (k : ty82.D → Bool → List ty82.D → Option R) : schema_Set_find_F n s l k = match findS l s with
    | none => k ((⟨#[]⟩ : ByteArray), ([] : List ty63.D), ()) false l
    | some x => k x true l := by
  rw [schema_Set_find_e]
  unfold schema_Set_find_Fi
  rw [index_F n l s hn hl]
  have h := range_find (fun x : ty82.D => decide (x.1 = s)) (Ty.z ty82) l
  cases hf : (List.range l.length).findSome? (fun i => if decide ((l.getD i (Ty.z ty82)).1 = s) = true then some i else none) with
  | none =>
    rw [hf] at h
    unfold findS
    rw [show l.find? (fun x => decide (x.1 = s)) = none from h]
    rfl
  | some i =>
    rw [hf] at h
    obtain ⟨hi, h⟩ := h
    unfold findS
    rw [show l.find? (fun x => decide (x.1 = s)) = some (l.getD i (Ty.z ty82)) from h]
    have h0 : ¬ ((i : Int) < 0) := by omega
    have hm : (l.getD i (Ty.z ty82)) ∈ l := by rw [getD_nat l i hi]; exact List.getElem_mem hi
    simp only [h0, decide_false, Bool.false_eq_true, if_false, in_nat hi, if_true, Int.toNat_natCast, hi, clone24_F n _ (hb _ hm)]
theorem findS_twin (l : List ty82.D) (s : ByteArray) : (findS l s).isSome = twin (fun c : ty82.D => c.1) l s := by
  unfold findS twin
  rw [List.isSome_find?]
end Go.Proofs.Ytikikmkfeeljgaa.E
namespace Go.Proofs.Ytikikmkfeeljgaa.E
open Go.RowKit
variable {R : Type}
/-- the same; what came before was not so -/
theorem runC_scanP {α β R ρ : Type} {step : α → (α → Option R) → β → Option R} (k : β) (K : ρ → Option R) (E : Option R) (f : Nat → Option ρ) (st : Nat → α) (m : Nat)
    (hs : ∀ i, i < m → (∀ j, j < i → f j = none) → ∀ k1, step (st i) k1 k = match f i with
      | none => k1 (st (i + 1))
      | some y => K y) (he : ∀ k1, step (st m) k1 k = E) {n : Nat} (hn : m < n) : runC step n (st 0) k = match (List.range m).findSome? f with
      | none => E
      | some y => K y := by
  have go : ∀ (d i n : Nat), i + d = m → d < n → (∀ j, j < i → f j = none) → runC step n (st i) k = match (List.range' i d).findSome? f with
      | none => E
      | some y => K y := by
    intro d
    induction d with
    | zero =>
      intro i n hi hn _
      obtain ⟨n, rfl⟩ : ∃ q, n = q + 1 := ⟨n - 1, by omega⟩
      have : i = m := by omega
      subst this
      exact he _
    | succ d ih =>
      intro i n hi hn hp
      obtain ⟨n, rfl⟩ : ∃ q, n = q + 1 := ⟨n - 1, by omega⟩
      rw [List.range'_succ, List.findSome?_cons]
      have h := hs i (by omega) hp (fun b => runC step n b k)
      refine Eq.trans (show _ = step (st i) (fun b => runC step n b k) k from rfl) (h.trans ?_)
      cases hf : f i with
      | some y => rfl
      | none =>
        refine ih (i + 1) n (by omega) (by omega) (fun j hj => ?_)
        by_cases e : j = i
        · subst e; exact hf
        · exact hp j (by omega)
  have := go m 0 n (by omega) hn (fun j hj => absurd hj (Nat.not_lt_zero j))
  rw [← List.range_eq_range'] at this
  exact this
def inF (l : List ty63.D) (j : Nat) : Option (Int ⊕ Nat) := match colF l j with
  | some e => some (.inl e)
  | none => if j + 1 = l.length then some (.inr j) else none
theorem in_scan (l : List ty63.D) : ∀ m, m ≤ l.length → (List.range m).findSome? (inF l) = match (List.range m).findSome? (colF l) with
    | some e => some (.inl e)
    | none => if m = l.length ∧ 0 < m then some (.inr (m - 1)) else none := by
  intro m
  induction m with
  | zero => intro _; simp
  | succ m ih =>
    intro h
    rw [List.range_succ, List.findSome?_append, List.findSome?_append, ih (by omega)]
    cases hf : (List.range m).findSome? (colF l) with
    | some e => rfl
    | none =>
      simp only []
      rw [if_neg (by omega)]
      simp only [Option.none_or, List.findSome?_cons, List.findSome?_nil]
      unfold inF
      cases hc : colF l m with
      | some e => rfl
      | none =>
        simp only []
        by_cases h2 : m + 1 = l.length
        · rw [if_pos h2, if_pos ⟨h2, by omega⟩]
          rfl
        · rw [if_neg h2, if_neg (by omega)]
theorem seen_take (l : List ty63.D) (j : Nat) (h : j < l.length) : seenM (l.take (j + 1)) = mput (kt := .str) (vt := .bool) (seenM (l.take j)) (l.getD j (Ty.z ty63)).1 true := by
  rw [take_snoc l j h, getD_nat l j h]
  unfold seenM
  rw [List.foldl_append]
  rfl
theorem new_F (n : Nat) (l : List ty82.D) (hn : 16 < n) (k0 : Int → Option R) (k1 : Int → List ty82.D → Option R) : schema_New_F n l k0 k1 = if chkE l = 0 then k1 0 l else k0 (chkE l) := by
  rw [schema_New_e]
  unfold schema_New_Fi chkE
  by_cases h6 : l.length > 8
  · have h6' : ((l.length : Int) > 8) := by omega
    simp only [h6, h6', decide_true, if_true]
    rfl
  have h6' : ¬ ((l.length : Int) > 8) := by omega
  simp only [h6, h6', decide_false, Bool.false_eq_true, if_false]
  refine (runC_scanP (R := R) (step := schema_New_l5 n) _ k0 (k1 0 l) (schF l) (fun i => (l, (l.length : Int), (i : Int), l.take i, ())) l.length (fun i hi hpre k2 => ?_) (fun k1 => ?_) (by omega)).trans ?_
  · have hcl : ∀ x ∈ l.take i, x.2.1.length ≤ 6 := by
      intro x hx
      obtain ⟨j, hj, rfl⟩ := List.mem_iff_getElem.1 hx
      rw [List.length_take] at hj
      rw [List.getElem_take]
      have h1 := hpre j (by omega)
      unfold schF at h1
      rw [getD_nat l j (by omega)] at h1
      split at h1
      · split at h1
        · cases h1
        · split at h1
          · cases h1
          · split at h1
            · rename_i hc
              unfold colsE at hc
              split at hc
              · omega
              · omega
            · cases h1
      · cases h1
    simp only [schema_New_l5, schema_New_s5, lt_nat, hi, in_nat hi, decide_true, if_true, Int.toNat_natCast]
    rw [find_F n _ _ (by rw [List.length_take]; omega) (by rw [List.length_take]; omega) (fun x hx => Nat.le_trans (hcl x hx) (by omega))]
    unfold schF
    have htk := take_snoc l i hi
    rw [← getD_nat l i hi (Ty.z ty82)] at htk
    obtain ⟨x, hx⟩ : ∃ x, l.getD i (Ty.z ty82) = x := ⟨_, rfl⟩
    simp only [hx] at htk ⊢
    obtain ⟨x0, x1, x2⟩ := x
    have htw := findS_twin (l.take i) x0
    cases hfs : findS (l.take i) x0 with
    | some y =>
      rw [hfs] at htw
      have htw' : twin (fun c : ty82.D => c.1) (l.take i) x0 = true := htw.symm
      simp only [schName_F n _ hn, beq_b, htw']
      cases nameS x0 with
      | false => simp
      | true =>
        by_cases c1 : x0 = tenS
        · have c1' : x0 = (⟨#[116, 101, 110, 97, 110, 116]⟩ : ByteArray) := c1
          simp only [Bool.not_true, Bool.false_eq_true, if_false, if_true, c1', decide_true]
          rw [if_pos (show (⟨#[116, 101, 110, 97, 110, 116]⟩ : ByteArray) = tenS from rfl)]
        · have c1' : ¬ x0 = (⟨#[116, 101, 110, 97, 110, 116]⟩ : ByteArray) := c1
          simp only [Bool.not_true, Bool.false_eq_true, if_false, if_true, c1', c1, decide_false]
    | none =>
      rw [hfs] at htw
      have htw' : twin (fun c : ty82.D => c.1) (l.take i) x0 = false := htw.symm
      simp only [schName_F n _ hn, beq_b, htw']
      cases nameS x0 with
      | false => simp
      | true =>
        by_cases c1 : x0 = tenS
        · have c1' : x0 = (⟨#[116, 101, 110, 97, 110, 116]⟩ : ByteArray) := c1
          simp only [Bool.not_true, Bool.false_eq_true, if_false, if_true, c1', decide_true]
          rw [if_pos (show (⟨#[116, 101, 110, 97, 110, 116]⟩ : ByteArray) = tenS from rfl)]
        · have c1' : ¬ x0 = (⟨#[116, 101, 110, 97, 110, 116]⟩ : ByteArray) := c1
          simp only [Bool.not_true, Bool.false_eq_true, if_false, if_true, c1', c1, decide_false]
          by_cases c2 : x1.length > 6
          · have c2' : ((x1.length : Int) > 6) := by omega
            simp only [c2', decide_true, if_true, colsE, c2]
            simp
          · have c2' : ¬ ((x1.length : Int) > 6) := by omega
            simp only [c2', decide_false, Bool.false_eq_true, if_false]
            rw [clone24_F n _ (show x1.length ≤ 1000000 by omega)]
            simp only
            rw [if_pos (by simp only [List.length_take, List.length_cons, List.length_nil]; omega)]
            have hacc : l.take i ++ [(x0, x1, ())] = l.take (i + 1) := htk.symm
            rw [hacc]
            refine (runC_scan (R := R) (step := schema_New_l17 n) _ (fun y : Int ⊕ Nat => match y with
              | .inl e => k0 e
              | .inr _ => k2 (l, (l.length : Int), ((i + 1 : Nat) : Int), l.take (i + 1), ())) (k2 (l, (l.length : Int), ((i + 1 : Nat) : Int), l.take (i + 1), ())) (inF x1) (fun j => (l, (l.length : Int), (i : Int), x0, false, x1, (x1.length : Int), (j : Int), l.take (i + 1), x0, x1, seenM (x1.take j), ())) x1.length (fun j hj k3 => ?_) (fun k3 => ?_) (by omega)).trans ?_
            · simp only [schema_New_l17, schema_New_s17, lt_nat, hj, in_nat hj, decide_true, if_true, Int.toNat_natCast, schName_F n _ hn, seen_val]
              rw [seen_take x1 j hj]
              unfold inF colF
              obtain ⟨c, hc⟩ : ∃ c, x1.getD j (Ty.z ty63) = c := ⟨_, rfl⟩
              simp only [hc]
              obtain ⟨y0, y1, y2, y3⟩ := c
              simp only
              have hw : IntKind.i64.wrap ((x1.length : Int) - 1) = (x1.length : Int) - 1 := wrap_i64 (by omega) (by omega)
              cases nameS y0 with
              | false => simp
              | true =>
                by_cases d1 : y1 < 1
                · simp [d1]
                · by_cases d2 : y1 > 3
                  · simp [d1, d2]
                  · cases d3 : twin (fun c : ty63.D => c.1) (x1.take j) y0 with
                    | true => simp [d1, d2]
                    | false =>
                      simp only [Bool.not_true, Bool.false_eq_true, if_false, if_true, d1, d2, decide_false, hw]
                      by_cases d4 : j + 1 = x1.length
                      · have d4' : ((j : Int) == (x1.length : Int) - 1) = true := by simp; omega
                        simp only [d4', if_true, d4, wrap_succ i (by omega)]
                      · have d4' : ((j : Int) == (x1.length : Int) - 1) = false := by simp; omega
                        simp only [d4', Bool.false_eq_true, if_false, d4, wrap_succ j (by omega)]
            · simp only [schema_New_l17, schema_New_s17, lt_nat, Nat.lt_irrefl, decide_false, Bool.false_eq_true, if_false, wrap_succ i (by omega)]
            · rw [in_scan x1 x1.length (Nat.le_refl _)]
              simp only [colsE, c2, if_false]
              cases hf : (List.range x1.length).findSome? (colF x1) with
              | some e =>
                have hne : e ≠ 0 := by
                  obtain ⟨j, _, hj⟩ := List.exists_of_findSome?_eq_some hf
                  exact colF_ne x1 j e hj
                simp only [Option.getD_some, hne, if_false]
              | none =>
                simp only [Option.getD_none, if_true]
                split <;> (rename_i h; split at h <;> first | rfl | (cases h; rfl) | cases h)
  · simp only [schema_New_l5, schema_New_s5, lt_nat, Nat.lt_irrefl, decide_false, Bool.false_eq_true, if_false, List.take_length]
  · cases hf : (List.range l.length).findSome? (schF l) with
    | none => simp
    | some e =>
      have hne : e ≠ 0 := by
        obtain ⟨j, _, hj⟩ := List.exists_of_findSome?_eq_some hf
        exact schF_ne l j e hj
      simp [hne]
end Go.Proofs.Ytikikmkfeeljgaa.E
namespace Go.Proofs.Ytikikmkfeeljgaa.E
open Go.RowKit
variable {R : Type}
/-! find -/
theorem setFind_F (n : Nat) (s : ByteArray) (l : List ty82.D) (hn : l.length < n) (hl : l.length < 1000000000) (hb : ∀ x ∈ l, x.2.1.length ≤ 1000000) (k : ty82.D → Int → List ty82.D → Option R) : schema_Set_Find_F n s l k = match findS l s with
    | none => k ((⟨#[]⟩ : ByteArray), ([] : List ty63.D), ()) 20 l
    | some x => k x 0 l := by
  rw [schema_Set_Find_e]
  unfold schema_Set_Find_Fi
  rw [find_F n s l hn hl hb]
  cases findS l s <;> simp
theorem refFind_F (n : Nat) (s : ByteArray) (l : List ty82.D) (hn : l.length < n) (hl : l.length < 1000000000) (k : ty82.D → Int → Option R) : verdererref07_Find_F n l s k = match findS l s with
    | none => k ((⟨#[]⟩ : ByteArray), ([] : List ty63.D), ()) 20
    | some x => k x 0 := by
  rw [verdererref07_Find_e]
  unfold verdererref07_Find_Fi
  refine (runC_scan (R := R) (step := verdererref07_Find_l2 n) _ (fun i : Nat => k (l.getD i (Ty.z ty82)) 0) (k ((⟨#[]⟩ : ByteArray), ([] : List ty63.D), ()) 20) (fun i => if decide ((l.getD i (Ty.z ty82)).1 = s) = true then some i else none) (fun i => (l, s, (i : Int), ([] : List ty63.D), (⟨#[]⟩ : ByteArray), ())) l.length (fun i hi k1 => ?_) (fun k1 => ?_) hn).trans ?_
  · simp only [verdererref07_Find_l2, verdererref07_Find_s2, lt_nat, hi, in_nat hi, decide_true, if_true, Int.toNat_natCast, beq_b, wrap_succ i (by omega)]
    by_cases h : (l.getD i (Ty.z ty82)).1 = s
    · simp only [h, decide_true, if_true]
      rw [← h]
    · simp only [h, decide_false, Bool.false_eq_true, if_false]
  · simp only [verdererref07_Find_l2, verdererref07_Find_s2, lt_nat, Nat.lt_irrefl, decide_false, Bool.false_eq_true, if_false]
  · have h := range_find (fun x : ty82.D => decide (x.1 = s)) (Ty.z ty82) l
    unfold findS
    cases hf : (List.range l.length).findSome? (fun i => if decide ((l.getD i (Ty.z ty82)).1 = s) = true then some i else none) with
    | none =>
      rw [hf] at h
      rw [show l.find? (fun x => decide (x.1 = s)) = none from h]
    | some i =>
      rw [hf] at h
      rw [show l.find? (fun x => decide (x.1 = s)) = some (l.getD i (Ty.z ty82)) from h.2]
theorem same_refl (n : Nat) (x : ty82.D) (hn : x.2.1.length < n) (hl : n < 1000000000) (k : Bool → Option R) : verdererref07_Same_F n x x k = k true := by
  rw [verdererref07_Same_e]
  unfold verdererref07_Same_Fi
  obtain ⟨x0, l, u⟩ := x
  replace hn : l.length < n := hn
  simp only [beq_b, decide_true, Bool.not_true, Bool.false_eq_true, if_false, bne_self_eq_false]
  refine runC_st (R := R) (step := verdererref07_Same_l4 n) _ _ (fun i => ((i : Int), x0, l, x0, l, ())) l.length (fun i hi => .inl fun k1 => ?_) (fun k1 => ?_) hn
  · simp only [verdererref07_Same_l4, verdererref07_Same_s4, lt_nat, hi, in_nat hi, decide_true, if_true, Int.toNat_natCast, wrap_succ i (by omega), beq_self_eq_true, Bool.and_true, Bool.not_true, Bool.false_eq_true, if_false]
  · simp only [verdererref07_Same_l4, verdererref07_Same_s4, lt_nat, Nat.lt_irrefl, decide_false, Bool.false_eq_true, if_false]
def spS : ByteArray := ⟨#[115, 112, 97, 99, 101]⟩
def nmS : ByteArray := ⟨#[110, 97, 109, 101]⟩
def paS : ByteArray := ⟨#[112, 97, 114, 101, 110, 116]⟩
def colS (s : ByteArray) : ty63.D := (s, 3, false, ())
theorem setColumns_F (n : Nat) (s : ByteArray) (l : List ty82.D) (hn : l.length < n) (hl : l.length < 1000000000) (hb : ∀ x ∈ l, x.2.1.length ≤ 1000000) (k : Int → List ty82.D → List ty63.D → Option R) : schema_Set_Columns_F n s l k = if s = tenS then k 0 l [colS nmS, colS paS] else match findS l s with
    | none => k 20 l []
    | some x => k 0 l ([colS spS, colS nmS] ++ x.2.1) := by
  rw [schema_Set_Columns_e]
  unfold schema_Set_Columns_Fi
  rw [schema_text_e]
  unfold schema_text_Fi
  simp only [beq_b]
  by_cases h : s = tenS
  · have h' : s = (⟨#[116, 101, 110, 97, 110, 116]⟩ : ByteArray) := h
    rw [if_pos h, if_pos (by rw [h']; simp)]
    rfl
  · have h' : ¬ s = (⟨#[116, 101, 110, 97, 110, 116]⟩ : ByteArray) := h
    rw [if_neg h, if_neg (by simpa using h'), setFind_F n s l hn hl hb]
    cases hf : findS l s with
    | none => simp
    | some x =>
      have hx := hb x (List.mem_of_find?_eq_some hf)
      simp only
      rw [if_neg (by decide), if_pos (by simp only [List.length_cons, List.length_nil]; omega)]
      rfl
theorem refColumns_F (n : Nat) (s : ByteArray) (l : List ty82.D) (hn : l.length < n) (hl : l.length < 1000000000) (hb : ∀ x ∈ l, x.2.1.length ≤ 1000000) (k : Int → List ty63.D → Option R) : verdererref07_Columns_F n l s k = if s = tenS then k 0 [colS nmS, colS paS] else match findS l s with
    | none => k 20 []
    | some x => k 0 ([colS spS, colS nmS] ++ x.2.1) := by
  rw [verdererref07_Columns_e]
  unfold verdererref07_Columns_Fi
  simp only [beq_b]
  by_cases h : s = tenS
  · have h' : s = (⟨#[116, 101, 110, 97, 110, 116]⟩ : ByteArray) := h
    rw [if_pos h, if_pos (by rw [h']; simp)]
    rfl
  · have h' : ¬ s = (⟨#[116, 101, 110, 97, 110, 116]⟩ : ByteArray) := h
    rw [if_neg h, if_neg (by simpa using h'), refFind_F n s l hn hl]
    cases hf : findS l s with
    | none => simp
    | some x =>
      have hx := hb x (List.mem_of_find?_eq_some hf)
      simp only
      rw [if_neg (by decide), if_pos (by simp only [List.length_cons, List.length_nil]; omega)]
      rfl
end Go.Proofs.Ytikikmkfeeljgaa.E
namespace Go.Proofs.Ytikikmkfeeljgaa.E
open Go.RowKit
variable {R : Type}
/-! variables as they are known: a list of columns; the program keeps a map from names and the order -/
abbrev Cols := List ty63.D
def zC : ty63.D := Ty.z ty63
def fndC : Cols → ByteArray → Nat
  | [], _ => 0
  | c :: r, s => if c.1 = s then 0 else fndC r s + 1
def mapOf (L : Cols) : List (ByteArray × ty63.D) := L.map fun c => (c.1, c)
def ordOf (L : Cols) : List ByteArray := L.map fun c => c.1
def hasC (L : Cols) (s : ByteArray) : Bool := decide (fndC L s < L.length)
theorem midx_map (L : Cols) (s : ByteArray) : midx (kt := .str) (vt := ty63) (mapOf L) s = fndC L s := by
  induction L with
  | nil => rfl
  | cons c r ih =>
    show (bif keq .str s c.1 then 0 else midx (kt := .str) (vt := ty63) (mapOf r) s + 1) = _
    rw [keq_s, ih]
    by_cases h : c.1 = s
    · simp [fndC, h]
    · have h2 : ¬ s = c.1 := fun e => h e.symm
      simp [fndC, h, h2]
theorem mapOf_len (L : Cols) : (mapOf L).length = L.length := List.length_map _
theorem ordOf_len (L : Cols) : (ordOf L).length = L.length := List.length_map _
theorem mhas_map (L : Cols) (s : ByteArray) : mhas (kt := .str) (vt := ty63) (mapOf L) s = hasC L s := by
  unfold mhas hasC
  rw [midx_map, mapOf_len]
theorem fndC_le (L : Cols) (s : ByteArray) : fndC L s ≤ L.length := by
  induction L with
  | nil => exact Nat.le_refl _
  | cons c r ih => unfold fndC; split <;> simp <;> omega
theorem fndC_name (L : Cols) (s : ByteArray) (h : fndC L s < L.length) : (L.getD (fndC L s) zC).1 = s := by
  induction L with
  | nil => simp at h
  | cons c r ih =>
    unfold fndC at h ⊢
    split
    · rename_i e; simpa using e
    · rename_i e
      rw [if_neg e] at h
      simpa using ih (by simpa using h)
theorem map_getD (L : Cols) (i : Nat) (h : i < L.length) : (mapOf L).getD i (Ty.z .str, Ty.z ty63) = ((L.getD i zC).1, L.getD i zC) := by
  rw [getD_nat _ i (by rw [mapOf_len]; exact h), getD_nat L i h]
  simp [mapOf]
theorem map_set (L : Cols) (i : Nat) (_ : i < L.length) (c : ty63.D) (hc : c.1 = (L.getD i zC).1) : (mapOf L).set i ((L.getD i zC).1, c) = mapOf (L.set i c) := by
  unfold mapOf
  rw [List.map_set, hc]
theorem ord_set (L : Cols) (i : Nat) (h : i < L.length) (c : ty63.D) (hc : c.1 = (L.getD i zC).1) : ordOf (L.set i c) = ordOf L := by
  unfold ordOf
  rw [List.map_set, hc, getD_nat L i h]
  refine List.ext_getElem (by simp) fun j h1 h2 => ?_
  rw [List.getElem_set]
  split
  · rename_i e; subst e; simp
  · rfl
theorem map_snoc (L : Cols) (c : ty63.D) : mapOf L ++ [(c.1, c)] = mapOf (L ++ [c]) := by simp [mapOf]
theorem ord_snoc (L : Cols) (c : ty63.D) : ordOf L ++ [c.1] = ordOf (L ++ [c]) := by simp [ordOf]
/-- a variable stands at a column -/
def knownS (L : Cols) (nm : ByteArray) (c : ty63.D) (bind : Bool) : Bool × Cols :=
  if fndC L nm < L.length then
    (if (L.getD (fndC L nm) zC).2.1 = c.2.1 then (true, if bind = true then L.set (fndC L nm) ((L.getD (fndC L nm) zC).1, (L.getD (fndC L nm) zC).2.1, ((L.getD (fndC L nm) zC).2.2.1 && c.2.2.1), ()) else L) else (false, L))
  else if bind = true then (true, L ++ [(nm, c.2.1, c.2.2.1, ())]) else (true, L)
theorem known_F (n : Nat) (nm : ByteArray) (c : ty63.D) (bind : Bool) (a3 a4 : List ty82.D) (L : Cols) (hL : L.length ≤ 1000000) (k : Bool → List ty82.D → List ty82.D → List (ByteArray × ty63.D) → List ByteArray → Option R) :
    types_env_known_F n nm c bind a3 a4 (mapOf L) (ordOf L) k = k (knownS L nm c bind).1 a3 a4 (mapOf (knownS L nm c bind).2) (ordOf (knownS L nm c bind).2) := by
  rw [types_env_known_e]
  unfold types_env_known_Fi knownS
  have hml : (mapOf L).length = L.length := mapOf_len L
  simp only [mhas_map, midx_map, hasC, List.length_set]
  simp only [hml, ordOf_len]
  by_cases h : fndC L nm < L.length
  · have hm := map_getD L _ h
    obtain ⟨x, hx⟩ : ∃ x, L.getD (fndC L nm) zC = x := ⟨_, rfl⟩
    simp only [h, decide_true, if_true, hm, hx]
    have hset : ∀ b : Bool, ((mapOf L).set (fndC L nm) (x.1, (x.1, x.2.1, b, ()))) = mapOf (L.set (fndC L nm) (x.1, x.2.1, b, ())) := fun b => by
      have := map_set L _ h (x.1, x.2.1, b, ()) (by rw [hx])
      rw [hx] at this
      exact this
    have hord : ∀ b : Bool, ordOf (L.set (fndC L nm) (x.1, x.2.1, b, ())) = ordOf L := fun b => ord_set L _ h _ (by rw [hx])
    have hget : ∀ b : Bool, ((mapOf (L.set (fndC L nm) (x.1, x.2.1, b, ()))).getD (fndC L nm) (Ty.z .str, Ty.z ty63)).2.2.1 = x.2.1 := fun b => by
      rw [map_getD _ _ (by rw [List.length_set]; exact h)]
      rw [getD_nat _ _ (by rw [List.length_set]; exact h), List.getElem_set_self]
    simp only [hset, hget]
    obtain ⟨x0, x1, x2, u⟩ := x
    simp only
    by_cases he : x1 = c.2.1
    · have hord2 : ∀ b : Bool, ordOf (L.set (fndC L nm) (x0, c.2.1, b, ())) = ordOf L := fun b => by rw [← he]; exact hord b
      have hb : (x1 == c.2.1) = true := beq_iff_eq.2 he
      cases bind <;> cases x2 <;> simp [he, hb, hord2]
    · have hb : (x1 == c.2.1) = false := beq_eq_false_iff_ne.2 he
      cases bind <;> simp [he, hb]
  · simp only [h, decide_false, Bool.false_eq_true, if_false]
    cases bind with
    | true =>
      simp only [if_true, List.length_cons, List.length_nil]
      rw [if_pos (by omega)]
      rw [show (nm, (nm, c.2.1, c.2.2.1, ())) = ((nm, c.2.1, c.2.2.1, ()).1, (nm, c.2.1, c.2.2.1, ())) from rfl, map_snoc]
      rw [show [nm] = [((nm, c.2.1, c.2.2.1, ()) : ty63.D).1] from rfl, ord_snoc]
    | false => simp
end Go.Proofs.Ytikikmkfeeljgaa.E
namespace Go.Proofs.Ytikikmkfeeljgaa.E
open Go.RowKit
variable {R : Type}
theorem known_len (L : Cols) (nm : ByteArray) (c : ty63.D) (bind : Bool) : (knownS L nm c bind).2.length ≤ L.length + 1 := by
  unfold knownS
  split
  · split
    · cases bind <;> simp
    · simp
  · split <;> simp
/-- an arg stands at a column -/
def argS (L : Cols) (t : ty38.D) (c : ty63.D) (bind : Bool) : Bool × Cols :=
  if t.2.1 = true then (true, L) else if t.1 = (⟨#[]⟩ : ByteArray) then (decide (t.2.2.1.1 = c.2.1) || (decide (t.2.2.1.1 = 0) && c.2.2.1), L) else knownS L t.1 c bind
theorem arg_len (L : Cols) (t : ty38.D) (c : ty63.D) (bind : Bool) : (argS L t c bind).2.length ≤ L.length + 1 := by
  unfold argS
  split
  · simp
  · split
    · simp
    · exact known_len _ _ _ _
theorem arg_F (n : Nat) (t : ty38.D) (c : ty63.D) (bind : Bool) (a3 a4 : List ty82.D) (L : Cols) (hL : L.length ≤ 1000000) (k : Bool → List ty82.D → List ty82.D → List (ByteArray × ty63.D) → List ByteArray → Option R) :
    types_env_arg_F n t c bind a3 a4 (mapOf L) (ordOf L) k = k (argS L t c bind).1 a3 a4 (mapOf (argS L t c bind).2) (ordOf (argS L t c bind).2) := by
  rw [types_env_arg_e]
  unfold types_env_arg_Fi argS
  by_cases h1 : t.2.1 = true
  · simp only [h1, if_true]
  · by_cases h2 : t.1 = (⟨#[]⟩ : ByteArray)
    · simp only [h1, h2, beqB, decide_true, Bool.not_true, Bool.false_eq_true, if_true, if_false]
      by_cases h3 : t.2.2.1.1 = c.2.1
      · have : (t.2.2.1.1 == c.2.1) = true := beq_iff_eq.2 h3
        simp only [this, if_true]
        simp [h3]
      · have : (t.2.2.1.1 == c.2.1) = false := beq_eq_false_iff_ne.2 h3
        simp only [this, Bool.false_eq_true, if_false]
        by_cases h4 : t.2.2.1.1 = 0
        · have : (t.2.2.1.1 == 0) = true := beq_iff_eq.2 h4
          have h3' : ¬ 0 = c.2.1 := fun e => h3 (h4.trans e)
          simp only [this, if_true]
          simp [h4, h3']
        · have : (t.2.2.1.1 == 0) = false := beq_eq_false_iff_ne.2 h4
          simp only [this, Bool.false_eq_true, if_false]
          simp [h3, h4]
    · have h1' : t.2.1 = false := by simpa using h1
      simp only [h1', h2, beqB, decide_false, Bool.not_false, Bool.false_eq_true, if_true, if_false]
      exact known_F n t.1 c bind a3 a4 L hL k
/-! loops over a list, with what they carry -/
def foldL {σ γ ρ : Type} (f : Nat → σ → γ → σ ⊕ ρ) : Nat → σ → List γ → σ ⊕ ρ
  | _, s, [] => .inl s
  | i, s, x :: r => match f i s x with
    | .inl s' => foldL f (i + 1) s' r
    | .inr y => .inr y
theorem runC_fold {σ γ ρ α β R : Type} {step : α → (α → Option R) → β → Option R} (k : β) (l : List γ) (f : Nat → σ → γ → σ ⊕ ρ) (I : Nat → σ → Prop) (st : Nat → σ → α) (K : ρ → Option R) (E : σ → Option R)
    (hs : ∀ i (h : i < l.length) s, I i s → match f i s l[i] with
      | .inl s' => I (i + 1) s' ∧ ∀ k1, step (st i s) k1 k = k1 (st (i + 1) s')
      | .inr y => ∀ k1, step (st i s) k1 k = K y)
    (he : ∀ s, I l.length s → ∀ k1, step (st l.length s) k1 k = E s) {n : Nat} (hn : l.length < n) {s0 : σ} (h0 : I 0 s0) : runC step n (st 0 s0) k = match foldL f 0 s0 l with
    | .inl s => E s
    | .inr y => K y := by
  have go : ∀ (d i n : Nat) (s : σ), i + d = l.length → d < n → I i s → runC step n (st i s) k = match foldL f i s (l.drop i) with
    | .inl s => E s
    | .inr y => K y := by
    intro d
    induction d with
    | zero =>
      intro i n s hi hn hI
      obtain ⟨n, rfl⟩ : ∃ q, n = q + 1 := ⟨n - 1, by omega⟩
      have : i = l.length := by omega
      subst this
      rw [List.drop_length]
      exact he s hI _
    | succ d ih =>
      intro i n s hi hn hI
      obtain ⟨n, rfl⟩ : ∃ q, n = q + 1 := ⟨n - 1, by omega⟩
      have hlt : i < l.length := by omega
      rw [List.drop_eq_getElem_cons hlt]
      have h := hs i hlt s hI
      show step (st i s) (fun b => runC step n b k) k = _
      unfold foldL
      cases hf : f i s l[i] with
      | inl s' =>
        rw [hf] at h
        rw [h.2]
        exact ih (i + 1) n s' (by omega) (by omega) h.1
      | inr y =>
        rw [hf] at h
        exact h _
  have := go l.length 0 n s0 (by omega) hn h0
  rw [List.drop_zero] at this
  exact this
theorem foldL_inv {σ γ ρ : Type} {f : Nat → σ → γ → σ ⊕ ρ} {I : Nat → σ → Prop} : ∀ (l : List γ) (i : Nat) (s : σ), I i s → (∀ j (h : j < l.length) s s', I (i + j) s → f (i + j) s l[j] = .inl s' → I (i + j + 1) s') → ∀ s', foldL f i s l = .inl s' → I (i + l.length) s'
  | [], i, s, h0, _, s', e => by injection e with e; subst e; exact h0
  | x :: r, i, s, h0, hs, s', e => by
    unfold foldL at e
    cases hf : f i s x with
    | inr y => rw [hf] at e; cases e
    | inl s1 =>
      rw [hf] at e
      have h1 := hs 0 (by simp) s s1 h0 hf
      have := foldL_inv r (i + 1) s1 h1 (fun j hj s s' hI hf => by
        have := hs (j + 1) (by simpa using hj) s s' (by rw [show i + (j + 1) = i + 1 + j by omega]; exact hI) (by rw [show i + (j + 1) = i + 1 + j by omega]; exact hf)
        rw [show i + (j + 1) + 1 = i + 1 + j + 1 by omega] at this
        exact this) s' e
      rw [List.length_cons, show i + (r.length + 1) = i + 1 + r.length by omega]
      exact this
/-- all args of an atom -/
def argF (bind : Bool) (_ : Nat) (L : Cols) (q : ty38.D × ty63.D) : Cols ⊕ Cols := if (argS L q.1 q.2 bind).1 = true then .inl (argS L q.1 q.2 bind).2 else .inr (argS L q.1 q.2 bind).2
def argsS (bind : Bool) (L : Cols) (l : List (ty38.D × ty63.D)) : Int × Cols := match foldL (argF bind) 0 L l with
  | .inl L' => (0, L')
  | .inr L' => (11, L')
/-- where a name is looked up: kinds' columns, or a view's -/
def colsV (kinds views : List ty82.D) (s : ByteArray) : Int × Cols :=
  if s = tenS then (0, [colS nmS, colS paS]) else match findS kinds s with
    | some x => (0, [colS spS, colS nmS] ++ x.2.1)
    | none => match findS views s with
      | none => (20, [])
      | some x => (0, x.2.1)
/-- an atom -/
def atomS (cols : ByteArray → Int × Cols) (L : Cols) (x : ty41.D) : Int × Cols :=
  if (cols x.2.1).1 ≠ 0 then ((cols x.2.1).1, L) else if (cols x.2.1).2.length ≠ x.2.2.1.length then (9, L) else argsS (!x.1) L (x.2.2.1.zip (cols x.2.1).2)
theorem args_len (bind : Bool) (l : List (ty38.D × ty63.D)) (L : Cols) (h : (argsS bind L l).1 = 0) : (argsS bind L l).2.length ≤ L.length + l.length := by
  unfold argsS at h ⊢
  cases hf : foldL (argF bind) 0 L l with
  | inr y => rw [hf] at h; cases h
  | inl s =>
    have := foldL_inv (f := argF bind) (I := fun i s => s.length ≤ L.length + i) l 0 L (by omega) (fun j hj s s' hI e => by
      unfold argF at e
      split at e
      · injection e with e
        have := arg_len s l[j].1 l[j].2 bind
        rw [e] at this
        omega
      · cases e) s hf
    simpa using this
theorem atom_len (cols : ByteArray → Int × Cols) (L : Cols) (x : ty41.D) (h : (atomS cols L x).1 = 0) : (atomS cols L x).2.length ≤ L.length + x.2.2.1.length := by
  unfold atomS at h ⊢
  split
  · simp only []; omega
  · rename_i h1
    rw [if_neg h1] at h
    split
    · simp only []; omega
    · rename_i h2
      rw [if_neg h2] at h
      have := args_len (!x.1) (x.2.2.1.zip (cols x.2.1).2) L h
      rw [List.length_zip] at this
      omega
/-- a term's kind -/
def kindS (L : Cols) (t : ty38.D) : Int := if t.2.1 = true then 0 else if t.1 = (⟨#[]⟩ : ByteArray) then t.2.2.1.1 else if fndC L t.1 < L.length then (L.getD (fndC L t.1) zC).2.1 else 0
/-- a comparison -/
def cmpS (L : Cols) (x : ty41.D) : Int := if x.2.2.1.length ≠ 2 then 9 else if kindS L (x.2.2.1.getD 0 (Ty.z ty38)) ≠ 0 ∧ kindS L (x.2.2.1.getD 1 (Ty.z ty38)) ≠ 0 ∧ kindS L (x.2.2.1.getD 0 (Ty.z ty38)) ≠ kindS L (x.2.2.1.getD 1 (Ty.z ty38)) then 11 else 0
/-- a literal -/
def litS (cols : ByteArray → Int × Cols) (L : Cols) (x : ty41.D) : Int × Cols := if x.2.2.2.1 = 0 then atomS cols L x else (cmpS L x, L)
def selS (x : ty41.D) : Bool := decide (x.2.2.2.1 = 0) && !x.1
def passF (cols : ByteArray → Int × Cols) (first : Bool) (i : Nat) (L : Cols) (x : ty41.D) : Cols ⊕ (Nat × Int × Cols) :=
  if selS x = first then (if (litS cols L x).1 = 0 then .inl (litS cols L x).2 else .inr (i, (litS cols L x).1, (litS cols L x).2)) else .inl L
/-- all literals -/
def litsS (cols : ByteArray → Int × Cols) (l : List ty41.D) : Cols ⊕ (Nat × Int × Cols) := match foldL (passF cols true) 0 [] l with
  | .inr y => .inr y
  | .inl L => foldL (passF cols false) 0 L l
end Go.Proofs.Ytikikmkfeeljgaa.E
namespace Go.Proofs.Ytikikmkfeeljgaa.E
open Go.RowKit
variable {R : Type}
/-! the program -/
theorem indexV_F (n : Nat) (l : List ty82.D) (s : ByteArray) (hn : l.length < n) (hl : l.length < 1000000000) (k : Int → ByteArray → Option R) : slices_IndexFunc_61_v1_F n l s k = match (List.range l.length).findSome? (fun i => if decide ((l.getD i (Ty.z ty82)).1 = s) = true then some i else none) with
    | none => k (-1) s
    | some i => k (i : Int) s := by
  rw [slices_IndexFunc_61_v1_e]
  unfold slices_IndexFunc_61_v1_Fi
  refine (runC_scan (R := R) (step := slices_IndexFunc_61_v1_l2 n) _ (fun i : Nat => k (i : Int) s) (k (-1) s) (fun i => if decide ((l.getD i (Ty.z ty82)).1 = s) = true then some i else none) (fun i => (l, (l.length : Int), (i : Int), s, ())) l.length (fun i hi k1 => ?_) (fun k1 => ?_) hn).trans ?_
  · simp only [slices_IndexFunc_61_v1_l2, slices_IndexFunc_61_v1_s2, lt_nat, hi, in_nat hi, decide_true, if_true, Int.toNat_natCast]
    rw [types_env_columns_1_e]
    unfold types_env_columns_1_Fi
    simp only [beq_b, wrap_succ i (by omega)]
    by_cases h : (l.getD i (Ty.z ty82)).1 = s
    · simp only [h, decide_true, if_true]
    · simp only [h, decide_false, Bool.false_eq_true, if_false]
  · simp only [slices_IndexFunc_61_v1_l2, slices_IndexFunc_61_v1_s2, lt_nat, Nat.lt_irrefl, decide_false, Bool.false_eq_true, if_false]
  · cases (List.range l.length).findSome? (fun i => if decide ((l.getD i (Ty.z ty82)).1 = s) = true then some i else none) <;> rfl
/-- what is asked of the kinds and views -/
structure Okay (n : Nat) (views kinds : List ty82.D) : Prop where
  z : n < 1000000000
  k : kinds.length < n
  v : views.length < n
  c : ∀ x ∈ kinds, x.2.1.length ≤ 1000000
theorem columns_F {n : Nat} {views kinds : List ty82.D} (ok : Okay n views kinds) (s : ByteArray) (M : List (ByteArray × ty63.D)) (O : List ByteArray) (k0 : Int → (List ty82.D) → (List ty82.D) → (List (ByteArray × ty63.D)) → (List ByteArray) → (List ty63.D) → Option R) (k1 : (List ty63.D) → Int → (List ty82.D) → (List ty82.D) → (List (ByteArray × ty63.D)) → (List ByteArray) → Option R)
    (hk : ∀ c e, k1 c e views kinds M O = k0 e views kinds M O c) : types_env_columns_F n s views kinds M O k0 k1 = k0 (colsV kinds views s).1 views kinds M O (colsV kinds views s).2 := by
  rw [types_env_columns_e]
  unfold types_env_columns_Fi colsV
  have hok := ok.z
  have hokv := ok.v
  have hokk := ok.k
  rw [setColumns_F n s kinds ok.k (by omega) ok.c]
  by_cases h : s = tenS
  · rw [if_pos h, if_pos h]
    rfl
  · rw [if_neg h, if_neg h]
    cases hf : findS kinds s with
    | some x => rfl
    | none =>
      simp only
      rw [if_neg (by decide), indexV_F n views s ok.v (by omega)]
      have h2 := range_find (fun x : ty82.D => decide (x.1 = s)) (Ty.z ty82) views
      cases hg : (List.range views.length).findSome? (fun i => if decide ((views.getD i (Ty.z ty82)).1 = s) = true then some i else none) with
      | none =>
        rw [hg] at h2
        have : findS views s = none := h2
        rw [this]
        rfl
      | some i =>
        rw [hg] at h2
        obtain ⟨hi, h2⟩ := h2
        have : findS views s = some (views.getD i (Ty.z ty82)) := h2
        rw [this]
        have h0 : ¬ ((i : Int) < 0) := by omega
        simp only [h0, decide_false, Bool.false_eq_true, if_false, in_nat hi, if_true, Int.toNat_natCast]
        exact hk _ _
theorem atom_F {n : Nat} {views kinds : List ty82.D} (ok : Okay n views kinds) (x : ty41.D) (L : Cols) (hx : x.2.2.1.length < n) (hL : L.length + x.2.2.1.length ≤ 1000000) (k : Int → List ty82.D → List ty82.D → List (ByteArray × ty63.D) → List ByteArray → Option R) :
    types_env_atom_F n x views kinds (mapOf L) (ordOf L) k = k (atomS (colsV kinds views) L x).1 views kinds (mapOf (atomS (colsV kinds views) L x).2) (ordOf (atomS (colsV kinds views) L x).2) := by
  rw [types_env_atom_e]
  unfold types_env_atom_Fi atomS
  rw [columns_F ok _ _ _ _ _ (fun c e => rfl)]
  obtain ⟨e, hc⟩ : ∃ c, colsV kinds views x.2.1 = c := ⟨_, rfl⟩
  obtain ⟨e, c⟩ := e
  simp only [hc]
  have hok := ok.z
  by_cases h1 : e = 0
  · subst h1
    rw [if_neg (show ¬ ((0 : Int) != 0) = true by decide), if_neg (show ¬ ((0 : Int) ≠ 0) by decide)]
    by_cases h2 : c.length = x.2.2.1.length
    · rw [if_neg (show ¬ ((c.length : Int) != (x.2.2.1.length : Int)) = true by simp [h2]), if_neg (show ¬ (c.length ≠ x.2.2.1.length) by simp [h2])]
      have hz : (x.2.2.1.zip c).length = x.2.2.1.length := by rw [List.length_zip, h2, Nat.min_self]
      unfold argsS
      have := runC_fold (R := R) (step := types_env_atom_l7 n) (fun b16 => k b16.1 b16.2.1 b16.2.2.1 b16.2.2.2.1 b16.2.2.2.2.1, fun b20 => k 0 b20.1 b20.2.1 b20.2.2.1 b20.2.2.2.1, ()) (x.2.2.1.zip c) (argF (!x.1)) (fun i s => s.length ≤ L.length + i)
        (fun i s => (c, x.2.2.1, (x.2.2.1.length : Int), (i : Int), views, kinds, mapOf s, ordOf s, x.1, x.2.1, x.2.2.1, x.2.2.2.1, ())) (fun y => k 11 views kinds (mapOf y) (ordOf y)) (fun s => k 0 views kinds (mapOf s) (ordOf s)) (fun i hi s hI => ?_) (fun s hI k1 => ?_) (n := n) (by omega) (s0 := L) (by omega)
      · refine this.trans ?_
        cases foldL (argF (!x.1)) 0 L (x.2.2.1.zip c) <;> rfl
      · have hi1 : i < x.2.2.1.length := by omega
        have hi2 : i < c.length := by omega
        have step : ∀ k1, types_env_atom_l7 n (c, x.2.2.1, (x.2.2.1.length : Int), (i : Int), views, kinds, mapOf s, ordOf s, x.1, x.2.1, x.2.2.1, x.2.2.2.1, ()) k1 (fun b16 => k b16.1 b16.2.1 b16.2.2.1 b16.2.2.2.1 b16.2.2.2.2.1, fun b20 => k 0 b20.1 b20.2.1 b20.2.2.1 b20.2.2.2.1, ())
            = if (argS s x.2.2.1[i] c[i] (!x.1)).1 = true then k1 (c, x.2.2.1, (x.2.2.1.length : Int), ((i + 1 : Nat) : Int), views, kinds, mapOf (argS s x.2.2.1[i] c[i] (!x.1)).2, ordOf (argS s x.2.2.1[i] c[i] (!x.1)).2, x.1, x.2.1, x.2.2.1, x.2.2.2.1, ()) else k 11 views kinds (mapOf (argS s x.2.2.1[i] c[i] (!x.1)).2) (ordOf (argS s x.2.2.1[i] c[i] (!x.1)).2) := by
          intro k1
          simp only [types_env_atom_l7, types_env_atom_s7, lt_nat, hi1, in_nat hi1, in_nat hi2, Int.toNat_natCast, getD_nat _ i hi1, getD_nat _ i hi2, decide_true, if_true, wrap_succ i (by omega)]
          rw [arg_F n _ _ _ _ _ _ (by omega)]
          show (if (!(argS s x.2.2.1[i] c[i] (!x.1)).1) = true then _ else _) = _
          cases (argS s x.2.2.1[i] c[i] (!x.1)).1 <;> rfl
        have hz2 : (x.2.2.1.zip c)[i] = (x.2.2.1[i], c[i]) := List.getElem_zip ..
        have hal := arg_len s x.2.2.1[i] c[i] (!x.1)
        rw [hz2]
        unfold argF
        simp only []
        cases hb : (argS s x.2.2.1[i] c[i] (!x.1)).1 with
        | true =>
          rw [if_pos rfl]
          simp only []
          exact ⟨by omega, fun k1 => by rw [step k1, hb, if_pos rfl]⟩
        | false =>
          rw [if_neg (by decide)]
          simp only []
          exact fun k1 => by rw [step k1, hb, if_neg (by decide)]
      · simp [types_env_atom_l7, types_env_atom_s7, hz]
    · rw [if_pos (show ((c.length : Int) != (x.2.2.1.length : Int)) = true by simp; omega), if_pos (show (c.length ≠ x.2.2.1.length) from h2)]
  · rw [if_pos (show (e != 0) = true by simp [h1]), if_pos h1]
theorem kind_F (n : Nat) (t : ty38.D) (a3 a4 : List ty82.D) (L : Cols) (k : Int → List ty82.D → List ty82.D → List (ByteArray × ty63.D) → List ByteArray → Option R) :
    types_env_kind_F n t a3 a4 (mapOf L) (ordOf L) k = k (kindS L t) a3 a4 (mapOf L) (ordOf L) := by
  rw [types_env_kind_e]
  unfold types_env_kind_Fi kindS
  have hml : (mapOf L).length = L.length := mapOf_len L
  simp only [mhas_map, midx_map, hasC, beqB]
  simp only [hml]
  by_cases h1 : t.2.1 = true
  · simp only [h1, if_true]
  · simp only [h1, if_false, Bool.false_eq_true]
    by_cases h2 : t.1 = (⟨#[]⟩ : ByteArray)
    · simp only [h2, decide_true, if_true]
    · simp only [h2, decide_false, Bool.false_eq_true, if_false]
      by_cases h3 : fndC L t.1 < L.length
      · simp only [h3, decide_true, if_true, map_getD L _ h3]
      · simp only [h3, decide_false, Bool.false_eq_true, if_false]
theorem cmp_F (n : Nat) (x : ty41.D) (a3 a4 : List ty82.D) (L : Cols) (k : Int → List ty82.D → List ty82.D → List (ByteArray × ty63.D) → List ByteArray → Option R) :
    types_env_comparison_F n x a3 a4 (mapOf L) (ordOf L) k = k (cmpS L x) a3 a4 (mapOf L) (ordOf L) := by
  rw [types_env_comparison_e]
  unfold types_env_comparison_Fi cmpS
  by_cases h : x.2.2.1.length = 2
  · rw [if_neg (show ¬ ((x.2.2.1.length : Int) != 2) = true by simp [h]), if_neg (show ¬ (x.2.2.1.length ≠ 2) by simp [h])]
    rw [if_pos (by omega), if_pos (by omega)]
    simp only [kind_F]
    show (if (kindS L (x.2.2.1.getD 0 (Ty.z ty38)) != 0) = true then if (kindS L (x.2.2.1.getD 1 (Ty.z ty38)) != 0) = true then if (kindS L (x.2.2.1.getD 0 (Ty.z ty38)) != kindS L (x.2.2.1.getD 1 (Ty.z ty38))) = true then _ else _ else _ else _) = _
    generalize kindS L (x.2.2.1.getD 0 (Ty.z ty38)) = p
    generalize kindS L (x.2.2.1.getD 1 (Ty.z ty38)) = q
    by_cases h1 : p = 0 <;> by_cases h2 : q = 0 <;> by_cases h3 : p = q <;> simp [h1, h2, h3]
  · rw [if_pos (show ((x.2.2.1.length : Int) != 2) = true by simp; omega), if_pos (show x.2.2.1.length ≠ 2 from h)]
end Go.Proofs.Ytikikmkfeeljgaa.E
namespace Go.Proofs.Ytikikmkfeeljgaa.E
open Go.RowKit
variable {R : Type}
def many (l : List ty41.D) : Nat := (l.map fun a => a.2.2.1.length).sum
theorem many_take (l : List ty41.D) (i : Nat) : many (l.take i) ≤ many l := by
  conv => rhs; rw [← List.take_append_drop i l]
  unfold many
  rw [List.map_append, List.sum_append]
  omega
theorem many_snoc (l : List ty41.D) (i : Nat) (h : i < l.length) : many (l.take (i + 1)) = many (l.take i) + l[i].2.2.1.length := by
  rw [take_snoc l i h]
  unfold many
  rw [List.map_append, List.sum_append]
  simp
theorem many_at (l : List ty41.D) (i : Nat) (h : i < l.length) : many (l.take i) + l[i].2.2.1.length ≤ many l := by
  rw [← many_snoc l i h]
  exact many_take l _
theorem lit_len (cols : ByteArray → Int × Cols) (L : Cols) (x : ty41.D) (h : (litS cols L x).1 = 0) : (litS cols L x).2.length ≤ L.length + x.2.2.1.length := by
  unfold litS at h ⊢
  split
  · rename_i h1; rw [if_pos h1] at h; exact atom_len cols L x h
  · simp only []; omega
theorem pass_len (cols : ByteArray → Int × Cols) (first : Bool) (l : List ty41.D) (i : Nat) (hi : i < l.length) (L s s' : Cols) (hI : s.length ≤ L.length + many (l.take i)) (h : passF cols first i s l[i] = .inl s') : s'.length ≤ L.length + many (l.take (i + 1)) := by
  rw [many_snoc l i hi]
  unfold passF at h
  split at h
  · split at h
    · rename_i h2
      injection h with h
      have := lit_len cols s l[i] h2
      rw [h] at this
      omega
    · cases h
  · injection h with h; rw [← h]; omega
theorem inner_F {n : Nat} {views kinds : List ty82.D} (ok : Okay n views kinds) (first : Bool) (l : List ty41.D) (L : Cols) (hl : l.length < n) (hm : many l < n) (hL : L.length + many l ≤ 1000000) (x4 x5 : Int) (bs : List Bool) (k2 : exK R (types_env_body_dx 6)) :
    runC (types_env_body_l6 n) n (l, (0 : Int), (0 : Int), first, x4, x5, l, (l.length : Int), (0 : Int), views, kinds, mapOf L, ordOf L, bs, ()) k2 = match foldL (passF (colsV kinds views) first) 0 L l with
      | .inl L' => k2.2.1 (l, 0, 0, x4, x5, views, kinds, mapOf L', ordOf L', bs, ())
      | .inr y => k2.1 ((y.1 : Int), y.2.1, views, kinds, mapOf y.2.2, ordOf y.2.2, ()) := by
  have hok := ok.z
  have hz : ((0 : Nat) : Int) = 0 := rfl
  refine (runC_fold (R := R) (step := types_env_body_l6 n) k2 l (passF (colsV kinds views) first) (fun i s => s.length ≤ L.length + many (l.take i))
    (fun i s => (l, (0 : Int), (0 : Int), first, x4, x5, l, (l.length : Int), (i : Int), views, kinds, mapOf s, ordOf s, bs, ())) (fun y => k2.1 ((y.1 : Int), y.2.1, views, kinds, mapOf y.2.2, ordOf y.2.2, ())) (fun L' => k2.2.1 (l, 0, 0, x4, x5, views, kinds, mapOf L', ordOf L', bs, ())) (fun i hi s hI => ?_) (fun s hI k1 => ?_) (n := n) (by omega) (s0 := L) (by omega)).trans ?_
  · have hma := many_at l i hi
    have step : ∀ k1, types_env_body_l6 n (l, (0 : Int), (0 : Int), first, x4, x5, l, (l.length : Int), (i : Int), views, kinds, mapOf s, ordOf s, bs, ()) k1 k2 = match passF (colsV kinds views) first i s l[i] with
        | .inl s' => k1 (l, (0 : Int), (0 : Int), first, x4, x5, l, (l.length : Int), ((i + 1 : Nat) : Int), views, kinds, mapOf s', ordOf s', bs, ())
        | .inr y => k2.1 ((y.1 : Int), y.2.1, views, kinds, mapOf y.2.2, ordOf y.2.2, ()) := by
      intro k1
      simp only [types_env_body_l6, types_env_body_s6, lt_nat, hi, in_nat hi, Int.toNat_natCast, getD_nat _ i hi, decide_true, if_true, wrap_succ i (by omega)]
      have hA := fun k => atom_F (R := R) ok l[i] s (by omega) (by omega) k
      simp only [hA, cmp_F]
      unfold passF selS litS
      generalize atomS (colsV kinds views) s l[i] = at1
      generalize cmpS s l[i] = c1
      obtain ⟨a1, a2⟩ := at1
      clear hA hma
      generalize l[i] = x
      obtain ⟨x0, x1, x2, x3, u⟩ := x
      simp only
      cases x0 <;> cases first <;> by_cases h1 : x3 = 0 <;> by_cases h3 : a1 = 0 <;> by_cases h4 : c1 = 0 <;> simp [h1, h3, h4]
    cases hf : passF (colsV kinds views) first i s l[i] with
    | inl s' => exact ⟨pass_len _ _ l i hi L s s' hI hf, fun k1 => by rw [step k1, hf]⟩
    | inr y => exact fun k1 => by rw [step k1, hf]
  · simp [types_env_body_l6, types_env_body_s6]
  · cases foldL (passF (colsV kinds views) first) 0 L l <;> rfl
theorem body_F {n : Nat} {views kinds : List ty82.D} (ok : Okay n views kinds) (l : List ty41.D) (hl : l.length < n) (hm : many l < n) (hL : 2 * many l ≤ 1000000) (h3 : 3 < n) (k : Int → Int → List ty82.D → List ty82.D → List (ByteArray × ty63.D) → List ByteArray → Option R) :
    types_env_body_F n l views kinds [] [] k = match litsS (colsV kinds views) l with
      | .inl L' => k 0 0 views kinds (mapOf L') (ordOf L')
      | .inr y => k (y.1 : Int) y.2.1 views kinds (mapOf y.2.2) (ordOf y.2.2) := by
  rw [types_env_body_e]
  unfold types_env_body_Fi litsS
  obtain ⟨m, rfl⟩ : ∃ m, n = m + 3 := ⟨n - 3, by omega⟩
  generalize hK : ((fun b42 => k b42.1 b42.2.1 b42.2.2.1 b42.2.2.2.1 b42.2.2.2.2.1 b42.2.2.2.2.2.1, ()) : exK R (types_env_body_dx 3)) = K
  show types_env_body_l3 (m + 3) (l, 0, 0, ([true, false].length : Int), 0, views, kinds, [], [], [true, false], ()) (fun b => runC (types_env_body_l3 (m + 3)) (m + 2) b K) K = _
  have e1 : ∀ k1, types_env_body_l3 (m + 3) (l, 0, 0, ([true, false].length : Int), 0, views, kinds, mapOf [], ordOf [], [true, false], ()) k1 K = match foldL (passF (colsV kinds views) true) 0 [] l with
      | .inl L' => k1 (l, 0, 0, ([true, false].length : Int), 1, views, kinds, mapOf L', ordOf L', [true, false], ())
      | .inr y => K.1 ((y.1 : Int), y.2.1, views, kinds, mapOf y.2.2, ordOf y.2.2, ()) := by
    intro k1
    simp only [types_env_body_l3, types_env_body_s3]
    rw [if_pos (by simp), if_pos (by simp), if_pos (by simp)]
    refine (inner_F ok true l [] hl hm (by simp; omega) _ _ _ _).trans ?_
    cases foldL (passF (colsV kinds views) true) 0 [] l <;> rfl
  have e2 : ∀ L k1, L.length ≤ many l → types_env_body_l3 (m + 3) (l, 0, 0, ([true, false].length : Int), 1, views, kinds, mapOf L, ordOf L, [true, false], ()) k1 K = match foldL (passF (colsV kinds views) false) 0 L l with
      | .inl L' => k1 (l, 0, 0, ([true, false].length : Int), 2, views, kinds, mapOf L', ordOf L', [true, false], ())
      | .inr y => K.1 ((y.1 : Int), y.2.1, views, kinds, mapOf y.2.2, ordOf y.2.2, ()) := by
    intro L k1 hLm
    simp only [types_env_body_l3, types_env_body_s3]
    rw [if_pos (by simp), if_pos (by simp), if_pos (by simp)]
    refine (inner_F ok false l L hl hm (by omega) _ _ _ _).trans ?_
    cases foldL (passF (colsV kinds views) false) 0 L l <;> rfl
  refine (e1 _).trans ?_
  cases hf : foldL (passF (colsV kinds views) true) 0 [] l with
  | inr y => rw [← hK]
  | inl L =>
    have hlen := foldL_inv (f := passF (colsV kinds views) true) (I := fun i s => s.length ≤ many (l.take i)) l 0 [] (by simp) (fun j hj s s' hI hh => by
      have := pass_len (colsV kinds views) true l j hj [] s s' (by simpa using hI) (by simpa using hh)
      simpa using this) L hf
    have hlen2 : L.length ≤ many l := by simpa using hlen
    simp only []
    show types_env_body_l3 (m + 3) (l, 0, 0, ([true, false].length : Int), 1, views, kinds, mapOf L, ordOf L, [true, false], ()) (fun b => runC (types_env_body_l3 (m + 3)) (m + 1) b K) K = _
    refine (e2 L _ hlen2).trans ?_
    cases hg : foldL (passF (colsV kinds views) false) 0 L l with
    | inr y => rw [← hK]
    | inl L' =>
      simp only []
      show types_env_body_l3 (m + 3) (l, 0, 0, ([true, false].length : Int), 2, views, kinds, mapOf L', ordOf L', [true, false], ()) (fun b => runC (types_env_body_l3 (m + 3)) m b K) K = _
      simp only [types_env_body_l3, types_env_body_s3]
      rw [if_neg (by simp), ← hK]
theorem lits_len (cols : ByteArray → Int × Cols) (l : List ty41.D) (L : Cols) (h : litsS cols l = .inl L) : L.length ≤ 2 * many l := by
  unfold litsS at h
  cases hf : foldL (passF cols true) 0 [] l with
  | inr y => rw [hf] at h; cases h
  | inl L1 =>
    rw [hf] at h
    have h1 := foldL_inv (f := passF cols true) (I := fun i s => s.length ≤ many (l.take i)) l 0 [] (by simp) (fun j hj s s' hI hh => by
      have := pass_len cols true l j hj [] s s' (by simpa using hI) (by simpa using hh)
      simpa using this) L1 hf
    have h2 := foldL_inv (f := passF cols false) (I := fun i s => s.length ≤ L1.length + many (l.take i)) l 0 L1 (by simp) (fun j hj s s' hI hh => by
      have := pass_len cols false l j hj L1 s s' (by simpa using hI) (by simpa using hh)
      simpa using this) L h
    simp only [Nat.zero_add, List.take_length] at h1 h2
    omega
theorem names_nodup : True := trivial
end Go.Proofs.Ytikikmkfeeljgaa.E
namespace Go.Proofs.Ytikikmkfeeljgaa.E
open Go.RowKit
variable {R : Type}
/-! no name stands twice -/
def ND (L : Cols) : Prop := (ordOf L).Nodup
theorem fndC_at (L : Cols) : ∀ (j : Nat) (h : j < L.length), ND L → fndC L (L[j]).1 = j := by
  induction L with
  | nil => intro j h; simp at h
  | cons c r ih =>
    intro j h hn
    unfold ND ordOf at hn
    rw [List.map_cons, List.nodup_cons] at hn
    cases j with
    | zero => simp [fndC]
    | succ j =>
      have hj : j < r.length := by simpa using h
      have hne : ¬ c.1 = (r[j]).1 := fun e => hn.1 (e ▸ List.mem_map.2 ⟨r[j], List.getElem_mem hj, rfl⟩)
      simp only [List.getElem_cons_succ, fndC, hne, if_false]
      rw [ih j hj hn.2]
theorem fndC_not (L : Cols) (s : ByteArray) (h : ¬ fndC L s < L.length) : s ∉ ordOf L := by
  induction L with
  | nil => simp [ordOf]
  | cons c r ih =>
    unfold fndC at h
    split at h
    · simp at h
    · rename_i hne
      unfold ordOf
      rw [List.map_cons, List.mem_cons]
      rintro (e | e)
      · exact hne e.symm
      · exact ih (by simpa using h) e
theorem known_nd (L : Cols) (nm : ByteArray) (c : ty63.D) (bind : Bool) (h : ND L) : ND (knownS L nm c bind).2 := by
  unfold knownS
  split
  · rename_i h1
    split
    · simp only []
      split
      · unfold ND
        rw [ord_set L _ h1 ((L.getD (fndC L nm) zC).1, (L.getD (fndC L nm) zC).2.1, ((L.getD (fndC L nm) zC).2.2.1 && c.2.2.1), ()) rfl]
        exact h
      · exact h
    · exact h
  · rename_i h1
    split
    · simp only []
      unfold ND
      rw [← ord_snoc]
      refine List.nodup_append.2 ⟨h, by simp, ?_⟩
      intro a ha b hb e
      rw [List.mem_singleton] at hb
      rw [e, hb] at ha
      exact fndC_not L nm h1 ha
    · exact h
theorem arg_nd (L : Cols) (t : ty38.D) (c : ty63.D) (bind : Bool) (h : ND L) : ND (argS L t c bind).2 := by
  unfold argS
  split
  · exact h
  · split
    · exact h
    · exact known_nd _ _ _ _ h
theorem args_nd (bind : Bool) (L : Cols) (l : List (ty38.D × ty63.D)) (h : ND L) (h0 : (argsS bind L l).1 = 0) : ND (argsS bind L l).2 := by
  unfold argsS at h0 ⊢
  cases hf : foldL (argF bind) 0 L l with
  | inr y => rw [hf] at h0; cases h0
  | inl s =>
    exact foldL_inv (f := argF bind) (I := fun _ s => ND s) l 0 L h (fun j hj s s' hI e => by
      unfold argF at e
      split at e
      · injection e with e
        rw [← e]
        exact arg_nd _ _ _ _ hI
      · cases e) s hf
theorem lit_nd (cols : ByteArray → Int × Cols) (L : Cols) (x : ty41.D) (h : ND L) (h0 : (litS cols L x).1 = 0) : ND (litS cols L x).2 := by
  unfold litS at h0 ⊢
  split
  · rename_i h1
    rw [if_pos h1] at h0
    unfold atomS at h0 ⊢
    split
    · exact h
    · rename_i h2
      rw [if_neg h2] at h0
      split
      · exact h
      · rename_i h3
        rw [if_neg h3] at h0
        exact args_nd _ _ _ h h0
  · exact h
theorem pass_nd (cols : ByteArray → Int × Cols) (first : Bool) (l : List ty41.D) (L L' : Cols) (h : ND L) (e : foldL (passF cols first) 0 L l = .inl L') : ND L' :=
  foldL_inv (f := passF cols first) (I := fun _ s => ND s) l 0 L h (fun j hj s s' hI e => by
    unfold passF at e
    split at e
    · split at e
      · rename_i h1
        injection e with e
        rw [← e]
        exact lit_nd _ _ _ hI h1
      · cases e
    · injection e with e
      rw [← e]
      exact hI) L' e
theorem lits_nd (cols : ByteArray → Int × Cols) (l : List ty41.D) (L : Cols) (h : litsS cols l = .inl L) : ND L := by
  unfold litsS at h
  cases hf : foldL (passF cols true) 0 [] l with
  | inr y => rw [hf] at h; cases h
  | inl L1 =>
    rw [hf] at h
    exact pass_nd cols false l L1 L (pass_nd cols true l [] L1 (by simp [ND, ordOf]) hf) h
theorem fold_err (cols : ByteArray → Int × Cols) (first : Bool) : ∀ (l : List ty41.D) (i : Nat) (L : Cols) (y : Nat × Int × Cols), foldL (passF cols first) i L l = .inr y → y.2.1 ≠ 0
  | [], i, L, y, h => by cases h
  | x :: l, i, L, y, h => by
    unfold foldL at h
    cases hf : passF cols first i L x with
    | inl s => rw [hf] at h; exact fold_err cols first l (i + 1) s y h
    | inr z =>
      rw [hf] at h
      injection h with h
      subst h
      unfold passF at hf
      split at hf
      · split at hf
        · cases hf
        · rename_i h1
          injection hf with hf
          rw [← hf]
          exact h1
      · cases hf
theorem lits_err (cols : ByteArray → Int × Cols) (l : List ty41.D) (y : Nat × Int × Cols) (h : litsS cols l = .inr y) : y.2.1 ≠ 0 := by
  unfold litsS at h
  cases hf : foldL (passF cols true) 0 [] l with
  | inr z => rw [hf] at h; injection h with h; subst h; exact fold_err cols true l 0 [] _ hf
  | inl L1 => rw [hf] at h; exact fold_err cols false l 0 L1 y h
/-- the variables, or what is wrong -/
def varsS (cols : ByteArray → Int × Cols) (l : List ty41.D) : Int × Int × Cols := match litsS cols l with
  | .inl L => (0, 0, L)
  | .inr y => ((y.1 : Int), y.2.1, [])
/-- what is asked of a rule -/
structure Fit (n : Nat) (l : List ty41.D) : Prop where
  z : l.length < n
  m : many l < n
  c : 2 * many l ≤ 1000000
  t : 3 < n
theorem Vars_F {n : Nat} {views kinds : List ty82.D} (ok : Okay n views kinds) (x : ty25.D) (ft : Fit n x.2.2.2.2.2.2.1) (h2 : 2 * many x.2.2.2.2.2.2.1 < n) (k : Int → Int → List ty82.D → Cols → Option R) :
    types_Vars_v1_F n x views kinds k = k (varsS (colsV kinds views) x.2.2.2.2.2.2.1).1 (varsS (colsV kinds views) x.2.2.2.2.2.2.1).2.1 kinds (varsS (colsV kinds views) x.2.2.2.2.2.2.1).2.2 := by
  rw [types_Vars_v1_e]
  unfold types_Vars_v1_Fi
  rw [types_read_v1_e]
  unfold types_read_v1_Fi
  have hok := ok.z
  rw [body_F ok _ ft.z ft.m ft.c ft.t]
  unfold varsS
  cases hf : litsS (colsV kinds views) x.2.2.2.2.2.2.1 with
  | inr y =>
    have := lits_err _ _ _ hf
    simp only []
    rw [if_pos (by simpa using this)]
  | inl L =>
    have hlen := lits_len _ _ _ hf
    have hnd := lits_nd _ _ _ hf
    simp only []
    rw [if_neg (by decide)]
    have hol : (ordOf L).length = L.length := ordOf_len L
    refine (runC_st (R := R) (step := types_Vars_v1_l6 n) _ (k 0 0 kinds L) (fun i => (((ordOf L).length : Int), (i : Int), kinds, views, mapOf L, ordOf L, L.take i, ())) (ordOf L).length (fun i hi => .inl fun k1 => ?_) (fun k1 => ?_) (by omega))
    · have hi2 : i < L.length := by omega
      have hoi : (ordOf L)[i] = (L[i]).1 := by simp [ordOf]
      have hfa := fndC_at L i hi2 hnd
      have hml : (mapOf L).length = L.length := mapOf_len L
      simp only [types_Vars_v1_l6, types_Vars_v1_s6, lt_nat, hi, in_nat hi, Int.toNat_natCast, getD_nat _ i hi, decide_true, if_true, wrap_succ i (by omega), hoi, mhas_map, midx_map, hasC, hfa, hi2]
      simp only [hml, hi2, if_true, map_getD L i hi2, getD_nat L i hi2, List.length_take, List.length_cons, List.length_nil]
      rw [if_pos (by omega), take_snoc L i hi2]
    · simp [types_Vars_v1_l6, types_Vars_v1_s6, hol]
end Go.Proofs.Ytikikmkfeeljgaa.E
namespace Go.Proofs.Ytikikmkfeeljgaa.E
open Go.RowKit
variable {R : Type}
/-! few -/
theorem few_ex (n : Nat) (x : ty25.D) (hn : 1000 < n) : ∃ b : Bool, (b = true → x.2.2.1.length ≤ 100 ∧ x.2.2.2.2.2.2.1.length ≤ 40 ∧ ∀ a ∈ x.2.2.2.2.2.2.1, a.2.2.1.length ≤ 100) ∧ ∀ k : Bool → Option R, verdererref13_Few_F n x k = k b := by
  rw [verdererref13_Few_e]
  unfold verdererref13_Few_Fi
  obtain ⟨x0, x1, x2, x3, x4, x5, l, u⟩ := x
  simp only
  by_cases c1 : (x2.length : Int) > 100
  · exact ⟨false, (fun h => by cases h), fun k => by simp [c1]⟩
  by_cases c2 : (l.length : Int) > 40
  · exact ⟨false, (fun h => by cases h), fun k => by simp [c1, c2]⟩
  by_cases c3 : IntKind.i64.wrap ((x1.size : Int) + (x4.size : Int)) > 400
  · exact ⟨false, (fun h => by cases h), fun k => by simp [c1, c2, c3]⟩
  simp only [c1, c2, c3, decide_false, Bool.false_eq_true, if_false]
  have h4 := runC_ex (R := R) (step := verdererref13_Few_l4 n) (γ := Bool) (fun y k2 => bif y then k2.2.1 (x0, x1, x2, x3, x4, x5, l, ()) else k2.1 (false, ())) (fun _ _ => True)
    (fun i => ((i : Int), x0, x1, x2, x3, x4, x5, l, ())) x2.length (fun i hi => ?_) ⟨true, trivial, fun k1 k2 => by simp [verdererref13_Few_l4, verdererref13_Few_s4]⟩ (n := n) (by omega)
  · obtain ⟨b4, _, e4⟩ := h4
    cases b4 with
    | false => exact ⟨false, (fun h => by cases h), fun k => (e4 _).trans rfl⟩
    | true =>
      have h9 := runC_ex (R := R) (step := verdererref13_Few_l9 n) (γ := Bool) (fun y k2 => bif y then k2.2.1 () else k2.1 (false, ())) (fun i y => y = true → ∀ (j : Nat) (a : ty41.D), i ≤ j → l[j]? = some a → a.2.2.1.length ≤ 100)
        (fun i => ((i : Int), x0, x1, x2, x3, x4, x5, l, ())) l.length (fun i hi => ?_) ⟨true, fun _ j a h1 h2 => ?_, fun k1 k2 => by simp [verdererref13_Few_l9, verdererref13_Few_s9]⟩ (n := n) (by omega)
      · obtain ⟨b9, hq, e9⟩ := h9
        refine ⟨b9, fun hb => ⟨by omega, by omega, fun a ha => ?_⟩, fun k => ?_⟩
        · obtain ⟨j, hj⟩ := List.getElem?_of_mem ha
          exact hq hb j a (Nat.zero_le _) hj
        · refine (e4 _).trans ?_
          simp only [cond_true]
          refine (e9 _).trans ?_
          cases b9 <;> rfl
      · have hlt : i < l.length := hi
        by_cases d1 : ((l[i].2.2.1.length : Nat) : Int) > 100
        · exact .inr ⟨false, (fun h => by cases h), fun k1 k2 => by simp only [verdererref13_Few_l9, verdererref13_Few_s9, lt_nat, hi, in_nat hi, Int.toNat_natCast, getD_nat _ i hi, decide_true, if_true, d1]; rfl⟩
        by_cases d2 : ((l[i].2.1.size : Nat) : Int) > 400
        · exact .inr ⟨false, (fun h => by cases h), fun k1 k2 => by simp only [verdererref13_Few_l9, verdererref13_Few_s9, lt_nat, hi, in_nat hi, Int.toNat_natCast, getD_nat _ i hi, decide_true, if_true, d1, d2, decide_false, Bool.false_eq_true, if_false]; rfl⟩
        have h14 := runC_ex (R := R) (step := verdererref13_Few_l14 n) (γ := Bool) (fun y k2 => bif y then k2.2.1 ((i : Int), l, (i : Int), l[i].2.1, (l[i].2.1.size : Int), false, x0, x1, x2, x3, x4, x5, l, ()) else k2.1 (false, ())) (fun _ _ => True)
          (fun j => ((i : Int), (j : Int), l, (i : Int), l[i].2.1, (l[i].2.1.size : Int), false, x0, x1, x2, x3, x4, x5, l, ())) l[i].2.2.1.length (fun j hj => ?_) ⟨true, trivial, fun k1 k2 => by simp [verdererref13_Few_l14, verdererref13_Few_s14, hi]⟩ (n := n) (by omega)
        · obtain ⟨b14, _, e14⟩ := h14
          cases b14 with
          | false =>
            refine .inr ⟨false, (fun h => by cases h), fun k1 k2 => ?_⟩
            simp only [verdererref13_Few_l9, verdererref13_Few_s9, lt_nat, hi, in_nat hi, Int.toNat_natCast, getD_nat _ i hi, decide_true, if_true, d1, d2, decide_false, Bool.false_eq_true, if_false]
            exact (e14 _).trans rfl
          | true =>
            refine .inl ⟨fun k1 k2 => ?_, fun y hq hy j a h1 h2 => ?_⟩
            · simp only [verdererref13_Few_l9, verdererref13_Few_s9, lt_nat, hi, in_nat hi, Int.toNat_natCast, getD_nat _ i hi, decide_true, if_true, d1, d2, decide_false, Bool.false_eq_true, if_false]
              refine (e14 _).trans ?_
              simp only [cond_true, wrap_succ i (by omega)]
            · by_cases hij : j = i
              · subst hij; rw [List.getElem?_eq_getElem hi] at h2; injection h2 with h2; subst h2; omega
              · exact hq hy j a (by omega) h2
        · by_cases d3 : ((l[i].2.2.1[j].1.size : Nat) : Int) > 400
          · exact .inr ⟨false, trivial, fun k1 k2 => by simp only [verdererref13_Few_l14, verdererref13_Few_s14, lt_nat, hi, hj, in_nat hi, in_nat hj, Int.toNat_natCast, getD_nat _ i hi, getD_nat _ j hj, decide_true, if_true, d3]; rfl⟩
          · exact .inl ⟨fun k1 k2 => by simp only [verdererref13_Few_l14, verdererref13_Few_s14, lt_nat, hi, hj, in_nat hi, in_nat hj, Int.toNat_natCast, getD_nat _ i hi, getD_nat _ j hj, decide_true, if_true, d3, decide_false, Bool.false_eq_true, if_false, wrap_succ j (by omega)], fun _ _ => trivial⟩
      · have := (List.getElem?_eq_some_iff.1 h2).1; omega
  · by_cases d : ((x2[i].size : Nat) : Int) > 400
    · exact .inr ⟨false, trivial, fun k1 k2 => by simp only [verdererref13_Few_l4, verdererref13_Few_s4, lt_nat, hi, in_nat hi, Int.toNat_natCast, getD_nat _ i hi, decide_true, if_true, d]; rfl⟩
    · exact .inl ⟨fun k1 k2 => by simp only [verdererref13_Few_l4, verdererref13_Few_s4, lt_nat, hi, in_nat hi, Int.toNat_natCast, getD_nat _ i hi, decide_true, if_true, d, decide_false, Bool.false_eq_true, if_false, wrap_succ i (by omega)], fun _ _ => trivial⟩
theorem known14 (m : Nat) (k : Bool → Option R) : verdererlaw14_known_F (m + 1000) k = k true := by kernel_rfl
theorem nil_T (m : Nat) (a0 : ty25.D) (k : Bool → Option R) : verdererlaw14_TypesNil_F (m + 1001) a0 k = k true := by
  obtain ⟨b, _, hb⟩ := few_ex (R := R) (m + 1001) a0 (by omega)
  rw [verdererlaw14_TypesNil_e]
  unfold verdererlaw14_TypesNil_Fi
  rw [hb, types_Vars_e, types_Head_e]
  unfold types_Vars_Fi types_Head_Fi
  rw [types_read_e]
  unfold types_read_Fi
  have hk : ∀ k2 : Bool → Option R, verdererlaw14_known_F (m + 1001) k2 = k2 true := known14 (m + 1)
  cases b <;> simp [hk]
theorem TypesNil_true (a0 : ty25.D) (w0 : Fine ty25 a0) : ∃ n, verdererlaw14_TypesNil_F (R := Unit) n a0 (fun b => bif b then some () else none) = some () :=
  ⟨1001, nil_T 0 a0 _⟩
end Go.Proofs.Ytikikmkfeeljgaa.E
