/- A text of the proof that the law ParseSame returns true: nothing is assumed in it. -/
import Derived.Test.YtnnbinmomendnaaGreatDoorMParseSame6
import Derived.Test.YtnnbinmomendnaaGreatDoorProg
import Derived.KernelRfl
import Derived.Test.YtnnbinmomendnaaGreatDoorMParseSame5
import Derived.Recover
import Derived.Test.YtnnbinmomendnaaGreatDoorMParseSame3
import Derived.WalkMore
set_option linter.unusedVariables false
set_option linter.unusedSimpArgs false
set_option linter.unusedSectionVars false
set_option linter.unusedVariables false
set_option maxRecDepth 100000
namespace Go.Proofs.YtnnbinmomendnaaGreatDoor.E
open Go.Proofs
noncomputable section
variable {R : Type}
/-! (*verderer/parse.reader).head: function 39 -/
def parse_reader_head_ds : Nat → Desc
  | 4 => ⟨[(0, .pt 0 0), (1, .pt 1 0)], [.box true 43 [.d (.sl ty78), .d (.int .i64)], .box true 25 [.d (.int .i64), .d .str, .ow 2, .d (.int .i64), .d .str, .d (.int .i64), .ow 3], .arr 9 .str, .arr 51 ty51]⟩
  | _ => ⟨[], []⟩
def parse_reader_head_dx : Nat → List (X × Desc)
  | 4 => [(.r, ⟨[], [.box true 43 [.d (.sl ty78), .d (.int .i64)], .box true 25 [.d (.int .i64), .d .str, .ow 2, .d (.int .i64), .d .str, .d (.int .i64), .ow 3], .arr 9 .str, .arr 51 ty51]⟩), (.e 0, ⟨[], [.box true 43 [.d (.sl ty78), .d (.int .i64)], .box true 25 [.d (.int .i64), .d .str, .ow 2, .d (.int .i64), .d .str, .d (.int .i64), .ow 3], .arr 9 .str, .arr 51 ty51]⟩)]
  | _ => []
noncomputable def parse_reader_head_s4 [Esc R] (n : Nat) (x0 : (List ty78.D)) (x1 : Int) (x2 : Int) (x3 : ByteArray) (x4 : Int) (x5 : ByteArray) (x6 : Int) (x7 : (List ByteArray)) (x8 : (List ty51.D)) (k1 : (List ty78.D) → Int → Int → ByteArray → Int → ByteArray → Int → (List ByteArray) → (List ty51.D) → Option R) (qr : (List ty78.D) → Int → Int → ByteArray → Int → ByteArray → Int → (List ByteArray) → (List ty51.D) → Option R) (qe0 : (List ty78.D) → Int → Int → ByteArray → Int → ByteArray → Int → (List ByteArray) → (List ty51.D) → Option R) : Option R :=
  parse_reader_agg_F n x0 x1 x2 x3 x4 x5 x6 x7 x8 (fun y18 y19 y20 y21 y22 y23 y24 y25 y26 y27 => if (!y18) = true then (parse_reader_named_F n y19 y20 (fun y28 y29 y30 => if y28 = true then (parse_reader_must_F n (decide ((y26.length : Int) < 40)) 9 y29 y30 (fun y31 y32 => parse_reader_name_F n y31 y32 (fun y33 y34 y35 => if (List.length y26 + List.length [y33]) * 16 ≤ 140737488355328 then (parse_reader_take_F n (⟨#[44]⟩ : ByteArray) y34 y35 (fun y36 y37 y38 => if (!y36) = true then (qr y37 y38 y21 y22 y23 y24 y25 (y26 ++ [y33]) y27) else (k1 y37 y38 y21 y22 y23 y24 y25 (y26 ++ [y33]) y27))) else none))) else (parse_reader_name_F n y29 y30 (fun y39 y40 y41 => if (List.length y26 + List.length [y39]) * 16 ≤ 140737488355328 then (parse_reader_take_F n (⟨#[44]⟩ : ByteArray) y40 y41 (fun y42 y43 y44 => if (!y42) = true then (qr y43 y44 y21 y22 y23 y24 y25 (y26 ++ [y39]) y27) else (k1 y43 y44 y21 y22 y23 y24 y25 (y26 ++ [y39]) y27))) else none)))) else (qe0 y19 y20 y21 y22 y23 y24 y25 y26 y27))
noncomputable def parse_reader_head_l4 [Esc R] (n : Nat) (a : (parse_reader_head_ds 4).D) (k1 : (parse_reader_head_ds 4).D → Option R) (k2 : exK R (parse_reader_head_dx 4)) : Option R :=
  parse_reader_head_s4 n a.1 a.2.1 a.2.2.1 a.2.2.2.1 a.2.2.2.2.1 a.2.2.2.2.2.1 a.2.2.2.2.2.2.1 a.2.2.2.2.2.2.2.1 a.2.2.2.2.2.2.2.2.1 (fun x0 x1 x2 x3 x4 x5 x6 x7 x8 => k1 (x0, x1, x2, x3, x4, x5, x6, x7, x8, ())) (fun x0 x1 x2 x3 x4 x5 x6 x7 x8 => k2.1 (x0, x1, x2, x3, x4, x5, x6, x7, x8, ())) (fun x0 x1 x2 x3 x4 x5 x6 x7 x8 => k2.2.1 (x0, x1, x2, x3, x4, x5, x6, x7, x8, ()))
@[reducible] def parse_reader_head_d : Desc := ⟨[(0, .pt 0 0), (1, .pt 1 0)], [.box true 43 [.d (.sl ty78), .d (.int .i64)], .box true 25 [.d (.int .i64), .d .str, .ow 2, .d (.int .i64), .d .str, .d (.int .i64), .ow 3], .arr 9 .str, .arr 51 ty51]⟩
noncomputable def parse_reader_head_Fi [Esc R] (n : Nat) (a0 : (List ty78.D)) (a1 : Int) (a2 : Int) (a3 : ByteArray) (a4 : Int) (a5 : ByteArray) (a6 : Int) (a7 : (List ByteArray)) (a8 : (List ty51.D)) (k0 : (List ty78.D) → Int → Int → ByteArray → Int → ByteArray → Int → (List ByteArray) → (List ty51.D) → Option R) : Option R :=
  if (a2 == 3) = true then (parse_reader_name_F n a0 a1 (fun y1 y2 y3 => if (List.length a7 + List.length [y1]) * 16 ≤ 140737488355328 then (parse_reader_want_F n (⟨#[44]⟩ : ByteArray) y2 y3 (fun y4 y5 => parse_reader_agg_F n y4 y5 a2 a3 a4 a5 a6 (a7 ++ [y1]) a8 (fun y6 y7 y8 y9 y10 y11 y12 y13 y14 y15 => parse_reader_must_F n y6 7 y7 y8 (fun y16 y17 => k0 y16 y17 y9 y10 y11 y12 y13 y14 y15)))) else none)) else (runC (parse_reader_head_l4 n) n (a0, a1, a2, a3, a4, a5, a6, a7, a8, ()) (fun b53 => k0 b53.1 b53.2.1 b53.2.2.1 b53.2.2.2.1 b53.2.2.2.2.1 b53.2.2.2.2.2.1 b53.2.2.2.2.2.2.1 b53.2.2.2.2.2.2.2.1 b53.2.2.2.2.2.2.2.2.1, fun b62 => k0 b62.1 b62.2.1 b62.2.2.1 b62.2.2.2.1 b62.2.2.2.2.1 b62.2.2.2.2.2.1 b62.2.2.2.2.2.2.1 b62.2.2.2.2.2.2.2.1 b62.2.2.2.2.2.2.2.2.1, ()))
noncomputable def parse_reader_head_F {R : Type} [i : Esc R] := lazyN (@parse_reader_head_Fi R i)
theorem parse_reader_head_e [i : Esc R] : @parse_reader_head_F R i = @parse_reader_head_Fi R i := lazyN_eq _
noncomputable def parse_reader_head_g [Esc R] (n : Nat) : Gx R := typed 2 parse_reader_head_d fun x k => parse_reader_head_F n x.1 x.2.1 x.2.2.1 x.2.2.2.1 x.2.2.2.2.1 x.2.2.2.2.2.1 x.2.2.2.2.2.2.1 x.2.2.2.2.2.2.2.1 x.2.2.2.2.2.2.2.2.1 (fun y0 y1 y2 y3 y4 y5 y6 y7 y8 => k (.tu []) [(.box true 43 [(.fz ty78 y0), (.i .i64 y1)]), (.box true 25 [(.i .i64 y2), (.s y3), (.ow 2), (.i .i64 y4), (.s y5), (.i .i64 y6), (.ow 3)]), (.arr 9 .str y7), (.arr 51 ty51 y8)])
noncomputable def parse_reader_head_cs (R : Type) [Esc R] (n : Nat) : List (Nat × Gx R) := [(panF, escG), (37, parse_reader_name_g n), (38, parse_reader_want_g n), (40, parse_reader_must_g n), (59, parse_reader_take_g n), (60, parse_reader_named_g n), (61, parse_reader_agg_g n)]
noncomputable def parse_reader_head_lp [Esc R] (n : Nat) : (i : Nat) → (parse_reader_head_ds i).D → exK R (parse_reader_head_dx i) → Option R
  | 4, a, k => runC (parse_reader_head_l4 n) n a k
  | _, _, _ => none
noncomputable def parse_reader_head_cx (R : Type) [Esc R] (n : Nat) : Cx R := ⟨Tryz.prog, Gof (parse_reader_head_cs R n), parse_reader_head_ds, parse_reader_head_dx, parse_reader_head_lp n, drawP Tryz.prog (Gof (parse_reader_head_cs R n)), false, noJn, noFz⟩
theorem parse_reader_head_ok [Esc R] (n : Nat) : Good Tryz.prog 39 (parse_reader_head_g (R := R) n) := by
  unfold parse_reader_head_g
  rw [parse_reader_head_e]
  exact Good.fn (f := 39) (cx := parse_reader_head_cx R n) (by kernel_rfl) (AllGood.esc (AllGood.cons (parse_reader_name_ok n) (AllGood.cons (parse_reader_want_ok n) (AllGood.cons (parse_reader_must_ok n) (AllGood.cons (parse_reader_take_ok n) (AllGood.cons (parse_reader_named_ok n) (AllGood.cons (parse_reader_agg_ok n) (AllGood.nil)))))))) rfl Tryz.func39 (by kernel_rfl) rfl (by
    have e : fnLoops noJn Tryz.f39 = [((fnLoops noJn Tryz.f39)[0]?).getD (false, .skip)] := by kernel_rfl
    show LoopRuns _ _ (fnLoops noJn _)
    rw [e]
    exact ⟨LoopRun.loop (by kernel_rfl) (i := 4) (m := n) (step := parse_reader_head_l4 n) (by kernel_rfl) (fun a k1 k2 => by kernel_rfl) (fun _ _ => rfl), trivial⟩) 2 parse_reader_head_d (by kernel_rfl) (fun x k => by kernel_rfl)
end
end Go.Proofs.YtnnbinmomendnaaGreatDoor.E
set_option linter.unusedVariables false
set_option maxRecDepth 100000
namespace Go.Proofs.YtnnbinmomendnaaGreatDoor.E
open Go.Proofs
noncomputable section
variable {R : Type}
/-! (*verderer/parse.reader).begins: function 62 -/
@[reducible] def parse_reader_begins_d : Desc := ⟨[(0, .pt 0 0)], [.box true 43 [.d (.sl ty78), .d (.int .i64)]]⟩
def parse_reader_begins_Fi (n : Nat) (a0 : (List ty78.D)) (a1 : Int) (k0 : Bool → (List ty78.D) → Int → Option R) : Option R :=
  parse_reader_is_F n (⟨#[110, 111, 116]⟩ : ByteArray) a0 a1 (fun y1 y2 y3 => if y1 = true then (k0 true y2 y3) else (parse_reader_named_F n y2 y3 (fun y4 y5 y6 => if y4 = true then (k0 true y5 y6) else (parse_reader_now_F n y5 y6 (fun y7 y8 y9 => k0 (y7.1 == 2) y8 y9)))))
def parse_reader_begins_F {R : Type} := lazyN (@parse_reader_begins_Fi R)
theorem parse_reader_begins_e : @parse_reader_begins_F R = @parse_reader_begins_Fi R := lazyN_eq _
def parse_reader_begins_g (n : Nat) : Gx R := typed 1 parse_reader_begins_d fun x k => parse_reader_begins_F n x.1 x.2.1 (fun y0 y1 y2 => k (.a (.c (.b y0))) [(.box true 43 [(.fz ty78 y1), (.i .i64 y2)])])
def parse_reader_begins_cs (R : Type) (n : Nat) : List (Nat × Gx R) := [(41, parse_reader_now_g n), (60, parse_reader_named_g n), (92, parse_reader_is_g n)]
def parse_reader_begins_cx (R : Type) (n : Nat) : Cx R := ⟨Tryz.prog, Gof (parse_reader_begins_cs R n), noDs, noDx, noLp, drawP Tryz.prog (Gof (parse_reader_begins_cs R n)), false, noJn, noFz⟩
theorem parse_reader_begins_ok [Esc R] (n : Nat) : Good Tryz.prog 62 (parse_reader_begins_g (R := R) n) := by
  unfold parse_reader_begins_g
  rw [parse_reader_begins_e]
  exact Good.fn (f := 62) (cx := parse_reader_begins_cx R n) (by kernel_rfl) (AllGood.cons (parse_reader_now_ok n) (AllGood.cons (parse_reader_named_ok n) (AllGood.cons (parse_reader_is_ok n) (AllGood.nil)))) rfl Tryz.func62 (by kernel_rfl) rfl trivial 1 parse_reader_begins_d (by kernel_rfl) (fun x k => by kernel_rfl)
end
end Go.Proofs.YtnnbinmomendnaaGreatDoor.E
set_option linter.unusedVariables false
set_option maxRecDepth 100000
namespace Go.Proofs.YtnnbinmomendnaaGreatDoor.E
open Go.Proofs
noncomputable section
variable {R : Type}
/-! (*verderer/parse.reader).term: function 97 -/
@[reducible] def parse_reader_term_d : Desc := ⟨[(0, .pt 0 0)], [.box true 43 [.d (.sl ty78), .d (.int .i64)]]⟩
noncomputable def parse_reader_term_Fi [Esc R] (n : Nat) (a0 : (List ty78.D)) (a1 : Int) (k0 : ty48.D → (List ty78.D) → Int → Option R) : Option R :=
  parse_reader_now_F n a0 a1 (fun y1 y2 y3 => if (y1.1 == 2) = true then (parse_reader_step_F n y2 y3 (fun y4 y5 y6 => k0 ((⟨#[]⟩ : ByteArray), false, y4.2.2.1, ()) y5 y6)) else (parse_reader_name_F n y2 y3 (fun y7 y8 y9 => k0 (y7, false, (0, false, 0, (⟨#[]⟩ : ByteArray), ()), ()) y8 y9)))
noncomputable def parse_reader_term_F {R : Type} [i : Esc R] := lazyN (@parse_reader_term_Fi R i)
theorem parse_reader_term_e [i : Esc R] : @parse_reader_term_F R i = @parse_reader_term_Fi R i := lazyN_eq _
noncomputable def parse_reader_term_g [Esc R] (n : Nat) : Gx R := typed 1 parse_reader_term_d fun x k => parse_reader_term_F n x.1 x.2.1 (fun y0 y1 y2 => k (.a (encA ty48 y0)) [(.box true 43 [(.fz ty78 y1), (.i .i64 y2)])])
noncomputable def parse_reader_term_cs (R : Type) [Esc R] (n : Nat) : List (Nat × Gx R) := [(panF, escG), (37, parse_reader_name_g n), (41, parse_reader_now_g n), (42, parse_reader_step_g n)]
noncomputable def parse_reader_term_cx (R : Type) [Esc R] (n : Nat) : Cx R := ⟨Tryz.prog, Gof (parse_reader_term_cs R n), noDs, noDx, noLp, drawP Tryz.prog (Gof (parse_reader_term_cs R n)), false, noJn, noFz⟩
theorem parse_reader_term_ok [Esc R] (n : Nat) : Good Tryz.prog 97 (parse_reader_term_g (R := R) n) := by
  unfold parse_reader_term_g
  rw [parse_reader_term_e]
  exact Good.fn (f := 97) (cx := parse_reader_term_cx R n) (by kernel_rfl) (AllGood.esc (AllGood.cons (parse_reader_name_ok n) (AllGood.cons (parse_reader_now_ok n) (AllGood.cons (parse_reader_step_ok n) (AllGood.nil))))) rfl Tryz.func97 (by kernel_rfl) rfl trivial 1 parse_reader_term_d (by kernel_rfl) (fun x k => by kernel_rfl)
end
end Go.Proofs.YtnnbinmomendnaaGreatDoor.E
set_option linter.unusedVariables false
set_option maxRecDepth 100000
namespace Go.Proofs.YtnnbinmomendnaaGreatDoor.E
open Go.Proofs
noncomputable section
variable {R : Type}
/-! (*verderer/parse.reader).arg: function 133 -/
@[reducible] def parse_reader_arg_d : Desc := ⟨[(0, .pt 0 0), (1, .d (.int .i64))], [.box true 43 [.d (.sl ty78), .d (.int .i64)]]⟩
noncomputable def parse_reader_arg_Fi [Esc R] (n : Nat) (a0 : Int) (a1 : (List ty78.D)) (a2 : Int) (k0 : ty48.D → (List ty78.D) → Int → Option R) : Option R :=
  parse_reader_is_F n (⟨#[95]⟩ : ByteArray) a1 a2 (fun y1 y2 y3 => if y1 = true then (parse_reader_must_F n (decide (a0 < 40)) 9 y2 y3 (fun y4 y5 => parse_reader_take_F n (⟨#[95]⟩ : ByteArray) y4 y5 (fun y6 y7 y8 => if y6 = true then (k0 ((⟨#[]⟩ : ByteArray), true, (0, false, 0, (⟨#[]⟩ : ByteArray), ()), ()) y7 y8) else (parse_reader_term_F n y7 y8 (fun y9 y10 y11 => k0 y9 y10 y11))))) else (parse_reader_named_F n y2 y3 (fun y12 y13 y14 => if y12 = true then (parse_reader_must_F n (decide (a0 < 40)) 9 y13 y14 (fun y15 y16 => parse_reader_take_F n (⟨#[95]⟩ : ByteArray) y15 y16 (fun y17 y18 y19 => if y17 = true then (k0 ((⟨#[]⟩ : ByteArray), true, (0, false, 0, (⟨#[]⟩ : ByteArray), ()), ()) y18 y19) else (parse_reader_term_F n y18 y19 (fun y20 y21 y22 => k0 y20 y21 y22))))) else (parse_reader_now_F n y13 y14 (fun y23 y24 y25 => if (y23.1 == 2) = true then (parse_reader_must_F n (decide (a0 < 40)) 9 y24 y25 (fun y26 y27 => parse_reader_take_F n (⟨#[95]⟩ : ByteArray) y26 y27 (fun y28 y29 y30 => if y28 = true then (k0 ((⟨#[]⟩ : ByteArray), true, (0, false, 0, (⟨#[]⟩ : ByteArray), ()), ()) y29 y30) else (parse_reader_term_F n y29 y30 (fun y31 y32 y33 => k0 y31 y32 y33))))) else (parse_reader_take_F n (⟨#[95]⟩ : ByteArray) y24 y25 (fun y34 y35 y36 => if y34 = true then (k0 ((⟨#[]⟩ : ByteArray), true, (0, false, 0, (⟨#[]⟩ : ByteArray), ()), ()) y35 y36) else (parse_reader_term_F n y35 y36 (fun y37 y38 y39 => k0 y37 y38 y39)))))))))
noncomputable def parse_reader_arg_F {R : Type} [i : Esc R] := lazyN (@parse_reader_arg_Fi R i)
theorem parse_reader_arg_e [i : Esc R] : @parse_reader_arg_F R i = @parse_reader_arg_Fi R i := lazyN_eq _
noncomputable def parse_reader_arg_g [Esc R] (n : Nat) : Gx R := typed 2 parse_reader_arg_d fun x k => parse_reader_arg_F n x.1 x.2.1 x.2.2.1 (fun y0 y1 y2 => k (.a (encA ty48 y0)) [(.box true 43 [(.fz ty78 y1), (.i .i64 y2)])])
noncomputable def parse_reader_arg_cs (R : Type) [Esc R] (n : Nat) : List (Nat × Gx R) := [(panF, escG), (40, parse_reader_must_g n), (41, parse_reader_now_g n), (59, parse_reader_take_g n), (60, parse_reader_named_g n), (92, parse_reader_is_g n), (97, parse_reader_term_g n)]
noncomputable def parse_reader_arg_cx (R : Type) [Esc R] (n : Nat) : Cx R := ⟨Tryz.prog, Gof (parse_reader_arg_cs R n), noDs, noDx, noLp, drawP Tryz.prog (Gof (parse_reader_arg_cs R n)), false, noJn, noFz⟩
theorem parse_reader_arg_ok [Esc R] (n : Nat) : Good Tryz.prog 133 (parse_reader_arg_g (R := R) n) := by
  unfold parse_reader_arg_g
  rw [parse_reader_arg_e]
  exact Good.fn (f := 133) (cx := parse_reader_arg_cx R n) (by kernel_rfl) (AllGood.esc (AllGood.cons (parse_reader_must_ok n) (AllGood.cons (parse_reader_now_ok n) (AllGood.cons (parse_reader_take_ok n) (AllGood.cons (parse_reader_named_ok n) (AllGood.cons (parse_reader_is_ok n) (AllGood.cons (parse_reader_term_ok n) (AllGood.nil)))))))) rfl Tryz.func133 (by kernel_rfl) rfl trivial 2 parse_reader_arg_d (by kernel_rfl) (fun x k => by kernel_rfl)
end
end Go.Proofs.YtnnbinmomendnaaGreatDoor.E
set_option linter.unusedVariables false
set_option maxRecDepth 100000
namespace Go.Proofs.YtnnbinmomendnaaGreatDoor.E
open Go.Proofs
noncomputable section
variable {R : Type}
/-! (*verderer/parse.reader).args: function 122 -/
def parse_reader_args_ds : Nat → Desc
  | 4 => ⟨[(0, .pt 0 0), (3, .ow 2)], [.box true 43 [.d (.sl ty78), .d (.int .i64)], .no, .arr 48 ty48]⟩
  | _ => ⟨[], []⟩
def parse_reader_args_dx : Nat → List (X × Desc)
  | 4 => [(.e 0, ⟨[(0, .pt 0 0), (3, .ow 2)], [.box true 43 [.d (.sl ty78), .d (.int .i64)], .no, .arr 48 ty48]⟩)]
  | _ => []
noncomputable def parse_reader_args_s4 [Esc R] (n : Nat) (x0 : (List ty78.D)) (x1 : Int) (x2 : (List ty48.D)) (k1 : (List ty78.D) → Int → (List ty48.D) → Option R) (qe0 : (List ty78.D) → Int → (List ty48.D) → Option R) : Option R :=
  parse_reader_take_F n (⟨#[44]⟩ : ByteArray) x0 x1 (fun y7 y8 y9 => if y7 = true then (parse_reader_arg_F n (x2.length : Int) y8 y9 (fun y10 y11 y12 => if (List.length x2 + List.length [y10]) * 64 ≤ 140737488355328 then (k1 y11 y12 (x2 ++ [y10])) else none)) else (qe0 y8 y9 x2))
noncomputable def parse_reader_args_l4 [Esc R] (n : Nat) (a : (parse_reader_args_ds 4).D) (k1 : (parse_reader_args_ds 4).D → Option R) (k2 : exK R (parse_reader_args_dx 4)) : Option R :=
  parse_reader_args_s4 n a.1 a.2.1 a.2.2.1 (fun x0 x1 x2 => k1 (x0, x1, x2, ())) (fun x0 x1 x2 => k2.1 (x0, x1, x2, ()))
@[reducible] def parse_reader_args_d : Desc := ⟨[(0, .pt 0 0)], [.box true 43 [.d (.sl ty78), .d (.int .i64)]]⟩
noncomputable def parse_reader_args_Fi [Esc R] (n : Nat) (a0 : (List ty78.D)) (a1 : Int) (k0 : (List ty78.D) → Int → (List ty48.D) → Option R) : Option R :=
  parse_reader_take_F n (⟨#[41]⟩ : ByteArray) a0 a1 (fun y1 y2 y3 => if y1 = true then (k0 y2 y3 ([] : List ty48.D)) else (parse_reader_arg_F n 0 y2 y3 (fun y4 y5 y6 => runC (parse_reader_args_l4 n) n (y5, y6, [y4], ()) (fun b15 => parse_reader_want_F n (⟨#[41]⟩ : ByteArray) b15.1 b15.2.1 (fun y16 y17 => k0 y16 y17 b15.2.2.1), ()))))
noncomputable def parse_reader_args_F {R : Type} [i : Esc R] := lazyN (@parse_reader_args_Fi R i)
theorem parse_reader_args_e [i : Esc R] : @parse_reader_args_F R i = @parse_reader_args_Fi R i := lazyN_eq _
noncomputable def parse_reader_args_g [Esc R] (n : Nat) : Gx R := typed 1 parse_reader_args_d fun x k => parse_reader_args_F n x.1 x.2.1 (fun y0 y1 y2 => k (.a (.c (.ow 1))) [(.box true 43 [(.fz ty78 y0), (.i .i64 y1)]), (.arr 48 ty48 y2)])
noncomputable def parse_reader_args_cs (R : Type) [Esc R] (n : Nat) : List (Nat × Gx R) := [(panF, escG), (38, parse_reader_want_g n), (59, parse_reader_take_g n), (133, parse_reader_arg_g n)]
noncomputable def parse_reader_args_lp [Esc R] (n : Nat) : (i : Nat) → (parse_reader_args_ds i).D → exK R (parse_reader_args_dx i) → Option R
  | 4, a, k => runC (parse_reader_args_l4 n) n a k
  | _, _, _ => none
noncomputable def parse_reader_args_cx (R : Type) [Esc R] (n : Nat) : Cx R := ⟨Tryz.prog, Gof (parse_reader_args_cs R n), parse_reader_args_ds, parse_reader_args_dx, parse_reader_args_lp n, drawP Tryz.prog (Gof (parse_reader_args_cs R n)), false, noJn, noFz⟩
theorem parse_reader_args_ok [Esc R] (n : Nat) : Good Tryz.prog 122 (parse_reader_args_g (R := R) n) := by
  unfold parse_reader_args_g
  rw [parse_reader_args_e]
  exact Good.fn (f := 122) (cx := parse_reader_args_cx R n) (by kernel_rfl) (AllGood.esc (AllGood.cons (parse_reader_want_ok n) (AllGood.cons (parse_reader_take_ok n) (AllGood.cons (parse_reader_arg_ok n) (AllGood.nil))))) rfl Tryz.func122 (by kernel_rfl) rfl (by
    have e : fnLoops noJn Tryz.f122 = [((fnLoops noJn Tryz.f122)[0]?).getD (false, .skip)] := by kernel_rfl
    show LoopRuns _ _ (fnLoops noJn _)
    rw [e]
    exact ⟨LoopRun.loop (by kernel_rfl) (i := 4) (m := n) (step := parse_reader_args_l4 n) (by kernel_rfl) (fun a k1 k2 => by kernel_rfl) (fun _ _ => rfl), trivial⟩) 1 parse_reader_args_d (by kernel_rfl) (fun x k => by kernel_rfl)
end
end Go.Proofs.YtnnbinmomendnaaGreatDoor.E
set_option linter.unusedVariables false
set_option maxRecDepth 100000
namespace Go.Proofs.YtnnbinmomendnaaGreatDoor.E
open Go.Proofs
noncomputable section
variable {R : Type}
/-! (*verderer/parse.reader).atom: function 96 -/
@[reducible] def parse_reader_atom_d : Desc := ⟨[(0, .pt 0 0), (1, .d .bool), (2, .d (.int .i64))], [.box true 43 [.d (.sl ty78), .d (.int .i64)]]⟩
noncomputable def parse_reader_atom_Fi [Esc R] (n : Nat) (a0 : Bool) (a1 : Int) (a2 : (List ty78.D)) (a3 : Int) (k0 : ty51.D → (List ty78.D) → Int → Option R) : Option R :=
  parse_reader_name_F n a2 a3 (fun y1 y2 y3 => parse_reader_want_F n (⟨#[40]⟩ : ByteArray) y2 y3 (fun y4 y5 => if (!a0) = true then (if (decide (a1 ≥ 6)) = true then (if (0 : Int) ≤ a3 ∧ a3 < (y4.length : Int) then (Esc.esc (.iface 39 (.agg #[.int .i64 9, .int .i64 ((y4.getD (Int.toNat a3) (Ty.z ty78)).2.2.2.1)]))) else none) else (parse_reader_args_F n y4 y5 (fun y6 y7 y8 => k0 (a0, y1, y8, 0, ()) y6 y7))) else (parse_reader_args_F n y4 y5 (fun y9 y10 y11 => k0 (a0, y1, y11, 0, ()) y9 y10))))
noncomputable def parse_reader_atom_F {R : Type} [i : Esc R] := lazyN (@parse_reader_atom_Fi R i)
theorem parse_reader_atom_e [i : Esc R] : @parse_reader_atom_F R i = @parse_reader_atom_Fi R i := lazyN_eq _
noncomputable def parse_reader_atom_g [Esc R] (n : Nat) : Gx R := typed 3 parse_reader_atom_d fun x k => parse_reader_atom_F n x.1 x.2.1 x.2.2.1 x.2.2.2.1 (fun y0 y1 y2 => k (.a (encA ty51 y0)) [(.box true 43 [(.fz ty78 y1), (.i .i64 y2)])])
noncomputable def parse_reader_atom_cs (R : Type) [Esc R] (n : Nat) : List (Nat × Gx R) := [(panF, escG), (37, parse_reader_name_g n), (38, parse_reader_want_g n), (122, parse_reader_args_g n)]
noncomputable def parse_reader_atom_cx (R : Type) [Esc R] (n : Nat) : Cx R := ⟨Tryz.prog, Gof (parse_reader_atom_cs R n), noDs, noDx, noLp, drawP Tryz.prog (Gof (parse_reader_atom_cs R n)), true, noJn, noFz⟩
theorem parse_reader_atom_ok [Esc R] (n : Nat) : Good Tryz.prog 96 (parse_reader_atom_g (R := R) n) := by
  unfold parse_reader_atom_g
  rw [parse_reader_atom_e]
  exact Good.fn (f := 96) (cx := parse_reader_atom_cx R n) (by kernel_rfl) (AllGood.esc (AllGood.cons (parse_reader_name_ok n) (AllGood.cons (parse_reader_want_ok n) (AllGood.cons (parse_reader_args_ok n) (AllGood.nil))))) rfl Tryz.func96 (by kernel_rfl) rfl trivial 3 parse_reader_atom_d (by kernel_rfl) (fun x k => by kernel_rfl)
end
end Go.Proofs.YtnnbinmomendnaaGreatDoor.E
set_option linter.unusedVariables false
set_option maxRecDepth 100000
namespace Go.Proofs.YtnnbinmomendnaaGreatDoor.E
open Go.Proofs
noncomputable section
variable {R : Type}
/-! (*verderer/parse.reader).literal: function 63 -/
@[reducible] def parse_reader_literal_d : Desc := ⟨[(0, .pt 0 0), (1, .d (.int .i64))], [.box true 43 [.d (.sl ty78), .d (.int .i64)]]⟩
noncomputable def parse_reader_literal_Fi [Esc R] (n : Nat) (a0 : Int) (a1 : (List ty78.D)) (a2 : Int) (k0 : ty51.D → (List ty78.D) → Int → Option R) : Option R :=
  parse_reader_take_F n (⟨#[110, 111, 116]⟩ : ByteArray) a1 a2 (fun y1 y2 y3 => if y1 = true then (parse_reader_atom_F n true a0 y2 y3 (fun y4 y5 y6 => k0 y4 y5 y6)) else (if (0 : Int) ≤ (minI (IntKind.i64.wrap (y3 + 1)) (IntKind.i64.wrap ((y2.length : Int) - 1))) ∧ (minI (IntKind.i64.wrap (y3 + 1)) (IntKind.i64.wrap ((y2.length : Int) - 1))) < (y2.length : Int) then (parse_reader_named_F n y2 y3 (fun y7 y8 y9 => if y7 = true then (if ((y2.getD (Int.toNat (minI (IntKind.i64.wrap (y3 + 1)) (IntKind.i64.wrap ((y2.length : Int) - 1)))) (Ty.z ty78)).1 == 3) = true then (if (((y2.getD (Int.toNat (minI (IntKind.i64.wrap (y3 + 1)) (IntKind.i64.wrap ((y2.length : Int) - 1)))) (Ty.z ty78)).2.1).toList == (⟨#[40]⟩ : ByteArray).toList) = true then (parse_reader_atom_F n false a0 y8 y9 (fun y10 y11 y12 => k0 y10 y11 y12)) else (parse_reader_term_F n y8 y9 (fun y13 y14 y15 => parse_reader_now_F n y14 y15 (fun y16 y17 y18 => lex_Op_F n y16.2.1 (fun y19 => parse_reader_now_F n y17 y18 (fun y20 y21 y22 => if (y20.1 == 3) = true then (parse_reader_must_F n (decide (y19 > 0)) 7 y21 y22 (fun y23 y24 => parse_reader_step_F n y23 y24 (fun y25 y26 y27 => parse_reader_term_F n y26 y27 (fun y28 y29 y30 => k0 (false, (⟨#[]⟩ : ByteArray), [y13, y28], y19, ()) y29 y30)))) else (parse_reader_must_F n false 7 y21 y22 (fun y31 y32 => parse_reader_step_F n y31 y32 (fun y33 y34 y35 => parse_reader_term_F n y34 y35 (fun y36 y37 y38 => k0 (false, (⟨#[]⟩ : ByteArray), [y13, y36], y19, ()) y37 y38)))))))))) else (parse_reader_term_F n y8 y9 (fun y39 y40 y41 => parse_reader_now_F n y40 y41 (fun y42 y43 y44 => lex_Op_F n y42.2.1 (fun y45 => parse_reader_now_F n y43 y44 (fun y46 y47 y48 => if (y46.1 == 3) = true then (parse_reader_must_F n (decide (y45 > 0)) 7 y47 y48 (fun y49 y50 => parse_reader_step_F n y49 y50 (fun y51 y52 y53 => parse_reader_term_F n y52 y53 (fun y54 y55 y56 => k0 (false, (⟨#[]⟩ : ByteArray), [y39, y54], y45, ()) y55 y56)))) else (parse_reader_must_F n false 7 y47 y48 (fun y57 y58 => parse_reader_step_F n y57 y58 (fun y59 y60 y61 => parse_reader_term_F n y60 y61 (fun y62 y63 y64 => k0 (false, (⟨#[]⟩ : ByteArray), [y39, y62], y45, ()) y63 y64)))))))))) else (parse_reader_term_F n y8 y9 (fun y65 y66 y67 => parse_reader_now_F n y66 y67 (fun y68 y69 y70 => lex_Op_F n y68.2.1 (fun y71 => parse_reader_now_F n y69 y70 (fun y72 y73 y74 => if (y72.1 == 3) = true then (parse_reader_must_F n (decide (y71 > 0)) 7 y73 y74 (fun y75 y76 => parse_reader_step_F n y75 y76 (fun y77 y78 y79 => parse_reader_term_F n y78 y79 (fun y80 y81 y82 => k0 (false, (⟨#[]⟩ : ByteArray), [y65, y80], y71, ()) y81 y82)))) else (parse_reader_must_F n false 7 y73 y74 (fun y83 y84 => parse_reader_step_F n y83 y84 (fun y85 y86 y87 => parse_reader_term_F n y86 y87 (fun y88 y89 y90 => k0 (false, (⟨#[]⟩ : ByteArray), [y65, y88], y71, ()) y89 y90))))))))))) else none))
noncomputable def parse_reader_literal_F {R : Type} [i : Esc R] := lazyN (@parse_reader_literal_Fi R i)
theorem parse_reader_literal_e [i : Esc R] : @parse_reader_literal_F R i = @parse_reader_literal_Fi R i := lazyN_eq _
noncomputable def parse_reader_literal_g [Esc R] (n : Nat) : Gx R := typed 2 parse_reader_literal_d fun x k => parse_reader_literal_F n x.1 x.2.1 x.2.2.1 (fun y0 y1 y2 => k (.a (encA ty51 y0)) [(.box true 43 [(.fz ty78 y1), (.i .i64 y2)])])
noncomputable def parse_reader_literal_cs (R : Type) [Esc R] (n : Nat) : List (Nat × Gx R) := [(panF, escG), (40, parse_reader_must_g n), (41, parse_reader_now_g n), (42, parse_reader_step_g n), (59, parse_reader_take_g n), (60, parse_reader_named_g n), (96, parse_reader_atom_g n), (97, parse_reader_term_g n), (98, lex_Op_g n)]
noncomputable def parse_reader_literal_cx (R : Type) [Esc R] (n : Nat) : Cx R := ⟨Tryz.prog, Gof (parse_reader_literal_cs R n), noDs, noDx, noLp, drawP Tryz.prog (Gof (parse_reader_literal_cs R n)), false, noJn, noFz⟩
theorem parse_reader_literal_ok [Esc R] (n : Nat) : Good Tryz.prog 63 (parse_reader_literal_g (R := R) n) := by
  unfold parse_reader_literal_g
  rw [parse_reader_literal_e]
  exact Good.fn (f := 63) (cx := parse_reader_literal_cx R n) (by kernel_rfl) (AllGood.esc (AllGood.cons (parse_reader_must_ok n) (AllGood.cons (parse_reader_now_ok n) (AllGood.cons (parse_reader_step_ok n) (AllGood.cons (parse_reader_take_ok n) (AllGood.cons (parse_reader_named_ok n) (AllGood.cons (parse_reader_atom_ok n) (AllGood.cons (parse_reader_term_ok n) (AllGood.cons (lex_Op_ok n) (AllGood.nil)))))))))) rfl Tryz.func63 (by kernel_rfl) rfl trivial 2 parse_reader_literal_d (by kernel_rfl) (fun x k => by kernel_rfl)
end
end Go.Proofs.YtnnbinmomendnaaGreatDoor.E
set_option linter.unusedVariables false
set_option maxRecDepth 100000
namespace Go.Proofs.YtnnbinmomendnaaGreatDoor.E
open Go.Proofs
noncomputable section
variable {R : Type}
/-! (*verderer/parse.reader).body: function 43 -/
def parse_reader_body_ds : Nat → Desc
  | 2 => ⟨[(0, .pt 0 0), (1, .pt 1 0), (4, .d (.int .i64)), (5, .d .bool)], [.box true 43 [.d (.sl ty78), .d (.int .i64)], .box true 25 [.d (.int .i64), .d .str, .ow 2, .d (.int .i64), .d .str, .d (.int .i64), .ow 3], .arr 9 .str, .arr 51 ty51]⟩
  | _ => ⟨[], []⟩
def parse_reader_body_dx : Nat → List (X × Desc)
  | 2 => [(.e 0, ⟨[], [.box true 43 [.d (.sl ty78), .d (.int .i64)], .box true 25 [.d (.int .i64), .d .str, .ow 2, .d (.int .i64), .d .str, .d (.int .i64), .ow 3], .arr 9 .str, .arr 51 ty51]⟩)]
  | _ => []
noncomputable def parse_reader_body_s2 [Esc R] (n : Nat) (x0 : Int) (x1 : Bool) (x2 : (List ty78.D)) (x3 : Int) (x4 : Int) (x5 : ByteArray) (x6 : Int) (x7 : ByteArray) (x8 : Int) (x9 : (List ByteArray)) (x10 : (List ty51.D)) (k1 : Int → Bool → (List ty78.D) → Int → Int → ByteArray → Int → ByteArray → Int → (List ByteArray) → (List ty51.D) → Option R) (qe0 : (List ty78.D) → Int → Int → ByteArray → Int → ByteArray → Int → (List ByteArray) → (List ty51.D) → Option R) : Option R :=
  if x1 = true then (if (decide ((x10.length : Int) ≥ 10)) = true then (parse_reader_begins_F n x2 x3 (fun y1 y2 y3 => parse_reader_must_F n (!y1) 9 y2 y3 (fun y4 y5 => parse_reader_must_F n false 7 y4 y5 (fun y6 y7 => parse_reader_literal_F n x0 y6 y7 (fun y8 y9 y10 => if (y8.2.2.2.1 == 0) = true then (if (!y8.1) = true then (if (List.length x10 + List.length [y8]) * 56 ≤ 140737488355328 then (parse_reader_take_F n (⟨#[44]⟩ : ByteArray) y9 y10 (fun y11 y12 y13 => k1 (IntKind.i64.wrap (x0 + 1)) y11 y12 y13 x4 x5 x6 x7 x8 x9 (x10 ++ [y8]))) else none) else (if (List.length x10 + List.length [y8]) * 56 ≤ 140737488355328 then (parse_reader_take_F n (⟨#[44]⟩ : ByteArray) y9 y10 (fun y14 y15 y16 => k1 x0 y14 y15 y16 x4 x5 x6 x7 x8 x9 (x10 ++ [y8]))) else none)) else (if (List.length x10 + List.length [y8]) * 56 ≤ 140737488355328 then (parse_reader_take_F n (⟨#[44]⟩ : ByteArray) y9 y10 (fun y17 y18 y19 => k1 x0 y17 y18 y19 x4 x5 x6 x7 x8 x9 (x10 ++ [y8]))) else none)))))) else (parse_reader_literal_F n x0 x2 x3 (fun y20 y21 y22 => if (y20.2.2.2.1 == 0) = true then (if (!y20.1) = true then (if (List.length x10 + List.length [y20]) * 56 ≤ 140737488355328 then (parse_reader_take_F n (⟨#[44]⟩ : ByteArray) y21 y22 (fun y23 y24 y25 => k1 (IntKind.i64.wrap (x0 + 1)) y23 y24 y25 x4 x5 x6 x7 x8 x9 (x10 ++ [y20]))) else none) else (if (List.length x10 + List.length [y20]) * 56 ≤ 140737488355328 then (parse_reader_take_F n (⟨#[44]⟩ : ByteArray) y21 y22 (fun y26 y27 y28 => k1 x0 y26 y27 y28 x4 x5 x6 x7 x8 x9 (x10 ++ [y20]))) else none)) else (if (List.length x10 + List.length [y20]) * 56 ≤ 140737488355328 then (parse_reader_take_F n (⟨#[44]⟩ : ByteArray) y21 y22 (fun y29 y30 y31 => k1 x0 y29 y30 y31 x4 x5 x6 x7 x8 x9 (x10 ++ [y20]))) else none)))) else (qe0 x2 x3 x4 x5 x6 x7 x8 x9 x10)
noncomputable def parse_reader_body_l2 [Esc R] (n : Nat) (a : (parse_reader_body_ds 2).D) (k1 : (parse_reader_body_ds 2).D → Option R) (k2 : exK R (parse_reader_body_dx 2)) : Option R :=
  parse_reader_body_s2 n a.1 a.2.1 a.2.2.1 a.2.2.2.1 a.2.2.2.2.1 a.2.2.2.2.2.1 a.2.2.2.2.2.2.1 a.2.2.2.2.2.2.2.1 a.2.2.2.2.2.2.2.2.1 a.2.2.2.2.2.2.2.2.2.1 a.2.2.2.2.2.2.2.2.2.2.1 (fun x0 x1 x2 x3 x4 x5 x6 x7 x8 x9 x10 => k1 (x0, x1, x2, x3, x4, x5, x6, x7, x8, x9, x10, ())) (fun x0 x1 x2 x3 x4 x5 x6 x7 x8 => k2.1 (x0, x1, x2, x3, x4, x5, x6, x7, x8, ()))
@[reducible] def parse_reader_body_d : Desc := ⟨[(0, .pt 0 0), (1, .pt 1 0)], [.box true 43 [.d (.sl ty78), .d (.int .i64)], .box true 25 [.d (.int .i64), .d .str, .ow 2, .d (.int .i64), .d .str, .d (.int .i64), .ow 3], .arr 9 .str, .arr 51 ty51]⟩
noncomputable def parse_reader_body_Fi [Esc R] (n : Nat) (a0 : (List ty78.D)) (a1 : Int) (a2 : Int) (a3 : ByteArray) (a4 : Int) (a5 : ByteArray) (a6 : Int) (a7 : (List ByteArray)) (a8 : (List ty51.D)) (k0 : (List ty78.D) → Int → Int → ByteArray → Int → ByteArray → Int → (List ByteArray) → (List ty51.D) → Option R) : Option R :=
  runC (parse_reader_body_l2 n) n (0, true, a0, a1, a2, a3, a4, a5, a6, a7, a8, ()) (fun b40 => k0 b40.1 b40.2.1 b40.2.2.1 b40.2.2.2.1 b40.2.2.2.2.1 b40.2.2.2.2.2.1 b40.2.2.2.2.2.2.1 b40.2.2.2.2.2.2.2.1 b40.2.2.2.2.2.2.2.2.1, ())
noncomputable def parse_reader_body_F {R : Type} [i : Esc R] := lazyN (@parse_reader_body_Fi R i)
theorem parse_reader_body_e [i : Esc R] : @parse_reader_body_F R i = @parse_reader_body_Fi R i := lazyN_eq _
noncomputable def parse_reader_body_g [Esc R] (n : Nat) : Gx R := typed 2 parse_reader_body_d fun x k => parse_reader_body_F n x.1 x.2.1 x.2.2.1 x.2.2.2.1 x.2.2.2.2.1 x.2.2.2.2.2.1 x.2.2.2.2.2.2.1 x.2.2.2.2.2.2.2.1 x.2.2.2.2.2.2.2.2.1 (fun y0 y1 y2 y3 y4 y5 y6 y7 y8 => k (.tu []) [(.box true 43 [(.fz ty78 y0), (.i .i64 y1)]), (.box true 25 [(.i .i64 y2), (.s y3), (.ow 2), (.i .i64 y4), (.s y5), (.i .i64 y6), (.ow 3)]), (.arr 9 .str y7), (.arr 51 ty51 y8)])
noncomputable def parse_reader_body_cs (R : Type) [Esc R] (n : Nat) : List (Nat × Gx R) := [(panF, escG), (40, parse_reader_must_g n), (59, parse_reader_take_g n), (62, parse_reader_begins_g n), (63, parse_reader_literal_g n)]
noncomputable def parse_reader_body_lp [Esc R] (n : Nat) : (i : Nat) → (parse_reader_body_ds i).D → exK R (parse_reader_body_dx i) → Option R
  | 2, a, k => runC (parse_reader_body_l2 n) n a k
  | _, _, _ => none
noncomputable def parse_reader_body_cx (R : Type) [Esc R] (n : Nat) : Cx R := ⟨Tryz.prog, Gof (parse_reader_body_cs R n), parse_reader_body_ds, parse_reader_body_dx, parse_reader_body_lp n, drawP Tryz.prog (Gof (parse_reader_body_cs R n)), false, noJn, noFz⟩
theorem parse_reader_body_ok [Esc R] (n : Nat) : Good Tryz.prog 43 (parse_reader_body_g (R := R) n) := by
  unfold parse_reader_body_g
  rw [parse_reader_body_e]
  exact Good.fn (f := 43) (cx := parse_reader_body_cx R n) (by kernel_rfl) (AllGood.esc (AllGood.cons (parse_reader_must_ok n) (AllGood.cons (parse_reader_take_ok n) (AllGood.cons (parse_reader_begins_ok n) (AllGood.cons (parse_reader_literal_ok n) (AllGood.nil)))))) rfl Tryz.func43 (by kernel_rfl) rfl (by
    have e : fnLoops noJn Tryz.f43 = [((fnLoops noJn Tryz.f43)[0]?).getD (false, .skip)] := by kernel_rfl
    show LoopRuns _ _ (fnLoops noJn _)
    rw [e]
    exact ⟨LoopRun.loop (by kernel_rfl) (i := 2) (m := n) (step := parse_reader_body_l2 n) (by kernel_rfl) (fun a k1 k2 => by kernel_rfl) (fun _ _ => rfl), trivial⟩) 2 parse_reader_body_d (by kernel_rfl) (fun x k => by kernel_rfl)
end
end Go.Proofs.YtnnbinmomendnaaGreatDoor.E
set_option linter.unusedVariables false
set_option maxRecDepth 100000
namespace Go.Proofs.YtnnbinmomendnaaGreatDoor.E
open Go.Proofs
noncomputable section
variable {R : Type}
/-! (*verderer/parse.reader).rule: function 15 -/
@[reducible] def parse_reader_rule_d : Desc := ⟨[(0, .pt 0 0)], [.box true 43 [.d (.sl ty78), .d (.int .i64)]]⟩
noncomputable def parse_reader_rule_Fi [Esc R] (n : Nat) (a0 : (List ty78.D)) (a1 : Int) (k0 : ty25.D → (List ty78.D) → Int → Option R) : Option R :=
  parse_reader_kind_F n a0 a1 (fun y1 y2 y3 => parse_reader_name_F n y2 y3 (fun y4 y5 y6 => parse_reader_want_F n (⟨#[40]⟩ : ByteArray) y5 y6 (fun y7 y8 => parse_reader_head_F n y7 y8 y1 y4 0 (⟨#[]⟩ : ByteArray) 0 ([] : List ByteArray) ([] : List ty51.D) (fun y9 y10 y11 y12 y13 y14 y15 y16 y17 => parse_reader_want_F n (⟨#[41]⟩ : ByteArray) y9 y10 (fun y18 y19 => if (y11 == 3) = true then (parse_reader_want_F n (⟨#[108, 105, 109, 105, 116]⟩ : ByteArray) y18 y19 (fun y20 y21 => parse_reader_now_F n y20 y21 (fun y22 y23 y24 => if (y22.1 == 2) = true then (parse_reader_now_F n y23 y24 (fun y25 y26 y27 => parse_reader_must_F n (y25.2.2.1.1 == 2) 7 y26 y27 (fun y28 y29 => parse_reader_step_F n y28 y29 (fun y30 y31 y32 => parse_reader_want_F n (⟨#[105, 102]⟩ : ByteArray) y31 y32 (fun y33 y34 => parse_reader_body_F n y33 y34 y11 y12 y13 y14 y30.2.2.1.2.2.1 y16 y17 (fun y35 y36 y37 y38 y39 y40 y41 y42 y43 => parse_reader_now_F n y35 y36 (fun y44 y45 y46 => parse_reader_must_F n (y44.1 == 4) 7 y45 y46 (fun y47 y48 => k0 (y37, y38, y42, y39, y40, y41, y43, ()) y47 y48)))))))) else (parse_reader_must_F n false 7 y23 y24 (fun y49 y50 => parse_reader_step_F n y49 y50 (fun y51 y52 y53 => parse_reader_want_F n (⟨#[105, 102]⟩ : ByteArray) y52 y53 (fun y54 y55 => parse_reader_body_F n y54 y55 y11 y12 y13 y14 y51.2.2.1.2.2.1 y16 y17 (fun y56 y57 y58 y59 y60 y61 y62 y63 y64 => parse_reader_now_F n y56 y57 (fun y65 y66 y67 => parse_reader_must_F n (y65.1 == 4) 7 y66 y67 (fun y68 y69 => k0 (y58, y59, y63, y60, y61, y62, y64, ()) y68 y69)))))))))) else (parse_reader_want_F n (⟨#[105, 102]⟩ : ByteArray) y18 y19 (fun y70 y71 => parse_reader_body_F n y70 y71 y11 y12 y13 y14 y15 y16 y17 (fun y72 y73 y74 y75 y76 y77 y78 y79 y80 => parse_reader_now_F n y72 y73 (fun y81 y82 y83 => parse_reader_must_F n (y81.1 == 4) 7 y82 y83 (fun y84 y85 => k0 (y74, y75, y79, y76, y77, y78, y80, ()) y84 y85))))))))))
noncomputable def parse_reader_rule_F {R : Type} [i : Esc R] := lazyN (@parse_reader_rule_Fi R i)
theorem parse_reader_rule_e [i : Esc R] : @parse_reader_rule_F R i = @parse_reader_rule_Fi R i := lazyN_eq _
noncomputable def parse_reader_rule_g [Esc R] (n : Nat) : Gx R := typed 1 parse_reader_rule_d fun x k => parse_reader_rule_F n x.1 x.2.1 (fun y0 y1 y2 => k (.a (encA ty25 y0)) [(.box true 43 [(.fz ty78 y1), (.i .i64 y2)])])
noncomputable def parse_reader_rule_cs (R : Type) [Esc R] (n : Nat) : List (Nat × Gx R) := [(panF, escG), (36, parse_reader_kind_g n), (37, parse_reader_name_g n), (38, parse_reader_want_g n), (39, parse_reader_head_g n), (40, parse_reader_must_g n), (41, parse_reader_now_g n), (42, parse_reader_step_g n), (43, parse_reader_body_g n)]
noncomputable def parse_reader_rule_cx (R : Type) [Esc R] (n : Nat) : Cx R := ⟨Tryz.prog, Gof (parse_reader_rule_cs R n), noDs, noDx, noLp, drawP Tryz.prog (Gof (parse_reader_rule_cs R n)), true, noJn, noFz⟩
theorem parse_reader_rule_ok [Esc R] (n : Nat) : Good Tryz.prog 15 (parse_reader_rule_g (R := R) n) := by
  unfold parse_reader_rule_g
  rw [parse_reader_rule_e]
  exact Good.fn (f := 15) (cx := parse_reader_rule_cx R n) (by kernel_rfl) (AllGood.esc (AllGood.cons (parse_reader_kind_ok n) (AllGood.cons (parse_reader_name_ok n) (AllGood.cons (parse_reader_want_ok n) (AllGood.cons (parse_reader_head_ok n) (AllGood.cons (parse_reader_must_ok n) (AllGood.cons (parse_reader_now_ok n) (AllGood.cons (parse_reader_step_ok n) (AllGood.cons (parse_reader_body_ok n) (AllGood.nil)))))))))) rfl Tryz.func15 (by kernel_rfl) rfl trivial 1 parse_reader_rule_d (by kernel_rfl) (fun x k => by kernel_rfl)
end
end Go.Proofs.YtnnbinmomendnaaGreatDoor.E
namespace Go.Proofs.YtnnbinmomendnaaGreatDoor.E
open Go.RowKit
variable {R : Type}
/-! loops that look for the first place where something is so -/
theorem runC_scan {α β R ρ : Type} {step : α → (α → Option R) → β → Option R} (k : β) (K : ρ → Option R) (E : Option R) (f : Nat → Option ρ) (st : Nat → α) (m : Nat)
    (hs : ∀ i, i < m → ∀ k1, step (st i) k1 k = match f i with
      | none => k1 (st (i + 1))
      | some y => K y) (he : ∀ k1, step (st m) k1 k = E) {n : Nat} (hn : m < n) : runC step n (st 0) k = match (List.range m).findSome? f with
      | none => E
      | some y => K y := by
  have go : ∀ (d i n : Nat), i + d = m → d < n → runC step n (st i) k = match (List.range' i d).findSome? f with
      | none => E
      | some y => K y := by
    intro d
    induction d with
    | zero =>
      intro i n hi hn
      obtain ⟨n, rfl⟩ : ∃ q, n = q + 1 := ⟨n - 1, by omega⟩
      have : i = m := by omega
      subst this
      exact he _
    | succ d ih =>
      intro i n hi hn
      obtain ⟨n, rfl⟩ : ∃ q, n = q + 1 := ⟨n - 1, by omega⟩
      rw [List.range'_succ, List.findSome?_cons]
      have h := hs i (by omega) (fun b => runC step n b k)
      refine Eq.trans (show _ = step (st i) (fun b => runC step n b k) k from rfl) (h.trans ?_)
      cases hf : f i with
      | some y => rfl
      | none => exact ih (i + 1) n (by omega) (by omega)
  have := go m 0 n (by omega) hn
  rw [← List.range_eq_range'] at this
  exact this
theorem runC_all {α β R : Type} {step : α → (α → Option R) → β → Option R} (k : β) (K E : Option R) (p : Nat → Bool) (st : Nat → α) (m : Nat)
    (hs : ∀ i, i < m → ∀ k1, step (st i) k1 k = if p i = true then k1 (st (i + 1)) else K) (he : ∀ k1, step (st m) k1 k = E) {n : Nat} (hn : m < n) : runC step n (st 0) k = if ((List.range m).all p) = true then E else K := by
  have h := runC_scan (ρ := Unit) k (fun _ => K) E (fun i => if p i = true then none else some ()) st m (fun i hi k1 => by rw [hs i hi k1]; by_cases hp : p i = true <;> simp [hp]) he hn
  rw [h]
  by_cases ha : (List.range m).all p = true
  · rw [if_pos ha]
    have : (List.range m).findSome? (fun i => if p i = true then none else some ()) = none := by
      rw [List.findSome?_eq_none_iff]
      intro i hi
      rw [if_pos (List.all_eq_true.1 ha i hi)]
    rw [this]
  · rw [if_neg ha]
    cases hf : (List.range m).findSome? (fun i => if p i = true then none else some ()) with
    | some y => rfl
    | none =>
      refine absurd (List.all_eq_true.2 fun i hi => ?_) ha
      have := (List.findSome?_eq_none_iff.1 hf) i hi
      by_cases hp : p i = true
      · exact hp
      · rw [if_neg hp] at this; cases this
/-! names -/
def letS (c : Int) : Bool := decide (97 ≤ c) && decide (c ≤ 122)
def othS (c : Int) : Bool := decide (c = 95) || (!decide (c < 48) && !decide (57 < c))
def chS (s : ByteArray) (i : Nat) : Bool := letS (byteAt s i) || (decide (i ≠ 0) && othS (byteAt s i))
def nameS (s : ByteArray) : Bool := decide (1 ≤ s.size) && (decide (s.size ≤ 16) && (List.range s.size).all (chS s))
theorem letter_F (n : Nat) (c : Int) (k : Bool → Option R) : schema_letter_F n c k = k (letS c) := by
  rw [schema_letter_e]
  unfold schema_letter_Fi letS
  by_cases h : 97 ≤ c <;> simp [h]
theorem in_size {i m : Nat} (h : i < m) : ((0 : Int) ≤ (i : Int)) = True ∧ ((i : Int) < (m : Int)) = True := by simp; omega
theorem refName_F (n : Nat) (s : ByteArray) (hn : 16 < n) (k : Bool → Option R) : verdererref07_Name_F n s k = k (nameS s) := by
  rw [verdererref07_Name_e]
  unfold verdererref07_Name_Fi nameS
  by_cases h1 : 1 ≤ s.size
  · by_cases h2 : s.size ≤ 16
    · have h1' : ¬ ((s.size : Int) < 1) := by omega
      have h2' : ¬ ((s.size : Int) > 16) := by omega
      simp only [h1, h2, h1', h2', decide_true, decide_false, Bool.true_and, Bool.false_eq_true, if_false]
      refine (runC_all (R := R) (step := verdererref07_Name_l4 n) _ (k false) (k true) (chS s) (fun i => (s, (i : Int), ())) s.size (fun i hi k1 => ?_) (fun k1 => ?_) (by omega)).trans ?_
      · simp only [verdererref07_Name_l4, verdererref07_Name_s4, lt_nat, hi, (in_size hi).1, (in_size hi).2, decide_true, if_true, wrap_succ i (by omega), chS, letS, othS]
        obtain ⟨c, hc⟩ : ∃ c, byteAt s i = c := ⟨_, rfl⟩
        simp only [hc]
        by_cases c1 : 97 ≤ c <;> by_cases c2 : c ≤ 122 <;> by_cases c3 : i = 0 <;> by_cases c4 : c = 95 <;> by_cases c5 : c < 48 <;> by_cases c6 : 57 < c <;> simp [c1, c2, c3, c4, c5, c6]
      · simp only [verdererref07_Name_l4, verdererref07_Name_s4, lt_nat, Nat.lt_irrefl, decide_false, Bool.false_eq_true, if_false]
      · cases (List.range s.size).all (chS s) <;> rfl
    · have h1' : ¬ ((s.size : Int) < 1) := by omega
      have h2' : ((s.size : Int) > 16) := by omega
      simp only [h1, h2, h1', h2', decide_true, decide_false, Bool.true_and, Bool.false_and, Bool.false_eq_true, if_false, if_true]
  · have h1' : ((s.size : Int) < 1) := by omega
    simp only [h1, h1', decide_true, decide_false, Bool.false_and, if_true]
theorem schName_F (n : Nat) (s : ByteArray) (hn : 16 < n) (k : Bool → Option R) : schema_Name_F n s k = k (nameS s) := by
  rw [schema_Name_e]
  unfold schema_Name_Fi
  simp only [beqB]
  by_cases h0 : s = (⟨#[]⟩ : ByteArray)
  · subst h0
    have : nameS (⟨#[]⟩ : ByteArray) = false := by unfold nameS; rfl
    simp [this]
  have h1 : 1 ≤ s.size := by
    rcases Nat.eq_zero_or_pos s.size with h | h
    · exact absurd (ByteArray.size_eq_zero_iff.1 h) h0
    · exact h
  by_cases h2 : s.size ≤ 16
  · have h2' : ¬ ((s.size : Int) > 16) := by omega
    have h3' : ((0 : Int) < (s.size : Int)) := by omega
    simp only [h0, h2', h3', decide_false, Bool.false_eq_true, if_false, Int.le_refl, if_true, letter_F]
    have e0 : byteAt s 0 = byteAt s ((0 : Nat) : Int) := rfl
    cases hl : letS (byteAt s 0) with
    | false =>
      simp only [Bool.not_false, if_true]
      have : nameS s = false := by
        unfold nameS
        have : (List.range s.size).all (chS s) = false := by
          rw [List.all_eq_false]
          exact ⟨0, List.mem_range.2 h1, by simp [chS, ← e0, hl]⟩
        rw [this]; simp
      rw [this]
    | true =>
      simp only [Bool.not_true, Bool.false_eq_true, if_false]
      refine (runC_all (R := R) (step := schema_Name_l4 n) _ (k false) (k true) (fun i => letS (byteAt s i) || othS (byteAt s i)) (fun i => (s, (s.size : Int), (i : Int), ())) s.size (fun i hi k1 => ?_) (fun k1 => ?_) (by omega)).trans ?_
      · simp only [schema_Name_l4, schema_Name_s4, lt_nat, hi, (in_size hi).1, (in_size hi).2, decide_true, if_true, wrap_succ i (by omega), letter_F, othS]
        obtain ⟨c, hc⟩ : ∃ c, byteAt s i = c := ⟨_, rfl⟩
        simp only [hc]
        cases letS c with
        | true => simp
        | false =>
          by_cases c4 : c = 95 <;> by_cases c5 : c < 48 <;> by_cases c6 : 57 < c <;> simp [c4, c5, c6]
      · simp only [schema_Name_l4, schema_Name_s4, lt_nat, Nat.lt_irrefl, decide_false, Bool.false_eq_true, if_false]
      · have : (List.range s.size).all (fun i => letS (byteAt s i) || othS (byteAt s i)) = (List.range s.size).all (chS s) := by
          rw [Bool.eq_iff_iff, List.all_eq_true, List.all_eq_true]
          refine forall_congr' fun i => forall_congr' fun hi => ?_
          unfold chS
          by_cases hi0 : i = 0
          · subst hi0; rw [← e0, hl]; simp
          · simp [hi0]
        rw [this]
        unfold nameS
        simp only [h1, h2, decide_true, Bool.true_and]
        cases (List.range s.size).all (chS s) <;> rfl
  · have h2' : ((s.size : Int) > 16) := by omega
    simp only [h0, h2', decide_false, decide_true, Bool.false_eq_true, if_false, if_true, nameS, h2, Bool.false_and, Bool.and_false]
end Go.Proofs.YtnnbinmomendnaaGreatDoor.E
namespace Go.Proofs.YtnnbinmomendnaaGreatDoor.E
open Go.RowKit
variable {R : Type}
/-! the document's reader: place, why it fails, where -/
abbrev RS := Nat × Int × Int
def zT : ty60.D := Ty.z ty60
def tk (l : Toks) (i : Nat) : ty60.D := l.getD i zT
def rIs (l : Toks) (w : ByteArray) (s : RS) : Bool := decide (s.2.1 = 0) && ((decide ((tk l s.1).1 = 1) || decide ((tk l s.1).1 = 3)) && decide ((tk l s.1).2.1 = w))
def rStep (l : Toks) (s : RS) : RS := (if s.1 + 1 < l.length then s.1 + 1 else s.1, s.2.1, s.2.2)
def rTake (l : Toks) (w : ByteArray) (s : RS) : Bool × RS := if rIs l w s = true then (true, rStep l s) else (false, s)
def rFail (e p : Int) (s : RS) : RS := if s.2.1 = 0 then (s.1, e, p) else s
def rMust (l : Toks) (w : ByteArray) (s : RS) : RS := if (rTake l w s).1 = true then (rTake l w s).2 else rFail 7 (tk l s.1).2.2.2.1 s
def resW : List ByteArray := [(⟨#[100, 101, 110, 121]⟩ : ByteArray), (⟨#[118, 105, 101, 119]⟩ : ByteArray), (⟨#[113, 117, 111, 116, 97]⟩ : ByteArray), (⟨#[108, 105, 109, 105, 116]⟩ : ByteArray), (⟨#[105, 102]⟩ : ByteArray), (⟨#[110, 111, 116]⟩ : ByteArray), (⟨#[99, 111, 117, 110, 116]⟩ : ByteArray), (⟨#[115, 117, 109]⟩ : ByteArray), (⟨#[108, 101, 97, 115, 116]⟩ : ByteArray), (⟨#[109, 111, 115, 116]⟩ : ByteArray)]
def resS (w : ByteArray) : Bool := resW.any fun x => decide (x = w)
def isName (t : ty60.D) : Bool := decide (t.1 = 1) && (nameS t.2.1 && !resS t.2.1)
def rNamed (l : Toks) (s : RS) : Bool := decide (s.2.1 = 0) && isName (tk l s.1)
def rName (l : Toks) (s : RS) : ByteArray × RS := if rNamed l s = true then ((tk l s.1).2.1, rStep l s) else ((⟨#[]⟩ : ByteArray), rFail 7 (tk l s.1).2.2.2.1 s)
theorem rStep_lt {l : Toks} {s : RS} (h : s.1 < l.length) : (rStep l s).1 < l.length := by unfold rStep; simp only []; split <;> omega
theorem rTake_lt {l : Toks} {s : RS} (w : ByteArray) (h : s.1 < l.length) : (rTake l w s).2.1 < l.length := by unfold rTake; split; exact rStep_lt h; exact h
theorem rFail_at (e p : Int) (s : RS) : (rFail e p s).1 = s.1 := by unfold rFail; split <;> rfl
theorem rFail_lt {l : Toks} {s : RS} (e p : Int) (h : s.1 < l.length) : (rFail e p s).1 < l.length := by rw [rFail_at]; exact h
theorem rMust_lt {l : Toks} {s : RS} (w : ByteArray) (h : s.1 < l.length) : (rMust l w s).1 < l.length := by unfold rMust; split; exact rTake_lt w h; exact rFail_lt _ _ h
theorem rName_lt {l : Toks} {s : RS} (h : s.1 < l.length) : (rName l s).2.1 < l.length := by unfold rName; split; exact rStep_lt h; exact rFail_lt _ _ h
theorem now_F (n : Nat) (l : Toks) (s : RS) (h : s.1 < l.length) (k : ty60.D → Int → Int → Int → Toks → Option R) : verdererref12_reader_now_F n (s.1 : Int) s.2.1 s.2.2 l k = k (tk l s.1) (s.1 : Int) s.2.1 s.2.2 l := by
  rw [verdererref12_reader_now_e]
  unfold verdererref12_reader_now_Fi tk zT
  rw [if_pos (by omega), Int.toNat_natCast, if_pos h]
theorem is_F (n : Nat) (w : ByteArray) (l : Toks) (s : RS) (h : s.1 < l.length) (k : Bool → Int → Int → Int → Toks → Option R) : verdererref12_reader_is_F n w (s.1 : Int) s.2.1 s.2.2 l k = k (rIs l w s) (s.1 : Int) s.2.1 s.2.2 l := by
  rw [verdererref12_reader_is_e]
  unfold verdererref12_reader_is_Fi
  rw [now_F n l s h]
  unfold rIs
  simp only [beqB]
  by_cases h0 : s.2.1 = 0
  · have b0 : (s.2.1 == 0) = true := by simp [h0]
    by_cases h1 : (tk l s.1).1 = 1
    · have b1 : ((tk l s.1).1 == 1) = true := beq_iff_eq.2 h1
      rw [if_pos b0, if_pos b1, decide_eq_true h0, decide_eq_true h1]
      simp
    · have b1 : ((tk l s.1).1 == 1) = false := beq_eq_false_iff_ne.2 h1
      rw [if_pos b0, if_neg (by rw [b1]; decide), decide_eq_true h0, decide_eq_false h1]
      by_cases h3 : (tk l s.1).1 = 3
      · have b3 : ((tk l s.1).1 == 3) = true := beq_iff_eq.2 h3
        rw [if_pos b3, decide_eq_true h3]
        simp
      · have b3 : ((tk l s.1).1 == 3) = false := beq_eq_false_iff_ne.2 h3
        rw [if_neg (by rw [b3]; decide), decide_eq_false h3]
        simp
  · have b0 : (s.2.1 == 0) = false := by simp [h0]
    rw [if_neg (by rw [b0]; decide), decide_eq_false h0]
    simp
theorem step_F (n : Nat) (l : Toks) (s : RS) (h : s.1 < l.length) (hl : l.length < 1000000) (k : Int → Int → Int → Toks → Option R) : verdererref12_reader_step_F n (s.1 : Int) s.2.1 s.2.2 l k = k ((rStep l s).1 : Int) (rStep l s).2.1 (rStep l s).2.2 l := by
  rw [verdererref12_reader_step_e]
  unfold verdererref12_reader_step_Fi rStep
  rw [wrap_succ _ (by omega)]
  by_cases h1 : s.1 + 1 < l.length
  · have : ((s.1 + 1 : Nat) : Int) < (l.length : Int) := by omega
    rw [if_pos (decide_eq_true this)]
    simp only [h1, if_true]
  · have : ¬ ((s.1 + 1 : Nat) : Int) < (l.length : Int) := by omega
    rw [if_neg (by simpa using this)]
    simp only [h1, if_false]
theorem take_F (n : Nat) (w : ByteArray) (l : Toks) (s : RS) (h : s.1 < l.length) (hl : l.length < 1000000) (k : Bool → Int → Int → Int → Toks → Option R) : verdererref12_reader_take_F n w (s.1 : Int) s.2.1 s.2.2 l k = k (rTake l w s).1 ((rTake l w s).2.1 : Int) (rTake l w s).2.2.1 (rTake l w s).2.2.2 l := by
  rw [verdererref12_reader_take_e]
  unfold verdererref12_reader_take_Fi rTake
  rw [is_F n w l s h, step_F n l s h hl]
  cases rIs l w s <;> simp
theorem fail_F (n : Nat) (e p : Int) (l : Toks) (s : RS) (k : Int → Int → Int → Toks → Option R) : verdererref12_reader_fail_F n e p (s.1 : Int) s.2.1 s.2.2 l k = k ((rFail e p s).1 : Int) (rFail e p s).2.1 (rFail e p s).2.2 l := by
  rw [verdererref12_reader_fail_e]
  unfold verdererref12_reader_fail_Fi rFail
  by_cases h0 : s.2.1 = 0
  · have b0 : (s.2.1 == 0) = true := by simp [h0]
    rw [if_pos b0, if_pos h0]
  · have b0 : (s.2.1 == 0) = false := by simp [h0]
    rw [if_neg (by rw [b0]; decide), if_neg h0]
theorem must_F (n : Nat) (w : ByteArray) (l : Toks) (s : RS) (h : s.1 < l.length) (hl : l.length < 1000000) (k : Int → Int → Int → Toks → Option R) : verdererref12_reader_must_F n w (s.1 : Int) s.2.1 s.2.2 l k = k ((rMust l w s).1 : Int) (rMust l w s).2.1 (rMust l w s).2.2 l := by
  rw [verdererref12_reader_must_e]
  unfold verdererref12_reader_must_Fi
  rw [take_F n w l s h hl]
  unfold rMust
  cases ht : (rTake l w s).1 with
  | true => simp
  | false =>
    have e : (rTake l w s).2 = s := by
      unfold rTake at ht ⊢
      split at ht
      · cases ht
      · rename_i hh; rw [if_neg hh]
    simp only [Bool.not_false, if_true, e, Bool.false_eq_true, if_false]
    rw [now_F n l s h, fail_F n 7 _ l s]
theorem reserved_F (n : Nat) (w : ByteArray) (hn : 20 < n) (k : Bool → Option R) : verdererref11_Reserved_F n w k = k (resS w) := by
  rw [verdererref11_Reserved_e]
  unfold verdererref11_Reserved_Fi
  refine (runC_all (R := R) (step := verdererref11_Reserved_l3 n) _ (k true) (k false) (fun i => !decide ((resW.getD i ByteArray.empty) = w)) (fun i => (w, (i : Int), resW, ())) resW.length (fun i hi k1 => ?_) (fun k1 => ?_) (by show 10 < n; omega)).trans ?_
  · have hi2 : (0 : Int) ≤ (i : Int) ∧ (i : Int) < (resW.length : Int) := by omega
    have e : resW.getD i (Ty.z .str) = resW.getD i ByteArray.empty := rfl
    have c : (i : Int) < (resW.length : Int) := by omega
    have hb : i < 10 := hi
    simp only [verdererref11_Reserved_l3, verdererref11_Reserved_s3, c, hi2, decide_true, if_true, and_self, Int.toNat_natCast, hi, beqB, e, wrap_succ i (by omega)]
    by_cases h : resW.getD i ByteArray.empty = w
    · simp [h]
    · simp [h]
  · simp [verdererref11_Reserved_l3, verdererref11_Reserved_s3]
  · have : ((List.range resW.length).all fun i => !decide ((resW.getD i ByteArray.empty) = w)) = !resS w := by
      rw [Bool.eq_iff_iff, List.all_eq_true]
      unfold resS
      rw [Bool.not_eq_true', List.any_eq_false]
      constructor
      · intro h x hx
        obtain ⟨i, hi, e⟩ := List.getElem_of_mem hx
        have := h i (List.mem_range.2 hi)
        rw [getD_nat _ i hi, e] at this
        simpa using this
      · intro h i hi
        have hi := List.mem_range.1 hi
        have := h _ (List.getElem_mem hi)
        rw [getD_nat _ i hi]
        simpa using this
    rw [this]
    cases resS w <;> rfl
theorem named_F (n : Nat) (l : Toks) (s : RS) (h : s.1 < l.length) (hn : 20 < n) (k : Bool → Int → Int → Int → Toks → Option R) : verdererref12_reader_named_F n (s.1 : Int) s.2.1 s.2.2 l k = k (rNamed l s) (s.1 : Int) s.2.1 s.2.2 l := by
  rw [verdererref12_reader_named_e]
  unfold verdererref12_reader_named_Fi
  rw [now_F n l s h]
  unfold rNamed isName
  by_cases h0 : s.2.1 = 0
  · have b0 : (s.2.1 == 0) = true := by simp [h0]
    by_cases h1 : (tk l s.1).1 = 1
    · have b1 : ((tk l s.1).1 == 1) = true := beq_iff_eq.2 h1
      rw [if_pos b0, if_pos b1, decide_eq_true h0, decide_eq_true h1, refName_F n _ (by omega), reserved_F n _ hn]
      cases nameS (tk l s.1).2.1 <;> simp
    · have b1 : ((tk l s.1).1 == 1) = false := beq_eq_false_iff_ne.2 h1
      rw [if_pos b0, if_neg (by rw [b1]; decide), decide_eq_true h0, decide_eq_false h1]
      simp
  · have b0 : (s.2.1 == 0) = false := by simp [h0]
    rw [if_neg (by rw [b0]; decide), decide_eq_false h0]
    simp
theorem name_F (n : Nat) (l : Toks) (s : RS) (h : s.1 < l.length) (hl : l.length < 1000000) (hn : 20 < n) (k : ByteArray → Int → Int → Int → Toks → Option R) : verdererref12_reader_name_F n (s.1 : Int) s.2.1 s.2.2 l k = k (rName l s).1 ((rName l s).2.1 : Int) (rName l s).2.2.1 (rName l s).2.2.2 l := by
  rw [verdererref12_reader_name_e]
  unfold verdererref12_reader_name_Fi
  rw [named_F n l s h hn]
  unfold rName
  cases rNamed l s with
  | true =>
    simp only [Bool.not_true, Bool.false_eq_true, if_false, if_true]
    rw [now_F n l s h, step_F n l s h hl]
  | false =>
    simp only [Bool.not_false, Bool.false_eq_true, if_false, if_true]
    rw [now_F n l s h, fail_F n 7 _ l s]
/-- an aggregate's words -/
def aggW : List ByteArray := [(⟨#[]⟩ : ByteArray), (⟨#[99, 111, 117, 110, 116]⟩ : ByteArray), (⟨#[115, 117, 109]⟩ : ByteArray), (⟨#[108, 101, 97, 115, 116]⟩ : ByteArray), (⟨#[109, 111, 115, 116]⟩ : ByteArray)]
/-- the aggregate that stands there; 0: none -/
def rAggI (l : Toks) (s : RS) : Nat := if rIs l (aggW.getD 1 ByteArray.empty) s = true then 1 else if rIs l (aggW.getD 2 ByteArray.empty) s = true then 2 else if rIs l (aggW.getD 3 ByteArray.empty) s = true then 3 else if rIs l (aggW.getD 4 ByteArray.empty) s = true then 4 else 0
/-- of a rule: what aggregate, and of what -/
def rAgg (l : Toks) (kind : Int) (s : RS) (ag : Int) (of_ : ByteArray) : Bool × RS × Int × ByteArray :=
  if rAggI l s = 0 then (false, s, ag, of_)
  else if kind = 1 ∨ kind = 3 ∧ 2 < rAggI l s then (true, rFail 7 (tk l s.1).2.2.2.1 s, ag, of_)
  else if 1 < rAggI l s then (true, (rName l (rStep l s)).2, (rAggI l s : Int), (rName l (rStep l s)).1)
  else (true, rStep l s, (rAggI l s : Int), of_)
theorem rAgg_lt {l : Toks} {s : RS} (kind : Int) (ag : Int) (of_ : ByteArray) (h : s.1 < l.length) : (rAgg l kind s ag of_).2.1.1 < l.length := by
  unfold rAgg
  split
  · exact h
  · split
    · exact rFail_lt _ _ h
    · split
      · exact rName_lt (rStep_lt h)
      · exact rStep_lt h
theorem agg_round (n : Nat) (l : Toks) (s : RS) (h : s.1 < l.length) (hl : l.length < 1000000) (hn : 20 < n) (i : Nat) (h1 : 1 ≤ i) (hi : i < 5) (kind : Int) (nm : ByteArray) (ag : Int) (of_ : ByteArray) (lim : Int) (hd : List ByteArray) (bd : List ty51.D) (k1 : (verdererref12_reader_agg_ds 3).D → Option R) (k2 : exK R (verdererref12_reader_agg_dx 3)) :
    verdererref12_reader_agg_l3 n ((i : Int), (s.1 : Int), s.2.1, s.2.2, l, kind, nm, ag, of_, lim, hd, bd, aggW, ()) k1 k2 = if rIs l (aggW.getD i ByteArray.empty) s = true then
        (if kind = 1 ∨ kind = 3 ∧ 2 < i then k2.1 (true, ((rFail 7 (tk l s.1).2.2.2.1 s).1 : Int), (rFail 7 (tk l s.1).2.2.2.1 s).2.1, (rFail 7 (tk l s.1).2.2.2.1 s).2.2, l, kind, nm, ag, of_, lim, hd, bd, ())
        else if 1 < i then k2.1 (true, ((rName l (rStep l s)).2.1 : Int), (rName l (rStep l s)).2.2.1, (rName l (rStep l s)).2.2.2, l, kind, nm, (i : Int), (rName l (rStep l s)).1, lim, hd, bd, ())
        else k2.1 (true, ((rStep l s).1 : Int), (rStep l s).2.1, (rStep l s).2.2, l, kind, nm, (i : Int), of_, lim, hd, bd, ()))
      else k1 (((i + 1 : Nat) : Int), (s.1 : Int), s.2.1, s.2.2, l, kind, nm, ag, of_, lim, hd, bd, aggW, ()) := by
  have hlen : aggW.length = 5 := rfl
  have c : (i : Int) < (aggW.length : Int) := by omega
  have hi2 : (0 : Int) ≤ (i : Int) ∧ (i : Int) < (aggW.length : Int) := by omega
  have hi3 : i < aggW.length := by omega
  have e : aggW.getD i (Ty.z .str) = aggW.getD i ByteArray.empty := rfl
  simp only [verdererref12_reader_agg_l3, verdererref12_reader_agg_s3, c, hi2, hi3, decide_true, if_true, and_self, Int.toNat_natCast, e, wrap_succ i (by omega)]
  rw [is_F n _ l s h]
  cases rIs l (aggW.getD i ByteArray.empty) s with
  | false => simp
  | true =>
    simp only [Bool.not_true, Bool.false_eq_true, if_false, if_true]
    have g1 : ((i : Int) > 1) ↔ 1 < i := by omega
    have g2 : ((i : Int) > 2) ↔ 2 < i := by omega
    have tail : (verdererref12_reader_step_F n (s.1 : Int) s.2.1 s.2.2 l (fun y24 y25 y26 y27 => if (decide ((i : Int) > 1)) = true then (verdererref12_reader_name_F n y24 y25 y26 y27 (fun y28 y29 y30 y31 y32 => k2.1 (true, y29, y30, y31, y32, kind, nm, (i : Int), y28, lim, hd, bd, ()))) else (k2.1 (true, y24, y25, y26, y27, kind, nm, (i : Int), of_, lim, hd, bd, ())))) = if 1 < i then k2.1 (true, ((rName l (rStep l s)).2.1 : Int), (rName l (rStep l s)).2.2.1, (rName l (rStep l s)).2.2.2, l, kind, nm, (i : Int), (rName l (rStep l s)).1, lim, hd, bd, ())
        else k2.1 (true, ((rStep l s).1 : Int), (rStep l s).2.1, (rStep l s).2.2, l, kind, nm, (i : Int), of_, lim, hd, bd, ()) := by
      rw [step_F n l s h hl]
      by_cases hg : 1 < i
      · rw [if_pos (decide_eq_true (g1.2 hg)), if_pos hg, name_F n l _ (rStep_lt h) hl hn]
      · rw [if_neg (by simpa [g1] using hg), if_neg hg]
    by_cases k1' : kind = 1
    · have b : (kind == 1) = true := by simp [k1']
      rw [if_pos b, if_pos (Or.inl k1'), now_F n l s h, fail_F n 7 _ l s]
    · have b : (kind == 1) = false := by simp [k1']
      rw [if_neg (by rw [b]; decide)]
      by_cases k3 : kind = 3
      · have b3 : (kind == 3) = true := by simp [k3]
        rw [if_pos b3]
        by_cases hg : 2 < i
        · rw [if_pos (decide_eq_true (g2.2 hg)), if_pos (Or.inr ⟨k3, hg⟩), now_F n l s h, fail_F n 7 _ l s]
        · rw [if_neg (by simpa [g2] using hg), if_neg (fun hh => hh.elim k1' (fun h => hg h.2))]
          exact tail
      · have b3 : (kind == 3) = false := by simp [k3]
        rw [if_neg (by rw [b3]; decide), if_neg (fun hh => hh.elim k1' (fun h => k3 h.1))]
        exact tail
theorem agg_F (n : Nat) (l : Toks) (s : RS) (h : s.1 < l.length) (hl : l.length < 1000000) (hn : 20 < n) (kind : Int) (nm : ByteArray) (ag : Int) (of_ : ByteArray) (lim : Int) (hd : List ByteArray) (bd : List ty51.D) (k : Bool → Int → Int → Int → Toks → Int → ByteArray → Int → ByteArray → Int → List ByteArray → List ty51.D → Option R) :
    verdererref12_reader_agg_F n (s.1 : Int) s.2.1 s.2.2 l kind nm ag of_ lim hd bd k = k (rAgg l kind s ag of_).1 ((rAgg l kind s ag of_).2.1.1 : Int) (rAgg l kind s ag of_).2.1.2.1 (rAgg l kind s ag of_).2.1.2.2 l kind nm (rAgg l kind s ag of_).2.2.1 (rAgg l kind s ag of_).2.2.2 lim hd bd := by
  rw [verdererref12_reader_agg_e]
  unfold verdererref12_reader_agg_Fi
  obtain ⟨m, rfl⟩ : ∃ m, n = m + 5 := ⟨n - 5, by omega⟩
  generalize hK : ((fun b53 => k b53.1 b53.2.1 b53.2.2.1 b53.2.2.2.1 b53.2.2.2.2.1 b53.2.2.2.2.2.1 b53.2.2.2.2.2.2.1 b53.2.2.2.2.2.2.2.1 b53.2.2.2.2.2.2.2.2.1 b53.2.2.2.2.2.2.2.2.2.1 b53.2.2.2.2.2.2.2.2.2.2.1 b53.2.2.2.2.2.2.2.2.2.2.2.1, fun b64 => k false b64.1 b64.2.1 b64.2.2.1 b64.2.2.2.1 b64.2.2.2.2.1 b64.2.2.2.2.2.1 b64.2.2.2.2.2.2.1 b64.2.2.2.2.2.2.2.1 b64.2.2.2.2.2.2.2.2.1 b64.2.2.2.2.2.2.2.2.2.1 b64.2.2.2.2.2.2.2.2.2.2.1, ()) : exK R (verdererref12_reader_agg_dx 3)) = K
  have r := fun i h1 hi k1 => agg_round (R := R) (m + 5) l s h hl hn i h1 hi kind nm ag of_ lim hd bd k1 K
  unfold rAgg rAggI
  show verdererref12_reader_agg_l3 (m + 5) (((1 : Nat) : Int), (s.1 : Int), s.2.1, s.2.2, l, kind, nm, ag, of_, lim, hd, bd, aggW, ()) (fun b => runC (verdererref12_reader_agg_l3 (m + 5)) (m + 4) b K) K = _
  rw [r 1 (by omega) (by omega)]
  by_cases h1 : rIs l (aggW.getD 1 ByteArray.empty) s = true
  · rw [if_pos h1]
    simp only [h1, if_true, ← hK]
    by_cases k1' : kind = 1
    · simp [k1']
    · simp [k1']
  rw [if_neg h1]
  show verdererref12_reader_agg_l3 (m + 5) (((2 : Nat) : Int), (s.1 : Int), s.2.1, s.2.2, l, kind, nm, ag, of_, lim, hd, bd, aggW, ()) (fun b => runC (verdererref12_reader_agg_l3 (m + 5)) (m + 3) b K) K = _
  rw [r 2 (by omega) (by omega)]
  by_cases h2 : rIs l (aggW.getD 2 ByteArray.empty) s = true
  · rw [if_pos h2]
    simp only [h1, h2, if_true, if_false, ← hK]
    by_cases k1' : kind = 1
    · simp [k1']
    · simp [k1']
  rw [if_neg h2]
  show verdererref12_reader_agg_l3 (m + 5) (((3 : Nat) : Int), (s.1 : Int), s.2.1, s.2.2, l, kind, nm, ag, of_, lim, hd, bd, aggW, ()) (fun b => runC (verdererref12_reader_agg_l3 (m + 5)) (m + 2) b K) K = _
  rw [r 3 (by omega) (by omega)]
  by_cases h3 : rIs l (aggW.getD 3 ByteArray.empty) s = true
  · rw [if_pos h3]
    simp only [h1, h2, h3, if_true, if_false, ← hK]
    by_cases k1' : kind = 1
    · simp [k1']
    · by_cases k3 : kind = 3 <;> simp [k1', k3]
  rw [if_neg h3]
  show verdererref12_reader_agg_l3 (m + 5) (((4 : Nat) : Int), (s.1 : Int), s.2.1, s.2.2, l, kind, nm, ag, of_, lim, hd, bd, aggW, ()) (fun b => runC (verdererref12_reader_agg_l3 (m + 5)) (m + 1) b K) K = _
  rw [r 4 (by omega) (by omega)]
  by_cases h4 : rIs l (aggW.getD 4 ByteArray.empty) s = true
  · rw [if_pos h4]
    simp only [h1, h2, h3, h4, if_true, if_false, ← hK]
    by_cases k1' : kind = 1
    · simp [k1']
    · by_cases k3 : kind = 3 <;> simp [k1', k3]
  rw [if_neg h4]
  show verdererref12_reader_agg_l3 (m + 5) (((5 : Nat) : Int), (s.1 : Int), s.2.1, s.2.2, l, kind, nm, ag, of_, lim, hd, bd, aggW, ()) (fun b => runC (verdererref12_reader_agg_l3 (m + 5)) m b K) K = _
  have hlen : aggW.length = 5 := rfl
  simp only [verdererref12_reader_agg_l3, verdererref12_reader_agg_s3]
  rw [if_neg (by rw [hlen]; simp)]
  simp only [h1, h2, h3, h4, Bool.false_eq_true, if_false, if_true, ← hK]
end Go.Proofs.YtnnbinmomendnaaGreatDoor.E
namespace Go.Proofs.YtnnbinmomendnaaGreatDoor.E
open Go.RowKit
variable {R : Type}
set_option maxRecDepth 100000
theorem runC_s {α β R : Type} (step : α → (α → Option R) → β → Option R) (m : Nat) (a : α) (k : β) : runC step (m + 1) a k = step a (fun b => runC step m b k) k := rfl
def commaB : ByteArray := ⟨#[44]⟩
def rparB : ByteArray := ⟨#[41]⟩
def lparB : ByteArray := ⟨#[40]⟩
def anyB : ByteArray := ⟨#[95]⟩
def notB : ByteArray := ⟨#[110, 111, 116]⟩
def atT (l : Toks) (s : RS) : Int := (tk l s.1).2.2.2.1
/-! the head -/
def rHeadL (l : Toks) (kind : Int) : Nat → RS → Int → ByteArray → List ByteArray → RS × Int × ByteArray × List ByteArray
  | 0, s, ag, of_, hd => (s, ag, of_, hd)
  | f + 1, s, ag, of_, hd =>
    if s.2.1 = 0 then
      (if (rAgg l kind s ag of_).1 = true then ((rAgg l kind s ag of_).2.1, (rAgg l kind s ag of_).2.2.1, (rAgg l kind s ag of_).2.2.2, hd)
      else if (rTake l commaB (if 40 ≤ hd.length then rFail 9 (atT l s) (rName l s).2 else (rName l s).2)).1 = true then rHeadL l kind f (rTake l commaB (if 40 ≤ hd.length then rFail 9 (atT l s) (rName l s).2 else (rName l s).2)).2 ag of_ (hd ++ [(rName l s).1])
      else ((rTake l commaB (if 40 ≤ hd.length then rFail 9 (atT l s) (rName l s).2 else (rName l s).2)).2, ag, of_, hd ++ [(rName l s).1]))
    else (s, ag, of_, hd)
def rHead (l : Toks) (kind : Int) (s : RS) (ag : Int) (of_ : ByteArray) (hd : List ByteArray) : RS × Int × ByteArray × List ByteArray :=
  if kind = 3 then
    ((if (rAgg l kind (rMust l commaB (rName l s).2) ag of_).1 = true then (rAgg l kind (rMust l commaB (rName l s).2) ag of_).2.1 else rFail 7 (atT l (rAgg l kind (rMust l commaB (rName l s).2) ag of_).2.1) (rAgg l kind (rMust l commaB (rName l s).2) ag of_).2.1),
     (rAgg l kind (rMust l commaB (rName l s).2) ag of_).2.2.1, (rAgg l kind (rMust l commaB (rName l s).2) ag of_).2.2.2, hd ++ [(rName l s).1])
  else rHeadL l kind 400 s ag of_ hd
theorem rAgg_no {l : Toks} {kind : Int} {s : RS} {ag : Int} {of_ : ByteArray} (h : (rAgg l kind s ag of_).1 = false) : rAgg l kind s ag of_ = (false, s, ag, of_) := by
  unfold rAgg at h ⊢
  split
  · rfl
  · rename_i h1
    rw [if_neg h1] at h
    split at h
    · cases h
    · split at h <;> cases h
theorem rHeadL_rng {l : Toks} (kind : Int) : ∀ (f : Nat) (s : RS) (ag : Int) (of_ : ByteArray) (hd : List ByteArray), s.1 < l.length → (rHeadL l kind f s ag of_ hd).1.1 < l.length ∧ (rHeadL l kind f s ag of_ hd).2.2.2.length ≤ hd.length + f
  | 0, s, ag, of_, hd, h => ⟨h, Nat.le_refl _⟩
  | f + 1, s, ag, of_, hd, h => by
    unfold rHeadL
    split
    · split
      · exact ⟨rAgg_lt kind ag of_ h, by simp only []; omega⟩
      · have ht : (rTake l commaB (if 40 ≤ hd.length then rFail 9 (atT l s) (rName l s).2 else (rName l s).2)).2.1 < l.length := by
          refine rTake_lt _ ?_
          split
          · exact rFail_lt _ _ (rName_lt h)
          · exact rName_lt h
        generalize rTake l commaB (if 40 ≤ hd.length then rFail 9 (atT l s) (rName l s).2 else (rName l s).2) = t at ht ⊢
        split
        · have := rHeadL_rng kind f t.2 ag of_ (hd ++ [(rName l s).1]) ht
          exact ⟨this.1, by have := this.2; simp at this; omega⟩
        · exact ⟨ht, by simp⟩
    · exact ⟨h, by simp only []; omega⟩
theorem rHead_rng {l : Toks} (kind : Int) (s : RS) (ag : Int) (of_ : ByteArray) (hd : List ByteArray) (h : s.1 < l.length) : (rHead l kind s ag of_ hd).1.1 < l.length ∧ (rHead l kind s ag of_ hd).2.2.2.length ≤ hd.length + 400 := by
  unfold rHead
  split
  · have ha := rAgg_lt (l := l) kind ag of_ (rMust_lt commaB (rName_lt h))
    refine ⟨?_, by simp⟩
    simp only []
    split
    · exact ha
    · exact rFail_lt _ _ ha
  · exact rHeadL_rng kind 400 s ag of_ hd h
theorem head_loop (n : Nat) (l : Toks) (hl : l.length < 1000000) (hn : 20 < n) (kind : Int) (nm : ByteArray) (lim : Int) (bd : List ty51.D) (K : exK R (verdererref12_reader_head_dx 6)) (ret : Int → Int → Int → Toks → Int → ByteArray → Int → ByteArray → Int → List ByteArray → List ty51.D → Option R)
    (hK1 : ∀ a b c d e f g h i j q, K.1 (a, b, c, d, e, f, g, h, i, j, q, ()) = ret a b c d e f g h i j q) (hK2 : ∀ a b c d e f g h i j q, K.2.1 (a, b, c, d, e, f, g, h, i, j, q, ()) = ret a b c d e f g h i j q) : ∀ (f i : Nat) (m : Nat) (s : RS) (ag : Int) (of_ : ByteArray) (hd : List ByteArray), s.1 < l.length → i + f = 400 → hd.length ≤ 1000 + i → f < m →
    runC (verdererref12_reader_head_l6 n) m ((i : Int), (s.1 : Int), s.2.1, s.2.2, l, kind, nm, ag, of_, lim, hd, bd, ()) K = ret ((rHeadL l kind f s ag of_ hd).1.1 : Int) (rHeadL l kind f s ag of_ hd).1.2.1 (rHeadL l kind f s ag of_ hd).1.2.2 l kind nm (rHeadL l kind f s ag of_ hd).2.1 (rHeadL l kind f s ag of_ hd).2.2.1 lim (rHeadL l kind f s ag of_ hd).2.2.2 bd
  | 0, i, m, s, ag, of_, hd, h, hf, hh, hm => by
    obtain ⟨m, rfl⟩ : ∃ q, m = q + 1 := ⟨m - 1, by omega⟩
    refine (runC_s _ _ _ _).trans ?_
    have : ¬ ((i : Int) < 400) := by omega
    simp only [verdererref12_reader_head_l6, verdererref12_reader_head_s6]
    rw [if_neg (by simpa using this)]
    exact hK2 _ _ _ _ _ _ _ _ _ _ _
  | f + 1, i, m, s, ag, of_, hd, h, hf, hh, hm => by
    obtain ⟨m, rfl⟩ : ∃ q, m = q + 1 := ⟨m - 1, by omega⟩
    refine (runC_s _ _ _ _).trans ?_
    have c : (i : Int) < 400 := by omega
    have w : IntKind.i64.wrap ((i : Int) + 1) = ((i + 1 : Nat) : Int) := wrap_succ _ (by omega)
    unfold rHeadL
    simp only [verdererref12_reader_head_l6, verdererref12_reader_head_s6, c, decide_true, if_true, w]
    by_cases h0 : s.2.1 = 0
    · have b0 : (s.2.1 == 0) = true := by simp [h0]
      rw [if_pos b0, if_pos h0, agg_F n l s h hl hn]
      cases ha : (rAgg l kind s ag of_).1 with
      | true =>
        simp only [if_true]
        exact hK1 _ _ _ _ _ _ _ _ _ _ _
      | false =>
        have hno := rAgg_no ha
        simp only [hno, Bool.false_eq_true, if_false]
        rw [now_F n l s h, name_F n l s h hl hn]
        have hnl := rName_lt (l := l) h
        have g : ((hd.length : Int) ≥ 40) ↔ 40 ≤ hd.length := by omega
        have gd : (List.length hd + List.length [(rName l s).1]) * 16 ≤ 140737488355328 := by simp only [List.length_cons, List.length_nil]; omega
        have rest : ∀ s2 : RS, s2.1 < l.length → verdererref12_reader_take_F n (⟨#[44]⟩ : ByteArray) (s2.1 : Int) s2.2.1 s2.2.2 l (fun y57 y58 y59 y60 y61 => if (!y57) = true then (K.1 (y58, y59, y60, y61, kind, nm, ag, of_, lim, (hd ++ [(rName l s).1]), bd, ())) else (runC (verdererref12_reader_head_l6 n) m (((i + 1 : Nat) : Int), y58, y59, y60, y61, kind, nm, ag, of_, lim, (hd ++ [(rName l s).1]), bd, ()) K))
            = if (rTake l commaB s2).1 = true then ret ((rHeadL l kind f (rTake l commaB s2).2 ag of_ (hd ++ [(rName l s).1])).1.1 : Int) (rHeadL l kind f (rTake l commaB s2).2 ag of_ (hd ++ [(rName l s).1])).1.2.1 (rHeadL l kind f (rTake l commaB s2).2 ag of_ (hd ++ [(rName l s).1])).1.2.2 l kind nm (rHeadL l kind f (rTake l commaB s2).2 ag of_ (hd ++ [(rName l s).1])).2.1 (rHeadL l kind f (rTake l commaB s2).2 ag of_ (hd ++ [(rName l s).1])).2.2.1 lim (rHeadL l kind f (rTake l commaB s2).2 ag of_ (hd ++ [(rName l s).1])).2.2.2 bd
              else ret ((rTake l commaB s2).2.1 : Int) (rTake l commaB s2).2.2.1 (rTake l commaB s2).2.2.2 l kind nm ag of_ lim (hd ++ [(rName l s).1]) bd := by
          intro s2 h2
          rw [take_F n _ l s2 h2 hl]
          show (if (!(rTake l commaB s2).1) = true then _ else _) = _
          cases ht : (rTake l commaB s2).1 with
          | false =>
            simp only [Bool.not_false, if_true, Bool.false_eq_true, if_false]
            exact hK1 _ _ _ _ _ _ _ _ _ _ _
          | true =>
            simp only [Bool.not_true, if_true, Bool.false_eq_true, if_false]
            exact head_loop n l hl hn kind nm lim bd K ret hK1 hK2 f (i + 1) m (rTake l commaB s2).2 ag of_ _ (rTake_lt _ h2) (by omega) (by simp; omega) (by omega)
        by_cases hg : 40 ≤ hd.length
        · rw [if_pos (decide_eq_true (g.2 hg)), fail_F n 9 _ l (rName l s).2, if_pos gd]
          simp only [hg, if_true]
          refine (rest _ (rFail_lt _ _ hnl)).trans ?_
          unfold atT
          split <;> rfl
        · rw [if_neg (by simpa [g] using hg), if_pos gd]
          simp only [hg, if_false]
          refine (rest _ hnl).trans ?_
          split <;> rfl
    · have b0 : (s.2.1 == 0) = false := by simp [h0]
      rw [if_neg (by rw [b0]; decide), if_neg h0]
      exact hK2 _ _ _ _ _ _ _ _ _ _ _
theorem head_F (n : Nat) (l : Toks) (s : RS) (h : s.1 < l.length) (hl : l.length < 1000000) (hn : 500 < n) (kind : Int) (nm : ByteArray) (ag : Int) (of_ : ByteArray) (lim : Int) (hd : List ByteArray) (hh : hd.length ≤ 1000) (bd : List ty51.D) (k : Int → Int → Int → Toks → Int → ByteArray → Int → ByteArray → Int → List ByteArray → List ty51.D → Option R) :
    verdererref12_reader_head_F n (s.1 : Int) s.2.1 s.2.2 l kind nm ag of_ lim hd bd k = k ((rHead l kind s ag of_ hd).1.1 : Int) (rHead l kind s ag of_ hd).1.2.1 (rHead l kind s ag of_ hd).1.2.2 l kind nm (rHead l kind s ag of_ hd).2.1 (rHead l kind s ag of_ hd).2.2.1 lim (rHead l kind s ag of_ hd).2.2.2 bd := by
  rw [verdererref12_reader_head_e]
  unfold verdererref12_reader_head_Fi rHead
  by_cases hk : kind = 3
  · have b : (kind == 3) = true := by simp [hk]
    have h1 := rName_lt (l := l) h
    have h2 := rMust_lt (l := l) commaB h1
    have h3 := rAgg_lt (l := l) kind ag of_ h2
    rw [if_pos b, if_pos hk, name_F n l s h hl (by omega)]
    rw [if_pos (by simp only [List.length_cons, List.length_nil]; omega)]
    rw [must_F n _ l _ h1 hl]
    refine (agg_F n l (rMust l commaB (rName l s).2) h2 hl (by omega) kind nm ag of_ lim _ bd _).trans ?_
    cases ha : (rAgg l kind (rMust l commaB (rName l s).2) ag of_).1 with
    | true => simp
    | false =>
      simp only [Bool.not_false, if_true, Bool.false_eq_true, if_false]
      rw [now_F n l _ h3, fail_F n 7 _ l]
      rfl
  · have b : (kind == 3) = false := by simp [hk]
    rw [if_neg (by rw [b]; decide), if_neg hk]
    exact head_loop n l hl (by omega) kind nm lim bd _ k (fun _ _ _ _ _ _ _ _ _ _ _ => rfl) (fun _ _ _ _ _ _ _ _ _ _ _ => rfl) 400 0 n s ag of_ hd h (by omega) (by omega) (by omega)
/-! terms and args -/
def rTerm (l : Toks) (s : RS) : ty48.D × RS := if s.2.1 = 0 ∧ (tk l s.1).1 = 2 then (((⟨#[]⟩ : ByteArray), false, (tk l s.1).2.2.1, ()), rStep l s) else (((rName l s).1, false, zV, ()), (rName l s).2)
theorem rTerm_lt {l : Toks} {s : RS} (h : s.1 < l.length) : (rTerm l s).2.1 < l.length := by unfold rTerm; split; exact rStep_lt h; exact rName_lt h
theorem term_F (n : Nat) (l : Toks) (s : RS) (h : s.1 < l.length) (hl : l.length < 1000000) (hn : 20 < n) (k : ty48.D → Int → Int → Int → Toks → Option R) : verdererref12_reader_term_F n (s.1 : Int) s.2.1 s.2.2 l k = k (rTerm l s).1 ((rTerm l s).2.1 : Int) (rTerm l s).2.2.1 (rTerm l s).2.2.2 l := by
  rw [verdererref12_reader_term_e]
  unfold verdererref12_reader_term_Fi
  rw [now_F n l s h]
  unfold rTerm
  by_cases h0 : s.2.1 = 0
  · have b0 : (s.2.1 == 0) = true := by simp [h0]
    rw [if_pos b0]
    by_cases h2 : (tk l s.1).1 = 2
    · have b2 : ((tk l s.1).1 == 2) = true := beq_iff_eq.2 h2
      rw [if_pos b2, if_pos ⟨h0, h2⟩, step_F n l s h hl]
    · have b2 : ((tk l s.1).1 == 2) = false := beq_eq_false_iff_ne.2 h2
      rw [if_neg (by rw [b2]; decide), if_neg (fun hh => h2 hh.2), name_F n l s h hl hn]
      rfl
  · have b0 : (s.2.1 == 0) = false := by simp [h0]
    rw [if_neg (by rw [b0]; decide), if_neg (fun hh => h0 hh.1), name_F n l s h hl hn]
    rfl
def anyT : ty48.D := ((⟨#[]⟩ : ByteArray), true, zV, ())
def rArg (l : Toks) (s : RS) : ty48.D × RS := if rIs l anyB s = true then (anyT, rStep l s) else rTerm l s
theorem rArg_lt {l : Toks} {s : RS} (h : s.1 < l.length) : (rArg l s).2.1 < l.length := by unfold rArg; split; exact rStep_lt h; exact rTerm_lt h
def rArgsL (l : Toks) : Nat → RS → List ty48.D → RS × List ty48.D
  | 0, s, acc => (s, acc)
  | f + 1, s, acc =>
    if s.2.1 = 0 then
      (if (rTake l commaB (if 40 < acc.length + 1 then rFail 9 (atT l s) (rArg l s).2 else (rArg l s).2)).1 = true then rArgsL l f (rTake l commaB (if 40 < acc.length + 1 then rFail 9 (atT l s) (rArg l s).2 else (rArg l s).2)).2 (acc ++ [(rArg l s).1])
      else (rMust l rparB (rTake l commaB (if 40 < acc.length + 1 then rFail 9 (atT l s) (rArg l s).2 else (rArg l s).2)).2, acc ++ [(rArg l s).1]))
    else (s, acc)
def rArgs (l : Toks) (s : RS) : RS × List ty48.D := if (rTake l rparB s).1 = true then ((rTake l rparB s).2, []) else rArgsL l 400 (rTake l rparB s).2 []
theorem rArgsL_rng {l : Toks} : ∀ (f : Nat) (s : RS) (acc : List ty48.D), s.1 < l.length → (rArgsL l f s acc).1.1 < l.length ∧ (rArgsL l f s acc).2.length ≤ acc.length + f
  | 0, s, acc, h => ⟨h, Nat.le_refl _⟩
  | f + 1, s, acc, h => by
    unfold rArgsL
    split
    · have ht : (rTake l commaB (if 40 < acc.length + 1 then rFail 9 (atT l s) (rArg l s).2 else (rArg l s).2)).2.1 < l.length := by
        refine rTake_lt _ ?_
        split
        · exact rFail_lt _ _ (rArg_lt h)
        · exact rArg_lt h
      generalize rTake l commaB (if 40 < acc.length + 1 then rFail 9 (atT l s) (rArg l s).2 else (rArg l s).2) = t at ht ⊢
      split
      · have := rArgsL_rng f t.2 (acc ++ [(rArg l s).1]) ht
        exact ⟨this.1, by have := this.2; simp at this; omega⟩
      · exact ⟨rMust_lt _ ht, by simp⟩
    · exact ⟨h, by simp only []; omega⟩
theorem rArgs_rng {l : Toks} (s : RS) (h : s.1 < l.length) : (rArgs l s).1.1 < l.length ∧ (rArgs l s).2.length ≤ 400 := by
  unfold rArgs
  split
  · exact ⟨rTake_lt _ h, by simp⟩
  · have := rArgsL_rng (l := l) 400 _ [] (rTake_lt rparB h)
    exact ⟨this.1, by simpa using this.2⟩
theorem args_loop (n : Nat) (l : Toks) (hl : l.length < 1000000) (hn : 20 < n) (K : exK R (verdererref12_reader_args_dx 5)) (ret : Int → Int → Int → Toks → List ty48.D → Option R)
    (hK1 : ∀ a b c d e, K.1 (a, b, c, d, e, ()) = ret a b c d e) (hK2 : ∀ a b c d e, K.2.1 (a, b, c, d, e, ()) = ret a b c d e) : ∀ (f i : Nat) (m : Nat) (s : RS) (acc : List ty48.D), s.1 < l.length → i + f = 400 → acc.length ≤ 1000 + i → f < m →
    runC (verdererref12_reader_args_l5 n) m ((i : Int), (s.1 : Int), s.2.1, s.2.2, l, acc, ()) K = ret ((rArgsL l f s acc).1.1 : Int) (rArgsL l f s acc).1.2.1 (rArgsL l f s acc).1.2.2 l (rArgsL l f s acc).2
  | 0, i, m, s, acc, h, hf, hh, hm => by
    obtain ⟨m, rfl⟩ : ∃ q, m = q + 1 := ⟨m - 1, by omega⟩
    refine (runC_s _ _ _ _).trans ?_
    have : ¬ ((i : Int) < 400) := by omega
    simp only [verdererref12_reader_args_l5, verdererref12_reader_args_s5]
    rw [if_neg (by simpa using this)]
    exact hK2 _ _ _ _ _
  | f + 1, i, m, s, acc, h, hf, hh, hm => by
    obtain ⟨m, rfl⟩ : ∃ q, m = q + 1 := ⟨m - 1, by omega⟩
    refine (runC_s _ _ _ _).trans ?_
    have c : (i : Int) < 400 := by omega
    have w : IntKind.i64.wrap ((i : Int) + 1) = ((i + 1 : Nat) : Int) := wrap_succ _ (by omega)
    unfold rArgsL
    simp only [verdererref12_reader_args_l5, verdererref12_reader_args_s5, c, decide_true, if_true, w]
    by_cases h0 : s.2.1 = 0
    · have b0 : (s.2.1 == 0) = true := by simp [h0]
      rw [if_pos b0, if_pos h0, now_F n l s h]
      refine (is_F n anyB l s h _).trans ?_
      have rest : ∀ (a : ty48.D) (s2 : RS), s2.1 < l.length → verdererref12_reader_take_F n (⟨#[44]⟩ : ByteArray) (s2.1 : Int) s2.2.1 s2.2.2 l (fun y24 y25 y26 y27 y28 => if (!y24) = true then (verdererref12_reader_must_F n (⟨#[41]⟩ : ByteArray) y25 y26 y27 y28 (fun y29 y30 y31 y32 => K.1 (y29, y30, y31, y32, (acc ++ [a]), ()))) else (runC (verdererref12_reader_args_l5 n) m (((i + 1 : Nat) : Int), y25, y26, y27, y28, (acc ++ [a]), ()) K))
          = if (rTake l commaB s2).1 = true then ret ((rArgsL l f (rTake l commaB s2).2 (acc ++ [a])).1.1 : Int) (rArgsL l f (rTake l commaB s2).2 (acc ++ [a])).1.2.1 (rArgsL l f (rTake l commaB s2).2 (acc ++ [a])).1.2.2 l (rArgsL l f (rTake l commaB s2).2 (acc ++ [a])).2
            else ret ((rMust l rparB (rTake l commaB s2).2).1 : Int) (rMust l rparB (rTake l commaB s2).2).2.1 (rMust l rparB (rTake l commaB s2).2).2.2 l (acc ++ [a]) := by
        intro a s2 h2
        rw [take_F n _ l s2 h2 hl]
        show (if (!(rTake l commaB s2).1) = true then _ else _) = _
        cases ht : (rTake l commaB s2).1 with
        | false =>
          simp only [Bool.not_false, if_true, Bool.false_eq_true, if_false]
          refine (must_F n rparB l (rTake l commaB s2).2 (rTake_lt _ h2) hl _).trans ?_
          exact hK1 _ _ _ _ _
        | true =>
          simp only [Bool.not_true, if_true, Bool.false_eq_true, if_false]
          exact args_loop n l hl hn K ret hK1 hK2 f (i + 1) m (rTake l commaB s2).2 _ (rTake_lt _ h2) (by omega) (by simp; omega) (by omega)
      have tail : ∀ (a : ty48.D) (s2 : RS), s2.1 < l.length → (if (List.length acc + List.length [a]) * 64 ≤ 140737488355328 then (if (decide (((acc ++ [a]).length : Int) > 40)) = true then (verdererref12_reader_fail_F n 9 (tk l s.1).2.2.2.1 (s2.1 : Int) s2.2.1 s2.2.2 l (fun y20 y21 y22 y23 => verdererref12_reader_take_F n (⟨#[44]⟩ : ByteArray) y20 y21 y22 y23 (fun y24 y25 y26 y27 y28 => if (!y24) = true then (verdererref12_reader_must_F n (⟨#[41]⟩ : ByteArray) y25 y26 y27 y28 (fun y29 y30 y31 y32 => K.1 (y29, y30, y31, y32, (acc ++ [a]), ()))) else (runC (verdererref12_reader_args_l5 n) m (((i + 1 : Nat) : Int), y25, y26, y27, y28, (acc ++ [a]), ()) K)))) else (verdererref12_reader_take_F n (⟨#[44]⟩ : ByteArray) (s2.1 : Int) s2.2.1 s2.2.2 l (fun y24 y25 y26 y27 y28 => if (!y24) = true then (verdererref12_reader_must_F n (⟨#[41]⟩ : ByteArray) y25 y26 y27 y28 (fun y29 y30 y31 y32 => K.1 (y29, y30, y31, y32, (acc ++ [a]), ()))) else (runC (verdererref12_reader_args_l5 n) m (((i + 1 : Nat) : Int), y25, y26, y27, y28, (acc ++ [a]), ()) K)))) else none)
          = if (rTake l commaB (if 40 < acc.length + 1 then rFail 9 (atT l s) s2 else s2)).1 = true then ret ((rArgsL l f (rTake l commaB (if 40 < acc.length + 1 then rFail 9 (atT l s) s2 else s2)).2 (acc ++ [a])).1.1 : Int) (rArgsL l f (rTake l commaB (if 40 < acc.length + 1 then rFail 9 (atT l s) s2 else s2)).2 (acc ++ [a])).1.2.1 (rArgsL l f (rTake l commaB (if 40 < acc.length + 1 then rFail 9 (atT l s) s2 else s2)).2 (acc ++ [a])).1.2.2 l (rArgsL l f (rTake l commaB (if 40 < acc.length + 1 then rFail 9 (atT l s) s2 else s2)).2 (acc ++ [a])).2
            else ret ((rMust l rparB (rTake l commaB (if 40 < acc.length + 1 then rFail 9 (atT l s) s2 else s2)).2).1 : Int) (rMust l rparB (rTake l commaB (if 40 < acc.length + 1 then rFail 9 (atT l s) s2 else s2)).2).2.1 (rMust l rparB (rTake l commaB (if 40 < acc.length + 1 then rFail 9 (atT l s) s2 else s2)).2).2.2 l (acc ++ [a]) := by
        intro a s2 h2
        rw [if_pos (by simp only [List.length_cons, List.length_nil]; omega)]
        have g : (((acc ++ [a]).length : Int) > 40) ↔ 40 < acc.length + 1 := by simp only [List.length_append, List.length_cons, List.length_nil]; omega
        by_cases hg : 40 < acc.length + 1
        · rw [if_pos (decide_eq_true (g.2 hg)), fail_F n 9 _ l s2]
          simp only [hg, if_true]
          exact rest a (rFail 9 (atT l s) s2) (rFail_lt _ _ h2)
        · rw [if_neg (fun hh => hg (g.1 (of_decide_eq_true hh)))]
          simp only [hg, if_false]
          exact rest a s2 h2
      have hra : rArg l s = if rIs l anyB s = true then (anyT, rStep l s) else rTerm l s := rfl
      cases hi : rIs l anyB s with
      | true =>
        rw [hi, if_pos rfl] at hra
        simp only [if_true, hra]
        rw [step_F n l s h hl]
        refine (tail anyT (rStep l s) (rStep_lt h)).trans ?_
        generalize rTake l commaB (if 40 < acc.length + 1 then rFail 9 (atT l s) (rStep l s) else rStep l s) = t
        split <;> rfl
      | false =>
        rw [hi, if_neg (by decide)] at hra
        simp only [Bool.false_eq_true, if_false, hra]
        rw [term_F n l s h hl hn]
        refine (tail (rTerm l s).1 (rTerm l s).2 (rTerm_lt h)).trans ?_
        generalize rTake l commaB (if 40 < acc.length + 1 then rFail 9 (atT l s) (rTerm l s).2 else (rTerm l s).2) = t
        split <;> rfl
    · have b0 : (s.2.1 == 0) = false := by simp [h0]
      rw [if_neg (by rw [b0]; decide), if_neg h0]
      exact hK2 _ _ _ _ _
theorem args_F (n : Nat) (l : Toks) (s : RS) (h : s.1 < l.length) (hl : l.length < 1000000) (hn : 500 < n) (k : Int → Int → Int → Toks → List ty48.D → Option R) : verdererref12_reader_args_F n (s.1 : Int) s.2.1 s.2.2 l k = k ((rArgs l s).1.1 : Int) (rArgs l s).1.2.1 (rArgs l s).1.2.2 l (rArgs l s).2 := by
  rw [verdererref12_reader_args_e]
  unfold verdererref12_reader_args_Fi rArgs
  refine (take_F n rparB l s h hl _).trans ?_
  cases ht : (rTake l rparB s).1 with
  | true => simp only [if_true]
  | false =>
    simp only [Bool.false_eq_true, if_false]
    exact args_loop n l hl (by omega) _ k (fun _ _ _ _ _ => rfl) (fun _ _ _ _ _ => rfl) 400 0 n (rTake l rparB s).2 [] (rTake_lt _ h) (by omega) (by simp) (by omega)
end Go.Proofs.YtnnbinmomendnaaGreatDoor.E
namespace Go.Proofs.YtnnbinmomendnaaGreatDoor.E
open Go.RowKit
variable {R : Type}
set_option maxRecDepth 100000
/-! comparisons' signs -/
def sgnW : List ByteArray := [(⟨#[]⟩ : ByteArray), (⟨#[61, 61]⟩ : ByteArray), (⟨#[33, 61]⟩ : ByteArray), (⟨#[60]⟩ : ByteArray), (⟨#[60, 61]⟩ : ByteArray), (⟨#[62]⟩ : ByteArray), (⟨#[62, 61]⟩ : ByteArray)]
def opS (w : ByteArray) : Int := match (List.range 6).findSome? fun i => if sgnW.getD (i + 1) ByteArray.empty = w then some i else none with
  | none => 0
  | some i => ((i + 1 : Nat) : Int)
theorem sgn_F (n i : Nat) (h1 : 1 ≤ i) (h2 : i < 7) (k : ByteArray → Option R) : verdererref11_Sgn_F n (i : Int) k = k (sgnW.getD i ByteArray.empty) := by
  rw [verdererref11_Sgn_e]
  unfold verdererref11_Sgn_Fi
  have e : ([(⟨#[]⟩ : ByteArray), (⟨#[61, 61]⟩ : ByteArray), (⟨#[33, 61]⟩ : ByteArray), (⟨#[60]⟩ : ByteArray), (⟨#[60, 61]⟩ : ByteArray), (⟨#[62]⟩ : ByteArray), (⟨#[62, 61]⟩ : ByteArray)] : List ByteArray) = sgnW := rfl
  have hl : sgnW.length = 7 := rfl
  rw [e]
  have c1 : ¬ (i : Int) < 1 := by omega
  have c2 : ¬ (i : Int) ≥ (sgnW.length : Int) := by omega
  rw [if_neg (by simpa using c1), if_neg (fun h => c2 (of_decide_eq_true h)), if_pos (by omega), Int.toNat_natCast, if_pos (by omega)]
theorem op_F (n : Nat) (w : ByteArray) (hn : 20 < n) (k : Int → Option R) : verdererref11_Op_F n w k = k (opS w) := by
  rw [verdererref11_Op_e]
  unfold verdererref11_Op_Fi
  refine (runC_scan (R := R) (step := verdererref11_Op_l2 n) _ (fun i : Nat => k ((i + 1 : Nat) : Int)) (k 0) (fun i => if sgnW.getD (i + 1) ByteArray.empty = w then some i else none) (fun i => (w, ((i + 1 : Nat) : Int), ())) 6 (fun i hi k1 => ?_) (fun k1 => ?_) (by omega)).trans ?_
  · have c : ((i + 1 : Nat) : Int) ≤ 6 := by omega
    simp only [verdererref11_Op_l2, verdererref11_Op_s2, c, decide_true, if_true, wrap_succ (i + 1) (by omega)]
    rw [sgn_F n (i + 1) (by omega) (by omega), beqB]
    by_cases h : sgnW.getD (i + 1) ByteArray.empty = w
    · rw [if_pos (decide_eq_true h), if_pos h]
    · rw [if_neg (by simpa using h), if_neg h]
  · have c : ¬ ((6 + 1 : Nat) : Int) ≤ 6 := by omega
    simp only [verdererref11_Op_l2, verdererref11_Op_s2]
    rw [if_neg (by simp)]
  · unfold opS
    cases (List.range 6).findSome? (fun i => if sgnW.getD (i + 1) ByteArray.empty = w then some i else none) <;> rfl
/-! a literal -/
def rLone (l : Toks) (p : Int) (s : RS) : RS := if rIs l notB s = true ∨ rNamed l s = true ∨ (tk l s.1).1 = 2 then rFail 7 p (rFail 9 p s) else rFail 7 p s
theorem rLone_lt {l : Toks} {s : RS} (p : Int) (h : s.1 < l.length) : (rLone l p s).1 < l.length := by
  unfold rLone
  split
  · rw [rFail_at, rFail_at]; exact h
  · rw [rFail_at]; exact h
theorem lone_F (n : Nat) (p : Int) (l : Toks) (s : RS) (h : s.1 < l.length) (hn : 20 < n) (k : Int → Int → Int → Toks → Option R) : verdererref12_reader_lone_F n p (s.1 : Int) s.2.1 s.2.2 l k = k ((rLone l p s).1 : Int) (rLone l p s).2.1 (rLone l p s).2.2 l := by
  rw [verdererref12_reader_lone_e]
  unfold verdererref12_reader_lone_Fi
  rw [now_F n l s h]
  refine (is_F n notB l s h _).trans ?_
  unfold rLone
  by_cases h1 : rIs l notB s = true
  · rw [if_pos h1, if_pos (Or.inl h1), fail_F n 9 p l s, fail_F n 7 p l]
  · rw [if_neg h1, named_F n l s h hn]
    by_cases h2 : rNamed l s = true
    · rw [if_pos h2, if_pos (Or.inr (Or.inl h2)), fail_F n 9 p l s, fail_F n 7 p l]
    · rw [if_neg h2]
      by_cases h3 : (tk l s.1).1 = 2
      · have b : ((tk l s.1).1 == 2) = true := beq_iff_eq.2 h3
        rw [if_pos b, if_pos (Or.inr (Or.inr h3)), fail_F n 9 p l s, fail_F n 7 p l]
      · have b : ((tk l s.1).1 == 2) = false := beq_eq_false_iff_ne.2 h3
        rw [if_neg (by rw [b]; decide), if_neg (by rintro (h | h | h); exact h1 h; exact h2 h; exact h3 h), fail_F n 7 p l s]
/-- does a left bracket stand behind? -/
def rPar (l : Toks) (s : RS) : Bool := decide (s.1 + 1 < l.length) && (decide ((tk l (s.1 + 1)).1 = 3) && decide ((tk l (s.1 + 1)).2.1 = lparB))
def rAtomS (l : Toks) (atoms : Int) (not_ : Bool) (at_ : Int) (s : RS) : RS := if not_ = false ∧ 6 ≤ atoms then rFail 9 at_ (rMust l lparB (rName l s).2) else rMust l lparB (rName l s).2
def rAtom (l : Toks) (atoms : Int) (not_ : Bool) (at_ : Int) (s : RS) : ty51.D × RS := ((not_, (rName l s).1, (rArgs l (rAtomS l atoms not_ at_ s)).2, 0, ()), (rArgs l (rAtomS l atoms not_ at_ s)).1)
/-- a comparison: behind the left term -/
def rCmpS (l : Toks) (s : RS) : RS := if (tk l s.1).1 ≠ 3 ∨ opS (tk l s.1).2.1 = 0 then rFail 7 (atT l s) s else s
def rCmp (l : Toks) (not_ : Bool) (s : RS) : ty51.D × RS :=
  ((not_, (⟨#[]⟩ : ByteArray), [(rTerm l s).1, (rTerm l (rStep l (rCmpS l (rTerm l s).2))).1], opS (tk l (rTerm l s).2.1).2.1, ()), (rTerm l (rStep l (rCmpS l (rTerm l s).2))).2)
def rLit (l : Toks) (atoms : Int) (s : RS) : ty51.D × RS :=
  if rNamed l (rTake l notB s).2 = true ∧ ((rTake l notB s).1 = true ∨ rPar l (rTake l notB s).2 = true) then rAtom l atoms (rTake l notB s).1 (atT l (rTake l notB s).2) (rTake l notB s).2
  else rCmp l (rTake l notB s).1 (if (rTake l notB s).1 = true then rFail 7 (atT l (rTake l notB s).2) (rTake l notB s).2 else (rTake l notB s).2)
theorem rAtomS_lt {l : Toks} {s : RS} (atoms : Int) (not_ : Bool) (at_ : Int) (h : s.1 < l.length) : (rAtomS l atoms not_ at_ s).1 < l.length := by
  unfold rAtomS
  split
  · exact rFail_lt _ _ (rMust_lt _ (rName_lt h))
  · exact rMust_lt _ (rName_lt h)
theorem rCmpS_lt {l : Toks} {s : RS} (h : s.1 < l.length) : (rCmpS l s).1 < l.length := by unfold rCmpS; split; exact rFail_lt _ _ h; exact h
theorem rCmp_rng {l : Toks} {s : RS} (not_ : Bool) (h : s.1 < l.length) : (rCmp l not_ s).2.1 < l.length ∧ (rCmp l not_ s).1.2.2.1.length ≤ 400 := ⟨rTerm_lt (rStep_lt (rCmpS_lt (rTerm_lt h))), by simp [rCmp]⟩
theorem rLit_rng {l : Toks} {s : RS} (atoms : Int) (h : s.1 < l.length) : (rLit l atoms s).2.1 < l.length ∧ (rLit l atoms s).1.2.2.1.length ≤ 400 := by
  have ht := rTake_lt notB h
  unfold rLit
  split
  · exact rArgs_rng _ (rAtomS_lt _ _ _ ht)
  · refine rCmp_rng _ ?_
    split
    · exact rFail_lt _ _ ht
    · exact ht
theorem atom_part (n : Nat) (l : Toks) (s : RS) (h : s.1 < l.length) (hl : l.length < 1000000) (hn : 500 < n) (atoms : Int) (not_ : Bool) (at_ : Int) (k : ty51.D → Int → Int → Int → Toks → Option R) :
    verdererref12_reader_name_F n (s.1 : Int) s.2.1 s.2.2 l (fun y16 y17 y18 y19 y20 => verdererref12_reader_must_F n (⟨#[40]⟩ : ByteArray) y17 y18 y19 y20 (fun y21 y22 y23 y24 => if (!not_) = true then (if (decide (atoms ≥ 6)) = true then (verdererref12_reader_fail_F n 9 at_ y21 y22 y23 y24 (fun y25 y26 y27 y28 => verdererref12_reader_args_F n y25 y26 y27 y28 (fun y29 y30 y31 y32 y33 => k (not_, y16, y33, 0, ()) y29 y30 y31 y32))) else (verdererref12_reader_args_F n y21 y22 y23 y24 (fun y34 y35 y36 y37 y38 => k (not_, y16, y38, 0, ()) y34 y35 y36 y37))) else (verdererref12_reader_args_F n y21 y22 y23 y24 (fun y39 y40 y41 y42 y43 => k (not_, y16, y43, 0, ()) y39 y40 y41 y42))))
    = k (rAtom l atoms not_ at_ s).1 ((rAtom l atoms not_ at_ s).2.1 : Int) (rAtom l atoms not_ at_ s).2.2.1 (rAtom l atoms not_ at_ s).2.2.2 l := by
  have h1 := rName_lt (l := l) h
  have h2 := rMust_lt (l := l) lparB h1
  rw [name_F n l s h hl (by omega)]
  refine (must_F n lparB l _ h1 hl _).trans ?_
  unfold rAtom rAtomS
  cases not_ with
  | true =>
    simp only [Bool.not_true, Bool.false_eq_true, if_false, Bool.true_eq_false, false_and]
    rw [args_F n l _ h2 hl hn]
  | false =>
    by_cases hg : 6 ≤ atoms
    · simp only [Bool.not_false, if_true, ge_iff_le, hg, decide_true, true_and]
      rw [fail_F n 9 at_ l, args_F n l _ (rFail_lt _ _ h2) hl hn]
    · simp only [Bool.not_false, if_true, ge_iff_le, hg, decide_false, Bool.false_eq_true, if_false, and_false]
      rw [args_F n l _ h2 hl hn]
theorem cmp_part (n : Nat) (l : Toks) (s : RS) (h : s.1 < l.length) (hl : l.length < 1000000) (hn : 500 < n) (x5 : List ty48.D) (x6 : Bool) (x7 : ByteArray) (x8 : Int) (not_ : Bool) (x11 : Int) (x12 : List ty48.D) (k : exK R (verdererref12_reader_lit_dx 1000012)) :
    verdererref12_reader_lit_l1000012 n ((s.1 : Int), s.2.1, s.2.2, l, x5, x6, x7, x8, not_, (⟨#[]⟩ : ByteArray), x11, x12, ()) k = k.1 (((rCmp l not_ s).2.1 : Int), (rCmp l not_ s).2.2.1, (rCmp l not_ s).2.2.2, l, (rCmp l not_ s).1.1, (rCmp l not_ s).1.2.1, (rCmp l not_ s).1.2.2.1, (rCmp l not_ s).1.2.2.2.1, ()) := by
  rw [verdererref12_reader_lit_e1000012]
  unfold verdererref12_reader_lit_li1000012 verdererref12_reader_lit_s1000012
  have h1 := rTerm_lt (l := l) h
  have j16 : ∀ (s2 : RS) (h2 : s2.1 < l.length) (op : Int) (t : ty48.D) (k3 : exK R (verdererref12_reader_lit_dx 1000016)), verdererref12_reader_lit_l1000016 n ((s2.1 : Int), s2.2.1, s2.2.2, l, x5, x6, x7, x8, not_, (⟨#[]⟩ : ByteArray), op, x12, t.1, t.2.1, t.2.2.1.1, t.2.2.1.2.1, t.2.2.1.2.2.1, t.2.2.1.2.2.2.1, ()) k3
      = k3.1 (((rTerm l (rStep l s2)).2.1 : Int), (rTerm l (rStep l s2)).2.2.1, (rTerm l (rStep l s2)).2.2.2, l, not_, (⟨#[]⟩ : ByteArray), [t, (rTerm l (rStep l s2)).1], op, ()) := by
    intro s2 h2 op t k3
    rw [verdererref12_reader_lit_e1000016]
    unfold verdererref12_reader_lit_li1000016 verdererref12_reader_lit_s1000016
    simp only []
    rw [step_F n l s2 h2 hl, term_F n l _ (rStep_lt h2) hl (by omega)]
  simp only []
  rw [term_F n l s h hl (by omega), now_F n l _ h1, op_F n _ (by omega)]
  unfold rCmp rCmpS
  rw [now_F n l _ h1]
  by_cases h3 : (tk l (rTerm l s).2.1).1 = 3
  · have b : ((tk l (rTerm l s).2.1).1 != 3) = false := by
      rw [bne_eq_false_iff_eq]; exact h3
    rw [if_neg (by rw [b]; decide)]
    by_cases h0 : opS (tk l (rTerm l s).2.1).2.1 = 0
    · have b0 : (opS (tk l (rTerm l s).2.1).2.1 == 0) = true := by simp [h0]
      rw [if_pos b0, now_F n l _ h1, fail_F n 7 _ l]
      simp only [h0, or_true, if_true]
      exact j16 _ (rFail_lt _ _ h1) _ _ _
    · have b0 : (opS (tk l (rTerm l s).2.1).2.1 == 0) = false := by simp [h0]
      rw [if_neg (by rw [b0]; decide), if_neg (by rintro (h | h); exact h h3; exact h0 h)]
      exact j16 _ h1 _ _ _
  · have b : ((tk l (rTerm l s).2.1).1 != 3) = true := bne_iff_ne.2 h3
    rw [if_pos b, now_F n l _ h1, fail_F n 7 _ l, if_pos (Or.inl h3)]
    exact j16 _ (rFail_lt _ _ h1) _ _ _
theorem lit_F (n : Nat) (l : Toks) (s : RS) (h : s.1 < l.length) (hl : l.length < 1000000) (hn : 500 < n) (atoms : Int) (k : ty51.D → Int → Int → Int → Toks → Option R) :
    verdererref12_reader_lit_F n atoms (s.1 : Int) s.2.1 s.2.2 l k = k (rLit l atoms s).1 ((rLit l atoms s).2.1 : Int) (rLit l atoms s).2.2.1 (rLit l atoms s).2.2.2 l := by
  rw [verdererref12_reader_lit_e]
  unfold verdererref12_reader_lit_Fi
  refine (take_F n notB l s h hl _).trans ?_
  unfold rLit
  have ht := rTake_lt (l := l) notB h
  generalize rTake l notB s = t at ht ⊢
  obtain ⟨nt, s1⟩ := t
  simp only at ht ⊢
  rw [now_F n l s1 ht, named_F n l s1 ht (by omega)]
  have j10 : ∀ k2 : exK R (verdererref12_reader_lit_dx 1000010), verdererref12_reader_lit_l1000010 n (atT l s1, (s1.1 : Int), s1.2.1, s1.2.2, l, ([] : List ty48.D), false, (⟨#[]⟩ : ByteArray), (0 : Int), nt, (⟨#[]⟩ : ByteArray), (0 : Int), ([] : List ty48.D), ()) k2
      = k2.1 (((rCmp l nt (if nt = true then rFail 7 (atT l s1) s1 else s1)).2.1 : Int), (rCmp l nt (if nt = true then rFail 7 (atT l s1) s1 else s1)).2.2.1, (rCmp l nt (if nt = true then rFail 7 (atT l s1) s1 else s1)).2.2.2, l, (rCmp l nt (if nt = true then rFail 7 (atT l s1) s1 else s1)).1.1, (rCmp l nt (if nt = true then rFail 7 (atT l s1) s1 else s1)).1.2.1, (rCmp l nt (if nt = true then rFail 7 (atT l s1) s1 else s1)).1.2.2.1, (rCmp l nt (if nt = true then rFail 7 (atT l s1) s1 else s1)).1.2.2.2.1, ()) := by
    intro k2
    rw [verdererref12_reader_lit_e1000010]
    unfold verdererref12_reader_lit_li1000010 verdererref12_reader_lit_s1000010
    simp only []
    cases nt with
    | true =>
      simp only [if_true]
      rw [fail_F n 7 _ l s1]
      exact cmp_part n l _ (rFail_lt _ _ ht) hl hn _ _ _ _ _ _ _ _
    | false =>
      simp only [Bool.false_eq_true, if_false]
      exact cmp_part n l s1 ht hl hn _ _ _ _ _ _ _ _
  have atomP := fun k => atom_part (R := R) n l s1 ht hl hn atoms nt (atT l s1) k
  by_cases hnm : rNamed l s1 = true
  · rw [if_pos hnm]
    cases nt with
    | true =>
      rw [if_pos rfl, if_pos ⟨hnm, Or.inl rfl⟩]
      exact atomP k
    | false =>
      rw [if_neg (by decide)]
      have w : IntKind.i64.wrap ((s1.1 : Int) + 1) = ((s1.1 + 1 : Nat) : Int) := wrap_succ _ (by omega)
      rw [w]
      by_cases hlt : s1.1 + 1 < l.length
      · have c : ((s1.1 + 1 : Nat) : Int) < (l.length : Int) := by omega
        have c2 : (0 : Int) ≤ ((s1.1 + 1 : Nat) : Int) ∧ ((s1.1 + 1 : Nat) : Int) < (l.length : Int) := by omega
        rw [if_pos (decide_eq_true c)]
        simp only [c2, and_self, if_true, Int.toNat_natCast, hlt, beqB]
        have hp : rPar l s1 = (decide ((tk l (s1.1 + 1)).1 = 3) && decide ((tk l (s1.1 + 1)).2.1 = lparB)) := by unfold rPar; rw [decide_eq_true hlt, Bool.true_and]
        by_cases h3 : (tk l (s1.1 + 1)).1 = 3
        · have b3 : ((l.getD (s1.1 + 1) (Ty.z ty60)).1 == 3) = true := beq_iff_eq.2 h3
          rw [if_pos b3]
          by_cases h4 : (tk l (s1.1 + 1)).2.1 = lparB
          · have hp' : rPar l s1 = true := by rw [hp, decide_eq_true h3, decide_eq_true h4]; rfl
            refine (if_pos (decide_eq_true h4)).trans ?_
            rw [if_pos ⟨hnm, Or.inr hp'⟩]
            exact atomP k
          · have hp' : ¬ rPar l s1 = true := by rw [hp, decide_eq_false h4, Bool.and_false]; decide
            refine (if_neg (fun hh => h4 (of_decide_eq_true hh))).trans ?_
            rw [if_neg (by rintro ⟨_, h | h⟩; exact absurd h (by decide); exact hp' h)]
            exact j10 _
        · have b3 : ((l.getD (s1.1 + 1) (Ty.z ty60)).1 == 3) = false := beq_eq_false_iff_ne.2 h3
          have hp' : ¬ rPar l s1 = true := by rw [hp, decide_eq_false h3, Bool.false_and]; decide
          rw [if_neg (by rw [b3]; decide), if_neg (by rintro ⟨_, h | h⟩; exact absurd h (by decide); exact hp' h)]
          exact j10 _
      · have c : ¬ ((s1.1 + 1 : Nat) : Int) < (l.length : Int) := by omega
        have hp' : ¬ rPar l s1 = true := by unfold rPar; rw [decide_eq_false hlt, Bool.false_and]; decide
        rw [if_neg (fun h => c (of_decide_eq_true h)), if_neg (by rintro ⟨_, h | h⟩; exact absurd h (by decide); exact hp' h)]
        exact j10 _
  · rw [if_neg hnm, if_neg (fun h => hnm h.1)]
    exact j10 _
end Go.Proofs.YtnnbinmomendnaaGreatDoor.E
namespace Go.Proofs.YtnnbinmomendnaaGreatDoor.E
open Go.RowKit
variable {R : Type}
set_option maxRecDepth 100000
/-! the body -/
def bodySt (l : Toks) (s : RS) (bd : List ty51.D) : RS := if 10 ≤ bd.length then rLone l (atT l s) s else s
def isAtom (x : ty51.D) : Bool := decide (x.2.2.2.1 = 0) && !x.1
def rBodyL (l : Toks) : Nat → Int → RS → List ty51.D → RS × List ty51.D
  | 0, _, s, bd => (s, bd)
  | f + 1, atoms, s, bd =>
    if s.2.1 = 0 then
      (if (rTake l commaB (rLit l atoms (bodySt l s bd)).2).1 = true then rBodyL l f (if isAtom (rLit l atoms (bodySt l s bd)).1 = true then atoms + 1 else atoms) (rTake l commaB (rLit l atoms (bodySt l s bd)).2).2 (bd ++ [(rLit l atoms (bodySt l s bd)).1])
      else ((rTake l commaB (rLit l atoms (bodySt l s bd)).2).2, bd ++ [(rLit l atoms (bodySt l s bd)).1]))
    else (s, bd)
theorem bodySt_lt {l : Toks} {s : RS} (bd : List ty51.D) (h : s.1 < l.length) : (bodySt l s bd).1 < l.length := by unfold bodySt; split; exact rLone_lt _ h; exact h
theorem rBodyL_rng {l : Toks} : ∀ (f : Nat) (atoms : Int) (s : RS) (bd : List ty51.D), s.1 < l.length → (∀ x ∈ bd, x.2.2.1.length ≤ 400) → (rBodyL l f atoms s bd).1.1 < l.length ∧ (rBodyL l f atoms s bd).2.length ≤ bd.length + f ∧ ∀ x ∈ (rBodyL l f atoms s bd).2, x.2.2.1.length ≤ 400
  | 0, atoms, s, bd, h, hb => ⟨h, Nat.le_refl _, hb⟩
  | f + 1, atoms, s, bd, h, hb => by
    unfold rBodyL
    split
    · obtain ⟨h1, h2⟩ := rLit_rng atoms (bodySt_lt bd h)
      have h3 := rTake_lt commaB h1
      have hb2 : ∀ x ∈ bd ++ [(rLit l atoms (bodySt l s bd)).1], x.2.2.1.length ≤ 400 := by
        intro x hx
        rcases List.mem_append.1 hx with hx | hx
        · exact hb x hx
        · rw [List.mem_singleton] at hx; rw [hx]; exact h2
      split
      · have := rBodyL_rng f (if isAtom (rLit l atoms (bodySt l s bd)).1 = true then atoms + 1 else atoms) _ _ h3 hb2
        exact ⟨this.1, by have := this.2.1; simp at this; omega, this.2.2⟩
      · exact ⟨h3, by simp, hb2⟩
    · exact ⟨h, by simp only []; omega, hb⟩
theorem body_loop (n : Nat) (l : Toks) (hl : l.length < 1000000) (hn : 500 < n) (kind : Int) (nm : ByteArray) (ag : Int) (of_ : ByteArray) (lim : Int) (hd : List ByteArray) (K : exK R (verdererref12_reader_body_dx 2)) (ret : Int → Int → Int → Toks → Int → ByteArray → Int → ByteArray → Int → List ByteArray → List ty51.D → Option R)
    (hK1 : ∀ a b c d e f g h i j q, K.1 (a, b, c, d, e, f, g, h, i, j, q, ()) = ret a b c d e f g h i j q) (hK2 : ∀ a b c d e f g h i j q, K.2.1 (a, b, c, d, e, f, g, h, i, j, q, ()) = ret a b c d e f g h i j q) : ∀ (f i a : Nat) (m : Nat) (s : RS) (bd : List ty51.D), s.1 < l.length → i + f = 400 → a ≤ i → bd.length ≤ 1000 + i → f < m →
    runC (verdererref12_reader_body_l2 n) m ((a : Int), (i : Int), (s.1 : Int), s.2.1, s.2.2, l, kind, nm, ag, of_, lim, hd, bd, ()) K = ret ((rBodyL l f (a : Int) s bd).1.1 : Int) (rBodyL l f (a : Int) s bd).1.2.1 (rBodyL l f (a : Int) s bd).1.2.2 l kind nm ag of_ lim hd (rBodyL l f (a : Int) s bd).2
  | 0, i, a, m, s, bd, h, hf, ha, hh, hm => by
    obtain ⟨m, rfl⟩ : ∃ q, m = q + 1 := ⟨m - 1, by omega⟩
    refine (runC_s _ _ _ _).trans ?_
    have : ¬ ((i : Int) < 400) := by omega
    simp only [verdererref12_reader_body_l2, verdererref12_reader_body_s2]
    rw [if_neg (by simpa using this)]
    exact hK2 _ _ _ _ _ _ _ _ _ _ _
  | f + 1, i, a, m, s, bd, h, hf, ha, hh, hm => by
    obtain ⟨m, rfl⟩ : ∃ q, m = q + 1 := ⟨m - 1, by omega⟩
    refine (runC_s _ _ _ _).trans ?_
    have c : (i : Int) < 400 := by omega
    have w : IntKind.i64.wrap ((i : Int) + 1) = ((i + 1 : Nat) : Int) := wrap_succ _ (by omega)
    have wa : IntKind.i64.wrap ((a : Int) + 1) = ((a + 1 : Nat) : Int) := wrap_succ _ (by omega)
    unfold rBodyL
    simp only [verdererref12_reader_body_l2, verdererref12_reader_body_s2, c, decide_true, if_true, w, wa]
    by_cases h0 : s.2.1 = 0
    · have b0 : (s.2.1 == 0) = true := by simp [h0]
      rw [if_pos b0, if_pos h0, now_F n l s h]
      have tail : ∀ s1 : RS, s1.1 < l.length → verdererref12_reader_lit_F n (a : Int) (s1.1 : Int) s1.2.1 s1.2.2 l (fun y10 y11 y12 y13 y14 => if (y10.2.2.2.1 == 0) = true then (if (!y10.1) = true then (if (List.length bd + List.length [y10]) * 56 ≤ 140737488355328 then (verdererref12_reader_take_F n (⟨#[44]⟩ : ByteArray) y11 y12 y13 y14 (fun y15 y16 y17 y18 y19 => if (!y15) = true then (K.1 (y16, y17, y18, y19, kind, nm, ag, of_, lim, hd, (bd ++ [y10]), ())) else (runC (verdererref12_reader_body_l2 n) m (((a + 1 : Nat) : Int), ((i + 1 : Nat) : Int), y16, y17, y18, y19, kind, nm, ag, of_, lim, hd, (bd ++ [y10]), ()) K))) else none) else (if (List.length bd + List.length [y10]) * 56 ≤ 140737488355328 then (verdererref12_reader_take_F n (⟨#[44]⟩ : ByteArray) y11 y12 y13 y14 (fun y20 y21 y22 y23 y24 => if (!y20) = true then (K.1 (y21, y22, y23, y24, kind, nm, ag, of_, lim, hd, (bd ++ [y10]), ())) else (runC (verdererref12_reader_body_l2 n) m ((a : Int), ((i + 1 : Nat) : Int), y21, y22, y23, y24, kind, nm, ag, of_, lim, hd, (bd ++ [y10]), ()) K))) else none)) else (if (List.length bd + List.length [y10]) * 56 ≤ 140737488355328 then (verdererref12_reader_take_F n (⟨#[44]⟩ : ByteArray) y11 y12 y13 y14 (fun y25 y26 y27 y28 y29 => if (!y25) = true then (K.1 (y26, y27, y28, y29, kind, nm, ag, of_, lim, hd, (bd ++ [y10]), ())) else (runC (verdererref12_reader_body_l2 n) m ((a : Int), ((i + 1 : Nat) : Int), y26, y27, y28, y29, kind, nm, ag, of_, lim, hd, (bd ++ [y10]), ()) K))) else none))
          = ret ((if (rTake l commaB (rLit l (a : Int) s1).2).1 = true then rBodyL l f (if isAtom (rLit l (a : Int) s1).1 = true then (a : Int) + 1 else (a : Int)) (rTake l commaB (rLit l (a : Int) s1).2).2 (bd ++ [(rLit l (a : Int) s1).1]) else ((rTake l commaB (rLit l (a : Int) s1).2).2, bd ++ [(rLit l (a : Int) s1).1])).1.1 : Int)
            (if (rTake l commaB (rLit l (a : Int) s1).2).1 = true then rBodyL l f (if isAtom (rLit l (a : Int) s1).1 = true then (a : Int) + 1 else (a : Int)) (rTake l commaB (rLit l (a : Int) s1).2).2 (bd ++ [(rLit l (a : Int) s1).1]) else ((rTake l commaB (rLit l (a : Int) s1).2).2, bd ++ [(rLit l (a : Int) s1).1])).1.2.1
            (if (rTake l commaB (rLit l (a : Int) s1).2).1 = true then rBodyL l f (if isAtom (rLit l (a : Int) s1).1 = true then (a : Int) + 1 else (a : Int)) (rTake l commaB (rLit l (a : Int) s1).2).2 (bd ++ [(rLit l (a : Int) s1).1]) else ((rTake l commaB (rLit l (a : Int) s1).2).2, bd ++ [(rLit l (a : Int) s1).1])).1.2.2 l kind nm ag of_ lim hd
            (if (rTake l commaB (rLit l (a : Int) s1).2).1 = true then rBodyL l f (if isAtom (rLit l (a : Int) s1).1 = true then (a : Int) + 1 else (a : Int)) (rTake l commaB (rLit l (a : Int) s1).2).2 (bd ++ [(rLit l (a : Int) s1).1]) else ((rTake l commaB (rLit l (a : Int) s1).2).2, bd ++ [(rLit l (a : Int) s1).1])).2 := by
        intro s1 h1
        rw [lit_F n l s1 h1 hl hn]
        obtain ⟨h2, _⟩ := rLit_rng (l := l) (a : Int) h1
        generalize rLit l (a : Int) s1 = x at h2 ⊢
        obtain ⟨x, s2⟩ := x
        simp only at h2 ⊢
        have gd : (List.length bd + List.length [x]) * 56 ≤ 140737488355328 := by simp only [List.length_cons, List.length_nil]; omega
        have h3 := rTake_lt (l := l) commaB h2
        have step : ∀ a2 : Nat, a2 ≤ i + 1 → verdererref12_reader_take_F n (⟨#[44]⟩ : ByteArray) (s2.1 : Int) s2.2.1 s2.2.2 l (fun y15 y16 y17 y18 y19 => if (!y15) = true then (K.1 (y16, y17, y18, y19, kind, nm, ag, of_, lim, hd, (bd ++ [x]), ())) else (runC (verdererref12_reader_body_l2 n) m ((a2 : Int), ((i + 1 : Nat) : Int), y16, y17, y18, y19, kind, nm, ag, of_, lim, hd, (bd ++ [x]), ()) K))
            = ret ((if (rTake l commaB s2).1 = true then rBodyL l f (a2 : Int) (rTake l commaB s2).2 (bd ++ [x]) else ((rTake l commaB s2).2, bd ++ [x])).1.1 : Int) (if (rTake l commaB s2).1 = true then rBodyL l f (a2 : Int) (rTake l commaB s2).2 (bd ++ [x]) else ((rTake l commaB s2).2, bd ++ [x])).1.2.1 (if (rTake l commaB s2).1 = true then rBodyL l f (a2 : Int) (rTake l commaB s2).2 (bd ++ [x]) else ((rTake l commaB s2).2, bd ++ [x])).1.2.2 l kind nm ag of_ lim hd (if (rTake l commaB s2).1 = true then rBodyL l f (a2 : Int) (rTake l commaB s2).2 (bd ++ [x]) else ((rTake l commaB s2).2, bd ++ [x])).2 := by
          intro a2 ha2
          refine (take_F n commaB l s2 h2 hl _).trans ?_
          cases ht : (rTake l commaB s2).1 with
          | false =>
            simp only [Bool.not_false, if_true, Bool.false_eq_true, if_false]
            exact hK1 _ _ _ _ _ _ _ _ _ _ _
          | true =>
            simp only [Bool.not_true, if_true, Bool.false_eq_true, if_false]
            exact body_loop n l hl hn kind nm ag of_ lim hd K ret hK1 hK2 f (i + 1) a2 m (rTake l commaB s2).2 _ h3 (by omega) ha2 (by simp; omega) (by omega)
        have ea : ((a : Int) + 1) = ((a + 1 : Nat) : Int) := rfl
        by_cases hx : x.2.2.2.1 = 0
        · have bx : (x.2.2.2.1 == 0) = true := by simp [hx]
          rw [if_pos bx]
          cases hx1 : x.1 with
          | false =>
            have : isAtom x = true := by unfold isAtom; rw [decide_eq_true hx, hx1]; rfl
            rw [if_pos (by decide), if_pos gd]
            simp only [this, if_true, ea]
            exact step (a + 1) (by omega)
          | true =>
            have : isAtom x = false := by unfold isAtom; rw [hx1]; simp
            rw [if_neg (by decide), if_pos gd]
            simp only [this, Bool.false_eq_true, if_false]
            exact step a (by omega)
        · have bx : (x.2.2.2.1 == 0) = false := by simp [hx]
          have : isAtom x = false := by unfold isAtom; rw [decide_eq_false hx]; rfl
          rw [if_neg (by rw [bx]; decide), if_pos gd]
          simp only [this, Bool.false_eq_true, if_false]
          exact step a (by omega)
      have g : ((bd.length : Int) ≥ 10) ↔ 10 ≤ bd.length := by omega
      have hbs : bodySt l s bd = if 10 ≤ bd.length then rLone l (atT l s) s else s := rfl
      by_cases hg : 10 ≤ bd.length
      · rw [if_pos hg] at hbs
        rw [if_pos (decide_eq_true (g.2 hg)), hbs, lone_F n _ l s h (by omega)]
        exact tail _ (rLone_lt _ h)
      · rw [if_neg hg] at hbs
        rw [if_neg (fun hh => hg (g.1 (of_decide_eq_true hh))), hbs]
        exact tail s h
    · have b0 : (s.2.1 == 0) = false := by simp [h0]
      rw [if_neg (by rw [b0]; decide), if_neg h0]
      exact hK2 _ _ _ _ _ _ _ _ _ _ _
def rBody (l : Toks) (s : RS) : RS × List ty51.D := rBodyL l 400 0 s []
theorem body_Fr (n : Nat) (l : Toks) (s : RS) (h : s.1 < l.length) (hl : l.length < 1000000) (hn : 500 < n) (kind : Int) (nm : ByteArray) (ag : Int) (of_ : ByteArray) (lim : Int) (hd : List ByteArray) (k : Int → Int → Int → Toks → Int → ByteArray → Int → ByteArray → Int → List ByteArray → List ty51.D → Option R) :
    verdererref12_reader_body_F n (s.1 : Int) s.2.1 s.2.2 l kind nm ag of_ lim hd [] k = k ((rBody l s).1.1 : Int) (rBody l s).1.2.1 (rBody l s).1.2.2 l kind nm ag of_ lim hd (rBody l s).2 := by
  rw [verdererref12_reader_body_e]
  unfold verdererref12_reader_body_Fi rBody
  exact body_loop n l hl hn kind nm ag of_ lim hd _ k (fun _ _ _ _ _ _ _ _ _ _ _ => rfl) (fun _ _ _ _ _ _ _ _ _ _ _ => rfl) 400 0 0 n s [] h (by omega) (by omega) (by simp) (by omega)
/-! the rule: kind, name, aggregate, of what, limit, where, why, head, body -/
abbrev RR := Int × ByteArray × Int × ByteArray × Int × Int × Int × List ByteArray × List ty51.D
def denyB : ByteArray := ⟨#[100, 101, 110, 121]⟩
def viewB : ByteArray := ⟨#[118, 105, 101, 119]⟩
def quotaB : ByteArray := ⟨#[113, 117, 111, 116, 97]⟩
def limitB : ByteArray := ⟨#[108, 105, 109, 105, 116]⟩
def ifB : ByteArray := ⟨#[105, 102]⟩
def rErr (p e : Int) : RR := (0, ⟨#[]⟩, 0, ⟨#[]⟩, 0, p, e, [], [])
/-- what the rule is -/
def rKind (l : Toks) (s : RS) : Int × RS :=
  if (rTake l denyB s).1 = true then (1, (rTake l denyB s).2)
  else if (rTake l viewB (rTake l denyB s).2).1 = true then (2, (rTake l viewB (rTake l denyB s).2).2)
  else if (rTake l quotaB (rTake l viewB (rTake l denyB s).2).2).1 = true then (3, (rTake l quotaB (rTake l viewB (rTake l denyB s).2).2).2)
  else (0, rFail 7 (atT l (rTake l quotaB (rTake l viewB (rTake l denyB s).2).2).2) (rTake l quotaB (rTake l viewB (rTake l denyB s).2).2).2)
/-- a limit -/
def rLimS (l : Toks) (s : RS) : RS := if s.2.1 = 0 ∧ ((tk l s.1).1 ≠ 2 ∨ (tk l s.1).2.2.1.1 ≠ 2) then rFail 7 (atT l s) s else s
def rLim (l : Toks) (kind : Int) (s : RS) : Int × RS := if kind = 3 then ((tk l (rLimS l (rMust l limitB s)).1).2.2.1.2.2.1, rStep l (rLimS l (rMust l limitB s))) else (0, s)
/-- from 'if' on -/
def rEndS (l : Toks) (s : RS) : RS := if (tk l s.1).1 ≠ 4 then rFail 7 (atT l s) s else s
def rEnd (l : Toks) (kind : Int) (nm : ByteArray) (ag : Int) (of_ : ByteArray) (lim : Int) (hd : List ByteArray) (s : RS) : RR :=
  if (rEndS l (rBody l (rMust l ifB s)).1).2.1 ≠ 0 then rErr (rEndS l (rBody l (rMust l ifB s)).1).2.2 (rEndS l (rBody l (rMust l ifB s)).1).2.1
  else (kind, nm, ag, of_, lim, 0, 0, hd, (rBody l (rMust l ifB s)).2)
def rHd (l : Toks) (kind : Int) (s : RS) : RS × Int × ByteArray × List ByteArray := rHead l kind (rMust l lparB (rName l s).2) 0 (⟨#[]⟩ : ByteArray) []
/-- behind the kind -/
def rRest (l : Toks) (kind : Int) (s : RS) : RR :=
  rEnd l kind (rName l s).1 (rHd l kind s).2.1 (rHd l kind s).2.2.1 (rLim l kind (rMust l rparB (rHd l kind s).1)).1 (rHd l kind s).2.2.2 (rLim l kind (rMust l rparB (rHd l kind s).1)).2
def rTok (l : Toks) : RR := rRest l (rKind l (0, 0, 0)).1 (rKind l (0, 0, 0)).2
noncomputable def rRule (s : ByteArray) : RR := if (lexS s).2.1 ≠ 0 then rErr (lexS s).1 (lexS s).2.1 else rTok (lexS s).2.2
theorem rLimS_lt {l : Toks} {s : RS} (h : s.1 < l.length) : (rLimS l s).1 < l.length := by unfold rLimS; split; exact rFail_lt _ _ h; exact h
theorem rLim_lt {l : Toks} {s : RS} (kind : Int) (h : s.1 < l.length) : (rLim l kind s).2.1 < l.length := by unfold rLim; split; exact rStep_lt (rLimS_lt (rMust_lt _ h)); exact h
theorem rKind_lt {l : Toks} {s : RS} (h : s.1 < l.length) : (rKind l s).2.1 < l.length := by
  have h1 := rTake_lt denyB h
  have h2 := rTake_lt viewB h1
  have h3 := rTake_lt quotaB h2
  unfold rKind
  split
  · exact h1
  · split
    · exact h2
    · split
      · exact h3
      · exact rFail_lt _ _ h3
theorem end_F (n : Nat) (l : Toks) (s : RS) (h : s.1 < l.length) (hl : l.length < 1000000) (hn : 500 < n) (kind : Int) (nm : ByteArray) (ag : Int) (of_ : ByteArray) (lim : Int) (hd : List ByteArray) (x0 : List ByteArray) (x1 : List ty51.D) (x2 : Int) (x3 : ByteArray) (x4 : Int) (x5 : ByteArray) (x6 : Int) (K : exK R (verdererref12_Rule_dx 1000023)) (ret : RR → Option R)
    (hK1 : ∀ r : RR, K.1 (r.2.2.2.2.2.1, r.2.2.2.2.2.2.1, r.1, r.2.1, r.2.2.1, r.2.2.2.1, r.2.2.2.2.1, r.2.2.2.2.2.2.2.1, r.2.2.2.2.2.2.2.2, ()) = ret r) (hK2 : ∀ r : RR, K.2.1 (r.2.2.2.2.2.1, r.2.2.2.2.2.2.1, r.1, r.2.1, r.2.2.1, r.2.2.2.1, r.2.2.2.2.1, r.2.2.2.2.2.2.2.1, r.2.2.2.2.2.2.2.2, ()) = ret r) :
    verdererref12_Rule_l1000023 n (x0, x1, x2, x3, x4, x5, x6, l, (s.1 : Int), s.2.1, s.2.2, kind, nm, ag, of_, lim, hd, [], ()) K = ret (rEnd l kind nm ag of_ lim hd s) := by
  rw [verdererref12_Rule_e1000023]
  unfold verdererref12_Rule_li1000023 verdererref12_Rule_s1000023
  simp only []
  have h1 := rMust_lt (l := l) ifB h
  refine (must_F n ifB l s h hl _).trans ?_
  rw [body_Fr n l _ h1 hl hn]
  have h2 := (rBodyL_rng (l := l) 400 0 _ [] h1 (by simp)).1
  change (rBody l (rMust l ifB s)).1.1 < l.length at h2
  rw [now_F n l _ h2]
  have hE : rEnd l kind nm ag of_ lim hd s = if (rEndS l (rBody l (rMust l ifB s)).1).2.1 ≠ 0 then rErr (rEndS l (rBody l (rMust l ifB s)).1).2.2 (rEndS l (rBody l (rMust l ifB s)).1).2.1
    else (kind, nm, ag, of_, lim, 0, 0, hd, (rBody l (rMust l ifB s)).2) := rfl
  have hS : rEndS l (rBody l (rMust l ifB s)).1 = if (tk l (rBody l (rMust l ifB s)).1.1).1 ≠ 4 then rFail 7 (atT l (rBody l (rMust l ifB s)).1) (rBody l (rMust l ifB s)).1 else (rBody l (rMust l ifB s)).1 := rfl
  generalize rBody l (rMust l ifB s) = b at h2 hE hS ⊢
  obtain ⟨b, bd⟩ := b
  simp only at h2 hE hS ⊢
  by_cases h4 : (tk l b.1).1 = 4
  · have e4 : ((tk l b.1).1 != 4) = false := by rw [bne_eq_false_iff_eq]; exact h4
    rw [if_neg (by rw [e4]; decide)]
    rw [if_neg (fun h => h h4)] at hS
    rw [hS] at hE
    by_cases h0 : b.2.1 = 0
    · have e0 : (b.2.1 != 0) = false := by simp [h0]
      rw [if_neg (by rw [e0]; decide), hE, if_neg (fun h => h h0)]
      exact hK2 (kind, nm, ag, of_, lim, 0, 0, hd, bd)
    · have e0 : (b.2.1 != 0) = true := by simp [h0]
      rw [if_pos e0, hE, if_pos h0]
      exact hK1 (rErr b.2.2 b.2.1)
  · have e4 : ((tk l b.1).1 != 4) = true := bne_iff_ne.2 h4
    rw [if_pos e4, now_F n l b h2, fail_F n 7 _ l b]
    rw [if_pos h4] at hS
    rw [hS] at hE
    generalize hg : rFail 7 (atT l b) b = g at hE ⊢
    have hg' : rFail 7 (tk l b.1).2.2.2.1 b = g := hg
    rw [hg']
    by_cases h0 : g.2.1 = 0
    · have e0 : (g.2.1 != 0) = false := by simp [h0]
      rw [if_neg (by rw [e0]; decide), hE, if_neg (fun h => h h0)]
      exact hK2 (kind, nm, ag, of_, lim, 0, 0, hd, bd)
    · have e0 : (g.2.1 != 0) = true := by simp [h0]
      rw [if_pos e0, hE, if_pos h0]
      exact hK1 (rErr g.2.2 g.2.1)
end Go.Proofs.YtnnbinmomendnaaGreatDoor.E
namespace Go.Proofs.YtnnbinmomendnaaGreatDoor.E
open Go.RowKit
variable {R : Type}
set_option maxRecDepth 100000
theorem rest_F (n : Nat) (l : Toks) (s : RS) (h : s.1 < l.length) (hl : l.length < 1000000) (hn : 500 < n) (kind : Int) (x0 : List ByteArray) (x1 : List ty51.D) (x2 : Int) (x3 : ByteArray) (x4 : Int) (x5 : ByteArray) (x6 : Int) (K : exK R (verdererref12_Rule_dx 1000013)) (ret : RR → Option R)
    (hK1 : ∀ r : RR, K.1 (r.2.2.2.2.2.1, r.2.2.2.2.2.2.1, r.1, r.2.1, r.2.2.1, r.2.2.2.1, r.2.2.2.2.1, r.2.2.2.2.2.2.2.1, r.2.2.2.2.2.2.2.2, ()) = ret r) (hK2 : ∀ r : RR, K.2.1 (r.2.2.2.2.2.1, r.2.2.2.2.2.2.1, r.1, r.2.1, r.2.2.1, r.2.2.2.1, r.2.2.2.2.1, r.2.2.2.2.2.2.2.1, r.2.2.2.2.2.2.2.2, ()) = ret r) :
    verdererref12_Rule_l1000013 n (x0, x1, x2, x3, x4, x5, x6, l, (s.1 : Int), s.2.1, s.2.2, kind, (⟨#[]⟩ : ByteArray), (0 : Int), (⟨#[]⟩ : ByteArray), (0 : Int), ([] : List ByteArray), ([] : List ty51.D), ()) K = ret (rRest l kind s) := by
  rw [verdererref12_Rule_e1000013]
  unfold verdererref12_Rule_li1000013 verdererref12_Rule_s1000013
  simp only []
  have h1 := rName_lt (l := l) h
  rw [name_F n l s h hl (by omega)]
  refine (must_F n lparB l _ h1 hl _).trans ?_
  have h2 := rMust_lt (l := l) lparB h1
  rw [head_F n l _ h2 hl hn kind _ 0 _ 0 [] (by simp)]
  have h3 := (rHead_rng (l := l) kind _ 0 (⟨#[]⟩ : ByteArray) [] h2).1
  refine (must_F n rparB l _ h3 hl _).trans ?_
  have h4 := rMust_lt (l := l) rparB h3
  have hR : rRest l kind s = rEnd l kind (rName l s).1 (rHd l kind s).2.1 (rHd l kind s).2.2.1 (rLim l kind (rMust l rparB (rHd l kind s).1)).1 (rHd l kind s).2.2.2 (rLim l kind (rMust l rparB (rHd l kind s).1)).2 := rfl
  have hd : rHd l kind s = rHead l kind (rMust l lparB (rName l s).2) 0 (⟨#[]⟩ : ByteArray) [] := rfl
  rw [← hd] at h4 ⊢
  rw [hR]
  generalize rHd l kind s = H at h4 ⊢
  generalize rMust l rparB H.1 = q at h4 ⊢
  have fin : ∀ (q2 : RS) (h5 : q2.1 < l.length) (lim : Int), verdererref12_Rule_l1000023 n (x0, x1, x2, x3, x4, x5, x6, l, (q2.1 : Int), q2.2.1, q2.2.2, kind, (rName l s).1, H.2.1, H.2.2.1, lim, H.2.2.2, [], ()) (fun b97 => K.1 (b97.1, b97.2.1, b97.2.2.1, b97.2.2.2.1, b97.2.2.2.2.1, b97.2.2.2.2.2.1, b97.2.2.2.2.2.2.1, b97.2.2.2.2.2.2.2.1, b97.2.2.2.2.2.2.2.2.1, ()), fun b106 => K.2.1 (b106.1, b106.2.1, b106.2.2.1, b106.2.2.2.1, b106.2.2.2.2.1, b106.2.2.2.2.2.1, b106.2.2.2.2.2.2.1, b106.2.2.2.2.2.2.2.1, b106.2.2.2.2.2.2.2.2.1, ()), ()) = ret (rEnd l kind (rName l s).1 H.2.1 H.2.2.1 lim H.2.2.2 q2) :=
    fun q2 h5 lim => end_F n l q2 h5 hl hn kind _ _ _ lim _ x0 x1 x2 x3 x4 x5 x6 _ ret (fun r => hK1 r) (fun r => hK2 r)
  by_cases hk : kind = 3
  · have b : (kind == 3) = true := by simp [hk]
    rw [if_pos b]
    refine (must_F n limitB l q h4 hl _).trans ?_
    have h5 := rMust_lt (l := l) limitB h4
    have hL : rLim l kind q = ((tk l (rLimS l (rMust l limitB q)).1).2.2.1.2.2.1, rStep l (rLimS l (rMust l limitB q))) := by unfold rLim; rw [if_pos hk]
    rw [hL]
    have hS : rLimS l (rMust l limitB q) = if (rMust l limitB q).2.1 = 0 ∧ ((tk l (rMust l limitB q).1).1 ≠ 2 ∨ (tk l (rMust l limitB q).1).2.2.1.1 ≠ 2) then rFail 7 (atT l (rMust l limitB q)) (rMust l limitB q) else rMust l limitB q := rfl
    have h6 := rLimS_lt (l := l) h5
    rw [hS] at h6 ⊢
    generalize rMust l limitB q = g at h5 h6 ⊢
    by_cases h0 : g.2.1 = 0
    · have b0 : (g.2.1 == 0) = true := by simp [h0]
      rw [if_pos b0, now_F n l g h5]
      by_cases hk2 : (tk l g.1).1 = 2
      · have e2 : ((tk l g.1).1 != 2) = false := by rw [bne_eq_false_iff_eq]; exact hk2
        rw [if_neg (by rw [e2]; decide), now_F n l g h5]
        by_cases hv : (tk l g.1).2.2.1.1 = 2
        · have e3 : ((tk l g.1).2.2.1.1 != 2) = false := by rw [bne_eq_false_iff_eq]; exact hv
          rw [if_neg (by rw [e3]; decide)]
          rw [if_neg (by rintro ⟨_, h | h⟩; exact h hk2; exact h hv)]
          rw [now_F n l g h5, step_F n l g h5 hl]
          exact fin _ (rStep_lt h5) _
        · have e3 : ((tk l g.1).2.2.1.1 != 2) = true := bne_iff_ne.2 hv
          rw [if_pos (show g.2.1 = 0 ∧ ((tk l g.1).1 ≠ 2 ∨ (tk l g.1).2.2.1.1 ≠ 2) from ⟨h0, Or.inr hv⟩)] at h6 ⊢
          rw [if_pos e3, now_F n l g h5, fail_F n 7 _ l g]
          refine (now_F n l (rFail 7 (atT l g) g) h6 _).trans ?_
          rw [step_F n l _ h6 hl]
          exact fin _ (rStep_lt h6) _
      · have e2 : ((tk l g.1).1 != 2) = true := bne_iff_ne.2 hk2
        rw [if_pos (show g.2.1 = 0 ∧ ((tk l g.1).1 ≠ 2 ∨ (tk l g.1).2.2.1.1 ≠ 2) from ⟨h0, Or.inl hk2⟩)] at h6 ⊢
        rw [if_pos e2, now_F n l g h5, fail_F n 7 _ l g]
        refine (now_F n l (rFail 7 (atT l g) g) h6 _).trans ?_
        rw [step_F n l _ h6 hl]
        exact fin _ (rStep_lt h6) _
    · have b0 : (g.2.1 == 0) = false := by simp [h0]
      rw [if_neg (show ¬ (g.2.1 = 0 ∧ ((tk l g.1).1 ≠ 2 ∨ (tk l g.1).2.2.1.1 ≠ 2)) from fun h => h0 h.1)]
      rw [if_neg (by rw [b0]; decide), now_F n l g h5, step_F n l g h5 hl]
      exact fin _ (rStep_lt h5) _
  · have b : (kind == 3) = false := by simp [hk]
    have hL : rLim l kind q = (0, q) := by unfold rLim; rw [if_neg hk]
    rw [if_neg (by rw [b]; decide), hL]
    exact fin q h4 0
theorem rule_F (n : Nat) (s : ByteArray) (hn : 2000 < n) (k : Int → ByteArray → Int → ByteArray → Int → Int → Int → List ByteArray → List ty51.D → Option R) :
    verdererref12_Rule_F n s k = k (rRule s).1 (rRule s).2.1 (rRule s).2.2.1 (rRule s).2.2.2.1 (rRule s).2.2.2.2.1 (rRule s).2.2.2.2.2.1 (rRule s).2.2.2.2.2.2.1 (rRule s).2.2.2.2.2.2.2.1 (rRule s).2.2.2.2.2.2.2.2 := by
  rw [verdererref12_Rule_e]
  unfold verdererref12_Rule_Fi rRule
  rw [refLex_F n s hn]
  by_cases he : (lexS s).2.1 = 0
  · have b : ((lexS s).2.1 != 0) = false := by simp [he]
    rw [if_neg (by rw [b]; decide), if_neg (fun h => h he)]
    obtain ⟨t, ht, htl⟩ := lexS_rng s he
    have hlen : (lexS s).2.2.length = t.length + 1 := by rw [ht]; simp
    generalize (lexS s).2.2 = l at hlen ⊢
    have h : (0, 0, 0).1 < l.length := by simp only []; omega
    have hl : l.length < 1000000 := by omega
    have hT : rTok l = rRest l (rKind l (0, 0, 0)).1 (rKind l (0, 0, 0)).2 := rfl
    have h1 := rTake_lt (l := l) (s := (0, 0, 0)) denyB h
    have h2 := rTake_lt (l := l) viewB h1
    have h3 := rTake_lt (l := l) quotaB h2
    have fin : ∀ (q : RS) (hq : q.1 < l.length) (kind : Int), verdererref12_Rule_l1000013 n (([] : List ByteArray), ([] : List ty51.D), (0 : Int), (⟨#[]⟩ : ByteArray), (0 : Int), (⟨#[]⟩ : ByteArray), (0 : Int), l, (q.1 : Int), q.2.1, q.2.2, kind, (⟨#[]⟩ : ByteArray), (0 : Int), (⟨#[]⟩ : ByteArray), (0 : Int), ([] : List ByteArray), ([] : List ty51.D), ())
        (fun b228 => k b228.2.2.1 b228.2.2.2.1 b228.2.2.2.2.1 b228.2.2.2.2.2.1 b228.2.2.2.2.2.2.1 b228.1 b228.2.1 b228.2.2.2.2.2.2.2.1 b228.2.2.2.2.2.2.2.2.1, fun b237 => k b237.2.2.1 b237.2.2.2.1 b237.2.2.2.2.1 b237.2.2.2.2.2.1 b237.2.2.2.2.2.2.1 b237.1 b237.2.1 b237.2.2.2.2.2.2.2.1 b237.2.2.2.2.2.2.2.2.1, ())
        = (fun r : RR => k r.1 r.2.1 r.2.2.1 r.2.2.2.1 r.2.2.2.2.1 r.2.2.2.2.2.1 r.2.2.2.2.2.2.1 r.2.2.2.2.2.2.2.1 r.2.2.2.2.2.2.2.2) (rRest l kind q) :=
      fun q hq kind => rest_F n l q hq hl (by omega) kind _ _ _ _ _ _ _ _ _ (fun _ => rfl) (fun _ => rfl)
    refine Eq.trans ?_ (show (fun r : RR => k r.1 r.2.1 r.2.2.1 r.2.2.2.1 r.2.2.2.2.1 r.2.2.2.2.2.1 r.2.2.2.2.2.2.1 r.2.2.2.2.2.2.2.1 r.2.2.2.2.2.2.2.2) (rRest l (rKind l (0, 0, 0)).1 (rKind l (0, 0, 0)).2) = _ by rw [hT])
    refine (take_F n denyB l (0, 0, 0) h hl _).trans ?_
    have hK : rKind l (0, 0, 0) = if (rTake l denyB (0, 0, 0)).1 = true then (1, (rTake l denyB (0, 0, 0)).2) else if (rTake l viewB (rTake l denyB (0, 0, 0)).2).1 = true then (2, (rTake l viewB (rTake l denyB (0, 0, 0)).2).2)
      else if (rTake l quotaB (rTake l viewB (rTake l denyB (0, 0, 0)).2).2).1 = true then (3, (rTake l quotaB (rTake l viewB (rTake l denyB (0, 0, 0)).2).2).2) else (0, rFail 7 (atT l (rTake l quotaB (rTake l viewB (rTake l denyB (0, 0, 0)).2).2).2) (rTake l quotaB (rTake l viewB (rTake l denyB (0, 0, 0)).2).2).2) := rfl
    generalize rTake l denyB (0, 0, 0) = t1 at h1 h2 h3 hK ⊢
    by_cases c1 : t1.1 = true
    · rw [if_pos c1]
      rw [if_pos c1] at hK
      rw [hK]
      exact fin _ h1 1
    · rw [if_neg c1]
      rw [if_neg c1] at hK
      refine (take_F n viewB l t1.2 h1 hl _).trans ?_
      generalize rTake l viewB t1.2 = t2 at h2 h3 hK ⊢
      by_cases c2 : t2.1 = true
      · rw [if_pos c2]
        rw [if_pos c2] at hK
        rw [hK]
        exact fin _ h2 2
      · rw [if_neg c2]
        rw [if_neg c2] at hK
        refine (take_F n quotaB l t2.2 h2 hl _).trans ?_
        generalize rTake l quotaB t2.2 = t3 at h3 hK ⊢
        by_cases c3 : t3.1 = true
        · rw [if_pos c3]
          rw [if_pos c3] at hK
          rw [hK]
          exact fin _ h3 3
        · rw [if_neg c3]
          rw [if_neg c3] at hK
          rw [now_F n l t3.2 h3, fail_F n 7 _ l t3.2, hK]
          exact fin (rFail 7 (atT l t3.2) t3.2) (rFail_lt _ _ h3) 0
  · have b : ((lexS s).2.1 != 0) = true := by simp [he]
    rw [if_pos b, if_pos he]
    rfl
/-- rules are not large -/
theorem rRule_rng (s : ByteArray) : (rRule s).2.2.2.2.2.2.2.1.length ≤ 401 ∧ (rRule s).2.2.2.2.2.2.2.2.length ≤ 400 ∧ ∀ x ∈ (rRule s).2.2.2.2.2.2.2.2, x.2.2.1.length ≤ 400 := by
  have err : ∀ p e : Int, (rErr p e).2.2.2.2.2.2.2.1.length ≤ 401 ∧ (rErr p e).2.2.2.2.2.2.2.2.length ≤ 400 ∧ ∀ x ∈ (rErr p e).2.2.2.2.2.2.2.2, x.2.2.1.length ≤ 400 := fun p e => ⟨Nat.zero_le _, Nat.zero_le _, fun x hx => by cases hx⟩
  unfold rRule
  split
  · exact err _ _
  · rename_i he
    obtain ⟨t, ht, htl⟩ := lexS_rng s (by simpa using he)
    have hlen : 0 < (lexS s).2.2.length := by rw [ht]; simp
    generalize (lexS s).2.2 = l at hlen ⊢
    unfold rTok
    have hk := rKind_lt (l := l) (s := (0, 0, 0)) hlen
    generalize rKind l (0, 0, 0) = kq at hk ⊢
    unfold rRest
    have h2 := rMust_lt (l := l) lparB (rName_lt (l := l) hk)
    have hh := rHead_rng (l := l) kq.1 _ 0 (⟨#[]⟩ : ByteArray) [] h2
    change (rHd l kq.1 kq.2).1.1 < _ ∧ (rHd l kq.1 kq.2).2.2.2.length ≤ _ at hh
    have h5 := rLim_lt (l := l) kq.1 (rMust_lt (l := l) rparB hh.1)
    unfold rEnd
    have hb := rBodyL_rng (l := l) 400 0 _ [] (rMust_lt (l := l) ifB h5) (by simp)
    split
    · exact err _ _
    · exact ⟨Nat.le_trans (by simpa using hh.2) (show 400 ≤ 401 by omega), by simpa [rBody] using hb.2.1, by simpa [rBody] using hb.2.2⟩
end Go.Proofs.YtnnbinmomendnaaGreatDoor.E
/-! parse's reader, out of the engine: what its methods come to, by the document's words -/
namespace Go.Proofs.YtnnbinmomendnaaGreatDoor.E
open Go.RowKit
variable {R : Type}
/-- tokens as the lexer hands them on -/
structure TOk (l : Toks) : Prop where
  len : l.length ≤ 301
  last : ∀ i, i < l.length → ((tk l i).1 = 4 ↔ i + 1 = l.length)
  sign : ∀ i, i < l.length → (tk l i).1 = 3 → letN (bt (tk l i).2.1 0) = false
def escW [Esc R] (why at_ : Int) : Option R := Esc.esc (.iface 39 (.agg #[.int .i64 why, .int .i64 at_]))
/-- behind a method: it goes on, or the panic -/
def endS [Esc R] (s : RS) (k : Option R) : Option R := if s.2.1 = 0 then k else escW s.2.1 s.2.2
theorem endS_congr [Esc R] {s : RS} {k k' : Option R} (h : s.2.1 = 0 → k = k') : endS s k = endS s k' := by
  unfold endS
  by_cases h0 : s.2.1 = 0
  · rw [if_pos h0, if_pos h0, h h0]
  · rw [if_neg h0, if_neg h0]
theorem endS_then [Esc R] {s s' : RS} {k : Option R} (h : s.2.1 ≠ 0 → s'.2 = s.2) : endS s (endS s' k) = endS s' k := by
  unfold endS
  by_cases h0 : s.2.1 = 0
  · rw [if_pos h0]
  · rw [if_neg h0, h h0, if_neg h0]
theorem endS_ok [Esc R] {s : RS} (h : s.2.1 = 0) (k : Option R) : endS s k = k := by unfold endS; rw [if_pos h]
theorem endS_bad [Esc R] {s : RS} (h : s.2.1 ≠ 0) (k : Option R) : endS s k = escW s.2.1 s.2.2 := by unfold endS; rw [if_neg h]
/-! a state that has failed stays -/
theorem rStep_2 (l : Toks) (s : RS) : (rStep l s).2 = s.2 := rfl
theorem rTake_2 (l : Toks) (w : ByteArray) (s : RS) : (rTake l w s).2.2 = s.2 := by unfold rTake; split <;> rfl
theorem rFail_st {e p : Int} {s : RS} (h : s.2.1 ≠ 0) : rFail e p s = s := by unfold rFail; rw [if_neg h]
theorem rFail_0 {e p : Int} {s : RS} (h : s.2.1 = 0) : rFail e p s = (s.1, e, p) := by unfold rFail; rw [if_pos h]
theorem rIs_st {l : Toks} {w : ByteArray} {s : RS} (h : s.2.1 ≠ 0) : rIs l w s = false := by unfold rIs; rw [decide_eq_false h]; rfl
theorem rTake_st {l : Toks} {w : ByteArray} {s : RS} (h : s.2.1 ≠ 0) : rTake l w s = (false, s) := by unfold rTake; rw [rIs_st h]; rfl
theorem rMust_st {l : Toks} {w : ByteArray} {s : RS} (h : s.2.1 ≠ 0) : rMust l w s = s := by unfold rMust; rw [rTake_st h, rFail_st h]; rfl
theorem rNamed_st {l : Toks} {s : RS} (h : s.2.1 ≠ 0) : rNamed l s = false := by unfold rNamed; rw [decide_eq_false h]; rfl
theorem rName_st {l : Toks} {s : RS} (h : s.2.1 ≠ 0) : rName l s = ((⟨#[]⟩ : ByteArray), s) := by unfold rName; rw [rNamed_st h, rFail_st h]; rfl
/-! tokens -/
theorem nowP_F (n : Nat) (l : Toks) (i : Nat) (h : i < l.length) (k : ty78.D → Toks → Int → Option R) : parse_reader_now_F n l (i : Int) k = k (tk l i) l (i : Int) := by
  rw [parse_reader_now_e]
  unfold parse_reader_now_Fi
  rw [if_pos (by omega), Int.toNat_natCast]
  rfl
theorem stepP_F (n : Nat) (l : Toks) (ho : TOk l) (s : RS) (h : s.1 < l.length) (k : ty78.D → Toks → Int → Option R) : parse_reader_step_F n l (s.1 : Int) k = k (tk l s.1) l ((rStep l s).1 : Int) := by
  rw [parse_reader_step_e]
  unfold parse_reader_step_Fi rStep
  rw [nowP_F n l s.1 h]
  have hl := ho.len
  have hh := ho.last s.1 h
  by_cases h4 : (tk l s.1).1 = 4
  · rw [if_neg (by rw [h4]; decide), if_neg (show ¬ s.1 + 1 < l.length from by have := hh.1 h4; omega)]
  · rw [if_pos (by simpa using h4), if_pos (show s.1 + 1 < l.length from by
      have : ¬ s.1 + 1 = l.length := fun e => h4 (hh.2 e)
      omega), wrap_succ s.1 (by omega)]
theorem isP_F (n : Nat) (w : ByteArray) (l : Toks) (s : RS) (h0 : s.2.1 = 0) (h : s.1 < l.length) (k : Bool → Toks → Int → Option R) : parse_reader_is_F n w l (s.1 : Int) k = k (rIs l w s) l (s.1 : Int) := by
  rw [parse_reader_is_e]
  unfold parse_reader_is_Fi rIs
  rw [nowP_F n l s.1 h, beqB, decide_eq_true h0, Bool.true_and]
  by_cases h1 : (tk l s.1).1 = 1
  · rw [if_pos (by rw [h1]; rfl), decide_eq_true h1]; rfl
  · rw [if_neg (by simpa using h1), decide_eq_false h1, Bool.false_or]
    by_cases h3 : (tk l s.1).1 = 3
    · rw [if_pos (by rw [h3]; rfl), decide_eq_true h3]; rfl
    · rw [if_neg (by simpa using h3), decide_eq_false h3]; rfl
theorem takeP_F (n : Nat) (w : ByteArray) (l : Toks) (ho : TOk l) (s : RS) (h0 : s.2.1 = 0) (h : s.1 < l.length) (k : Bool → Toks → Int → Option R) : parse_reader_take_F n w l (s.1 : Int) k = k (rTake l w s).1 l ((rTake l w s).2.1 : Int) := by
  rw [parse_reader_take_e]
  unfold parse_reader_take_Fi rTake
  rw [isP_F n w l s h0 h]
  cases rIs l w s with
  | true => rw [if_pos rfl, if_pos rfl, stepP_F n l ho s h]
  | false => rw [if_neg (by decide), if_neg (by decide)]
theorem all_res (w : ByteArray) : ((List.range resW.length).all fun i => !decide ((resW.getD i ByteArray.empty) = w)) = !resS w := by
  rw [Bool.eq_iff_iff, List.all_eq_true]
  unfold resS
  rw [Bool.not_eq_true', List.any_eq_false]
  constructor
  · intro h x hx
    obtain ⟨i, hi, e⟩ := List.getElem_of_mem hx
    have := h i (List.mem_range.2 hi)
    rw [getD_nat _ i hi, e] at this
    simpa using this
  · intro h i hi
    have hi := List.mem_range.1 hi
    have := h _ (List.getElem_mem hi)
    rw [getD_nat _ i hi]
    simpa using this
/-- where a text stands among some -/
def ixF (ws : List ByteArray) (w : ByteArray) (i : Nat) : Option Nat := if ws.getD i ByteArray.empty = w then some i else none
theorem ixL_F (n : Nat) (ws : List ByteArray) (w : ByteArray) (hws : ws.length ≤ 15) (hn : 20 < n) (k : Int → Option R) : slices_Index_95_F n ws w k = match (List.range ws.length).findSome? (ixF ws w) with
    | none => k (-1)
    | some i => k (i : Int) := by
  rw [slices_Index_95_e]
  unfold slices_Index_95_Fi
  refine (runC_scan (R := R) (ρ := Nat) (step := slices_Index_95_l2 n) (fun b1 => k b1.1, fun b1 => k (-1), ()) (fun i => k (i : Int)) (k (-1)) (ixF ws w) (fun i => (ws, w, (ws.length : Int), (i : Int), ())) ws.length (fun i hi k1 => ?_) (fun k1 => ?_) (n := n) (by omega)).trans ?_
  · have hi2 : (0 : Int) ≤ (i : Int) ∧ (i : Int) < (ws.length : Int) := by omega
    have c : (i : Int) < (ws.length : Int) := by omega
    have e : ws.getD i (Ty.z .str) = ws.getD i ByteArray.empty := rfl
    simp only [slices_Index_95_l2, slices_Index_95_s2, c, hi2, decide_true, if_true, and_self, Int.toNat_natCast, beqB, e, wrap_succ i (by omega), ixF]
    by_cases h : ws.getD i ByteArray.empty = w
    · rw [if_pos (decide_eq_true h.symm), if_pos h]
    · have h' : ¬ w = ws.getD i ByteArray.empty := fun e => h e.symm
      rw [if_neg (by simpa using h'), if_neg h]
  · simp [slices_Index_95_l2, slices_Index_95_s2]
  · cases (List.range ws.length).findSome? (ixF ws w) <;> rfl
theorem reservedP_F (n : Nat) (w : ByteArray) (hn : 20 < n) (k : Bool → Option R) : lex_Reserved_F n w k = k (resS w) := by
  rw [lex_Reserved_e]
  unfold lex_Reserved_Fi
  rw [slices_Contains_121_e]
  unfold slices_Contains_121_Fi
  refine (ixL_F n resW w (by decide) hn _).trans ?_
  have ha := all_res w
  cases hf : (List.range resW.length).findSome? (ixF resW w) with
  | none =>
    have : ((List.range resW.length).all fun i => !decide ((resW.getD i ByteArray.empty) = w)) = true := by
      rw [List.all_eq_true]
      intro i hi
      have := (List.findSome?_eq_none_iff.1 hf) i hi
      unfold ixF at this
      by_cases he : resW.getD i ByteArray.empty = w
      · rw [if_pos he] at this; cases this
      · rw [decide_eq_false he]; rfl
    rw [this] at ha
    cases hr : resS w with
    | false => rfl
    | true => rw [hr] at ha; cases ha
  | some i =>
    obtain ⟨j, hj, he⟩ := List.exists_of_findSome?_eq_some hf
    unfold ixF at he
    simp only
    rw [decide_eq_true (show (i : Int) ≥ 0 by omega)]
    by_cases hw : resW.getD j ByteArray.empty = w
    · cases hr : resS w with
      | true => rfl
      | false =>
        rw [hr] at ha
        have := List.all_eq_true.1 ha j hj
        rw [decide_eq_true hw] at this
        cases this
    · rw [if_neg hw] at he; cases he
theorem namedP_F (n : Nat) (l : Toks) (s : RS) (h0 : s.2.1 = 0) (h : s.1 < l.length) (hn : 500 < n) (k : Bool → Toks → Int → Option R) : parse_reader_named_F n l (s.1 : Int) k = k (rNamed l s) l (s.1 : Int) := by
  rw [parse_reader_named_e]
  unfold parse_reader_named_Fi rNamed isName
  rw [nowP_F n l s.1 h, decide_eq_true h0, Bool.true_and]
  by_cases h1 : (tk l s.1).1 = 1
  · rw [if_pos (by rw [h1]; rfl), decide_eq_true h1, Bool.true_and]
    rw [schName_F n _ (by omega)]
    cases hs : nameS (tk l s.1).2.1 with
    | false => rfl
    | true =>
      simp only [if_true, Bool.true_and]
      rw [reservedP_F n _ (by omega)]
  · rw [if_neg (by simpa using h1), decide_eq_false h1, Bool.false_and]
/-- a failure that a condition tells -/
def rIf (b : Bool) (e p : Int) (s : RS) : RS := bif b then s else rFail e p s
theorem rIf_st {b : Bool} {e p : Int} {s : RS} (h : s.2.1 ≠ 0) : rIf b e p s = s := by unfold rIf; rw [rFail_st h]; cases b <;> rfl
theorem rIf_at (b : Bool) (e p : Int) (s : RS) : (rIf b e p s).1 = s.1 := by unfold rIf; cases b; exact rFail_at _ _ _; rfl
theorem mustP_F [Esc R] (n : Nat) (b : Bool) (e : Int) (he : e ≠ 0) (l : Toks) (s : RS) (h0 : s.2.1 = 0) (h : s.1 < l.length) (k : Toks → Int → Option R) : parse_reader_must_F n b e l (s.1 : Int) k = endS (rIf b e (atT l s) s) (k l (s.1 : Int)) := by
  rw [parse_reader_must_e]
  unfold parse_reader_must_Fi
  cases b with
  | true =>
    simp only [Bool.not_true, Bool.false_eq_true, if_false, rIf, cond_true]
    rw [endS_ok h0]
  | false =>
    simp only [Bool.not_false, if_true, rIf, cond_false]
    rw [nowP_F n l s.1 h, rFail_0 h0, endS_bad he]
    rfl
theorem wantP_F [Esc R] (n : Nat) (w : ByteArray) (l : Toks) (ho : TOk l) (s : RS) (h0 : s.2.1 = 0) (h : s.1 < l.length) (k : Toks → Int → Option R) : parse_reader_want_F n w l (s.1 : Int) k = endS (rMust l w s) (k l ((rMust l w s).1 : Int)) := by
  rw [parse_reader_want_e]
  unfold parse_reader_want_Fi
  rw [takeP_F n w l ho s h0 h]
  have h2 : (rTake l w s).2.2.1 = 0 := by rw [rTake_2]; exact h0
  refine (mustP_F n _ 7 (by decide) l (rTake l w s).2 h2 (rTake_lt w h) _).trans ?_
  unfold rMust
  cases ht : (rTake l w s).1 with
  | true => rfl
  | false =>
    have e : (rTake l w s).2 = s := by
      unfold rTake at ht ⊢
      split at ht
      · cases ht
      · rename_i hh; rw [if_neg hh]
    rw [e]
    simp only [rIf, cond_false, Bool.false_eq_true, if_false]
    rw [rFail_at]
    rfl
theorem nameP_F [Esc R] (n : Nat) (l : Toks) (ho : TOk l) (s : RS) (h0 : s.2.1 = 0) (h : s.1 < l.length) (hn : 500 < n) (k : ByteArray → Toks → Int → Option R) : parse_reader_name_F n l (s.1 : Int) k = endS (rName l s).2 (k (rName l s).1 l ((rName l s).2.1 : Int)) := by
  rw [parse_reader_name_e]
  unfold parse_reader_name_Fi
  rw [namedP_F n l s h0 h hn]
  refine (mustP_F n _ 7 (by decide) l s h0 h _).trans ?_
  unfold rName
  cases rNamed l s with
  | true =>
    simp only [rIf, cond_true, if_true]
    rw [stepP_F n l ho s h, endS_ok h0, endS_ok (by rw [rStep_2]; exact h0)]
  | false =>
    simp only [rIf, cond_false, Bool.false_eq_true, if_false]
    have hb : (rFail 7 (atT l s) s).2.1 ≠ 0 := by rw [rFail_0 h0]; show (7 : Int) ≠ 0; decide
    rw [endS_bad hb]
    exact (endS_bad hb _).symm
end Go.Proofs.YtnnbinmomendnaaGreatDoor.E
namespace Go.Proofs.YtnnbinmomendnaaGreatDoor.E
open Go.RowKit
variable {R : Type}
/-- which aggregate a word is; 0: none -/
def aggN (w : ByteArray) : Nat := if aggW.getD 1 ByteArray.empty = w then 1 else if aggW.getD 2 ByteArray.empty = w then 2 else if aggW.getD 3 ByteArray.empty = w then 3 else if aggW.getD 4 ByteArray.empty = w then 4 else 0
theorem aggN_le (w : ByteArray) : aggN w ≤ 4 := by unfold aggN; split; omega; split; omega; split; omega; split <;> omega
theorem aggIx_F (n : Nat) (w : ByteArray) (hn : 20 < n) (k : Int → Option R) : slices_Index_95_F n [(⟨#[99, 111, 117, 110, 116]⟩ : ByteArray), (⟨#[115, 117, 109]⟩ : ByteArray), (⟨#[108, 101, 97, 115, 116]⟩ : ByteArray), (⟨#[109, 111, 115, 116]⟩ : ByteArray)] w k = k ((aggN w : Int) - 1) := by
  refine (ixL_F n _ w (by decide) hn k).trans ?_
  have hr : List.range [(⟨#[99, 111, 117, 110, 116]⟩ : ByteArray), (⟨#[115, 117, 109]⟩ : ByteArray), (⟨#[108, 101, 97, 115, 116]⟩ : ByteArray), (⟨#[109, 111, 115, 116]⟩ : ByteArray)].length = [0, 1, 2, 3] := rfl
  rw [hr]
  have e1 : ixF [(⟨#[99, 111, 117, 110, 116]⟩ : ByteArray), (⟨#[115, 117, 109]⟩ : ByteArray), (⟨#[108, 101, 97, 115, 116]⟩ : ByteArray), (⟨#[109, 111, 115, 116]⟩ : ByteArray)] w 0 = if aggW.getD 1 ByteArray.empty = w then some 0 else none := rfl
  have e2 : ixF [(⟨#[99, 111, 117, 110, 116]⟩ : ByteArray), (⟨#[115, 117, 109]⟩ : ByteArray), (⟨#[108, 101, 97, 115, 116]⟩ : ByteArray), (⟨#[109, 111, 115, 116]⟩ : ByteArray)] w 1 = if aggW.getD 2 ByteArray.empty = w then some 1 else none := rfl
  have e3 : ixF [(⟨#[99, 111, 117, 110, 116]⟩ : ByteArray), (⟨#[115, 117, 109]⟩ : ByteArray), (⟨#[108, 101, 97, 115, 116]⟩ : ByteArray), (⟨#[109, 111, 115, 116]⟩ : ByteArray)] w 2 = if aggW.getD 3 ByteArray.empty = w then some 2 else none := rfl
  have e4 : ixF [(⟨#[99, 111, 117, 110, 116]⟩ : ByteArray), (⟨#[115, 117, 109]⟩ : ByteArray), (⟨#[108, 101, 97, 115, 116]⟩ : ByteArray), (⟨#[109, 111, 115, 116]⟩ : ByteArray)] w 3 = if aggW.getD 4 ByteArray.empty = w then some 3 else none := rfl
  simp only [List.findSome?, e1, e2, e3, e4]
  unfold aggN
  by_cases h1 : aggW.getD 1 ByteArray.empty = w
  · rw [if_pos h1, if_pos h1]; rfl
  · rw [if_neg h1, if_neg h1]
    by_cases h2 : aggW.getD 2 ByteArray.empty = w
    · rw [if_pos h2, if_pos h2]; rfl
    · rw [if_neg h2, if_neg h2]
      by_cases h3 : aggW.getD 3 ByteArray.empty = w
      · rw [if_pos h3, if_pos h3]; rfl
      · rw [if_neg h3, if_neg h3]
        by_cases h4 : aggW.getD 4 ByteArray.empty = w
        · rw [if_pos h4, if_pos h4]; rfl
        · rw [if_neg h4, if_neg h4]; rfl
theorem rAggI_word {l : Toks} {s : RS} (h0 : s.2.1 = 0) (h1 : (tk l s.1).1 = 1) : rAggI l s = aggN (tk l s.1).2.1 := by
  have e : ∀ w : ByteArray, rIs l w s = decide ((tk l s.1).2.1 = w) := fun w => by unfold rIs; rw [decide_eq_true h0, decide_eq_true h1]; simp
  have e2 : ∀ (w : ByteArray), ((decide ((tk l s.1).2.1 = w)) = true) = (w = (tk l s.1).2.1) := fun w => propext ⟨fun h => (of_decide_eq_true h).symm, fun h => decide_eq_true h.symm⟩
  unfold rAggI aggN
  simp only [e, e2]
theorem rAggI_else {l : Toks} {s : RS} (ho : TOk l) (h : s.1 < l.length) (h1 : (tk l s.1).1 ≠ 1) : rAggI l s = 0 := by
  have key : ∀ w : ByteArray, letN (bt w 0) = true → rIs l w s = false := by
    intro w hw
    unfold rIs
    by_cases h3 : (tk l s.1).1 = 3
    · have hs := ho.sign s.1 h h3
      have : (tk l s.1).2.1 ≠ w := fun e => by rw [e, hw] at hs; cases hs
      rw [decide_eq_false this]; simp
    · rw [decide_eq_false h1, decide_eq_false h3]; simp
  unfold rAggI
  rw [key (aggW.getD 1 ByteArray.empty) (by decide), key (aggW.getD 2 ByteArray.empty) (by decide), key (aggW.getD 3 ByteArray.empty) (by decide), key (aggW.getD 4 ByteArray.empty) (by decide)]
  rfl
theorem rAgg_st {l : Toks} {s : RS} {kind ag : Int} {of_ : ByteArray} (h : s.2.1 ≠ 0) : rAgg l kind s ag of_ = (false, s, ag, of_) := by
  have : rAggI l s = 0 := by unfold rAggI; rw [rIs_st h, rIs_st h, rIs_st h, rIs_st h]; rfl
  unfold rAgg
  rw [if_pos this]
theorem aggP_F [Esc R] (n : Nat) (l : Toks) (ho : TOk l) (s : RS) (h0 : s.2.1 = 0) (h : s.1 < l.length) (hn : 500 < n) (kind : Int) (hk : kind = 1 ∨ kind = 2 ∨ kind = 3) (nm : ByteArray) (ag : Int) (of_ : ByteArray) (lim : Int) (hd : List ByteArray) (bd : List ty51.D) (k : Bool → Toks → Int → Int → ByteArray → Int → ByteArray → Int → List ByteArray → List ty51.D → Option R) :
    parse_reader_agg_F n l (s.1 : Int) kind nm ag of_ lim hd bd k = endS (rAgg l kind s ag of_).2.1 (k (rAgg l kind s ag of_).1 l ((rAgg l kind s ag of_).2.1.1 : Int) kind nm (rAgg l kind s ag of_).2.2.1 (rAgg l kind s ag of_).2.2.2 lim hd bd) := by
  rw [parse_reader_agg_e]
  unfold parse_reader_agg_Fi
  rw [nowP_F n l s.1 h, aggIx_F n _ (by omega), nowP_F n l s.1 h]
  have hle := aggN_le (tk l s.1).2.1
  have hw : IntKind.i64.wrap ((aggN (tk l s.1).2.1 : Int) - 1 + 1) = (aggN (tk l s.1).2.1 : Int) := by rw [wrap_i64 (by omega) (by omega)]; omega
  simp only [hw]
  by_cases h1 : (tk l s.1).1 = 1
  · have e1 : ((tk l s.1).1 != 1) = false := by rw [bne_eq_false_iff_eq]; exact h1
    rw [if_neg (by rw [e1]; decide)]
    have ha := rAggI_word h0 h1
    unfold rAgg
    rw [ha]
    generalize aggN (tk l s.1).2.1 = a at hle ⊢
    by_cases a0 : a = 0
    · rw [if_pos (decide_eq_true (show (a : Int) < 1 by omega)), if_pos a0, endS_ok h0]
    · rw [if_neg (show ¬ decide ((a : Int) < 1) = true by simp; omega), if_neg a0]
      have hst : (rStep l s).2.1 = 0 := by rw [rStep_2]; exact h0
      have hlt := rStep_lt (l := l) h
      have tail : parse_reader_step_F n l (s.1 : Int) (fun y10 y11 y12 => if ((a : Int) != 1) = true then (parse_reader_name_F n y11 y12 (fun y13 y14 y15 => k true y14 y15 kind nm (a : Int) y13 lim hd bd)) else (k true y11 y12 kind nm (a : Int) of_ lim hd bd))
          = endS (if 1 < a then (true, (rName l (rStep l s)).2, (a : Int), (rName l (rStep l s)).1) else (true, rStep l s, (a : Int), of_) : Bool × RS × Int × ByteArray).2.1
            (k (if 1 < a then (true, (rName l (rStep l s)).2, (a : Int), (rName l (rStep l s)).1) else (true, rStep l s, (a : Int), of_) : Bool × RS × Int × ByteArray).1 l ((if 1 < a then (true, (rName l (rStep l s)).2, (a : Int), (rName l (rStep l s)).1) else (true, rStep l s, (a : Int), of_) : Bool × RS × Int × ByteArray).2.1.1 : Int) kind nm
              (if 1 < a then (true, (rName l (rStep l s)).2, (a : Int), (rName l (rStep l s)).1) else (true, rStep l s, (a : Int), of_) : Bool × RS × Int × ByteArray).2.2.1 (if 1 < a then (true, (rName l (rStep l s)).2, (a : Int), (rName l (rStep l s)).1) else (true, rStep l s, (a : Int), of_) : Bool × RS × Int × ByteArray).2.2.2 lim hd bd) := by
        rw [stepP_F n l ho s h]
        by_cases hg : 1 < a
        · have e2 : ((a : Int) != 1) = true := by rw [bne_iff_ne]; omega
          rw [if_pos e2, if_pos hg]
          exact nameP_F n l ho (rStep l s) hst hlt hn _
        · have e2 : ((a : Int) != 1) = false := by rw [bne_eq_false_iff_eq]; omega
          rw [if_neg (by rw [e2]; decide), if_neg hg, endS_ok hst]
      rcases hk with rfl | rfl | rfl
      · rw [if_neg (by decide), if_neg (by decide), if_pos (Or.inl rfl)]
        refine (mustP_F n false 7 (by decide) l s h0 h _).trans ?_
        have hb : (rFail 7 (atT l s) s).2.1 ≠ 0 := by rw [rFail_0 h0]; show (7 : Int) ≠ 0; decide
        exact (endS_bad hb _).trans (endS_bad hb _).symm
      · rw [if_pos (by decide), if_neg (by omega)]
        refine (mustP_F n true 7 (by decide) l s h0 h _).trans ?_
        rw [show rIf true 7 (atT l s) s = s from rfl, endS_ok h0]
        exact tail
      · rw [if_neg (by decide), if_pos (by decide)]
        refine (mustP_F n _ 7 (by decide) l s h0 h _).trans ?_
        by_cases hg : 2 < a
        · rw [if_pos (Or.inr ⟨rfl, hg⟩), decide_eq_false (show ¬ (a : Int) ≤ 2 by omega)]
          have hb : (rFail 7 (atT l s) s).2.1 ≠ 0 := by rw [rFail_0 h0]; show (7 : Int) ≠ 0; decide
          exact (endS_bad hb _).trans (endS_bad hb _).symm
        · rw [if_neg (by omega), decide_eq_true (show (a : Int) ≤ 2 by omega), show rIf true 7 (atT l s) s = s from rfl, endS_ok h0]
          exact tail
  · have e1 : ((tk l s.1).1 != 1) = true := bne_iff_ne.2 h1
    have ha := rAggI_else ho h h1
    have hr : rAgg l kind s ag of_ = (false, s, ag, of_) := by unfold rAgg; rw [if_pos ha]
    rw [if_pos e1, hr, endS_ok h0]
end Go.Proofs.YtnnbinmomendnaaGreatDoor.E
namespace Go.Proofs.YtnnbinmomendnaaGreatDoor.E
open Go.RowKit
variable {R : Type}
set_option maxRecDepth 100000
theorem rStep_ge (l : Toks) (s : RS) : s.1 ≤ (rStep l s).1 := by unfold rStep; simp only []; split <;> omega
theorem rTake_ge (l : Toks) (w : ByteArray) (s : RS) : s.1 ≤ (rTake l w s).2.1 := by unfold rTake; split; exact rStep_ge l s; exact Nat.le_refl _
/-- a step over what is not the end -/
theorem rStep_on {l : Toks} (ho : TOk l) {s : RS} (h : s.1 < l.length) (h4 : (tk l s.1).1 ≠ 4) : (rStep l s).1 = s.1 + 1 := by
  have hh := ho.last s.1 h
  unfold rStep
  exact if_pos (show s.1 + 1 < l.length from by
    have : ¬ s.1 + 1 = l.length := fun e => h4 (hh.2 e)
    omega)
theorem rIs_on {l : Toks} {w : ByteArray} {s : RS} (h : rIs l w s = true) : (tk l s.1).1 ≠ 4 := by
  unfold rIs at h
  intro e
  rw [e] at h
  simp at h
theorem rTake_on {l : Toks} (ho : TOk l) {w : ByteArray} {s : RS} (h : s.1 < l.length) (ht : (rTake l w s).1 = true) : (rTake l w s).2.1 = s.1 + 1 := by
  unfold rTake at ht ⊢
  split at ht
  · rename_i hi
    rw [if_pos hi]
    exact rStep_on ho h (rIs_on hi)
  · cases ht
theorem rNamed_on {l : Toks} {s : RS} (h : rNamed l s = true) : (tk l s.1).1 = 1 := by
  unfold rNamed isName at h
  simp only [Bool.and_eq_true, decide_eq_true_eq] at h
  exact h.2.1
theorem head_loopP [Esc R] (n : Nat) (l : Toks) (ho : TOk l) (hn : 500 < n) (kind : Int) (hk : kind = 1 ∨ kind = 2 ∨ kind = 3) (nm : ByteArray) (lim : Int) (bd : List ty51.D) (K : exK R (parse_reader_head_dx 4)) (ret : Toks → Int → Int → ByteArray → Int → ByteArray → Int → List ByteArray → List ty51.D → Option R)
    (hK1 : ∀ a b c d e f g h i, K.1 (a, b, c, d, e, f, g, h, i, ()) = ret a b c d e f g h i) (hK2 : ∀ a b c d e f g h i, K.2.1 (a, b, c, d, e, f, g, h, i, ()) = ret a b c d e f g h i) : ∀ (f m : Nat) (s : RS) (ag : Int) (of_ : ByteArray) (hd : List ByteArray), s.2.1 = 0 → s.1 < l.length → l.length ≤ s.1 + f → hd.length + f ≤ 2000 → f < m →
    runC (parse_reader_head_l4 n) m (l, (s.1 : Int), kind, nm, ag, of_, lim, hd, bd, ()) K = endS (rHeadL l kind f s ag of_ hd).1 (ret l ((rHeadL l kind f s ag of_ hd).1.1 : Int) kind nm (rHeadL l kind f s ag of_ hd).2.1 (rHeadL l kind f s ag of_ hd).2.2.1 lim (rHeadL l kind f s ag of_ hd).2.2.2 bd)
  | 0, m, s, ag, of_, hd, h0, h, hf, hh, hm => by omega
  | f + 1, m, s, ag, of_, hd, h0, h, hf, hh, hm => by
    obtain ⟨m, rfl⟩ : ∃ q, m = q + 1 := ⟨m - 1, by omega⟩
    refine (runC_s _ _ _ _).trans ?_
    simp only [parse_reader_head_l4, parse_reader_head_s4]
    refine (aggP_F n l ho s h0 h hn kind hk nm ag of_ lim hd bd _).trans ?_
    rw [rHeadL, if_pos h0]
    cases hb : (rAgg l kind s ag of_).1 with
    | true =>
      simp only [Bool.not_true, Bool.false_eq_true, if_false, if_true]
      exact endS_congr fun _ => hK2 _ _ _ _ _ _ _ _ _
    | false =>
      have hr : rAgg l kind s ag of_ = (false, s, ag, of_) := rAgg_no hb
      simp only [hr, Bool.not_false, if_true, Bool.false_eq_true, if_false]
      rw [endS_ok h0, namedP_F n l s h0 h hn]
      have gd : ∀ x : ByteArray, (List.length hd + List.length [x]) * 16 ≤ 140737488355328 := fun x => by simp only [List.length_cons, List.length_nil]; omega
      cases hn2 : rNamed l s with
      | true =>
        simp only [if_true]
        have h1 := rNamed_on hn2
        have hN : rName l s = ((tk l s.1).2.1, rStep l s) := by unfold rName; rw [if_pos hn2]
        have hst : (rStep l s).2.1 = 0 := by rw [rStep_2]; exact h0
        have hlt := rStep_lt (l := l) h
        have hon := rStep_on ho h (by rw [h1]; decide)
        refine (mustP_F n _ 9 (by decide) l s h0 h _).trans ?_
        by_cases hg : 40 ≤ hd.length
        · have hd9 : decide ((hd.length : Int) < 40) = false := decide_eq_false (by omega)
          rw [hd9]
          have hb1 : (rIf false 9 (atT l s) s).2.1 ≠ 0 := by show (rFail 9 (atT l s) s).2.1 ≠ 0; rw [rFail_0 h0]; show (9 : Int) ≠ 0; decide
          rw [endS_bad hb1]
          simp only [hg, if_true, hN]
          have e9 : rFail 9 (atT l s) (rStep l s) = ((rStep l s).1, 9, atT l s) := rFail_0 hst
          rw [e9]
          have hb2 : (((rStep l s).1, 9, atT l s) : RS).2.1 ≠ 0 := by show (9 : Int) ≠ 0; decide
          rw [rTake_st hb2]
          simp only [Bool.false_eq_true, if_false]
          rw [endS_bad hb2]
          show escW (rFail 9 (atT l s) s).2.1 (rFail 9 (atT l s) s).2.2 = _
          rw [rFail_0 h0]
        · have hd9 : decide ((hd.length : Int) < 40) = true := decide_eq_true (by omega)
          rw [hd9, show rIf true 9 (atT l s) s = s from rfl, endS_ok h0]
          refine (nameP_F n l ho s h0 h hn _).trans ?_
          simp only [hg, if_false, hN, gd, if_true]
          rw [endS_ok hst]
          refine (takeP_F n commaB l ho (rStep l s) hst hlt _).trans ?_
          have ht2 : (rTake l commaB (rStep l s)).2.2.1 = 0 := by rw [rTake_2]; exact hst
          cases ht : (rTake l commaB (rStep l s)).1 with
          | false =>
            simp only [Bool.not_false, if_true, Bool.false_eq_true, if_false]
            rw [endS_ok ht2]
            exact hK1 _ _ _ _ _ _ _ _ _
          | true =>
            simp only [Bool.not_true, if_true, Bool.false_eq_true, if_false]
            have hge := rTake_ge l commaB (rStep l s)
            exact head_loopP n l ho hn kind hk nm lim bd K ret hK1 hK2 f m (rTake l commaB (rStep l s)).2 ag of_ _ ht2 (rTake_lt _ hlt) (by omega) (by simp; omega) (by omega)
      | false =>
        simp only [Bool.false_eq_true, if_false]
        have hN : rName l s = ((⟨#[]⟩ : ByteArray), rFail 7 (tk l s.1).2.2.2.1 s) := by unfold rName; rw [if_neg (by rw [hn2]; decide)]
        have hb1 : (rFail 7 (tk l s.1).2.2.2.1 s).2.1 ≠ 0 := by rw [rFail_0 h0]; show (7 : Int) ≠ 0; decide
        refine (nameP_F n l ho s h0 h hn _).trans ?_
        simp only [hN]
        rw [endS_bad hb1]
        have e9 : (if 40 ≤ hd.length then rFail 9 (atT l s) (rFail 7 (tk l s.1).2.2.2.1 s) else rFail 7 (tk l s.1).2.2.2.1 s) = rFail 7 (tk l s.1).2.2.2.1 s := by rw [rFail_st hb1]; split <;> rfl
        simp only [e9]
        rw [rTake_st hb1]
        simp only [Bool.false_eq_true, if_false]
        exact (endS_bad hb1 _).symm
theorem headP_F [Esc R] (n : Nat) (l : Toks) (ho : TOk l) (s : RS) (h0 : s.2.1 = 0) (h : s.1 < l.length) (hn : 500 < n) (kind : Int) (hk : kind = 1 ∨ kind = 2 ∨ kind = 3) (nm : ByteArray) (ag : Int) (of_ : ByteArray) (lim : Int) (hd : List ByteArray) (hh : hd.length ≤ 1000) (bd : List ty51.D) (k : Toks → Int → Int → ByteArray → Int → ByteArray → Int → List ByteArray → List ty51.D → Option R) :
    parse_reader_head_F n l (s.1 : Int) kind nm ag of_ lim hd bd k = endS (rHead l kind s ag of_ hd).1 (k l ((rHead l kind s ag of_ hd).1.1 : Int) kind nm (rHead l kind s ag of_ hd).2.1 (rHead l kind s ag of_ hd).2.2.1 lim (rHead l kind s ag of_ hd).2.2.2 bd) := by
  rw [parse_reader_head_e]
  unfold parse_reader_head_Fi
  by_cases hk3 : kind = 3
  · subst hk3
    rw [if_pos (by decide)]
    have hH : rHead l 3 s ag of_ hd = ((if (rAgg l 3 (rMust l commaB (rName l s).2) ag of_).1 = true then (rAgg l 3 (rMust l commaB (rName l s).2) ag of_).2.1 else rFail 7 (atT l (rAgg l 3 (rMust l commaB (rName l s).2) ag of_).2.1) (rAgg l 3 (rMust l commaB (rName l s).2) ag of_).2.1),
      (rAgg l 3 (rMust l commaB (rName l s).2) ag of_).2.2.1, (rAgg l 3 (rMust l commaB (rName l s).2) ag of_).2.2.2, hd ++ [(rName l s).1]) := by unfold rHead; rw [if_pos rfl]
    rw [hH]
    refine (nameP_F n l ho s h0 h hn _).trans ?_
    have h1 := rName_lt (l := l) h
    have gd : (List.length hd + List.length [(rName l s).1]) * 16 ≤ 140737488355328 := by simp only [List.length_cons, List.length_nil]; omega
    generalize rName l s = a1 at h1 gd ⊢
    simp only [gd, if_true]
    refine (endS_congr fun g1 => wantP_F n commaB l ho a1.2 g1 h1 _).trans ?_
    rw [endS_then (fun g => by rw [rMust_st g])]
    have h2 := rMust_lt (l := l) commaB h1
    generalize hs2 : rMust l commaB a1.2 = s2 at h2 ⊢
    refine (endS_congr fun g2 => aggP_F n l ho s2 g2 h2 hn 3 (.inr (.inr rfl)) nm ag of_ lim (hd ++ [a1.1]) bd _).trans ?_
    rw [endS_then (fun g => by rw [rAgg_st g])]
    have h3 := rAgg_lt (l := l) 3 ag of_ h2
    generalize rAgg l 3 s2 ag of_ = q at h3 ⊢
    refine (endS_congr fun g3 => mustP_F n q.1 7 (by decide) l q.2.1 g3 h3 _).trans ?_
    rw [endS_then (fun g => by rw [rIf_st g])]
    have e : rIf q.1 7 (atT l q.2.1) q.2.1 = if q.1 = true then q.2.1 else rFail 7 (atT l q.2.1) q.2.1 := by cases q.1 <;> rfl
    have e1 : (if q.1 = true then q.2.1 else rFail 7 (atT l q.2.1) q.2.1).1 = q.2.1.1 := by rw [← e, rIf_at]
    simp only [e, e1]
  · have b : (kind == 3) = false := by simp [hk3]
    have hH : rHead l kind s ag of_ hd = rHeadL l kind 400 s ag of_ hd := by unfold rHead; rw [if_neg hk3]
    rw [if_neg (by rw [b]; decide), hH]
    have := ho.len
    exact head_loopP n l ho hn kind hk nm lim bd _ k (fun _ _ _ _ _ _ _ _ _ => rfl) (fun _ _ _ _ _ _ _ _ _ => rfl) 400 n s ag of_ hd h0 h (by omega) (by omega) (by omega)
theorem rHeadL_st {l : Toks} {s : RS} {kind ag : Int} {of_ : ByteArray} {hd : List ByteArray} (f : Nat) (h : s.2.1 ≠ 0) : rHeadL l kind f s ag of_ hd = (s, ag, of_, hd) := by
  cases f with
  | zero => rfl
  | succ f => rw [rHeadL, if_neg h]
theorem rHead_st {l : Toks} {s : RS} {kind ag : Int} {of_ : ByteArray} {hd : List ByteArray} (h : s.2.1 ≠ 0) : (rHead l kind s ag of_ hd).1 = s := by
  unfold rHead
  split
  · simp only [rName_st h, rMust_st h, rAgg_st h]
    simp only [Bool.false_eq_true, if_false]
    exact rFail_st h
  · rw [rHeadL_st 400 h]
end Go.Proofs.YtnnbinmomendnaaGreatDoor.E
namespace Go.Proofs.YtnnbinmomendnaaGreatDoor.E
open Go.RowKit
variable {R : Type}
set_option maxRecDepth 100000
theorem rTerm_st {l : Toks} {s : RS} (h : s.2.1 ≠ 0) : (rTerm l s).2 = s := by unfold rTerm; rw [if_neg (fun g => h g.1)]; simp only [rName_st h]
theorem termP_F [Esc R] (n : Nat) (l : Toks) (ho : TOk l) (s : RS) (h0 : s.2.1 = 0) (h : s.1 < l.length) (hn : 500 < n) (k : ty48.D → Toks → Int → Option R) : parse_reader_term_F n l (s.1 : Int) k = endS (rTerm l s).2 (k (rTerm l s).1 l ((rTerm l s).2.1 : Int)) := by
  rw [parse_reader_term_e]
  unfold parse_reader_term_Fi
  rw [nowP_F n l s.1 h]
  unfold rTerm
  by_cases h2 : (tk l s.1).1 = 2
  · rw [if_pos (by rw [h2]; rfl), if_pos ⟨h0, h2⟩, stepP_F n l ho s h, endS_ok (by rw [rStep_2]; exact h0)]
  · rw [if_neg (by simpa using h2), if_neg (fun g => h2 g.2)]
    exact nameP_F n l ho s h0 h hn _
/-- an argument, that may be one too many -/
def rArgM (l : Toks) (many : Nat) (s : RS) : RS := if 40 < many + 1 then rFail 9 (atT l s) (rArg l s).2 else (rArg l s).2
theorem rArgM_lt {l : Toks} (many : Nat) {s : RS} (h : s.1 < l.length) : (rArgM l many s).1 < l.length := by unfold rArgM; split; exact rFail_lt _ _ (rArg_lt h); exact rArg_lt h
theorem argP_F [Esc R] (n : Nat) (many : Nat) (l : Toks) (ho : TOk l) (s : RS) (h0 : s.2.1 = 0) (h : s.1 < l.length) (hn : 500 < n) (k : ty48.D → Toks → Int → Option R) : parse_reader_arg_F n (many : Int) l (s.1 : Int) k = endS (rArgM l many s) (k (rArg l s).1 l ((rArgM l many s).1 : Int)) := by
  rw [parse_reader_arg_e]
  unfold parse_reader_arg_Fi
  rw [isP_F n _ l s h0 h]
  have hplace : (rArgM l many s).1 = (rArg l s).2.1 := by unfold rArgM; split; exact rFail_at _ _ _; rfl
  rw [hplace]
  -- what follows, when one more may stand there
  have tail : (parse_reader_take_F n (⟨#[95]⟩ : ByteArray) l (s.1 : Int) (fun y6 y7 y8 => if y6 = true then (k ((⟨#[]⟩ : ByteArray), true, (0, false, 0, (⟨#[]⟩ : ByteArray), ()), ()) y7 y8) else (parse_reader_term_F n y7 y8 (fun y9 y10 y11 => k y9 y10 y11)))) = endS (rArg l s).2 (k (rArg l s).1 l ((rArg l s).2.1 : Int)) := by
    refine (takeP_F n anyB l ho s h0 h _).trans ?_
    unfold rArg rTake
    cases hi : rIs l anyB s with
    | true =>
      simp only [if_true]
      rw [endS_ok (by rw [rStep_2]; exact h0)]
      rfl
    | false =>
      simp only [Bool.false_eq_true, if_false]
      exact termP_F n l ho s h0 h hn _
  have must : (rArg l s).2.2.1 = 0 → (parse_reader_must_F n (decide ((many : Int) < 40)) 9 l (s.1 : Int) (fun y4 y5 => parse_reader_take_F n (⟨#[95]⟩ : ByteArray) y4 y5 (fun y6 y7 y8 => if y6 = true then (k ((⟨#[]⟩ : ByteArray), true, (0, false, 0, (⟨#[]⟩ : ByteArray), ()), ()) y7 y8) else (parse_reader_term_F n y7 y8 (fun y9 y10 y11 => k y9 y10 y11))))) = endS (rArgM l many s) (k (rArg l s).1 l ((rArg l s).2.1 : Int)) := by
    intro hok
    refine (mustP_F n _ 9 (by decide) l s h0 h _).trans ?_
    unfold rArgM
    by_cases hg : 40 < many + 1
    · rw [if_pos hg, decide_eq_false (show ¬ (many : Int) < 40 by omega)]
      show endS (rFail 9 (atT l s) s) _ = _
      have e1 : rFail 9 (atT l s) s = (s.1, 9, atT l s) := rFail_0 h0
      have e2 : rFail 9 (atT l s) (rArg l s).2 = ((rArg l s).2.1, 9, atT l s) := rFail_0 hok
      rw [e1, e2, endS_bad (by show (9 : Int) ≠ 0; decide), endS_bad (by show (9 : Int) ≠ 0; decide)]
    · rw [if_neg hg, decide_eq_true (show (many : Int) < 40 by omega)]
      show endS s _ = _
      rw [endS_ok h0]
      exact tail
  cases hi : rIs l (⟨#[95]⟩ : ByteArray) s with
  | true =>
    have hi' : rIs l anyB s = true := hi
    rw [if_pos rfl]
    exact must (by unfold rArg; rw [if_pos hi', rStep_2]; exact h0)
  | false =>
    have hi' : rIs l anyB s = false := hi
    have hA : rArg l s = rTerm l s := by unfold rArg; rw [if_neg (by rw [hi']; decide)]
    rw [if_neg (by decide), namedP_F n l s h0 h hn]
    cases hnm : rNamed l s with
    | true =>
      have h1 := rNamed_on hnm
      rw [if_pos rfl]
      exact must (by rw [hA]; unfold rTerm; rw [if_neg (fun g => by have := g.2; rw [h1] at this; cases this)]; unfold rName; rw [if_pos hnm, rStep_2]; exact h0)
    | false =>
      rw [if_neg (by decide), nowP_F n l s.1 h]
      by_cases h2 : (tk l s.1).1 = 2
      · rw [if_pos (by rw [h2]; rfl)]
        exact must (by rw [hA]; unfold rTerm; rw [if_pos ⟨h0, h2⟩, rStep_2]; exact h0)
      · rw [if_neg (by simpa using h2)]
        refine tail.trans ?_
        have hb : (rArg l s).2.2.1 ≠ 0 := by
          rw [hA]
          unfold rTerm
          rw [if_neg (fun g => h2 g.2)]
          unfold rName
          rw [if_neg (by rw [hnm]; decide)]
          simp only
          rw [rFail_0 h0]
          show (7 : Int) ≠ 0
          decide
        have e : rArgM l many s = (rArg l s).2 := by unfold rArgM; rw [rFail_st hb]; split <;> rfl
        rw [e]
theorem rArgsL_s (l : Toks) (f : Nat) (s : RS) (acc : List ty48.D) (h0 : s.2.1 = 0) : rArgsL l (f + 1) s acc = if (rTake l commaB (rArgM l acc.length s)).1 = true then rArgsL l f (rTake l commaB (rArgM l acc.length s)).2 (acc ++ [(rArg l s).1]) else (rMust l rparB (rTake l commaB (rArgM l acc.length s)).2, acc ++ [(rArg l s).1]) := by
  rw [rArgsL, if_pos h0]
  rfl
theorem args_loopP [Esc R] (n : Nat) (l : Toks) (ho : TOk l) (hn : 500 < n) (K : exK R (parse_reader_args_dx 4)) (ret : Toks → Int → List ty48.D → Option R)
    (hK : ∀ (s : RS) (acc : List ty48.D), s.2.1 = 0 → s.1 < l.length → K.1 (l, (s.1 : Int), acc, ()) = endS (rMust l rparB s) (ret l ((rMust l rparB s).1 : Int) acc)) : ∀ (f m : Nat) (s : RS) (acc : List ty48.D), s.2.1 = 0 → s.1 < l.length → l.length ≤ s.1 + f → acc.length + f ≤ 2000 → f < m →
    runC (parse_reader_args_l4 n) m (l, (s.1 : Int), acc, ()) K = endS (if (rTake l commaB s).1 = true then rArgsL l f (rTake l commaB s).2 acc else (rMust l rparB (rTake l commaB s).2, acc)).1
      (ret l ((if (rTake l commaB s).1 = true then rArgsL l f (rTake l commaB s).2 acc else (rMust l rparB (rTake l commaB s).2, acc)).1.1 : Int) (if (rTake l commaB s).1 = true then rArgsL l f (rTake l commaB s).2 acc else (rMust l rparB (rTake l commaB s).2, acc)).2)
  | 0, m, s, acc, h0, h, hf, hh, hm => by omega
  | f + 1, m, s, acc, h0, h, hf, hh, hm => by
    obtain ⟨m, rfl⟩ : ∃ q, m = q + 1 := ⟨m - 1, by omega⟩
    refine (runC_s _ _ _ _).trans ?_
    simp only [parse_reader_args_l4, parse_reader_args_s4]
    refine (takeP_F n commaB l ho s h0 h _).trans ?_
    have ht2 : (rTake l commaB s).2.2.1 = 0 := by rw [rTake_2]; exact h0
    have htl := rTake_lt (l := l) commaB h
    cases ht : (rTake l commaB s).1 with
    | false =>
      simp only [Bool.false_eq_true, if_false]
      exact hK _ _ ht2 htl
    | true =>
      simp only [if_true]
      have hon := rTake_on ho h ht
      generalize (rTake l commaB s).2 = t at ht2 htl hon ⊢
      refine (argP_F n acc.length l ho t ht2 htl hn _).trans ?_
      rw [rArgsL_s l f t acc ht2]
      have gd : (List.length acc + List.length [(rArg l t).1]) * 64 ≤ 140737488355328 := by simp only [List.length_cons, List.length_nil]; omega
      simp only [gd, if_true]
      have hml := rArgM_lt (l := l) acc.length htl
      have hge : t.1 ≤ (rArgM l acc.length t).1 := by
        unfold rArgM rArg rTerm rName
        split <;> (try rw [rFail_at]) <;> (split; exact rStep_ge l t; split; exact rStep_ge l t; split; exact rStep_ge l t; rw [rFail_at]; exact Nat.le_refl _)
      generalize rArgM l acc.length t = q at hml hge ⊢
      by_cases hq : q.2.1 = 0
      · rw [endS_ok hq]
        exact args_loopP n l ho hn K ret hK f m q _ hq hml (by omega) (by simp; omega) (by omega)
      · rw [endS_bad hq, rTake_st hq]
        simp only [Bool.false_eq_true, if_false]
        rw [rMust_st hq, endS_bad hq]
theorem rArgsL_st {l : Toks} {s : RS} {acc : List ty48.D} (f : Nat) (h : s.2.1 ≠ 0) : rArgsL l f s acc = (s, acc) := by
  cases f with
  | zero => rfl
  | succ f => rw [rArgsL, if_neg h]
theorem rArgs_st {l : Toks} {s : RS} (h : s.2.1 ≠ 0) : (rArgs l s).1 = s := by
  unfold rArgs
  rw [rTake_st h]
  simp only [Bool.false_eq_true, if_false]
  rw [rArgsL_st 400 h]
theorem argsP_F [Esc R] (n : Nat) (l : Toks) (ho : TOk l) (s : RS) (h0 : s.2.1 = 0) (h : s.1 < l.length) (hn : 500 < n) (k : Toks → Int → List ty48.D → Option R) : parse_reader_args_F n l (s.1 : Int) k = endS (rArgs l s).1 (k l ((rArgs l s).1.1 : Int) (rArgs l s).2) := by
  rw [parse_reader_args_e]
  unfold parse_reader_args_Fi rArgs
  refine (takeP_F n rparB l ho s h0 h _).trans ?_
  have ht2 : (rTake l rparB s).2.2.1 = 0 := by rw [rTake_2]; exact h0
  have htl := rTake_lt (l := l) rparB h
  cases ht : (rTake l rparB s).1 with
  | true =>
    simp only [if_true]
    rw [endS_ok ht2]
  | false =>
    simp only [Bool.false_eq_true, if_false]
    generalize (rTake l rparB s).2 = t at ht2 htl ⊢
    refine (argP_F n 0 l ho t ht2 htl hn _).trans ?_
    rw [show (400 : Nat) = 399 + 1 from rfl, rArgsL_s l 399 t [] ht2]
    simp only [List.length_nil, List.nil_append]
    have hml := rArgM_lt (l := l) 0 htl
    have hlen := ho.len
    generalize rArgM l 0 t = q at hml ⊢
    by_cases hq : q.2.1 = 0
    · rw [endS_ok hq]
      exact args_loopP n l ho hn _ k (fun s2 acc h02 h2 => wantP_F n rparB l ho s2 h02 h2 _) 399 n q [(rArg l t).1] hq hml (by omega) (by simp) (by omega)
    · rw [endS_bad hq, rTake_st hq]
      simp only [Bool.false_eq_true, if_false]
      rw [rMust_st hq, endS_bad hq]
theorem atomP_F [Esc R] (n : Nat) (b : Bool) (atoms : Int) (l : Toks) (ho : TOk l) (s : RS) (h0 : s.2.1 = 0) (h : s.1 < l.length) (hn : 500 < n) (k : ty51.D → Toks → Int → Option R) : parse_reader_atom_F n b atoms l (s.1 : Int) k = endS (rAtom l atoms b (atT l s) s).2 (k (rAtom l atoms b (atT l s) s).1 l ((rAtom l atoms b (atT l s) s).2.1 : Int)) := by
  rw [parse_reader_atom_e]
  unfold parse_reader_atom_Fi
  refine (nameP_F n l ho s h0 h hn _).trans ?_
  have hA : rAtom l atoms b (atT l s) s = ((b, (rName l s).1, (rArgs l (rAtomS l atoms b (atT l s) s)).2, 0, ()), (rArgs l (rAtomS l atoms b (atT l s) s)).1) := rfl
  have hS : rAtomS l atoms b (atT l s) s = if b = false ∧ 6 ≤ atoms then rFail 9 (atT l s) (rMust l lparB (rName l s).2) else rMust l lparB (rName l s).2 := rfl
  rw [hA]
  have h1 := rName_lt (l := l) h
  generalize rName l s = a1 at h1 hS ⊢
  refine (endS_congr fun g1 => wantP_F n lparB l ho a1.2 g1 h1 _).trans ?_
  rw [endS_then (fun g => by rw [rMust_st g])]
  have h2 := rMust_lt (l := l) lparB h1
  generalize rMust l lparB a1.2 = s2 at h2 hS ⊢
  have atP : (0 : Int) ≤ (s.1 : Int) ∧ (s.1 : Int) < (l.length : Int) := by omega
  by_cases hc : b = false ∧ 6 ≤ atoms
  · obtain ⟨rfl, h6⟩ := hc
    rw [if_pos ⟨rfl, h6⟩] at hS
    rw [hS]
    simp only [Bool.not_false, if_true, atP, and_self]
    rw [if_pos (decide_eq_true (show atoms ≥ 6 from h6))]
    by_cases g2 : s2.2.1 = 0
    · rw [endS_ok g2]
      have e : rFail 9 (atT l s) s2 = (s2.1, 9, atT l s) := rFail_0 g2
      have hb : (rFail 9 (atT l s) s2).2.1 ≠ 0 := by rw [e]; show (9 : Int) ≠ 0; decide
      rw [rArgs_st hb, endS_bad hb, e, Int.toNat_natCast]
      rfl
    · rw [endS_bad g2, rFail_st g2, rArgs_st g2, endS_bad g2]
  · rw [if_neg hc] at hS
    rw [hS]
    refine Eq.trans (endS_congr (k' := endS (rArgs l s2).1 (k (b, a1.1, (rArgs l s2).2, 0, ()) l ((rArgs l s2).1.1 : Int))) fun g2 => ?_) (endS_then fun g => by rw [rArgs_st g])
    cases b with
    | true =>
      simp only [Bool.not_true, Bool.false_eq_true, if_false]
      exact argsP_F n l ho s2 g2 h2 hn _
    | false =>
      have h6 : ¬ atoms ≥ 6 := fun g => hc ⟨rfl, g⟩
      simp only [Bool.not_false, if_true]
      rw [if_neg (by simpa using h6)]
      exact argsP_F n l ho s2 g2 h2 hn _
end Go.Proofs.YtnnbinmomendnaaGreatDoor.E
namespace Go.Proofs.YtnnbinmomendnaaGreatDoor.E
open Go.RowKit
variable {R : Type}
set_option maxRecDepth 100000
theorem rMust_ge (l : Toks) (w : ByteArray) (s : RS) : s.1 ≤ (rMust l w s).1 := by unfold rMust; split; exact rTake_ge l w s; rw [rFail_at]; exact Nat.le_refl _
theorem rName_ge (l : Toks) (s : RS) : s.1 ≤ (rName l s).2.1 := by unfold rName; split; exact rStep_ge l s; rw [rFail_at]; exact Nat.le_refl _
theorem rTerm_ge (l : Toks) (s : RS) : s.1 ≤ (rTerm l s).2.1 := by unfold rTerm; split; exact rStep_ge l s; exact rName_ge l s
theorem rArg_ge (l : Toks) (s : RS) : s.1 ≤ (rArg l s).2.1 := by unfold rArg; split; exact rStep_ge l s; exact rTerm_ge l s
theorem rArgsL_ge (l : Toks) : ∀ (f : Nat) (s : RS) (acc : List ty48.D), s.1 ≤ (rArgsL l f s acc).1.1
  | 0, s, acc => Nat.le_refl _
  | f + 1, s, acc => by
    unfold rArgsL
    split
    · have h1 : s.1 ≤ (if 40 < acc.length + 1 then rFail 9 (atT l s) (rArg l s).2 else (rArg l s).2).1 := by split; rw [rFail_at]; exact rArg_ge l s; exact rArg_ge l s
      have h2 := rTake_ge l commaB (if 40 < acc.length + 1 then rFail 9 (atT l s) (rArg l s).2 else (rArg l s).2)
      generalize (if 40 < acc.length + 1 then rFail 9 (atT l s) (rArg l s).2 else (rArg l s).2) = x at h1 h2 ⊢
      split
      · exact Nat.le_trans (Nat.le_trans h1 h2) (rArgsL_ge l f _ _)
      · exact Nat.le_trans (Nat.le_trans h1 h2) (rMust_ge l rparB _)
    · exact Nat.le_refl _
theorem rArgs_ge (l : Toks) (s : RS) : s.1 ≤ (rArgs l s).1.1 := by
  unfold rArgs
  split
  · exact rTake_ge l rparB s
  · exact Nat.le_trans (rTake_ge l rparB s) (rArgsL_ge l 400 _ _)
theorem rAtom_ge (l : Toks) (atoms : Int) (b : Bool) (at_ : Int) (s : RS) : s.1 ≤ (rAtom l atoms b at_ s).2.1 := by
  unfold rAtom rAtomS
  refine Nat.le_trans ?_ (rArgs_ge l _)
  have h := Nat.le_trans (rName_ge l s) (rMust_ge l lparB (rName l s).2)
  split
  · rw [rFail_at]; exact h
  · exact h
theorem rCmpS_at (l : Toks) (s : RS) : (rCmpS l s).1 = s.1 := by unfold rCmpS; split; exact rFail_at _ _ _; rfl
theorem rCmp_ge (l : Toks) (b : Bool) (s : RS) : s.1 ≤ (rCmp l b s).2.1 := by
  unfold rCmp
  refine Nat.le_trans ?_ (rTerm_ge l _)
  refine Nat.le_trans ?_ (rStep_ge l _)
  rw [rCmpS_at]
  exact rTerm_ge l s
theorem rLit_ge (l : Toks) (atoms : Int) (s : RS) : s.1 ≤ (rLit l atoms s).2.1 := by
  unfold rLit
  have h := rTake_ge l notB s
  split
  · exact Nat.le_trans h (rAtom_ge l _ _ _ _)
  · refine Nat.le_trans h (Nat.le_trans ?_ (rCmp_ge l _ _))
    split
    · rw [rFail_at]; exact Nat.le_refl _
    · exact Nat.le_refl _
theorem rCmpS_st {l : Toks} {s : RS} (h : s.2.1 ≠ 0) : rCmpS l s = s := by unfold rCmpS; rw [rFail_st h]; split <;> rfl
theorem rCmp_st {l : Toks} {b : Bool} {s : RS} (h : s.2.1 ≠ 0) : (rCmp l b s).2.2 = s.2 := by
  unfold rCmp
  simp only [rTerm_st h, rCmpS_st h]
  have : (rStep l s).2.1 ≠ 0 := by rw [rStep_2]; exact h
  rw [rTerm_st this]
  rfl
theorem rLit_st {l : Toks} {atoms : Int} {s : RS} (h : s.2.1 ≠ 0) : (rLit l atoms s).2.2 = s.2 := by
  unfold rLit
  rw [rTake_st h]
  simp only [rNamed_st h, Bool.false_eq_true, false_and, if_false]
  exact rCmp_st h
theorem opL_F (n : Nat) (w : ByteArray) (hn : 20 < n) (k : Int → Option R) : lex_Op_F n w k = k (opS w) := by
  rw [lex_Op_e]
  unfold lex_Op_Fi
  refine (runC_scan (R := R) (ρ := Nat) (step := lex_Op_l2 n) (fun b2 => k b2.1, fun b2 => k 0, ()) (fun i => k ((i + 1 : Nat) : Int)) (k 0) (fun i => if sgnW.getD (i + 1) ByteArray.empty = w then some i else none) (fun i => (w, ((i + 1 : Nat) : Int), ())) 6 (fun i hi k1 => ?_) (fun k1 => ?_) (n := n) (by omega)).trans ?_
  · have c : ((i + 1 : Nat) : Int) ≤ 6 := by omega
    have hs : sgnP ((i + 1 : Nat) : Int) = sgnW.getD (i + 1) ByteArray.empty := by
      unfold sgnP
      rw [if_pos (by omega), Int.toNat_natCast]
      rfl
    have hF : ∀ k : ByteArray → Option R, lex_Sgn_F n ((i + 1 : Nat) : Int) k = k (sgnP ((i + 1 : Nat) : Int)) := fun k => by
      rw [lex_Sgn_e]
      unfold lex_Sgn_Fi
      rw [if_pos trivial]
    simp only [lex_Op_l2, lex_Op_s2, c, decide_true, if_true, hF, beqB, hs, wrap_succ (i + 1) (by omega)]
    by_cases h : sgnW.getD (i + 1) ByteArray.empty = w
    · rw [if_pos (decide_eq_true h), if_pos h]
    · rw [if_neg (by simpa using h), if_neg h]
  · simp [lex_Op_l2, lex_Op_s2]
  · unfold opS
    cases (List.range 6).findSome? (fun i => if sgnW.getD (i + 1) ByteArray.empty = w then some i else none) <;> rfl
theorem opS_ge (w : ByteArray) : 0 ≤ opS w := by unfold opS; split <;> omega
theorem cmpP_F [Esc R] (n : Nat) (l : Toks) (ho : TOk l) (s : RS) (h0 : s.2.1 = 0) (h : s.1 < l.length) (hn : 500 < n) (k : ty51.D → Toks → Int → Option R) :
    (parse_reader_term_F n l (s.1 : Int) (fun y13 y14 y15 => parse_reader_now_F n y14 y15 (fun y16 y17 y18 => lex_Op_F n y16.2.1 (fun y19 => parse_reader_now_F n y17 y18 (fun y20 y21 y22 => if (y20.1 == 3) = true then (parse_reader_must_F n (decide (y19 > 0)) 7 y21 y22 (fun y23 y24 => parse_reader_step_F n y23 y24 (fun y25 y26 y27 => parse_reader_term_F n y26 y27 (fun y28 y29 y30 => k (false, (⟨#[]⟩ : ByteArray), [y13, y28], y19, ()) y29 y30)))) else (parse_reader_must_F n false 7 y21 y22 (fun y31 y32 => parse_reader_step_F n y31 y32 (fun y33 y34 y35 => parse_reader_term_F n y34 y35 (fun y36 y37 y38 => k (false, (⟨#[]⟩ : ByteArray), [y13, y36], y19, ()) y37 y38))))))))) =
      endS (rCmp l false s).2 (k (rCmp l false s).1 l ((rCmp l false s).2.1 : Int)) := by
  refine (termP_F n l ho s h0 h hn _).trans ?_
  have hC : rCmp l false s = ((false, (⟨#[]⟩ : ByteArray), [(rTerm l s).1, (rTerm l (rStep l (rCmpS l (rTerm l s).2))).1], opS (tk l (rTerm l s).2.1).2.1, ()), (rTerm l (rStep l (rCmpS l (rTerm l s).2))).2) := rfl
  rw [hC]
  have h1 := rTerm_lt (l := l) h
  generalize rTerm l s = a1 at h1 ⊢
  obtain ⟨x1, s1⟩ := a1
  simp only at h1 ⊢
  have hsplit : ∀ g1 : s1.2.1 = 0, (parse_reader_now_F n l (s1.1 : Int) (fun y16 y17 y18 => lex_Op_F n y16.2.1 (fun y19 => parse_reader_now_F n y17 y18 (fun y20 y21 y22 => if (y20.1 == 3) = true then (parse_reader_must_F n (decide (y19 > 0)) 7 y21 y22 (fun y23 y24 => parse_reader_step_F n y23 y24 (fun y25 y26 y27 => parse_reader_term_F n y26 y27 (fun y28 y29 y30 => k (false, (⟨#[]⟩ : ByteArray), [x1, y28], y19, ()) y29 y30)))) else (parse_reader_must_F n false 7 y21 y22 (fun y31 y32 => parse_reader_step_F n y31 y32 (fun y33 y34 y35 => parse_reader_term_F n y34 y35 (fun y36 y37 y38 => k (false, (⟨#[]⟩ : ByteArray), [x1, y36], y19, ()) y37 y38)))))))) = endS (rCmpS l s1) (parse_reader_step_F n l (s1.1 : Int) (fun y25 y26 y27 => parse_reader_term_F n y26 y27 (fun y28 y29 y30 => k (false, (⟨#[]⟩ : ByteArray), [x1, y28], opS (tk l s1.1).2.1, ()) y29 y30))) := by
    intro g1
    rw [nowP_F n l s1.1 h1, opL_F n _ (by omega), nowP_F n l s1.1 h1]
    have hge := opS_ge (tk l s1.1).2.1
    unfold rCmpS
    by_cases h3 : (tk l s1.1).1 = 3
    · rw [if_pos (by rw [h3]; rfl)]
      refine (mustP_F n _ 7 (by decide) l s1 g1 h1 _).trans ?_
      by_cases ho0 : opS (tk l s1.1).2.1 = 0
      · rw [if_pos (Or.inr ho0), decide_eq_false (show ¬ opS (tk l s1.1).2.1 > 0 by omega)]
        rfl
      · rw [if_neg (fun g => g.elim (fun g => g h3) ho0), decide_eq_true (show opS (tk l s1.1).2.1 > 0 by omega)]
        rfl
    · rw [if_neg (by simpa using h3), if_pos (Or.inl h3)]
      exact mustP_F n false 7 (by decide) l s1 g1 h1 _
  refine (endS_congr hsplit).trans ?_
  rw [endS_then (fun g => by rw [rCmpS_st g])]
  have hat := rCmpS_at l s1
  have h2 : (rCmpS l s1).1 < l.length := by rw [hat]; exact h1
  rw [← hat]
  generalize rCmpS l s1 = s2 at h2 ⊢
  refine Eq.trans (endS_congr (k' := endS (rTerm l (rStep l s2)).2 (k (false, (⟨#[]⟩ : ByteArray), [x1, (rTerm l (rStep l s2)).1], opS (tk l s2.1).2.1, ()) l ((rTerm l (rStep l s2)).2.1 : Int))) fun g2 => ?_) (endS_then fun g => ?_)
  · rw [stepP_F n l ho s2 h2]
    exact termP_F n l ho (rStep l s2) (by rw [rStep_2]; exact g2) (rStep_lt h2) hn _
  · have : (rStep l s2).2.1 ≠ 0 := by rw [rStep_2]; exact g
    rw [rTerm_st this]
    rfl
theorem minI_ix {l : Toks} (ho : TOk l) {i : Nat} (h : i < l.length) : minI (IntKind.i64.wrap ((i : Int) + 1)) (IntKind.i64.wrap ((l.length : Int) - 1)) = ((if i + 1 < l.length then i + 1 else i : Nat) : Int) := by
  have hl := ho.len
  rw [wrap_succ i (by omega), wrap_i64 (by omega) (by omega)]
  unfold minI
  split
  · split <;> omega
  · split <;> omega
theorem litP_F [Esc R] (n : Nat) (atoms : Int) (l : Toks) (ho : TOk l) (s : RS) (h0 : s.2.1 = 0) (h : s.1 < l.length) (hn : 500 < n) (k : ty51.D → Toks → Int → Option R) : parse_reader_literal_F n atoms l (s.1 : Int) k = endS (rLit l atoms s).2 (k (rLit l atoms s).1 l ((rLit l atoms s).2.1 : Int)) := by
  rw [parse_reader_literal_e]
  unfold parse_reader_literal_Fi
  refine (takeP_F n notB l ho s h0 h _).trans ?_
  have ht2 : (rTake l notB s).2.2.1 = 0 := by rw [rTake_2]; exact h0
  have htl := rTake_lt (l := l) notB h
  have hL : rLit l atoms s = if rNamed l (rTake l notB s).2 = true ∧ ((rTake l notB s).1 = true ∨ rPar l (rTake l notB s).2 = true) then rAtom l atoms (rTake l notB s).1 (atT l (rTake l notB s).2) (rTake l notB s).2
    else rCmp l (rTake l notB s).1 (if (rTake l notB s).1 = true then rFail 7 (atT l (rTake l notB s).2) (rTake l notB s).2 else (rTake l notB s).2) := rfl
  rw [hL]
  generalize rTake l notB s = q at ht2 htl ⊢
  obtain ⟨b, t⟩ := q
  simp only at ht2 htl ⊢
  cases b with
  | true =>
    simp only [if_true, true_or, and_true]
    refine (atomP_F n true atoms l ho t ht2 htl hn _).trans ?_
    by_cases hnm : rNamed l t = true
    · rw [if_pos hnm]
    · rw [if_neg hnm]
      have hN : rName l t = ((⟨#[]⟩ : ByteArray), rFail 7 (atT l t) t) := by unfold rName; rw [if_neg hnm]; rfl
      have hb : (rFail 7 (atT l t) t).2.1 ≠ 0 := by rw [rFail_0 ht2]; show (7 : Int) ≠ 0; decide
      have hA : (rAtom l atoms true (atT l t) t).2 = rFail 7 (atT l t) t := by
        unfold rAtom rAtomS
        rw [hN]
        simp only [Bool.true_eq_false, false_and, if_false]
        rw [rMust_st hb]
        exact rArgs_st hb
      have hc := rCmp_st (l := l) (b := true) hb
      rw [hA, endS_bad hb]
      have hb2 : (rCmp l true (rFail 7 (atT l t) t)).2.2.1 ≠ 0 := by rw [hc]; exact hb
      rw [endS_bad hb2, hc]
  | false =>
    have hm := minI_ix ho htl
    have hP : rPar l t = (decide ((tk l (if t.1 + 1 < l.length then t.1 + 1 else t.1)).1 = 3) && decide ((tk l (if t.1 + 1 < l.length then t.1 + 1 else t.1)).2.1 = lparB)) := by
      unfold rPar
      by_cases hlt : t.1 + 1 < l.length
      · rw [decide_eq_true hlt, if_pos hlt, Bool.true_and]
      · have h4 := (ho.last t.1 htl).2 (by omega)
        rw [decide_eq_false hlt, if_neg hlt, Bool.false_and, h4]
        rfl
    have hr : (0 : Int) ≤ ((if t.1 + 1 < l.length then t.1 + 1 else t.1 : Nat) : Int) ∧ ((if t.1 + 1 < l.length then t.1 + 1 else t.1 : Nat) : Int) < (l.length : Int) := by split <;> omega
    simp only [Bool.false_eq_true, if_false, false_or, hm, Int.toNat_natCast]
    rw [if_pos hr, namedP_F n l t ht2 htl hn, hP]
    have tkE : ∀ j : Nat, l.getD j (Ty.z ty78) = tk l j := fun j => rfl
    simp only [tkE]
    generalize (if t.1 + 1 < l.length then t.1 + 1 else t.1) = j
    cases hnm : rNamed l t with
    | false =>
      simp only [Bool.false_eq_true, if_false, false_and]
      exact cmpP_F n l ho t ht2 htl hn k
    | true =>
      simp only [if_true, true_and]
      by_cases h3 : (tk l j).1 = 3
      · rw [if_pos (by rw [h3]; rfl), beqB, decide_eq_true h3, Bool.true_and]
        by_cases hw : (tk l j).2.1 = lparB
        · rw [if_pos (decide_eq_true (show (tk l j).2.1 = (⟨#[40]⟩ : ByteArray) from hw)), if_pos (decide_eq_true hw)]
          exact atomP_F n false atoms l ho t ht2 htl hn _
        · rw [if_neg (show ¬ decide ((tk l j).2.1 = (⟨#[40]⟩ : ByteArray)) = true from fun g => hw (of_decide_eq_true g)), if_neg (fun g => hw (of_decide_eq_true g))]
          exact cmpP_F n l ho t ht2 htl hn k
      · rw [if_neg (by simpa using h3), decide_eq_false h3, Bool.false_and, if_neg (by decide)]
        exact cmpP_F n l ho t ht2 htl hn k
end Go.Proofs.YtnnbinmomendnaaGreatDoor.E
namespace Go.Proofs.YtnnbinmomendnaaGreatDoor.E
open Go.RowKit
variable {R : Type}
set_option maxRecDepth 100000
theorem beginsP_F (n : Nat) (l : Toks) (s : RS) (h0 : s.2.1 = 0) (h : s.1 < l.length) (hn : 500 < n) (k : Bool → Toks → Int → Option R) : parse_reader_begins_F n l (s.1 : Int) k = k (rIs l notB s || (rNamed l s || decide ((tk l s.1).1 = 2))) l (s.1 : Int) := by
  rw [parse_reader_begins_e]
  unfold parse_reader_begins_Fi
  refine (isP_F n notB l s h0 h _).trans ?_
  cases rIs l notB s with
  | true => rfl
  | false =>
    simp only [Bool.false_eq_true, if_false, Bool.false_or]
    rw [namedP_F n l s h0 h hn]
    cases rNamed l s with
    | true => rfl
    | false =>
      simp only [Bool.false_eq_true, if_false, Bool.false_or]
      rw [nowP_F n l s.1 h]
      rfl
theorem rLone_0 {l : Toks} {s : RS} (h0 : s.2.1 = 0) (p : Int) : rLone l p s = (s.1, (if (rIs l notB s || (rNamed l s || decide ((tk l s.1).1 = 2))) = true then 9 else 7 : Int), p) := by
  unfold rLone
  have e9 : rFail 9 p s = (s.1, 9, p) := rFail_0 h0
  have e : (rIs l notB s = true ∨ rNamed l s = true ∨ (tk l s.1).1 = 2) ↔ (rIs l notB s || (rNamed l s || decide ((tk l s.1).1 = 2))) = true := by simp
  by_cases hc : rIs l notB s = true ∨ rNamed l s = true ∨ (tk l s.1).1 = 2
  · rw [if_pos hc, if_pos (e.1 hc), e9]
    exact rFail_st (by show (9 : Int) ≠ 0; decide)
  · rw [if_neg hc, if_neg (fun g => hc (e.2 g))]
    exact rFail_0 h0
theorem body_loopP [Esc R] (n : Nat) (l : Toks) (ho : TOk l) (hn : 500 < n) (kind : Int) (nm : ByteArray) (ag : Int) (of_ : ByteArray) (lim : Int) (hd : List ByteArray) (K : exK R (parse_reader_body_dx 2)) (ret : Toks → Int → Int → ByteArray → Int → ByteArray → Int → List ByteArray → List ty51.D → Option R)
    (hK : ∀ a b c d e f g h i, K.1 (a, b, c, d, e, f, g, h, i, ()) = ret a b c d e f g h i) : ∀ (f m : Nat) (s : RS) (a : Nat) (bd : List ty51.D), s.2.1 = 0 → s.1 < l.length → l.length ≤ s.1 + f → bd.length + f ≤ 2000 → a + f ≤ 2000 → f + 1 < m →
    runC (parse_reader_body_l2 n) m ((a : Int), true, l, (s.1 : Int), kind, nm, ag, of_, lim, hd, bd, ()) K = endS (rBodyL l f (a : Int) s bd).1 (ret l ((rBodyL l f (a : Int) s bd).1.1 : Int) kind nm ag of_ lim hd (rBodyL l f (a : Int) s bd).2)
  | 0, m, s, a, bd, h0, h, hf, hh, ha, hm => by omega
  | f + 1, m, s, a, bd, h0, h, hf, hh, ha, hm => by
    obtain ⟨m, rfl⟩ : ∃ q, m = q + 1 := ⟨m - 1, by omega⟩
    refine (runC_s _ _ _ _).trans ?_
    have wa : IntKind.i64.wrap ((a : Int) + 1) = ((a + 1 : Nat) : Int) := wrap_succ _ (by omega)
    simp only [parse_reader_body_l2, parse_reader_body_s2, if_true, wa]
    rw [rBodyL, if_pos h0]
    by_cases hg : 10 ≤ bd.length
    · rw [if_pos (decide_eq_true (show (bd.length : Int) ≥ 10 by omega))]
      have hS : bodySt l s bd = rLone l (atT l s) s := by unfold bodySt; rw [if_pos hg]
      rw [hS, rLone_0 h0]
      rw [beginsP_F n l s h0 h hn]
      generalize (rIs l notB s || (rNamed l s || decide ((tk l s.1).1 = 2))) = b
      have hb : ((s.1, (if b = true then 9 else 7 : Int), atT l s) : RS).2.1 ≠ 0 := by show (if b = true then 9 else 7 : Int) ≠ 0; split <;> decide
      have hL := rLit_st (l := l) (atoms := (a : Int)) hb
      generalize rLit l (a : Int) (s.1, (if b = true then 9 else 7 : Int), atT l s) = x at hL ⊢
      have hx : x.2.2.1 ≠ 0 := by rw [hL]; exact hb
      rw [rTake_st hx]
      simp only [Bool.false_eq_true, if_false]
      rw [endS_bad hx, hL]
      refine (mustP_F n _ 9 (by decide) l s h0 h _).trans ?_
      cases b with
      | true =>
        have e9 : rIf (!true) 9 (atT l s) s = (s.1, 9, atT l s) := rFail_0 h0
        rw [e9, endS_bad (by show (9 : Int) ≠ 0; decide)]
        rfl
      | false =>
        have e9 : rIf (!false) 9 (atT l s) s = s := rfl
        rw [e9, endS_ok h0]
        refine (mustP_F n false 7 (by decide) l s h0 h _).trans ?_
        have e7 : rIf false 7 (atT l s) s = (s.1, 7, atT l s) := rFail_0 h0
        rw [e7, endS_bad (by show (7 : Int) ≠ 0; decide)]
        rfl
    · rw [if_neg (show ¬ decide ((bd.length : Int) ≥ 10) = true by simp; omega)]
      have hS : bodySt l s bd = s := by unfold bodySt; rw [if_neg hg]
      rw [hS]
      refine (litP_F n (a : Int) l ho s h0 h hn _).trans ?_
      have h2 := (rLit_rng (l := l) (a : Int) h).1
      have hge := rLit_ge l (a : Int) s
      generalize rLit l (a : Int) s = x at h2 hge ⊢
      obtain ⟨x, s2⟩ := x
      simp only at h2 hge ⊢
      by_cases g2 : s2.2.1 = 0
      · rw [endS_ok g2]
        have gd : (List.length bd + List.length [x]) * 56 ≤ 140737488355328 := by simp only [List.length_cons, List.length_nil]; omega
        simp only [gd, if_true]
        have ht2 : (rTake l commaB s2).2.2.1 = 0 := by rw [rTake_2]; exact g2
        have htl := rTake_lt (l := l) commaB h2
        have step : ∀ a2 : Nat, a2 + f ≤ 2000 → parse_reader_take_F n (⟨#[44]⟩ : ByteArray) l (s2.1 : Int) (fun y11 y12 y13 => runC (parse_reader_body_l2 n) m ((a2 : Int), y11, y12, y13, kind, nm, ag, of_, lim, hd, (bd ++ [x]), ()) K)
            = endS (if (rTake l commaB s2).1 = true then rBodyL l f (a2 : Int) (rTake l commaB s2).2 (bd ++ [x]) else ((rTake l commaB s2).2, bd ++ [x])).1 (ret l ((if (rTake l commaB s2).1 = true then rBodyL l f (a2 : Int) (rTake l commaB s2).2 (bd ++ [x]) else ((rTake l commaB s2).2, bd ++ [x])).1.1 : Int) kind nm ag of_ lim hd (if (rTake l commaB s2).1 = true then rBodyL l f (a2 : Int) (rTake l commaB s2).2 (bd ++ [x]) else ((rTake l commaB s2).2, bd ++ [x])).2) := by
          intro a2 ha2
          refine (takeP_F n commaB l ho s2 g2 h2 _).trans ?_
          cases ht : (rTake l commaB s2).1 with
          | false =>
            simp only [Bool.false_eq_true, if_false]
            rw [endS_ok ht2]
            obtain ⟨m, rfl⟩ : ∃ q, m = q + 1 := ⟨m - 1, by omega⟩
            refine (runC_s _ _ _ _).trans ?_
            simp only [parse_reader_body_l2, parse_reader_body_s2, Bool.false_eq_true, if_false]
            exact hK _ _ _ _ _ _ _ _ _
          | true =>
            simp only [if_true]
            have hon := rTake_on ho h2 ht
            exact body_loopP n l ho hn kind nm ag of_ lim hd K ret hK f m (rTake l commaB s2).2 a2 _ ht2 htl (by omega) (by simp; omega) (by omega) (by omega)
        have ea : ((a : Int) + 1) = ((a + 1 : Nat) : Int) := rfl
        by_cases hx : x.2.2.2.1 = 0
        · rw [if_pos (by rw [hx]; rfl)]
          cases hxn : x.1 with
          | true =>
            have hat : isAtom x = false := by unfold isAtom; rw [hxn]; simp
            simp only [hat, Bool.not_true, Bool.false_eq_true, if_false]
            exact step a (by omega)
          | false =>
            have hat : isAtom x = true := by unfold isAtom; rw [hxn, decide_eq_true hx]; rfl
            simp only [hat, Bool.not_false, if_true, ea]
            exact step (a + 1) (by omega)
        · have hat : isAtom x = false := by unfold isAtom; rw [decide_eq_false hx]; rfl
          rw [if_neg (by simpa using hx)]
          simp only [hat, Bool.false_eq_true, if_false]
          exact step a (by omega)
      · rw [endS_bad g2, rTake_st g2]
        simp only [Bool.false_eq_true, if_false]
        exact (endS_bad g2 _).symm
theorem rBodyL_st {l : Toks} {s : RS} {a : Int} {bd : List ty51.D} (f : Nat) (h : s.2.1 ≠ 0) : rBodyL l f a s bd = (s, bd) := by
  cases f with
  | zero => rfl
  | succ f => rw [rBodyL, if_neg h]
theorem bodyP_F [Esc R] (n : Nat) (l : Toks) (ho : TOk l) (s : RS) (h0 : s.2.1 = 0) (h : s.1 < l.length) (hn : 500 < n) (kind : Int) (nm : ByteArray) (ag : Int) (of_ : ByteArray) (lim : Int) (hd : List ByteArray) (k : Toks → Int → Int → ByteArray → Int → ByteArray → Int → List ByteArray → List ty51.D → Option R) :
    parse_reader_body_F n l (s.1 : Int) kind nm ag of_ lim hd [] k = endS (rBody l s).1 (k l ((rBody l s).1.1 : Int) kind nm ag of_ lim hd (rBody l s).2) := by
  rw [parse_reader_body_e]
  unfold parse_reader_body_Fi rBody
  have := ho.len
  exact body_loopP n l ho hn kind nm ag of_ lim hd _ k (fun _ _ _ _ _ _ _ _ _ => rfl) 400 n s 0 [] h0 h (by omega) (by simp) (by omega) (by omega)
theorem kindP_F [Esc R] (n : Nat) (l : Toks) (ho : TOk l) (s : RS) (h0 : s.2.1 = 0) (h : s.1 < l.length) (hn : 500 < n) (k : Int → Toks → Int → Option R) : parse_reader_kind_F n l (s.1 : Int) k = endS (rKind l s).2 (k (rKind l s).1 l ((rKind l s).2.1 : Int)) := by
  rw [parse_reader_kind_e]
  unfold parse_reader_kind_Fi
  have hK : rKind l s = if (rTake l denyB s).1 = true then (1, (rTake l denyB s).2) else if (rTake l viewB (rTake l denyB s).2).1 = true then (2, (rTake l viewB (rTake l denyB s).2).2)
      else if (rTake l quotaB (rTake l viewB (rTake l denyB s).2).2).1 = true then (3, (rTake l quotaB (rTake l viewB (rTake l denyB s).2).2).2) else (0, rFail 7 (atT l (rTake l quotaB (rTake l viewB (rTake l denyB s).2).2).2) (rTake l quotaB (rTake l viewB (rTake l denyB s).2).2).2) := rfl
  rw [hK]
  have roundL : ∀ (i : Nat) (hi : i < 3) (t : RS) (g0 : t.2.1 = 0) (ht : t.1 < l.length) (k1 : (parse_reader_kind_ds 2).D → Option R) (K : exK R (parse_reader_kind_dx 2)),
      parse_reader_kind_l2 n ((3 : Int), (i : Int), l, (t.1 : Int), [denyB, viewB, quotaB], ()) k1 K = if (rTake l ([denyB, viewB, quotaB].getD i ByteArray.empty) t).1 = true then K.1 (((i + 1 : Nat) : Int), l, ((rTake l ([denyB, viewB, quotaB].getD i ByteArray.empty) t).2.1 : Int), ()) else k1 ((3 : Int), ((i + 1 : Nat) : Int), l, ((rTake l ([denyB, viewB, quotaB].getD i ByteArray.empty) t).2.1 : Int), [denyB, viewB, quotaB], ()) := by
    intro i hi t g0 ht k1 K
    have c1 : (i : Int) < 3 := by omega
    have c2 : (0 : Int) ≤ (i : Int) ∧ (i : Int) < (([denyB, viewB, quotaB] : List ByteArray).length : Int) := ⟨by omega, c1⟩
    have c3 : i < ([denyB, viewB, quotaB] : List ByteArray).length := hi
    have w1 : IntKind.i64.wrap ((i : Int) + 1) = ((i + 1 : Nat) : Int) := wrap_succ _ (by omega)
    have w2 : IntKind.i64.wrap (1 + (i : Int)) = ((i + 1 : Nat) : Int) := by rw [Int.add_comm]; exact w1
    have e : ([denyB, viewB, quotaB] : List ByteArray).getD i (Ty.z .str) = [denyB, viewB, quotaB].getD i ByteArray.empty := rfl
    simp only [parse_reader_kind_l2, parse_reader_kind_s2, c1, c2, c3, decide_true, if_true, and_self, Int.toNat_natCast, w1, w2, e]
    rw [takeP_F n _ l ho t g0 ht]
  obtain ⟨m, hm⟩ : ∃ m, n = m + 4 := ⟨n - 4, by omega⟩
  have h1 := rTake_lt (l := l) denyB h
  have g1 : (rTake l denyB s).2.2.1 = 0 := by rw [rTake_2]; exact h0
  have r0 := fun k1 K => roundL 0 (by omega) s h0 h k1 K
  have d0 : ([denyB, viewB, quotaB] : List ByteArray).getD 0 ByteArray.empty = denyB := rfl
  have d1 : ([denyB, viewB, quotaB] : List ByteArray).getD 1 ByteArray.empty = viewB := rfl
  have d2 : ([denyB, viewB, quotaB] : List ByteArray).getD 2 ByteArray.empty = quotaB := rfl
  rw [d0] at r0
  generalize rTake l denyB s = t1 at h1 g1 r0 ⊢
  have h2 := rTake_lt (l := l) viewB h1
  have g2 : (rTake l viewB t1.2).2.2.1 = 0 := by rw [rTake_2]; exact g1
  have r1 := fun k1 K => roundL 1 (by omega) t1.2 g1 h1 k1 K
  rw [d1] at r1
  generalize rTake l viewB t1.2 = t2 at h2 g2 r1 ⊢
  have h3 := rTake_lt (l := l) quotaB h2
  have g3 : (rTake l quotaB t2.2).2.2.1 = 0 := by rw [rTake_2]; exact g2
  have r2 := fun k1 K => roundL 2 (by omega) t2.2 g2 h2 k1 K
  rw [d2] at r2
  generalize rTake l quotaB t2.2 = t3 at h3 g3 r2 ⊢
  have run4 : ∀ (a : (parse_reader_kind_ds 2).D) (K : exK R (parse_reader_kind_dx 2)), runC (parse_reader_kind_l2 n) (m + 4) a K = parse_reader_kind_l2 n a (fun b => parse_reader_kind_l2 n b (fun c => parse_reader_kind_l2 n c (fun d => parse_reader_kind_l2 n d (fun e => runC (parse_reader_kind_l2 n) m e K) K) K) K) K := fun a K => rfl
  refine Eq.trans (congrArg (fun q => runC (parse_reader_kind_l2 n) q _ _) hm) ?_
  refine (run4 _ _).trans ?_
  refine (r0 _ _).trans ?_
  by_cases c1 : t1.1 = true
  · rw [if_pos c1, if_pos c1, endS_ok g1]
    rfl
  · rw [if_neg c1, if_neg c1]
    refine (r1 _ _).trans ?_
    by_cases c2 : t2.1 = true
    · rw [if_pos c2, if_pos c2, endS_ok g2]
      rfl
    · rw [if_neg c2, if_neg c2]
      refine (r2 _ _).trans ?_
      by_cases c3 : t3.1 = true
      · rw [if_pos c3, if_pos c3, endS_ok g3]
        rfl
      · rw [if_neg c3, if_neg c3]
        have last : ∀ (k1 : (parse_reader_kind_ds 2).D → Option R) (K : exK R (parse_reader_kind_dx 2)), parse_reader_kind_l2 n ((3 : Int), ((2 + 1 : Nat) : Int), l, (t3.2.1 : Int), [denyB, viewB, quotaB], ()) k1 K = K.2.1 (l, (t3.2.1 : Int), ()) := by
          intro k1 K
          simp only [parse_reader_kind_l2, parse_reader_kind_s2]
          rw [if_neg (show ¬ decide (((2 + 1 : Nat) : Int) < 3) = true from by simp)]
        refine (last _ _).trans ?_
        refine (mustP_F n false 7 (by decide) l t3.2 g3 h3 _).trans ?_
        show endS (rFail 7 (atT l t3.2) t3.2) _ = endS (rFail 7 (atT l t3.2) t3.2) _
        have hb : (rFail 7 (atT l t3.2) t3.2).2.1 ≠ 0 := by rw [rFail_0 g3]; show (7 : Int) ≠ 0; decide
        rw [endS_bad hb, endS_bad hb]
theorem rKind_ok {l : Toks} {s : RS} (h0 : s.2.1 = 0) (h : (rKind l s).2.2.1 = 0) : (rKind l s).1 = 1 ∨ (rKind l s).1 = 2 ∨ (rKind l s).1 = 3 := by
  unfold rKind at h ⊢
  split
  · exact .inl rfl
  · split
    · exact .inr (.inl rfl)
    · split
      · exact .inr (.inr rfl)
      · rename_i c1 c2 c3
        rw [if_neg c1, if_neg c2, if_neg c3] at h
        simp only at h
        have g : (rTake l quotaB (rTake l viewB (rTake l denyB s).2).2).2.2.1 = 0 := by rw [rTake_2, rTake_2, rTake_2]; exact h0
        rw [rFail_0 g] at h
        exact absurd (show (7 : Int) = 0 from h) (by decide)
end Go.Proofs.YtnnbinmomendnaaGreatDoor.E
namespace Go.Proofs.YtnnbinmomendnaaGreatDoor.E
open Go.RowKit
variable {R : Type}
set_option maxRecDepth 100000
/-- a rule as the program holds it -/
def ruleT (r : RR) : ty25.D := (r.1, r.2.1, r.2.2.2.2.2.2.2.1, r.2.2.1, r.2.2.2.1, r.2.2.2.2.1, r.2.2.2.2.2.2.2.2, ())
theorem rEndS_st {l : Toks} {s : RS} (h : s.2.1 ≠ 0) : rEndS l s = s := by unfold rEndS; rw [rFail_st h]; split <;> rfl
theorem rBody_st {l : Toks} {s : RS} (h : s.2.1 ≠ 0) : (rBody l s).1 = s := by unfold rBody; rw [rBodyL_st 400 h]
theorem rLimS_st {l : Toks} {s : RS} (h : s.2.1 ≠ 0) : rLimS l s = s := by unfold rLimS; rw [if_neg (fun g => h g.1)]
/-- the state behind a rule's text -/
def endZ (l : Toks) (s : RS) : RS := rEndS l (rBody l (rMust l ifB s)).1
theorem endZ_st {l : Toks} {s : RS} (h : s.2.1 ≠ 0) : endZ l s = s := by unfold endZ; rw [rMust_st h, rBody_st h, rEndS_st h]
theorem endP_F [Esc R] (n : Nat) (l : Toks) (ho : TOk l) (s : RS) (h0 : s.2.1 = 0) (h : s.1 < l.length) (hn : 500 < n) (kind : Int) (nm : ByteArray) (ag : Int) (of_ : ByteArray) (lim : Int) (hd : List ByteArray) (k : ty25.D → Toks → Int → Option R) :
    (parse_reader_want_F n (⟨#[105, 102]⟩ : ByteArray) l (s.1 : Int) (fun y70 y71 => parse_reader_body_F n y70 y71 kind nm ag of_ lim hd [] (fun y72 y73 y74 y75 y76 y77 y78 y79 y80 => parse_reader_now_F n y72 y73 (fun y81 y82 y83 => parse_reader_must_F n (y81.1 == 4) 7 y82 y83 (fun y84 y85 => k (y74, y75, y79, y76, y77, y78, y80, ()) y84 y85))))) =
      endS (endZ l s) (k (kind, nm, hd, ag, of_, lim, (rBody l (rMust l ifB s)).2, ()) l ((endZ l s).1 : Int)) := by
  refine (wantP_F n ifB l ho s h0 h _).trans ?_
  unfold endZ
  have h1 := rMust_lt (l := l) ifB h
  generalize rMust l ifB s = s1 at h1 ⊢
  refine (endS_congr fun g1 => bodyP_F n l ho s1 g1 h1 hn kind nm ag of_ lim hd _).trans ?_
  rw [endS_then (fun g => by rw [rBody_st g])]
  have h2 : (rBody l s1).1.1 < l.length := (rBodyL_rng (l := l) 400 0 s1 [] h1 (by simp)).1
  generalize rBody l s1 = b at h2 ⊢
  obtain ⟨s2, bd⟩ := b
  simp only at h2 ⊢
  refine Eq.trans (endS_congr (k' := endS (rEndS l s2) (k (kind, nm, hd, ag, of_, lim, bd, ()) l ((rEndS l s2).1 : Int))) fun g2 => ?_) (endS_then fun g => by rw [rEndS_st g])
  rw [nowP_F n l s2.1 h2]
  refine (mustP_F n _ 7 (by decide) l s2 g2 h2 _).trans ?_
  unfold rEndS
  by_cases h4 : (tk l s2.1).1 = 4
  · have e : ((tk l s2.1).1 == 4) = true := beq_iff_eq.2 h4
    rw [e, if_neg (fun g => g h4)]
    rfl
  · have e : ((tk l s2.1).1 == 4) = false := beq_eq_false_iff_ne.2 h4
    rw [e, if_pos h4, rFail_at]
    rfl
/-- the state ahead of a rule's 'if' -/
def limZ (l : Toks) (kind : Int) (s : RS) : RS := (rLim l kind s).2
theorem limZ_st {l : Toks} {kind : Int} {s : RS} (h : s.2.1 ≠ 0) : (limZ l kind s).2 = s.2 := by
  unfold limZ rLim
  split
  · simp only [rMust_st h, rLimS_st h]
    rfl
  · rfl
theorem limP_F [Esc R] (n : Nat) (l : Toks) (ho : TOk l) (s : RS) (h0 : s.2.1 = 0) (h : s.1 < l.length) (hn : 500 < n) (kind : Int) (k : Int → Toks → Int → Option R) :
    (if (kind == 3) = true then (parse_reader_want_F n (⟨#[108, 105, 109, 105, 116]⟩ : ByteArray) l (s.1 : Int) (fun y20 y21 => parse_reader_now_F n y20 y21 (fun y22 y23 y24 => if (y22.1 == 2) = true then (parse_reader_now_F n y23 y24 (fun y25 y26 y27 => parse_reader_must_F n (y25.2.2.1.1 == 2) 7 y26 y27 (fun y28 y29 => parse_reader_step_F n y28 y29 (fun y30 y31 y32 => k y30.2.2.1.2.2.1 y31 y32)))) else (parse_reader_must_F n false 7 y23 y24 (fun y49 y50 => parse_reader_step_F n y49 y50 (fun y51 y52 y53 => k y51.2.2.1.2.2.1 y52 y53)))))) else k 0 l (s.1 : Int)) =
      endS (limZ l kind s) (k (rLim l kind s).1 l ((limZ l kind s).1 : Int)) := by
  unfold limZ
  by_cases hk : kind = 3
  · have b : (kind == 3) = true := by simp [hk]
    have hL : rLim l kind s = ((tk l (rLimS l (rMust l limitB s)).1).2.2.1.2.2.1, rStep l (rLimS l (rMust l limitB s))) := by unfold rLim; rw [if_pos hk]
    rw [if_pos b, hL]
    refine (wantP_F n limitB l ho s h0 h _).trans ?_
    have h1 := rMust_lt (l := l) limitB h
    generalize rMust l limitB s = g at h1 ⊢
    refine Eq.trans (endS_congr (k' := endS (rStep l (rLimS l g)) (k (tk l (rLimS l g).1).2.2.1.2.2.1 l ((rStep l (rLimS l g)).1 : Int))) fun g1 => ?_) (endS_then fun g2 => by rw [rLimS_st g2]; rfl)
    rw [nowP_F n l g.1 h1]
    have bad : rLimS l g = rFail 7 (atT l g) g → ∀ (K : Toks → Int → Option R), parse_reader_must_F n false 7 l (g.1 : Int) K = endS (rStep l (rLimS l g)) (k (tk l (rLimS l g).1).2.2.1.2.2.1 l ((rStep l (rLimS l g)).1 : Int)) := by
      intro e K
      refine (mustP_F n false 7 (by decide) l g g1 h1 _).trans ?_
      show endS (rFail 7 (atT l g) g) _ = _
      have e7 : rFail 7 (atT l g) g = (g.1, 7, atT l g) := rFail_0 g1
      have hb : (rFail 7 (atT l g) g).2.1 ≠ 0 := by rw [e7]; show (7 : Int) ≠ 0; decide
      have hb2 : (rStep l (rLimS l g)).2.1 ≠ 0 := by rw [e, rStep_2]; exact hb
      rw [endS_bad hb, endS_bad hb2, rStep_2, e]
    by_cases hk2 : (tk l g.1).1 = 2
    · have e2 : ((tk l g.1).1 == 2) = true := beq_iff_eq.2 hk2
      rw [if_pos e2, nowP_F n l g.1 h1]
      by_cases hv : (tk l g.1).2.2.1.1 = 2
      · have e3 : ((tk l g.1).2.2.1.1 == 2) = true := beq_iff_eq.2 hv
        have e : rLimS l g = g := by unfold rLimS; rw [if_neg (by rintro ⟨_, h | h⟩; exact h hk2; exact h hv)]
        rw [e3, e]
        refine (mustP_F n true 7 (by decide) l g g1 h1 _).trans ?_
        rw [show rIf true 7 (atT l g) g = g from rfl, endS_ok g1, stepP_F n l ho g h1, endS_ok (by rw [rStep_2]; exact g1)]
      · have e3 : ((tk l g.1).2.2.1.1 == 2) = false := beq_eq_false_iff_ne.2 hv
        rw [e3]
        exact bad (by unfold rLimS; rw [if_pos ⟨g1, Or.inr hv⟩]) _
    · have e2 : ((tk l g.1).1 == 2) = false := beq_eq_false_iff_ne.2 hk2
      rw [if_neg (by rw [e2]; decide)]
      exact bad (by unfold rLimS; rw [if_pos ⟨g1, Or.inl hk2⟩]) _
  · have b : (kind == 3) = false := by simp [hk]
    have hL : rLim l kind s = (0, s) := by unfold rLim; rw [if_neg hk]
    rw [if_neg (by rw [b]; decide), hL, endS_ok h0]
theorem rest_why (l : Toks) (kind : Int) (s : RS) : (rRest l kind s).2.2.2.2.2.2.1 = (endZ l (limZ l kind (rMust l rparB (rHd l kind s).1))).2.1 ∧ ((endZ l (limZ l kind (rMust l rparB (rHd l kind s).1))).2.1 ≠ 0 → (rRest l kind s).2.2.2.2.2.1 = (endZ l (limZ l kind (rMust l rparB (rHd l kind s).1))).2.2) ∧
    ((endZ l (limZ l kind (rMust l rparB (rHd l kind s).1))).2.1 = 0 → ruleT (rRest l kind s) = (kind, (rName l s).1, (rHd l kind s).2.2.2, (rHd l kind s).2.1, (rHd l kind s).2.2.1, (rLim l kind (rMust l rparB (rHd l kind s).1)).1, (rBody l (rMust l ifB (limZ l kind (rMust l rparB (rHd l kind s).1)))).2, ())) := by
  unfold rRest rEnd
  show (if (endZ l (limZ l kind (rMust l rparB (rHd l kind s).1))).2.1 ≠ 0 then _ else _ : RR).2.2.2.2.2.2.1 = _ ∧ _
  by_cases h : (endZ l (limZ l kind (rMust l rparB (rHd l kind s).1))).2.1 = 0
  · rw [if_neg (fun g => g h)]
    refine ⟨h.symm, fun g => absurd h g, fun _ => ?_⟩
    rw [if_neg (show ¬ (rEndS l (rBody l (rMust l ifB (rLim l kind (rMust l rparB (rHd l kind s).1)).2)).1).2.1 ≠ 0 from fun g => g h)]
    rfl
  · rw [if_pos h]
    refine ⟨rfl, fun _ => ?_, fun g => absurd g h⟩
    rw [if_pos (show (rEndS l (rBody l (rMust l ifB (rLim l kind (rMust l rparB (rHd l kind s).1)).2)).1).2.1 ≠ 0 from h)]
    rfl
theorem ruleP_F [Esc R] (n : Nat) (l : Toks) (ho : TOk l) (hl : 0 < l.length) (hn : 500 < n) (k : ty25.D → Toks → Int → Option R) : ∃ p : Nat,
    parse_reader_rule_F n l 0 k = if (rTok l).2.2.2.2.2.2.1 = 0 then k (ruleT (rTok l)) l (p : Int) else escW (rTok l).2.2.2.2.2.2.1 (rTok l).2.2.2.2.2.1 := by
  refine ⟨(endZ l (limZ l (rKind l (0, 0, 0)).1 (rMust l rparB (rHd l (rKind l (0, 0, 0)).1 (rKind l (0, 0, 0)).2).1))).1, ?_⟩
  rw [parse_reader_rule_e]
  unfold parse_reader_rule_Fi
  refine (kindP_F n l ho (0, 0, 0) rfl hl hn _).trans ?_
  have hT : rTok l = rRest l (rKind l (0, 0, 0)).1 (rKind l (0, 0, 0)).2 := rfl
  have hko := rKind_ok (l := l) (s := (0, 0, 0)) rfl
  rw [hT]
  have h1 := rKind_lt (l := l) (s := (0, 0, 0)) hl
  generalize rKind l (0, 0, 0) = kq at hko h1 ⊢
  obtain ⟨kind, s1⟩ := kq
  simp only at hko h1 ⊢
  obtain ⟨w1, w2, w3⟩ := rest_why l kind s1
  have hd : rHd l kind s1 = rHead l kind (rMust l lparB (rName l s1).2) 0 (⟨#[]⟩ : ByteArray) [] := rfl
  have key : endS s1 (parse_reader_name_F n l (s1.1 : Int) (fun y4 y5 y6 => parse_reader_want_F n (⟨#[40]⟩ : ByteArray) y5 y6 (fun y7 y8 => parse_reader_head_F n y7 y8 kind y4 0 (⟨#[]⟩ : ByteArray) 0 ([] : List ByteArray) ([] : List ty51.D) (fun y9 y10 y11 y12 y13 y14 y15 y16 y17 => parse_reader_want_F n (⟨#[41]⟩ : ByteArray) y9 y10 (fun y18 y19 => if (y11 == 3) = true then (parse_reader_want_F n (⟨#[108, 105, 109, 105, 116]⟩ : ByteArray) y18 y19 (fun y20 y21 => parse_reader_now_F n y20 y21 (fun y22 y23 y24 => if (y22.1 == 2) = true then (parse_reader_now_F n y23 y24 (fun y25 y26 y27 => parse_reader_must_F n (y25.2.2.1.1 == 2) 7 y26 y27 (fun y28 y29 => parse_reader_step_F n y28 y29 (fun y30 y31 y32 => parse_reader_want_F n (⟨#[105, 102]⟩ : ByteArray) y31 y32 (fun y33 y34 => parse_reader_body_F n y33 y34 y11 y12 y13 y14 y30.2.2.1.2.2.1 y16 y17 (fun y35 y36 y37 y38 y39 y40 y41 y42 y43 => parse_reader_now_F n y35 y36 (fun y44 y45 y46 => parse_reader_must_F n (y44.1 == 4) 7 y45 y46 (fun y47 y48 => k (y37, y38, y42, y39, y40, y41, y43, ()) y47 y48)))))))) else (parse_reader_must_F n false 7 y23 y24 (fun y49 y50 => parse_reader_step_F n y49 y50 (fun y51 y52 y53 => parse_reader_want_F n (⟨#[105, 102]⟩ : ByteArray) y52 y53 (fun y54 y55 => parse_reader_body_F n y54 y55 y11 y12 y13 y14 y51.2.2.1.2.2.1 y16 y17 (fun y56 y57 y58 y59 y60 y61 y62 y63 y64 => parse_reader_now_F n y56 y57 (fun y65 y66 y67 => parse_reader_must_F n (y65.1 == 4) 7 y66 y67 (fun y68 y69 => k (y58, y59, y63, y60, y61, y62, y64, ()) y68 y69)))))))))) else (parse_reader_want_F n (⟨#[105, 102]⟩ : ByteArray) y18 y19 (fun y70 y71 => parse_reader_body_F n y70 y71 y11 y12 y13 y14 y15 y16 y17 (fun y72 y73 y74 y75 y76 y77 y78 y79 y80 => parse_reader_now_F n y72 y73 (fun y81 y82 y83 => parse_reader_must_F n (y81.1 == 4) 7 y82 y83 (fun y84 y85 => k (y74, y75, y79, y76, y77, y78, y80, ()) y84 y85)))))))))) =
      endS (endZ l (limZ l kind (rMust l rparB (rHd l kind s1).1))) (k (kind, (rName l s1).1, (rHd l kind s1).2.2.2, (rHd l kind s1).2.1, (rHd l kind s1).2.2.1, (rLim l kind (rMust l rparB (rHd l kind s1).1)).1, (rBody l (rMust l ifB (limZ l kind (rMust l rparB (rHd l kind s1).1)))).2, ()) l ((endZ l (limZ l kind (rMust l rparB (rHd l kind s1).1))).1 : Int)) := by
    have stay1 : s1.2.1 ≠ 0 → (rName l s1).2.2 = s1.2 := fun g => by rw [rName_st g]
    by_cases g1 : s1.2.1 = 0
    · have hkk := hko g1
      rw [endS_ok g1]
      refine (nameP_F n l ho s1 g1 h1 hn _).trans ?_
      rw [hd]
      have h2 := rName_lt (l := l) h1
      generalize rName l s1 = a at h2 ⊢
      obtain ⟨nm, s2⟩ := a
      simp only at h2 ⊢
      refine (endS_congr fun g2 => wantP_F n lparB l ho s2 g2 h2 _).trans ?_
      rw [endS_then (fun g => by rw [rMust_st g])]
      have h3 := rMust_lt (l := l) lparB h2
      generalize rMust l lparB s2 = s3 at h3 ⊢
      refine (endS_congr fun g3 => headP_F n l ho s3 g3 h3 hn kind hkk nm 0 (⟨#[]⟩ : ByteArray) 0 [] (by simp) [] _).trans ?_
      rw [endS_then (fun g => by rw [rHead_st g])]
      have h4 := (rHead_rng (l := l) kind s3 0 (⟨#[]⟩ : ByteArray) [] h3).1
      generalize rHead l kind s3 0 (⟨#[]⟩ : ByteArray) [] = H at h4 ⊢
      obtain ⟨s4, ag, of_, hdl⟩ := H
      simp only at h4 ⊢
      refine (endS_congr fun g4 => wantP_F n rparB l ho s4 g4 h4 _).trans ?_
      rw [endS_then (fun g => by rw [rMust_st g])]
      have h5 := rMust_lt (l := l) rparB h4
      generalize rMust l rparB s4 = s5 at h5 ⊢
      have h6 : (limZ l kind s5).1 < l.length := rLim_lt kind h5
      refine (endS_congr fun g5 => limP_F n l ho s5 g5 h5 hn kind (fun lim y31 y32 => parse_reader_want_F n (⟨#[105, 102]⟩ : ByteArray) y31 y32 (fun y70 y71 => parse_reader_body_F n y70 y71 kind nm ag of_ lim hdl [] (fun y72 y73 y74 y75 y76 y77 y78 y79 y80 => parse_reader_now_F n y72 y73 (fun y81 y82 y83 => parse_reader_must_F n (y81.1 == 4) 7 y82 y83 (fun y84 y85 => k (y74, y75, y79, y76, y77, y78, y80, ()) y84 y85)))))).trans ?_
      rw [endS_then (fun g => limZ_st g)]
      generalize limZ l kind s5 = s6 at h6 ⊢
      refine (endS_congr fun g6 => endP_F n l ho s6 g6 h6 hn kind nm ag of_ _ hdl k).trans ?_
      rw [endS_then (fun g => by rw [endZ_st g])]
    · have e1 : (rName l s1).2 = s1 := by rw [rName_st g1]
      have e2 : (rHd l kind s1).1 = s1 := by rw [hd, e1, rMust_st g1, rHead_st g1]
      have e3 : rMust l rparB (rHd l kind s1).1 = s1 := by rw [e2, rMust_st g1]
      rw [e3]
      have e4 : (limZ l kind s1).2 = s1.2 := limZ_st g1
      have g4 : (limZ l kind s1).2.1 ≠ 0 := by rw [e4]; exact g1
      rw [endZ_st g4, endS_bad g1, endS_bad g4, e4]
  refine key.trans ?_
  unfold endS
  rw [w1]
  by_cases hz : (endZ l (limZ l kind (rMust l rparB (rHd l kind s1).1))).2.1 = 0
  · rw [if_pos hz, if_pos hz, w3 hz]
  · rw [if_neg hz, if_neg hz, w2 hz]
end Go.Proofs.YtnnbinmomendnaaGreatDoor.E
namespace Go.Proofs.YtnnbinmomendnaaGreatDoor.E
open Go.RowKit
/-- a token that is not the end, and whose sign is none of letters -/
def TokG (t : ty60.D) : Prop := t.1 ≠ 4 ∧ (t.1 = 3 → letN (bt t.2.1 0) = false)
theorem bt_ext0 {s : ByteArray} {n : Nat} (hn : 0 < n) : bt (s.extract 0 n) 0 = bt s 0 := by
  unfold bt
  rw [ByteArray.data_extract, Array.toList_extract, List.getD_eq_getElem?_getD, List.getD_eq_getElem?_getD]
  simp [List.extract, List.getElem?_take, hn]
theorem oneS_tok {u : ByteArray} {t : ty60.D} (h : oneS u = some t) : TokG t := by
  unfold oneS at h
  have cs : ∀ n, constS u n = some t → TokG t := by
    intro n h
    unfold constS at h
    split at h
    · injection h with h; rw [← h]; exact ⟨by show (2 : Int) ≠ 4; decide, fun g => absurd (show (2 : Int) = 3 from g) (by decide)⟩
    · cases h
  split at h
  · split at h
    · injection h with h; rw [← h]; exact ⟨by show (2 : Int) ≠ 4; decide, fun g => absurd (show (2 : Int) = 3 from g) (by decide)⟩
    · injection h with h; rw [← h]; exact ⟨by show (1 : Int) ≠ 4; decide, fun g => absurd (show (1 : Int) = 3 from g) (by decide)⟩
  · rename_i hl
    split at h
    · split at h
      · cases h
      · exact cs _ h
    · split at h
      · split at h
        · exact cs _ h
        · cases h
      · split at h
        · rename_i hs
          injection h with h
          rw [← h]
          refine ⟨by show (3 : Int) ≠ 4; decide, fun _ => ?_⟩
          show letN (bt (u.extract 0 (signN u)) 0) = false
          rw [bt_ext0 hs]
          simpa using hl
        · cases h
theorem lexL_tok (s : ByteArray) : ∀ (f i : Nat) (l l' : Toks), (∀ t ∈ l, TokG t) → lexL s f i l = .inr l' → ∀ t ∈ l', TokG t
  | 0, i, l, l', hl, h => by injection h with h; rw [← h]; exact hl
  | f + 1, i, l, l', hl, h => by
    unfold lexL at h
    split at h
    · split at h
      · exact lexL_tok s f (i + 1) l l' hl h
      · split at h
        · cases h
        · rename_i t he
          refine lexL_tok s f (i + t.2.1.size) _ l' (fun u hu => ?_) h
          rcases List.mem_append.1 hu with hu | hu
          · exact hl u hu
          · rw [List.mem_singleton] at hu
            rw [hu]
            have g := oneS_tok he
            exact ⟨g.1, g.2⟩
    · injection h with h; rw [← h]; exact hl
theorem lexS_tok (s : ByteArray) (h : (lexS s).2.1 = 0) : TOk (lexS s).2.2 ∧ 0 < (lexS s).2.2.length := by
  obtain ⟨l, hl, hlen⟩ := lexS_rng s h
  have hg : ∀ t ∈ l, TokG t := by
    unfold lexS at hl h
    split at hl
    · rename_i h1
      rw [if_pos h1] at h
      exact absurd (show (9 : Int) = 0 from h) (by decide)
    · rename_i h1
      cases he : lexL s (s.size + 1) 0 [] with
      | inl j => rw [he] at hl; exact absurd (congrArg List.length (show ([] : Toks) = l ++ [endT s] from hl)) (by simp)
      | inr l2 =>
        rw [he] at hl
        have e : l2 = l := by
          have : l2 ++ [endT s] = l ++ [endT s] := hl
          exact (List.append_left_inj [endT s]).1 this
        rw [← e]
        exact lexL_tok s _ _ _ _ (fun t ht => by cases ht) he
  rw [hl]
  have hin : ∀ i, i < l.length → ∃ t ∈ l, tk (l ++ [endT s]) i = t := fun i hi => ⟨l[i], List.getElem_mem hi, by
    unfold tk
    rw [List.getD_eq_getElem?_getD, List.getElem?_append_left hi, List.getElem?_eq_getElem hi]
    rfl⟩
  have hend : tk (l ++ [endT s]) l.length = endT s := by
    unfold tk
    rw [List.getD_eq_getElem?_getD, List.getElem?_append_right (Nat.le_refl _)]
    simp
  refine ⟨⟨by simp; omega, fun i hi => ?_, fun i hi h3 => ?_⟩, by simp⟩
  · have hi2 : i < l.length + 1 := by simpa using hi
    by_cases he : i = l.length
    · rw [he, hend]
      exact ⟨fun _ => by simp, fun _ => rfl⟩
    · obtain ⟨t, ht, e⟩ := hin i (by omega)
      rw [e]
      exact ⟨fun g => absurd g (hg t ht).1, fun g => absurd g (by simp; omega)⟩
  · have hi2 : i < l.length + 1 := by simpa using hi
    by_cases he : i = l.length
    · rw [he, hend] at h3
      exact absurd (show (4 : Int) = 3 from h3) (by decide)
    · obtain ⟨t, ht, e⟩ := hin i (by omega)
      rw [e] at h3 ⊢
      exact (hg t ht).2 h3
end Go.Proofs.YtnnbinmomendnaaGreatDoor.E
/-! parse.Rule: its deferred closure -/
namespace Go.Proofs.YtnnbinmomendnaaGreatDoor
open Go.RowKit Go.Shelf
def wrongV (why at_ : Int) : Value := .iface 39 (.agg #[.int .i64 why, .int .i64 at_])
def rule0 : Array Value := #[.int .i64 0, .string ⟨#[]⟩, .slice none 0 0, .int .i64 0, .string ⟨#[]⟩, .int .i64 0, .slice none 0 0]
/-- what a walk leaves: but for three blocks all is as it was -/
structure But3 (W W' : World) (a b c : Nat) : Prop where
  os : W'.os = W.os
  tape : W'.tape = W.tape
  output : W'.output = W.output
  size : W.heap.size ≤ W'.heap.size
  old : ∀ k, k < W.heap.size → k ≠ a → k ≠ b → k ≠ c → W'.heap[k]? = W.heap[k]?
theorem blk_set {W : World} {B : Nat} {cs : Array Value} {t : TypeId} (i : Nat) (v : Value) (h : W.heap[B]? = some (.cells cs t (0, 0))) : (W.setCell ⟨B, i, none⟩ v).heap[B]? = some (.cells (cs.setIfInBounds i v) t (0, 0)) := by
  obtain ⟨hlt, hk⟩ := Array.getElem?_eq_some_iff.1 h
  show (W.heap.modify B _)[B]? = _
  rw [Array.getElem?_eq_getElem (by rw [Array.size_modify]; exact hlt), Array.getElem_modify_self, hk]
  rfl
/-- one cell that is written -/
structure OneSet (W W1 : World) (p : Nat) (cs : Array Value) (t : TypeId) : Prop where
  row : W1.heap[p]? = some (.cells cs t (0, 0))
  os : W1.os = W.os
  tape : W1.tape = W.tape
  output : W1.output = W.output
  size : W1.heap.size = W.heap.size
  old : ∀ k, k ≠ p → W1.heap[k]? = W.heap[k]?
theorem one_set {W W1 : World} {p : Nat} {i : Nat} {v : Value} {cs : Array Value} {t : TypeId} (e : W.setCell ⟨p, i, none⟩ v = W1) (h : W.heap[p]? = some (.cells cs t (0, 0))) : OneSet W W1 p (cs.setIfInBounds i v) t := by
  subst e
  exact ⟨blk_set i v h, rfl, rfl, rfl, by simp, fun k hk => Below.heap_setCell _ _ _ k hk⟩
theorem OneSet.trans {W W1 W2 : World} {p : Nat} {cs cs' : Array Value} {t t' : TypeId} (a : OneSet W W1 p cs t) (b : OneSet W1 W2 p cs' t') : OneSet W W2 p cs' t' :=
  ⟨b.row, b.os.trans a.os, b.tape.trans a.tape, b.output.trans a.output, b.size.trans a.size, fun k hk => (b.old k hk).trans (a.old k hk)⟩
set_option maxRecDepth 100000 in
set_option maxHeartbeats 2000000 in
theorem catch_panic (p2 p3 p4 : Nat) (x0 : Int) (x1 : ByteArray) (x2 : Value) (x3 : Int) (x4 : ByteArray) (x5 : Int) (x6 : Value) (v3 v4 why at_ : Int) (w : World) (h2 : w.heap[p2]? = some (.cells rule0 25 (0, 0))) (h3 : Boxed w p3 3 (.int .i64 v3)) (h4 : Boxed w p4 26 (.int .i64 v4)) (n23 : p2 ≠ p3) (n24 : p2 ≠ p4) (n34 : p3 ≠ p4) :
    CallsD Tryz.prog 14 #[.pointer (some ⟨p2, 0, none⟩), .pointer (some ⟨p3, 0, none⟩), .pointer (some ⟨p4, 0, none⟩)] (.panicking (E.pan1 (wrongV why at_))) w fun e u' w' =>
      e = .returned (.tuple #[]) ∧ u' = .panicking [{ v := wrongV why at_, recovered := true }] ∧ w'.heap[p2]? = some (.cells rule0 25 (0, 0)) ∧ Boxed w' p3 3 (.int .i64 at_) ∧ Boxed w' p4 26 (.int .i64 why) ∧ But3 w w' p2 p3 p4 := by
  have hta : ∀ (a b : Int) (w : World), (Instr.typeAssert (.iface 39 (.agg #[.int .i64 a, .int .i64 b])) 20 39 true).run Tryz.prog w = .ok (.tuple #[.agg #[.int .i64 a, .int .i64 b], .bool true]) w := by intros; kernel_rfl
  refine callsD_of_wpS Tryz.func14 rfl fun c₀ cs hu => ?_
  apply wpS_seq
  apply wpS_region
  simp [wpOpsS, go_sem, recoverD, hu, hta, E.pan1, wrongV, Tryz.ntmps14, Exit.thenS]
  apply wpS_seq
  apply wpS_region
  simp [wpOpsS, go_sem, Exit.thenS]
  refine wpS_cond (t := true) (by simp [Act.eval, Array.replicate]) ?_
  simp only [if_true]
  refine wpS_of_wp ?_
  simp only [Array.replicate_succ, Array.replicate_zero, List.push_toArray, List.append_toArray, List.nil_append, List.cons_append, List.setIfInBounds_toArray, List.set_cons_zero, List.set_cons_succ]
  have hlt2 := (Array.getElem?_eq_some_iff.1 h2).1
  have hlt3 := h3.lt
  have hlt4 := h4.lt
  obtain ⟨WA, hWA⟩ : ∃ WA, w.alloc (.cells #[.int .i64 why, .int .i64 at_] 39) = WA := ⟨_, rfl⟩
  have WS : WA.heap.size = w.heap.size + 1 := by rw [← hWA]; simp
  have WO : ∀ k, k < w.heap.size → WA.heap[k]? = w.heap[k]? := fun k hk => by rw [← hWA]; exact Below.heap_alloc _ _ _ hk
  have WM : WA.os = w.os ∧ WA.tape = w.tape ∧ WA.output = w.output := by rw [← hWA]; exact ⟨rfl, rfl, rfl⟩
  have W1 : WA.heap[p2]? = some (.cells rule0 25 (0, 0)) := (WO p2 hlt2).trans h2
  have W3 : Boxed WA p3 3 (.int .i64 v3) := (WO p3 hlt3).trans h3
  have W4 : Boxed WA p4 26 (.int .i64 v4) := (WO p4 hlt4).trans h4
  have W5 : WA.heap[w.heap.size]? = some (.cells #[.int .i64 why, .int .i64 at_] 39 (0, 0)) := by rw [← hWA]; exact World.alloc_heap_new w _
  have z0 : WA.cell? ⟨p2, 0, none⟩ = some (.int .i64 0) := by simp [World.cell?, W1, rule0]
  have y0 : WA.frozen? ⟨p2, 0, none⟩ = false := by simp [World.frozen?, W1]
  have z1 : WA.cell? ⟨p2, 1, none⟩ = some (.string ⟨#[]⟩) := by simp [World.cell?, W1, rule0]
  have y1 : WA.frozen? ⟨p2, 1, none⟩ = false := by simp [World.frozen?, W1]
  have z2 : WA.cell? ⟨p2, 2, none⟩ = some (.slice none 0 0) := by simp [World.cell?, W1, rule0]
  have y2 : WA.frozen? ⟨p2, 2, none⟩ = false := by simp [World.frozen?, W1]
  have z3 : WA.cell? ⟨p2, 3, none⟩ = some (.int .i64 0) := by simp [World.cell?, W1, rule0]
  have y3 : WA.frozen? ⟨p2, 3, none⟩ = false := by simp [World.frozen?, W1]
  have z4 : WA.cell? ⟨p2, 4, none⟩ = some (.string ⟨#[]⟩) := by simp [World.cell?, W1, rule0]
  have y4 : WA.frozen? ⟨p2, 4, none⟩ = false := by simp [World.frozen?, W1]
  have z5 : WA.cell? ⟨p2, 5, none⟩ = some (.int .i64 0) := by simp [World.cell?, W1, rule0]
  have y5 : WA.frozen? ⟨p2, 5, none⟩ = false := by simp [World.frozen?, W1]
  have z6 : WA.cell? ⟨p2, 6, none⟩ = some (.slice none 0 0) := by simp [World.cell?, W1, rule0]
  have y6 : WA.frozen? ⟨p2, 6, none⟩ = false := by simp [World.frozen?, W1]
  have q3 := W3.cell
  have f3 := W3.frozen
  have q4 := W4.cell
  have f4 := W4.frozen
  have u0 : WA.cell? ⟨w.heap.size, 0, none⟩ = some (.int .i64 why) := by simp [World.cell?, W5]
  have u1 : WA.cell? ⟨w.heap.size, 1, none⟩ = some (.int .i64 at_) := by simp [World.cell?, W5]
  have m2 : ¬ p2 = w.heap.size := by omega
  have m3 : ¬ p3 = w.heap.size := by omega
  have m4 : ¬ p4 = w.heap.size := by omega
  have n32 : ¬ p3 = p2 := fun e => n23 e.symm
  have n42 : ¬ p4 = p2 := fun e => n24 e.symm
  have n43 : ¬ p4 = p3 := fun e => n34 e.symm
  have m2' : ¬ w.heap.size = p2 := fun e => m2 e.symm
  have m3' : ¬ w.heap.size = p3 := fun e => m3 e.symm
  have m4' : ¬ w.heap.size = p4 := fun e => m4 e.symm
  rw [hWA]
  go_region
  obtain ⟨V0, hV0⟩ : ∃ V, WA.setCell ⟨p2, 0, none⟩ (.int .i64 0) = V := ⟨_, rfl⟩
  rw [hV0]
  have o0 := one_set hV0 W1
  clear hV0
  obtain ⟨V1, hV1⟩ : ∃ V, V0.setCell ⟨p2, 1, none⟩ (.string ⟨#[]⟩) = V := ⟨_, rfl⟩
  rw [hV1]
  have o1 := o0.trans (one_set hV1 o0.row)
  clear hV1
  obtain ⟨V2, hV2⟩ : ∃ V, V1.setCell ⟨p2, 2, none⟩ (.slice none 0 0) = V := ⟨_, rfl⟩
  rw [hV2]
  have o2 := o1.trans (one_set hV2 o1.row)
  clear hV2
  obtain ⟨V3, hV3⟩ : ∃ V, V2.setCell ⟨p2, 3, none⟩ (.int .i64 0) = V := ⟨_, rfl⟩
  rw [hV3]
  have o3 := o2.trans (one_set hV3 o2.row)
  clear hV3
  obtain ⟨V4, hV4⟩ : ∃ V, V3.setCell ⟨p2, 4, none⟩ (.string ⟨#[]⟩) = V := ⟨_, rfl⟩
  rw [hV4]
  have o4 := o3.trans (one_set hV4 o3.row)
  clear hV4
  obtain ⟨V5, hV5⟩ : ∃ V, V4.setCell ⟨p2, 5, none⟩ (.int .i64 0) = V := ⟨_, rfl⟩
  rw [hV5]
  have o5 := o4.trans (one_set hV5 o4.row)
  clear hV5
  obtain ⟨V6, hV6⟩ : ∃ V, V5.setCell ⟨p2, 6, none⟩ (.slice none 0 0) = V := ⟨_, rfl⟩
  rw [hV6]
  have o6 := o5.trans (one_set hV6 o5.row)
  clear hV6
  have o6r : V6.heap[p2]? = some (.cells rule0 25 (0, 0)) := o6.row
  have b3 : V6.heap[p3]? = some (.cells #[.int .i64 v3] 3 (0, 0)) := (o6.old p3 n32).trans W3
  have b4 : V6.heap[p4]? = some (.cells #[.int .i64 v4] 26 (0, 0)) := (o6.old p4 n42).trans W4
  obtain ⟨V7, hV7⟩ : ∃ V, V6.setCell ⟨p3, 0, none⟩ (.int .i64 at_) = V := ⟨_, rfl⟩
  rw [hV7]
  have o7 := one_set hV7 b3
  clear hV7
  obtain ⟨V8, hV8⟩ : ∃ V, V7.setCell ⟨p4, 0, none⟩ (.int .i64 why) = V := ⟨_, rfl⟩
  rw [hV8]
  have o8 := one_set hV8 ((o7.old p4 n43).trans b4)
  clear hV8
  have e2 : V8.heap[p2]? = some (.cells rule0 25 (0, 0)) := (o8.old p2 n24).trans ((o7.old p2 n23).trans o6r)
  have e3 : V8.heap[p3]? = some (.cells #[.int .i64 at_] 3 (0, 0)) := (o8.old p3 n34).trans o7.row
  have e4 : V8.heap[p4]? = some (.cells #[.int .i64 why] 26 (0, 0)) := o8.row
  have eb : But3 w V8.drew p2 p3 p4 := ⟨(o8.os.trans (o7.os.trans o6.os)).trans WM.1, (o8.tape.trans (o7.tape.trans o6.tape)).trans WM.2.1, (o8.output.trans (o7.output.trans o6.output)).trans WM.2.2,
    (by show w.heap.size ≤ V8.heap.size; rw [o8.size, o7.size, o6.size]; omega), fun k hk k2 k3 k4 => ((o8.old k k4).trans ((o7.old k k3).trans (o6.old k k2))).trans (WO k hk)⟩
  exact ⟨rfl, _, rfl, _, results_none rfl _ _ _, rfl, rfl, e2, e3, e4, eb⟩
set_option maxRecDepth 100000 in
set_option maxHeartbeats 2000000 in
theorem catch_idle (p2 p3 p4 : Nat) (w : World) :
    CallsD Tryz.prog 14 #[.pointer (some ⟨p2, 0, none⟩), .pointer (some ⟨p3, 0, none⟩), .pointer (some ⟨p4, 0, none⟩)] .returning w fun e u' w' =>
      e = .returned (.tuple #[]) ∧ u' = .returning ∧ w'.os = w.os ∧ w'.tape = w.tape ∧ w'.output = w.output ∧ w.heap.size ≤ w'.heap.size ∧ ∀ k, k < w.heap.size → w'.heap[k]? = w.heap[k]? := by
  have hta : ∀ (w : World), (Instr.typeAssert .nilIface 20 39 true).run Tryz.prog w = .ok (.tuple #[.agg #[.int .i64 0, .int .i64 0], .bool false]) w := by intros; kernel_rfl
  refine callsD_of_wpS Tryz.func14 rfl fun c₀ cs hu => ?_
  apply wpS_seq
  apply wpS_region
  simp [wpOpsS, go_sem, recoverD, hu, hta, Tryz.ntmps14, Exit.thenS]
  apply wpS_seq
  apply wpS_region
  simp [wpOpsS, go_sem, Exit.thenS]
  refine wpS_cond (t := false) (by simp [Act.eval, Array.replicate]) ?_
  simp only [Bool.false_eq_true, if_false]
  refine wpS_of_wp (wp_skip ?_)
  refine ⟨rfl, .returning, ?_, _, results_none rfl _ _ _, rfl, rfl, rfl, rfl, rfl, by simp, fun k hk => Below.heap_alloc _ _ _ hk⟩
  cases c₀
  simp_all
end Go.Proofs.YtnnbinmomendnaaGreatDoor
