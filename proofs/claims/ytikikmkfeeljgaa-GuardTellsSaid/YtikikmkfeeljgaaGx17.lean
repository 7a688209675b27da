-- Written by a program for this claim (my own print over the kit's words).
import Derived.Test.YtikikmkfeeljgaaGx0
namespace Go.Proofs.Ytikikmkfeeljgaa.G
open Go.RowKit Go.Proofs.YtikikmkfeeljgaaW.PrintWords Go.Proofs.YtikikmkfeeljgaaW.PrintLast Go.Proofs.YtikikmkfeeljgaaW.PrintMore
attribute [local go_sem] max2_int min2_int max_two min_two max_three min_three max_four min_four   -- for this text's walks alone
set_option linter.unusedVariables false
set_option linter.unusedSimpArgs false
/-! ### verdererref15_has: function 31 -/
def verdererref15_has.l0 : Nat → List ByteArray → ByteArray → Int → Option (Bool)
 | 0, _, _, _ => none
 | k + 1, x0, x1, x5 => if x5 < (x0.length : Int) then (if 0 ≤ x5 then (if (rdOf ByteArray.empty x0 x5).toList = x1.toList then (some true) else (verdererref15_has.l0 k x0 x1 (wrap64 (x5 + 1)))) else (none)) else (some false)
def verdererref15_has.f (k : Nat) (l0 : List ByteArray) (a1 : ByteArray) : Option (Bool) := verdererref15_has.l0 k l0 a1 0
set_option maxHeartbeats 8000000 in
set_option maxRecDepth 100000 in
theorem verdererref15_has.calls (k : Nat) (A0 : Option Addr) (c0 : Nat) (l0 : List ByteArray) (a1 : ByteArray) (r : Bool) (w : World) (hr0 : Kd.C Kd.string w A0 l0.length l0) (hc0 : l0.length ≤ c0) (h : verdererref15_has.f k l0 a1 = some r) :
  Calls Try.prog 31 #[.slice A0 l0.length c0, .string a1] w fun e w' => e = .returned (.bool r) ∧ Drawn0 w w' := by
 have HR0 := Aside0.mk hr0
 have HC0 := Aside0.mk hc0
 clear hr0 hc0
 have H : (verdererref15_has.l0 k l0 a1 0) = some r := h
 clear h
 have H' := Aside0.mk H
 clear H
 go_enter Try.func31, Try.ntmps31
 go_wp2
 go_loopg [5] k (fun kq v5 w' => ∃ (x5_1 : Int), v5 = .int .i64 x5_1 ∧ Aside0 (verdererref15_has.l0 kq l0 a1 x5_1 = some r) ∧ Aside0 (kq ≤ k) ∧ Drawn0 w w')
 case atStart => exact ⟨(0), rfl, H', ⟨Nat.le_refl _⟩, by repeat (first | exact Drawn0.refl _ | apply Drawn0.step)⟩
 case round =>
  clear H'
  try clear p2
  obtain ⟨x5_1, rfl, HA, HK1, ⟨m1, rfl⟩⟩ := hrel
  cases gk with
  | zero => exact absurd HA.out (by simp [verdererref15_has.l0])
  | succ k1 =>
   have H := HA.out
   clear HA
   simp only [verdererref15_has.l0] at H
   by_cases c3 : x5_1 < (l0.length : Int)
   ·
    rw [if_pos c3] at H
    have c3b0 : decide (x5_1 < (l0.length : Int)) = true := decide_eq_true c3
    clear c3
    by_cases c4 : 0 ≤ x5_1
    ·
     rw [if_pos c4] at H
     have c4b0 : decide (0 ≤ x5_1) = true := decide_eq_true c4
     clear c4
     by_cases c5 : (rdOf ByteArray.empty l0 x5_1).toList = a1.toList
     ·
      rw [if_pos c5] at H
      have c5b0 : ((rdOf ByteArray.empty l0 x5_1).toList == a1.toList) = true := beq_iff_eq.mpr c5
      have c5b1 : ((rdOf ByteArray.empty l0 x5_1).toList != a1.toList) = false := bne_eq_false_iff_eq.mpr c5
      clear c5
      obtain rfl := Option.some.inj H
      have p367 : 0 ≤ (x5_1 : Int) := of_decide_eq_true (by first | (with_reducible assumption) | assumption)
      have q367 : x5_1 < (l0.length : Int) := of_decide_eq_true (by first | (with_reducible assumption) | assumption)
      obtain ⟨ad367, e367, hx367_0⟩ := Kd.at_string HR0.out x5_1 p367 q367
      cases e367
      replace p367 := eq_true p367
      replace q367 := eq_true q367
      go_wp2
      go_ret
      exact ⟨by first | rfl | (simp; done) | (simp [*]; done), by repeat (first | exact Drawn0.refl _ | apply Drawn0.step)⟩
     ·
      rw [if_neg c5] at H
      have c5b0 : ((rdOf ByteArray.empty l0 x5_1).toList == a1.toList) = false := beq_eq_false_iff_ne.mpr c5
      have c5b1 : ((rdOf ByteArray.empty l0 x5_1).toList != a1.toList) = true := bne_iff_ne.mpr c5
      have H' := Aside0.mk H
      clear H
      have p367 : 0 ≤ (x5_1 : Int) := of_decide_eq_true (by first | (with_reducible assumption) | assumption)
      have q367 : x5_1 < (l0.length : Int) := of_decide_eq_true (by first | (with_reducible assumption) | assumption)
      obtain ⟨ad367, e367, hx367_0⟩ := Kd.at_string HR0.out x5_1 p367 q367
      cases e367
      replace p367 := eq_true p367
      replace q367 := eq_true q367
      go_wp2
      go_roundg k1
      case measure => have := HK1.out; omega
      case rel => exact ⟨(wrap64 (x5_1 + 1)), rfl, H', ⟨by have := HK1.out; omega⟩, by repeat (first | exact Drawn0.refl _ | apply Drawn0.step)⟩
    ·
     rw [if_neg c4] at H
     exact absurd H (by simp)
   ·
    rw [if_neg c3] at H
    have c3b0 : decide (x5_1 < (l0.length : Int)) = false := decide_eq_false c3
    clear c3
    obtain rfl := Option.some.inj H
    go_wp2
    go_ret
    exact ⟨by first | rfl | (simp; done) | (simp [*]; done), by repeat (first | exact Drawn0.refl _ | apply Drawn0.step)⟩
/-! ### verdererref15_atom: function 32 -/
def verdererref15_atom.f (a0_0 : Bool) (a0_1 : ByteArray) (l0_2 : List (S38)) (a0_3 : Int) : Option (Bool) := if a0_3 = 0 then (some (!a0_0)) else (some false)
set_option maxHeartbeats 8000000 in
set_option maxRecDepth 100000 in
theorem verdererref15_atom.calls (a0_0 : Bool) (a0_1 : ByteArray) (A0_2 : Option Addr) (c0_2 : Nat) (l0_2 : List (S38)) (a0_3 : Int) (r : Bool) (w : World) (hr0_2 : Kd.C k38 w A0_2 l0_2.length l0_2) (hc0_2 : l0_2.length ≤ c0_2) (h : verdererref15_atom.f a0_0 a0_1 l0_2 a0_3 = some r) :
  Calls Try.prog 32 #[.agg #[.bool a0_0, .string a0_1, .slice A0_2 l0_2.length c0_2, .int .i64 a0_3]] w fun e w' => e = .returned (.bool r) ∧ Below w.heap.size w w' := by
 have hu41 := Try.underlying41
 have HR0_2 := Aside0.mk hr0_2
 have HC0_2 := Aside0.mk hc0_2
 clear hr0_2 hc0_2
 have HB := Aside0.mk (Below.refl w.heap.size w)
 have H : (if a0_3 = 0 then (some (!a0_0)) else (some false)) = some r := h
 clear h
 by_cases c2 : a0_3 = 0
 ·
  rw [if_pos c2] at H
  have c2b0 : (a0_3 == 0) = true := beq_iff_eq.mpr c2
  have c2b1 : (a0_3 != 0) = false := bne_eq_false_iff_eq.mpr c2
  clear c2
  obtain rfl := Option.some.inj H
  go_enter Try.func32, Try.ntmps32
  go_wp2_with (first | ((with_reducible refine gate_dst (N := 1) rfl ?_); refine box_event ?hg (N := 1) ?hd (cs := #[.bool a0_0, .string a0_1, .slice A0_2 l0_2.length c0_2, .int .i64 a0_3]) (t := 41) ?hr ?_; (case hd => rfl); (case hg => rfl); (case hr => first | (go_simp; done) | (go_simp; rfl)); intro gb368 hg w3 hbox hb; have n0_ := Aside0.mk (below_step (by with_reducible exact HB.out) hb); have n1_ := Aside0.mk (hbox); have n2_ := Aside0.mk ((by rw [hg]; exact (below_size (by with_reducible exact HB.out)) : w.heap.size ≤ gb368)); have n3_ := Aside0.mk ((by rw [hg]; exact (below_size (by with_reducible exact HB.out)) : w.heap.size ≤ gb368)); clear HB; have HB := n0_; have BK368 := n1_; have GW368 := n2_; have GE368 := n3_; clear n0_ n1_ n2_ n3_ hb hbox hg; have hcz4_0 : w3.cell? ⟨gb368, 0, none⟩ = some (.bool a0_0) := (blk_cell BK368.out 0).trans rfl; have hcz4_1 : w3.cell? ⟨gb368, 1, none⟩ = some (.string a0_1) := (blk_cell BK368.out 1).trans rfl; have hcz4_2 : w3.cell? ⟨gb368, 2, none⟩ = some (.slice A0_2 l0_2.length c0_2) := (blk_cell BK368.out 2).trans rfl; have hcz4_3 : w3.cell? ⟨gb368, 3, none⟩ = some (.int .i64 a0_3) := (blk_cell BK368.out 3).trans rfl; have hfz4_0 := blk_frozen BK368.out 0; have hfz4_1 := blk_frozen BK368.out 1; have hfz4_2 := blk_frozen BK368.out 2; have hfz4_3 := blk_frozen BK368.out 3))
  go_ret
  exact ⟨rfl, by with_reducible exact HB.out⟩
 ·
  rw [if_neg c2] at H
  have c2b0 : (a0_3 == 0) = false := beq_eq_false_iff_ne.mpr c2
  have c2b1 : (a0_3 != 0) = true := bne_iff_ne.mpr c2
  obtain rfl := Option.some.inj H
  go_enter Try.func32, Try.ntmps32
  go_wp2_with (first | ((with_reducible refine gate_dst (N := 1) rfl ?_); refine box_event ?hg (N := 1) ?hd (cs := #[.bool a0_0, .string a0_1, .slice A0_2 l0_2.length c0_2, .int .i64 a0_3]) (t := 41) ?hr ?_; (case hd => rfl); (case hg => rfl); (case hr => first | (go_simp; done) | (go_simp; rfl)); intro gb368 hg w5 hbox hb; have n0_ := Aside0.mk (below_step (by with_reducible exact HB.out) hb); have n1_ := Aside0.mk (hbox); have n2_ := Aside0.mk ((by rw [hg]; exact (below_size (by with_reducible exact HB.out)) : w.heap.size ≤ gb368)); have n3_ := Aside0.mk ((by rw [hg]; exact (below_size (by with_reducible exact HB.out)) : w.heap.size ≤ gb368)); clear HB; have HB := n0_; have BK368 := n1_; have GW368 := n2_; have GE368 := n3_; clear n0_ n1_ n2_ n3_ hb hbox hg; have hcz6_0 : w5.cell? ⟨gb368, 0, none⟩ = some (.bool a0_0) := (blk_cell BK368.out 0).trans rfl; have hcz6_1 : w5.cell? ⟨gb368, 1, none⟩ = some (.string a0_1) := (blk_cell BK368.out 1).trans rfl; have hcz6_2 : w5.cell? ⟨gb368, 2, none⟩ = some (.slice A0_2 l0_2.length c0_2) := (blk_cell BK368.out 2).trans rfl; have hcz6_3 : w5.cell? ⟨gb368, 3, none⟩ = some (.int .i64 a0_3) := (blk_cell BK368.out 3).trans rfl; have hfz6_0 := blk_frozen BK368.out 0; have hfz6_1 := blk_frozen BK368.out 1; have hfz6_2 := blk_frozen BK368.out 2; have hfz6_3 := blk_frozen BK368.out 3))
  go_ret
  exact ⟨rfl, by with_reducible exact HB.out⟩
/-! ### verdererref15_Bound: function 16 -/
mutual
def verdererref15_Bound.l0 : Nat → List ByteArray → Int → Int → ByteArray → List ByteArray → Int → ByteArray → Int → List (S41) → Option (List ByteArray)
 | 0, _, _, _, _, _, _, _, _, _ => none
 | k + 1, x3, x4, x370000, x370001, x370002, x370003, x370004, x370005, x370006 => if x4 < (x370006.length : Int) then (verdererref15_Bound.l1 k x3 x4 0 x370000 x370001 x370002 x370003 x370004 x370005 x370006) else (some x3)
def verdererref15_Bound.l1 : Nat → List ByteArray → Int → Int → Int → ByteArray → List ByteArray → Int → ByteArray → Int → List (S41) → Option (List ByteArray)
 | 0, _, _, _, _, _, _, _, _, _, _ => none
 | k + 1, x3, x4, x5, x370000, x370001, x370002, x370003, x370004, x370005, x370006 => if 0 ≤ x4 then (if x4 < (x370006.length : Int) then (if x5 < (((rd_T41 x370006 x4).f2).length : Int) then ((verdererref15_atom.f ((rd_T41 x370006 x4).f0) ((rd_T41 x370006 x4).f1) ((rd_T41 x370006 x4).f2) ((rd_T41 x370006 x4).f3)).bind fun t372 => (verdererref15_Bound.j2 k x3 x4 x5 t372 x370000 x370001 x370002 x370003 x370004 x370005 x370006)) else (verdererref15_Bound.j2 k x3 x4 x5 false x370000 x370001 x370002 x370003 x370004 x370005 x370006)) else (none)) else (none)
def verdererref15_Bound.j2 : Nat → List ByteArray → Int → Int → Bool → Int → ByteArray → List ByteArray → Int → ByteArray → Int → List (S41) → Option (List ByteArray)
 | 0, _, _, _, _, _, _, _, _, _, _, _ => none
 | k + 1, x3, x4, x5, x30, x370000, x370001, x370002, x370003, x370004, x370005, x370006 => if x30 = true then (if 0 ≤ x4 then (if x4 < (x370006.length : Int) then (if 0 ≤ x5 then (if x5 < (((rd_T41 x370006 x4).f2).length : Int) then (if ((rd_T38 ((rd_T41 x370006 x4).f2) x5).f1 = true) then (verdererref15_Bound.l1 k x3 x4 (wrap64 (x5 + 1)) x370000 x370001 x370002 x370003 x370004 x370005 x370006) else (if ((rd_T38 ((rd_T41 x370006 x4).f2) x5).f0).toList = ([] : List UInt8) then (verdererref15_Bound.l1 k x3 x4 (wrap64 (x5 + 1)) x370000 x370001 x370002 x370003 x370004 x370005 x370006) else ((verdererref15_has.f k x3 ((rd_T38 ((rd_T41 x370006 x4).f2) x5).f0)).bind fun t376 => (if t376 = true then (verdererref15_Bound.l1 k x3 x4 (wrap64 (x5 + 1)) x370000 x370001 x370002 x370003 x370004 x370005 x370006) else (if x3.length < 8796093022208 then (verdererref15_Bound.l1 k (x3 ++ [(rd_T38 ((rd_T41 x370006 x4).f2) x5).f0]) x4 (wrap64 (x5 + 1)) x370000 x370001 x370002 x370003 x370004 x370005 x370006) else (none)))))) else (none)) else (none)) else (none)) else (none)) else (verdererref15_Bound.l0 k x3 (wrap64 (x4 + 1)) x370000 x370001 x370002 x370003 x370004 x370005 x370006)
end
def verdererref15_Bound.f (k : Nat) (a0_0 : Int) (a0_1 : ByteArray) (l0_2 : List ByteArray) (a0_3 : Int) (a0_4 : ByteArray) (a0_5 : Int) (l0_6 : List (S41)) : Option (List ByteArray) := verdererref15_Bound.l0 k ([] : List ByteArray) 0 a0_0 a0_1 l0_2 a0_3 a0_4 a0_5 l0_6
set_option maxHeartbeats 8000000 in
set_option maxRecDepth 100000 in
theorem verdererref15_Bound.calls (k : Nat) (a0_0 : Int) (a0_1 : ByteArray) (A0_2 : Option Addr) (c0_2 : Nat) (l0_2 : List ByteArray) (a0_3 : Int) (a0_4 : ByteArray) (a0_5 : Int) (A0_6 : Option Addr) (c0_6 : Nat) (l0_6 : List (S41)) (r : List ByteArray) (w : World) (hr0_2 : Kd.C Kd.string w A0_2 l0_2.length l0_2) (hc0_2 : l0_2.length ≤ c0_2) (hr0_6 : Kd.C k41 w A0_6 l0_6.length l0_6) (hc0_6 : l0_6.length ≤ c0_6) (h : verdererref15_Bound.f k a0_0 a0_1 l0_2 a0_3 a0_4 a0_5 l0_6 = some r) :
  Calls Try.prog 16 #[.agg #[.int .i64 a0_0, .string a0_1, .slice A0_2 l0_2.length c0_2, .int .i64 a0_3, .string a0_4, .int .i64 a0_5, .slice A0_6 l0_6.length c0_6]] w fun e w' => ∃ v0_ : Value, e = .returned (v0_) ∧ Kd.R Kd.string 9 w' w.heap.size (fun _ => True) v0_ r ∧ Below w.heap.size w w' := by
 have hu25 := Try.underlying25
 have hu41 := Try.underlying41
 have hu38 := Try.underlying38
 have HR0_2 := Aside0.mk hr0_2
 have HC0_2 := Aside0.mk hc0_2
 clear hr0_2 hc0_2
 have HR0_6 := Aside0.mk hr0_6
 have HC0_6 := Aside0.mk hc0_6
 clear hr0_6 hc0_6
 have HB := Aside0.mk (Below.refl w.heap.size w)
 have H : (verdererref15_Bound.l0 k ([] : List ByteArray) 0 a0_0 a0_1 l0_2 a0_3 a0_4 a0_5 l0_6) = some r := h
 clear h
 have H' := Aside0.mk H
 clear H
 go_enter Try.func16, Try.ntmps16
 go_wp2_with (first | ((with_reducible refine gate_dst (N := 1) rfl ?_); refine box_event ?hg (N := 1) ?hd (cs := #[.int .i64 a0_0, .string a0_1, .slice A0_2 l0_2.length c0_2, .int .i64 a0_3, .string a0_4, .int .i64 a0_5, .slice A0_6 l0_6.length c0_6]) (t := 25) ?hr ?_; (case hd => rfl); (case hg => rfl); (case hr => first | (go_simp; done) | (go_simp; rfl)); intro gb369 hg w2 hbox hb; have n0_ := Aside0.mk (below_step (by with_reducible exact HB.out) hb); have n1_ := Aside0.mk (hbox); have n2_ := Aside0.mk ((by rw [hg]; exact (below_size (by with_reducible exact HB.out)) : w.heap.size ≤ gb369)); have n3_ := Aside0.mk ((by rw [hg]; exact (below_size (by with_reducible exact HB.out)) : w.heap.size ≤ gb369)); clear HB; have HB := n0_; have BK369 := n1_; have GW369 := n2_; have GE369 := n3_; clear n0_ n1_ n2_ n3_ hb hbox hg))
 go_loopg [3, 4] k (fun kq v3 v4 w' => ∃ (x3_1 : List ByteArray) (x4_1 : Int), v4 = .int .i64 x4_1 ∧ Aside0 (verdererref15_Bound.l0 kq x3_1 x4_1 a0_0 a0_1 l0_2 a0_3 a0_4 a0_5 l0_6 = some r) ∧ Aside0 (kq ≤ k) ∧ Aside0 (Kd.R Kd.string 9 w' w.heap.size (fun _ => True) v3 x3_1) ∧ Aside0 (w'.heap[gb369]? = some (.cells #[.int .i64 a0_0, .string a0_1, (.slice A0_2 l0_2.length c0_2), .int .i64 a0_3, .string a0_4, .int .i64 a0_5, (.slice A0_6 l0_6.length c0_6)] 25 (0, 0))) ∧ Aside0 (Below w.heap.size w w'))
 case atStart => exact ⟨(([] : List ByteArray)), (0), rfl, H', ⟨Nat.le_refl _⟩, ⟨by first | exact Kd.R_nil _ _ _ _ _ | exact Kd.N_nil _ _ _ _ _ | exact Kd.V_nil _ _ _ _ _ | exact Kd.Q_nil _ _ _ _ _ | exact Kd.S_nil _ _ _ _ _⟩, ⟨by exact BK369.out⟩, ⟨by with_reducible exact HB.out⟩⟩
 case round =>
  clear H'
  obtain ⟨x3_1, x4_1, rfl, HA, HK1, HO_3, BK369, HB⟩ := hrel
  cases gk with
  | zero => exact absurd HA.out (by simp [verdererref15_Bound.l0])
  | succ k1 =>
   have H := HA.out
   clear HA
   simp only [verdererref15_Bound.l0] at H
   by_cases c3 : x4_1 < (l0_6.length : Int)
   ·
    rw [if_pos c3] at H
    have c3b0 : decide (x4_1 < (l0_6.length : Int)) = true := decide_eq_true c3
    clear c3
    have H' := Aside0.mk H
    clear H
    have hcz4_0 : wr.cell? ⟨gb369, 0, none⟩ = some (.int .i64 a0_0) := (blk_cell BK369.out 0).trans rfl
    have hcz4_1 : wr.cell? ⟨gb369, 1, none⟩ = some (.string a0_1) := (blk_cell BK369.out 1).trans rfl
    have hcz4_2 : wr.cell? ⟨gb369, 2, none⟩ = some (.slice A0_2 l0_2.length c0_2) := (blk_cell BK369.out 2).trans rfl
    have hcz4_3 : wr.cell? ⟨gb369, 3, none⟩ = some (.int .i64 a0_3) := (blk_cell BK369.out 3).trans rfl
    have hcz4_4 : wr.cell? ⟨gb369, 4, none⟩ = some (.string a0_4) := (blk_cell BK369.out 4).trans rfl
    have hcz4_5 : wr.cell? ⟨gb369, 5, none⟩ = some (.int .i64 a0_5) := (blk_cell BK369.out 5).trans rfl
    have hcz4_6 : wr.cell? ⟨gb369, 6, none⟩ = some (.slice A0_6 l0_6.length c0_6) := (blk_cell BK369.out 6).trans rfl
    have hfz4_0 := blk_frozen BK369.out 0
    have hfz4_1 := blk_frozen BK369.out 1
    have hfz4_2 := blk_frozen BK369.out 2
    have hfz4_3 := blk_frozen BK369.out 3
    have hfz4_4 := blk_frozen BK369.out 4
    have hfz4_5 := blk_frozen BK369.out 5
    have hfz4_6 := blk_frozen BK369.out 6
    go_wp2
    go_loopg [3, 5] k1 (fun kq v3 v5 w' => ∃ (x3_2 : List ByteArray) (x5_2 : Int), v5 = .int .i64 x5_2 ∧ Aside0 (verdererref15_Bound.l1 kq x3_2 x4_1 x5_2 a0_0 a0_1 l0_2 a0_3 a0_4 a0_5 l0_6 = some r) ∧ Aside0 (kq ≤ k1) ∧ Aside0 (Kd.R Kd.string 9 w' w.heap.size (fun _ => True) v3 x3_2) ∧ Aside0 (w'.heap[gb369]? = some (.cells #[.int .i64 a0_0, .string a0_1, (.slice A0_2 l0_2.length c0_2), .int .i64 a0_3, .string a0_4, .int .i64 a0_5, (.slice A0_6 l0_6.length c0_6)] 25 (0, 0))) ∧ Aside0 (Below w.heap.size w w'))
    case atStart => exact ⟨(x3_1), (0), rfl, H', ⟨Nat.le_refl _⟩, ⟨by exact HO_3.out⟩, ⟨by exact BK369.out⟩, ⟨by with_reducible exact HB.out⟩⟩
    case round =>
     clear H'
     clear c3b0 hcz4_0 hcz4_1 hcz4_2 hcz4_3 hcz4_4 hcz4_5 hcz4_6 hfz4_0 hfz4_1 hfz4_2 hfz4_3 hfz4_4 hfz4_5 hfz4_6
     obtain ⟨x3_2, x5_2, rfl, HA, HK2, HO_3, BK369, HB⟩ := hrel
     cases gk with
     | zero => exact absurd HA.out (by simp [verdererref15_Bound.l1])
     | succ k2 =>
      have H := HA.out
      clear HA
      simp only [verdererref15_Bound.l1] at H
      have HC5 := Aside0.mk H
      clear H
      go_upto_region 6 with (fail)
      go_cut [30] (fun v30 wc => ∃ (kq : Nat) (x30_4 : Bool), v30 = .bool x30_4 ∧ Aside0 (verdererref15_Bound.j2 kq x3_2 x4_1 x5_2 x30_4 a0_0 a0_1 l0_2 a0_3 a0_4 a0_5 l0_6 = some r) ∧ Aside0 (kq ≤ k2) ∧ Aside0 (Kd.R Kd.string 9 wc w.heap.size (fun _ => True) u3 x3_2) ∧ Aside0 (wc.heap[gb369]? = some (.cells #[.int .i64 a0_0, .string a0_1, (.slice A0_2 l0_2.length c0_2), .int .i64 a0_3, .string a0_4, .int .i64 a0_5, (.slice A0_6 l0_6.length c0_6)] 25 (0, 0))) ∧ Aside0 (Below w.heap.size w wc))
      case first =>
       have H := HC5.out
       clear HC5
       by_cases c6 : 0 ≤ x4_1
       ·
        rw [if_pos c6] at H
        have c6b0 : decide (0 ≤ x4_1) = true := decide_eq_true c6
        clear c6
        (first | rw [c6b0] | (simp only [i64_w, i32_w]; rw [c6b0]) | skip)
        by_cases c7 : x4_1 < (l0_6.length : Int)
        ·
         rw [if_pos c7] at H
         have c7b0 : decide (x4_1 < (l0_6.length : Int)) = true := decide_eq_true c7
         clear c7
         by_cases c8 : x5_2 < (((rd_T41 l0_6 x4_1).f2).length : Int)
         ·
          rw [if_pos c8] at H
          have c8b0 : decide (x5_2 < (((rd_T41 l0_6 x4_1).f2).length : Int)) = true := decide_eq_true c8
          clear c8
          replace H := Option.bind_eq_some_iff.mp H
          obtain ⟨t372, A90, H⟩ := H
          replace H : (verdererref15_Bound.j2 k2 x3_2 x4_1 x5_2 t372 a0_0 a0_1 l0_2 a0_3 a0_4 a0_5 l0_6) = some r := H
          have A9 := Aside0.mk A90
          clear A90
          have H' := Aside0.mk H
          clear H
          have hcz10_0 : wr.cell? ⟨gb369, 0, none⟩ = some (.int .i64 a0_0) := (blk_cell BK369.out 0).trans rfl
          have hcz10_1 : wr.cell? ⟨gb369, 1, none⟩ = some (.string a0_1) := (blk_cell BK369.out 1).trans rfl
          have hcz10_2 : wr.cell? ⟨gb369, 2, none⟩ = some (.slice A0_2 l0_2.length c0_2) := (blk_cell BK369.out 2).trans rfl
          have hcz10_3 : wr.cell? ⟨gb369, 3, none⟩ = some (.int .i64 a0_3) := (blk_cell BK369.out 3).trans rfl
          have hcz10_4 : wr.cell? ⟨gb369, 4, none⟩ = some (.string a0_4) := (blk_cell BK369.out 4).trans rfl
          have hcz10_5 : wr.cell? ⟨gb369, 5, none⟩ = some (.int .i64 a0_5) := (blk_cell BK369.out 5).trans rfl
          have hcz10_6 : wr.cell? ⟨gb369, 6, none⟩ = some (.slice A0_6 l0_6.length c0_6) := (blk_cell BK369.out 6).trans rfl
          have hfz10_0 := blk_frozen BK369.out 0
          have hfz10_1 := blk_frozen BK369.out 1
          have hfz10_2 := blk_frozen BK369.out 2
          have hfz10_3 := blk_frozen BK369.out 3
          have hfz10_4 := blk_frozen BK369.out 4
          have hfz10_5 := blk_frozen BK369.out 5
          have hfz10_6 := blk_frozen BK369.out 6
          have p370 : 0 ≤ (x4_1 : Int) := of_decide_eq_true (by first | (with_reducible assumption) | assumption)
          have q370 : x4_1 < (l0_6.length : Int) := of_decide_eq_true (by first | (with_reducible assumption) | assumption)
          obtain ⟨ad370, A370_2, c370_2, e370, hx370_0, hx370_1, hx370_2, hx370_3, hl370_2, hi370_2⟩ := at_T41 HR0_6.out x4_1 p370 q370
          cases e370
          replace hx370_0 := (HB.out.cell (World.block_lt_of_cell? w _ hx370_0)).trans hx370_0
          replace hx370_1 := (HB.out.cell (World.block_lt_of_cell? w _ hx370_1)).trans hx370_1
          replace hx370_2 := (HB.out.cell (World.block_lt_of_cell? w _ hx370_2)).trans hx370_2
          replace hx370_3 := (HB.out.cell (World.block_lt_of_cell? w _ hx370_3)).trans hx370_3
          have HR370_2 := Aside0.mk hi370_2
          have HC370_2 := Aside0.mk hl370_2
          clear hi370_2 hl370_2
          replace p370 := eq_true p370
          replace q370 := eq_true q370
          have p371 : 0 ≤ (x4_1 : Int) := of_decide_eq_true (by first | (with_reducible assumption) | assumption)
          have q371 : x4_1 < (l0_6.length : Int) := of_decide_eq_true (by first | (with_reducible assumption) | assumption)
          obtain ⟨ad371, A371_2, c371_2, e371, hx371_0, hx371_1, hx371_2, hx371_3, hl371_2, hi371_2⟩ := at_T41 HR0_6.out x4_1 p371 q371
          obtain rfl : ad370 = ad371 := (by injection e371)
          replace hx371_0 := (HB.out.cell (World.block_lt_of_cell? w _ hx371_0)).trans hx371_0
          replace hx371_1 := (HB.out.cell (World.block_lt_of_cell? w _ hx371_1)).trans hx371_1
          replace hx371_2 := (HB.out.cell (World.block_lt_of_cell? w _ hx371_2)).trans hx371_2
          replace hx371_3 := (HB.out.cell (World.block_lt_of_cell? w _ hx371_3)).trans hx371_3
          have HR371_2 := Aside0.mk hi371_2
          have HC371_2 := Aside0.mk hl371_2
          clear hi371_2 hl371_2
          replace p371 := eq_true p371
          replace q371 := eq_true q371
          have ea_ := Option.some.inj (hx370_2.symm.trans hx371_2)
          injection ea_ with ea_ en_ ec_
          subst ea_
          subst ec_
          clear en_
          go_wp2_with (first | (go_at_call 32; (with_reducible refine (verdererref15_atom.calls ((rd_T41 l0_6 x4_1).f0) ((rd_T41 l0_6 x4_1).f1) _ _ ((rd_T41 l0_6 x4_1).f2) ((rd_T41 l0_6 x4_1).f3) t372 _ ?side1 ?side2 A9.out).mono ?_); (case side1 => exact (Kd.C_below HR371_2.out HB.out)); (case side2 => exact HC371_2.out); rintro e w11 ⟨rfl, hb⟩; have n0_ := Aside0.mk (Kd.R_below (by exact HO_3.out) hb); have n1_ := Aside0.mk (blk_below (g := gb369) (o := .cells #[.int .i64 a0_0, .string a0_1, .slice A0_2 l0_2.length c0_2, .int .i64 a0_3, .string a0_4, .int .i64 a0_5, .slice (some ad370) l0_6.length c0_6] 25 (0, 0)) (by exact BK369.out) hb); have n2_ := Aside0.mk (below_step (by with_reducible exact HB.out) hb); clear HO_3 BK369 HB; have HO_3 := n0_; have BK369 := n1_; have HB := n2_; clear n0_ n1_ n2_ hb))
          go_meet
          case rel => exact ⟨_, (t372), rfl, H', ⟨by have := HK1.out; have := HK2.out; first | omega | exact Nat.le_refl _⟩, ⟨by exact HO_3.out⟩, ⟨by exact BK369.out⟩, ⟨by with_reducible exact HB.out⟩⟩
         ·
          rw [if_neg c8] at H
          have c8b0 : decide (x5_2 < (((rd_T41 l0_6 x4_1).f2).length : Int)) = false := decide_eq_false c8
          clear c8
          have H' := Aside0.mk H
          clear H
          have hcz12_0 : wr.cell? ⟨gb369, 0, none⟩ = some (.int .i64 a0_0) := (blk_cell BK369.out 0).trans rfl
          have hcz12_1 : wr.cell? ⟨gb369, 1, none⟩ = some (.string a0_1) := (blk_cell BK369.out 1).trans rfl
          have hcz12_2 : wr.cell? ⟨gb369, 2, none⟩ = some (.slice A0_2 l0_2.length c0_2) := (blk_cell BK369.out 2).trans rfl
          have hcz12_3 : wr.cell? ⟨gb369, 3, none⟩ = some (.int .i64 a0_3) := (blk_cell BK369.out 3).trans rfl
          have hcz12_4 : wr.cell? ⟨gb369, 4, none⟩ = some (.string a0_4) := (blk_cell BK369.out 4).trans rfl
          have hcz12_5 : wr.cell? ⟨gb369, 5, none⟩ = some (.int .i64 a0_5) := (blk_cell BK369.out 5).trans rfl
          have hcz12_6 : wr.cell? ⟨gb369, 6, none⟩ = some (.slice A0_6 l0_6.length c0_6) := (blk_cell BK369.out 6).trans rfl
          have hfz12_0 := blk_frozen BK369.out 0
          have hfz12_1 := blk_frozen BK369.out 1
          have hfz12_2 := blk_frozen BK369.out 2
          have hfz12_3 := blk_frozen BK369.out 3
          have hfz12_4 := blk_frozen BK369.out 4
          have hfz12_5 := blk_frozen BK369.out 5
          have hfz12_6 := blk_frozen BK369.out 6
          have p370 : 0 ≤ (x4_1 : Int) := of_decide_eq_true (by first | (with_reducible assumption) | assumption)
          have q370 : x4_1 < (l0_6.length : Int) := of_decide_eq_true (by first | (with_reducible assumption) | assumption)
          obtain ⟨ad370, A370_2, c370_2, e370, hx370_0, hx370_1, hx370_2, hx370_3, hl370_2, hi370_2⟩ := at_T41 HR0_6.out x4_1 p370 q370
          cases e370
          replace hx370_0 := (HB.out.cell (World.block_lt_of_cell? w _ hx370_0)).trans hx370_0
          replace hx370_1 := (HB.out.cell (World.block_lt_of_cell? w _ hx370_1)).trans hx370_1
          replace hx370_2 := (HB.out.cell (World.block_lt_of_cell? w _ hx370_2)).trans hx370_2
          replace hx370_3 := (HB.out.cell (World.block_lt_of_cell? w _ hx370_3)).trans hx370_3
          have HR370_2 := Aside0.mk hi370_2
          have HC370_2 := Aside0.mk hl370_2
          clear hi370_2 hl370_2
          replace p370 := eq_true p370
          replace q370 := eq_true q370
          go_wp2
          go_meet
          case rel => exact ⟨_, (false), rfl, H', ⟨by have := HK1.out; have := HK2.out; first | omega | exact Nat.le_refl _⟩, ⟨by exact HO_3.out⟩, ⟨by exact BK369.out⟩, ⟨by with_reducible exact HB.out⟩⟩
        ·
         rw [if_neg c7] at H
         exact absurd H (by simp)
       ·
        rw [if_neg c6] at H
        exact absurd H (by simp)
      case rest =>
       clear HC5
       obtain ⟨kq, x30_4, rfl, HA, HJ4, HO_3, BK369, HB⟩ := hcut
       cases kq with
       | zero => exact absurd HA.out (by simp [verdererref15_Bound.j2])
       | succ kj4 =>
        have H := HA.out
        clear HA
        simp only [verdererref15_Bound.j2] at H
        by_cases c13 : x30_4 = true
        ·
         subst c13
         have H1 : (if 0 ≤ x4_1 then (if x4_1 < (l0_6.length : Int) then (if 0 ≤ x5_2 then (if x5_2 < (((rd_T41 l0_6 x4_1).f2).length : Int) then (if ((rd_T38 ((rd_T41 l0_6 x4_1).f2) x5_2).f1 = true) then (verdererref15_Bound.l1 kj4 x3_2 x4_1 (wrap64 (x5_2 + 1)) a0_0 a0_1 l0_2 a0_3 a0_4 a0_5 l0_6) else (if ((rd_T38 ((rd_T41 l0_6 x4_1).f2) x5_2).f0).toList = ([] : List UInt8) then (verdererref15_Bound.l1 kj4 x3_2 x4_1 (wrap64 (x5_2 + 1)) a0_0 a0_1 l0_2 a0_3 a0_4 a0_5 l0_6) else ((verdererref15_has.f kj4 x3_2 ((rd_T38 ((rd_T41 l0_6 x4_1).f2) x5_2).f0)).bind fun t376 => (if t376 = true then (verdererref15_Bound.l1 kj4 x3_2 x4_1 (wrap64 (x5_2 + 1)) a0_0 a0_1 l0_2 a0_3 a0_4 a0_5 l0_6) else (if x3_2.length < 8796093022208 then (verdererref15_Bound.l1 kj4 (x3_2 ++ [(rd_T38 ((rd_T41 l0_6 x4_1).f2) x5_2).f0]) x4_1 (wrap64 (x5_2 + 1)) a0_0 a0_1 l0_2 a0_3 a0_4 a0_5 l0_6) else (none)))))) else (none)) else (none)) else (none)) else (none)) = some r := by rw [if_pos rfl] at H; exact H
         clear H
         have H := H1
         clear H1
         by_cases c14 : 0 ≤ x4_1
         ·
          rw [if_pos c14] at H
          have c14b0 : decide (0 ≤ x4_1) = true := decide_eq_true c14
          clear c14
          by_cases c15 : x4_1 < (l0_6.length : Int)
          ·
           rw [if_pos c15] at H
           have c15b0 : decide (x4_1 < (l0_6.length : Int)) = true := decide_eq_true c15
           clear c15
           by_cases c16 : 0 ≤ x5_2
           ·
            rw [if_pos c16] at H
            have c16b0 : decide (0 ≤ x5_2) = true := decide_eq_true c16
            clear c16
            by_cases c17 : x5_2 < (((rd_T41 l0_6 x4_1).f2).length : Int)
            ·
             rw [if_pos c17] at H
             have c17b0 : decide (x5_2 < (((rd_T41 l0_6 x4_1).f2).length : Int)) = true := decide_eq_true c17
             clear c17
             obtain ⟨bq18, hbq18⟩ : ∃ b_ : Bool, b_ = ((rd_T38 ((rd_T41 l0_6 x4_1).f2) x5_2).f1) := ⟨_, rfl⟩
             replace H : (if (bq18 = true) then (verdererref15_Bound.l1 kj4 x3_2 x4_1 (wrap64 (x5_2 + 1)) a0_0 a0_1 l0_2 a0_3 a0_4 a0_5 l0_6) else (if ((rd_T38 ((rd_T41 l0_6 x4_1).f2) x5_2).f0).toList = ([] : List UInt8) then (verdererref15_Bound.l1 kj4 x3_2 x4_1 (wrap64 (x5_2 + 1)) a0_0 a0_1 l0_2 a0_3 a0_4 a0_5 l0_6) else ((verdererref15_has.f kj4 x3_2 ((rd_T38 ((rd_T41 l0_6 x4_1).f2) x5_2).f0)).bind fun t376 => (if t376 = true then (verdererref15_Bound.l1 kj4 x3_2 x4_1 (wrap64 (x5_2 + 1)) a0_0 a0_1 l0_2 a0_3 a0_4 a0_5 l0_6) else (if x3_2.length < 8796093022208 then (verdererref15_Bound.l1 kj4 (x3_2 ++ [(rd_T38 ((rd_T41 l0_6 x4_1).f2) x5_2).f0]) x4_1 (wrap64 (x5_2 + 1)) a0_0 a0_1 l0_2 a0_3 a0_4 a0_5 l0_6) else (none)))))) = some r := by rw [← hbq18] at H; exact H
             have Nbq18 := Aside0.mk hbq18
             clear hbq18
             by_cases c19 : (bq18 = true)
             ·
              subst c19
              have H1 : (verdererref15_Bound.l1 kj4 x3_2 x4_1 (wrap64 (x5_2 + 1)) a0_0 a0_1 l0_2 a0_3 a0_4 a0_5 l0_6) = some r := by rw [if_pos rfl] at H; exact H
              clear H
              have H := H1
              clear H1
              have H' := Aside0.mk H
              clear H
              have hcz20_0 : wc.cell? ⟨gb369, 0, none⟩ = some (.int .i64 a0_0) := (blk_cell BK369.out 0).trans rfl
              have hcz20_1 : wc.cell? ⟨gb369, 1, none⟩ = some (.string a0_1) := (blk_cell BK369.out 1).trans rfl
              have hcz20_2 : wc.cell? ⟨gb369, 2, none⟩ = some (.slice A0_2 l0_2.length c0_2) := (blk_cell BK369.out 2).trans rfl
              have hcz20_3 : wc.cell? ⟨gb369, 3, none⟩ = some (.int .i64 a0_3) := (blk_cell BK369.out 3).trans rfl
              have hcz20_4 : wc.cell? ⟨gb369, 4, none⟩ = some (.string a0_4) := (blk_cell BK369.out 4).trans rfl
              have hcz20_5 : wc.cell? ⟨gb369, 5, none⟩ = some (.int .i64 a0_5) := (blk_cell BK369.out 5).trans rfl
              have hcz20_6 : wc.cell? ⟨gb369, 6, none⟩ = some (.slice A0_6 l0_6.length c0_6) := (blk_cell BK369.out 6).trans rfl
              have hfz20_0 := blk_frozen BK369.out 0
              have hfz20_1 := blk_frozen BK369.out 1
              have hfz20_2 := blk_frozen BK369.out 2
              have hfz20_3 := blk_frozen BK369.out 3
              have hfz20_4 := blk_frozen BK369.out 4
              have hfz20_5 := blk_frozen BK369.out 5
              have hfz20_6 := blk_frozen BK369.out 6
              have p373 : 0 ≤ (x4_1 : Int) := of_decide_eq_true (by first | (with_reducible assumption) | assumption)
              have q373 : x4_1 < (l0_6.length : Int) := of_decide_eq_true (by first | (with_reducible assumption) | assumption)
              obtain ⟨ad373, A373_2, c373_2, e373, hx373_0, hx373_1, hx373_2, hx373_3, hl373_2, hi373_2⟩ := at_T41 HR0_6.out x4_1 p373 q373
              (try rw [← Nbq18.out] at hx373_0)
              cases e373
              replace hx373_0 := (HB.out.cell (World.block_lt_of_cell? w _ hx373_0)).trans hx373_0
              replace hx373_1 := (HB.out.cell (World.block_lt_of_cell? w _ hx373_1)).trans hx373_1
              replace hx373_2 := (HB.out.cell (World.block_lt_of_cell? w _ hx373_2)).trans hx373_2
              replace hx373_3 := (HB.out.cell (World.block_lt_of_cell? w _ hx373_3)).trans hx373_3
              have HR373_2 := Aside0.mk hi373_2
              have HC373_2 := Aside0.mk hl373_2
              clear hi373_2 hl373_2
              replace p373 := eq_true p373
              replace q373 := eq_true q373
              have p374 : 0 ≤ (x5_2 : Int) := of_decide_eq_true (by first | (with_reducible assumption) | assumption)
              have q374 : x5_2 < (((rd_T41 l0_6 x4_1).f2).length : Int) := of_decide_eq_true (by first | (with_reducible assumption) | assumption)
              obtain ⟨ad374, e374, hx374_0, hx374_1, hx374_2, hx374_3, hx374_4, hx374_5⟩ := at_T38 HR373_2.out x5_2 p374 q374
              (try rw [← Nbq18.out] at hx374_1)
              (try rw [← Nbq18.out] at hx374_3)
              cases e374
              replace hx374_0 := (HB.out.cell (World.block_lt_of_cell? w _ hx374_0)).trans hx374_0
              replace hx374_1 := (HB.out.cell (World.block_lt_of_cell? w _ hx374_1)).trans hx374_1
              replace hx374_2 := (HB.out.cell (World.block_lt_of_cell? w _ hx374_2)).trans hx374_2
              replace hx374_3 := (HB.out.cell (World.block_lt_of_cell? w _ hx374_3)).trans hx374_3
              replace hx374_4 := (HB.out.cell (World.block_lt_of_cell? w _ hx374_4)).trans hx374_4
              replace hx374_5 := (HB.out.cell (World.block_lt_of_cell? w _ hx374_5)).trans hx374_5
              replace p374 := eq_true p374
              replace q374 := eq_true q374
              go_wp2_with (first | ((with_reducible refine gate_dst (N := 6) rfl ?_); refine box_event ?hg (N := 6) ?hd (cs := #[.string (⟨#[]⟩ : ByteArray), .bool false, .int .i64 0, .bool false, .int .i64 0, .string (⟨#[]⟩ : ByteArray)]) (t := 38) ?hr ?_; (case hd => rfl); (case hg => rfl); (case hr => first | (go_simp; done) | (go_simp; rfl)); intro gb375 hg w21 hbox hb; have n0_ := Aside0.mk (Kd.R_below (by exact HO_3.out) hb); have n1_ := Aside0.mk (blk_below (g := gb369) (o := .cells #[.int .i64 a0_0, .string a0_1, .slice A0_2 l0_2.length c0_2, .int .i64 a0_3, .string a0_4, .int .i64 a0_5, .slice (some ad373) l0_6.length c0_6] 25 (0, 0)) (by exact BK369.out) hb); have n2_ := Aside0.mk (below_step (by with_reducible exact HB.out) hb); have n3_ := Aside0.mk (hbox); have n4_ := Aside0.mk ((by rw [hg]; exact (below_size (by with_reducible exact HB.out)) : w.heap.size ≤ gb375)); have n5_ := Aside0.mk ((by rw [hg]; exact (below_size (by with_reducible exact HB.out)) : w.heap.size ≤ gb375)); have n6_ := Aside0.mk ((by rw [hg]; exact Nat.ne_of_lt (blk_lt (g := gb369) (o := .cells #[.int .i64 a0_0, .string a0_1, .slice A0_2 l0_2.length c0_2, .int .i64 a0_3, .string a0_4, .int .i64 a0_5, .slice (some ad373) l0_6.length c0_6] 25 (0, 0)) (by exact BK369.out)) : gb369 ≠ gb375)); have n7_ := Aside0.mk ((by rw [hg]; exact Nat.ne_of_gt (blk_lt (g := gb369) (o := .cells #[.int .i64 a0_0, .string a0_1, .slice A0_2 l0_2.length c0_2, .int .i64 a0_3, .string a0_4, .int .i64 a0_5, .slice (some ad373) l0_6.length c0_6] 25 (0, 0)) (by exact BK369.out)) : gb375 ≠ gb369)); clear HO_3 BK369 HB; have HO_3 := n0_; have BK369 := n1_; have HB := n2_; have BK375 := n3_; have GW375 := n4_; have GE375 := n5_; have NB369_375 := n6_; have NB375_369 := n7_; clear n0_ n1_ n2_ n3_ n4_ n5_ n6_ n7_ hb hbox hg; have hnb22 := NB375_369.out; have hnc22 := NB369_375.out; have hcz23_0 : w21.cell? ⟨gb375, 0, none⟩ = some (.string (⟨#[]⟩ : ByteArray)) := (blk_cell BK375.out 0).trans rfl; have hcz23_1 : w21.cell? ⟨gb375, 1, none⟩ = some (.bool false) := (blk_cell BK375.out 1).trans rfl; have hcz23_2 : w21.cell? ⟨gb375, 2, none⟩ = some (.int .i64 0) := (blk_cell BK375.out 2).trans rfl; have hcz23_3 : w21.cell? ⟨gb375, 3, none⟩ = some (.bool false) := (blk_cell BK375.out 3).trans rfl; have hcz23_4 : w21.cell? ⟨gb375, 4, none⟩ = some (.int .i64 0) := (blk_cell BK375.out 4).trans rfl; have hcz23_5 : w21.cell? ⟨gb375, 5, none⟩ = some (.string (⟨#[]⟩ : ByteArray)) := (blk_cell BK375.out 5).trans rfl; have hfz23_0 := blk_frozen BK375.out 0; have hfz23_1 := blk_frozen BK375.out 1; have hfz23_2 := blk_frozen BK375.out 2; have hfz23_3 := blk_frozen BK375.out 3; have hfz23_4 := blk_frozen BK375.out 4; have hfz23_5 := blk_frozen BK375.out 5))
              go_roundg kj4
              case measure => have := HK1.out; have := HK2.out; have := HJ4.out; omega
              case rel => exact ⟨(x3_2), (wrap64 (x5_2 + 1)), rfl, H', ⟨by have := HK1.out; have := HK2.out; have := HJ4.out; omega⟩, ⟨by exact Kd.R_mono (Kd.R_far (p := ⟨gb375, 5, none⟩) (Kd.R_far (p := ⟨gb375, 4, none⟩) (Kd.R_far (p := ⟨gb375, 3, none⟩) (Kd.R_far (p := ⟨gb375, 2, none⟩) (Kd.R_far (p := ⟨gb375, 1, none⟩) (Kd.R_far (p := ⟨gb375, 0, none⟩) (Kd.R_types HO_3.out BK375.out (by decide)) (fun _ hk => hk.2) (.string ((rd_T38 ((rd_T41 l0_6 x4_1).f2) x5_2).f0))) (fun _ hk => hk.2) (.bool true)) (fun _ hk => hk.2) (.int .i64 ((rd_T38 ((rd_T41 l0_6 x4_1).f2) x5_2).f2.f0))) (fun _ hk => hk.2) (.bool ((rd_T38 ((rd_T41 l0_6 x4_1).f2) x5_2).f2.f1))) (fun _ hk => hk.2) (.int .i64 ((rd_T38 ((rd_T41 l0_6 x4_1).f2) x5_2).f2.f2))) (fun _ hk => hk.2) (.string ((rd_T38 ((rd_T41 l0_6 x4_1).f2) x5_2).f2.f3))) (fun _ hk => trivial)⟩, ⟨by refine blk_far ?_ NB369_375.out _; refine blk_far ?_ NB369_375.out _; refine blk_far ?_ NB369_375.out _; refine blk_far ?_ NB369_375.out _; refine blk_far ?_ NB369_375.out _; refine blk_far ?_ NB369_375.out _; exact BK369.out⟩, ⟨by repeat (first | (with_reducible first | exact HB.out | apply below_alloc | apply pw_below_drewN | apply below_drew1 | refine below_set ?_ GE369.out | refine below_set ?_ GE375.out) | exact HB.out)⟩⟩
             ·
              replace c19 := Bool.eq_false_iff.mpr c19
              subst c19
              have H1 : (if ((rd_T38 ((rd_T41 l0_6 x4_1).f2) x5_2).f0).toList = ([] : List UInt8) then (verdererref15_Bound.l1 kj4 x3_2 x4_1 (wrap64 (x5_2 + 1)) a0_0 a0_1 l0_2 a0_3 a0_4 a0_5 l0_6) else ((verdererref15_has.f kj4 x3_2 ((rd_T38 ((rd_T41 l0_6 x4_1).f2) x5_2).f0)).bind fun t376 => (if t376 = true then (verdererref15_Bound.l1 kj4 x3_2 x4_1 (wrap64 (x5_2 + 1)) a0_0 a0_1 l0_2 a0_3 a0_4 a0_5 l0_6) else (if x3_2.length < 8796093022208 then (verdererref15_Bound.l1 kj4 (x3_2 ++ [(rd_T38 ((rd_T41 l0_6 x4_1).f2) x5_2).f0]) x4_1 (wrap64 (x5_2 + 1)) a0_0 a0_1 l0_2 a0_3 a0_4 a0_5 l0_6) else (none))))) = some r := by rw [if_neg (show ¬ (false = true) by decide)] at H; exact H
              clear H
              have H := H1
              clear H1
              by_cases c24 : ((rd_T38 ((rd_T41 l0_6 x4_1).f2) x5_2).f0).toList = ([] : List UInt8)
              ·
               rw [if_pos c24] at H
               have c24b0 : (((rd_T38 ((rd_T41 l0_6 x4_1).f2) x5_2).f0).toList == ([] : List UInt8)) = true := beq_iff_eq.mpr c24
               have c24b1 : (((rd_T38 ((rd_T41 l0_6 x4_1).f2) x5_2).f0).toList != ([] : List UInt8)) = false := bne_eq_false_iff_eq.mpr c24
               clear c24
               have H' := Aside0.mk H
               clear H
               have hcz25_0 : wc.cell? ⟨gb369, 0, none⟩ = some (.int .i64 a0_0) := (blk_cell BK369.out 0).trans rfl
               have hcz25_1 : wc.cell? ⟨gb369, 1, none⟩ = some (.string a0_1) := (blk_cell BK369.out 1).trans rfl
               have hcz25_2 : wc.cell? ⟨gb369, 2, none⟩ = some (.slice A0_2 l0_2.length c0_2) := (blk_cell BK369.out 2).trans rfl
               have hcz25_3 : wc.cell? ⟨gb369, 3, none⟩ = some (.int .i64 a0_3) := (blk_cell BK369.out 3).trans rfl
               have hcz25_4 : wc.cell? ⟨gb369, 4, none⟩ = some (.string a0_4) := (blk_cell BK369.out 4).trans rfl
               have hcz25_5 : wc.cell? ⟨gb369, 5, none⟩ = some (.int .i64 a0_5) := (blk_cell BK369.out 5).trans rfl
               have hcz25_6 : wc.cell? ⟨gb369, 6, none⟩ = some (.slice A0_6 l0_6.length c0_6) := (blk_cell BK369.out 6).trans rfl
               have hfz25_0 := blk_frozen BK369.out 0
               have hfz25_1 := blk_frozen BK369.out 1
               have hfz25_2 := blk_frozen BK369.out 2
               have hfz25_3 := blk_frozen BK369.out 3
               have hfz25_4 := blk_frozen BK369.out 4
               have hfz25_5 := blk_frozen BK369.out 5
               have hfz25_6 := blk_frozen BK369.out 6
               have p373 : 0 ≤ (x4_1 : Int) := of_decide_eq_true (by first | (with_reducible assumption) | assumption)
               have q373 : x4_1 < (l0_6.length : Int) := of_decide_eq_true (by first | (with_reducible assumption) | assumption)
               obtain ⟨ad373, A373_2, c373_2, e373, hx373_0, hx373_1, hx373_2, hx373_3, hl373_2, hi373_2⟩ := at_T41 HR0_6.out x4_1 p373 q373
               (try rw [← Nbq18.out] at hx373_0)
               cases e373
               replace hx373_0 := (HB.out.cell (World.block_lt_of_cell? w _ hx373_0)).trans hx373_0
               replace hx373_1 := (HB.out.cell (World.block_lt_of_cell? w _ hx373_1)).trans hx373_1
               replace hx373_2 := (HB.out.cell (World.block_lt_of_cell? w _ hx373_2)).trans hx373_2
               replace hx373_3 := (HB.out.cell (World.block_lt_of_cell? w _ hx373_3)).trans hx373_3
               have HR373_2 := Aside0.mk hi373_2
               have HC373_2 := Aside0.mk hl373_2
               clear hi373_2 hl373_2
               replace p373 := eq_true p373
               replace q373 := eq_true q373
               have p374 : 0 ≤ (x5_2 : Int) := of_decide_eq_true (by first | (with_reducible assumption) | assumption)
               have q374 : x5_2 < (((rd_T41 l0_6 x4_1).f2).length : Int) := of_decide_eq_true (by first | (with_reducible assumption) | assumption)
               obtain ⟨ad374, e374, hx374_0, hx374_1, hx374_2, hx374_3, hx374_4, hx374_5⟩ := at_T38 HR373_2.out x5_2 p374 q374
               (try rw [← Nbq18.out] at hx374_1)
               (try rw [← Nbq18.out] at hx374_3)
               cases e374
               replace hx374_0 := (HB.out.cell (World.block_lt_of_cell? w _ hx374_0)).trans hx374_0
               replace hx374_1 := (HB.out.cell (World.block_lt_of_cell? w _ hx374_1)).trans hx374_1
               replace hx374_2 := (HB.out.cell (World.block_lt_of_cell? w _ hx374_2)).trans hx374_2
               replace hx374_3 := (HB.out.cell (World.block_lt_of_cell? w _ hx374_3)).trans hx374_3
               replace hx374_4 := (HB.out.cell (World.block_lt_of_cell? w _ hx374_4)).trans hx374_4
               replace hx374_5 := (HB.out.cell (World.block_lt_of_cell? w _ hx374_5)).trans hx374_5
               replace p374 := eq_true p374
               replace q374 := eq_true q374
               go_wp2_with (first | ((with_reducible refine gate_dst (N := 6) rfl ?_); refine box_event ?hg (N := 6) ?hd (cs := #[.string (⟨#[]⟩ : ByteArray), .bool false, .int .i64 0, .bool false, .int .i64 0, .string (⟨#[]⟩ : ByteArray)]) (t := 38) ?hr ?_; (case hd => rfl); (case hg => rfl); (case hr => first | (go_simp; done) | (go_simp; rfl)); intro gb375 hg w26 hbox hb; have n0_ := Aside0.mk (Kd.R_below (by exact HO_3.out) hb); have n1_ := Aside0.mk (blk_below (g := gb369) (o := .cells #[.int .i64 a0_0, .string a0_1, .slice A0_2 l0_2.length c0_2, .int .i64 a0_3, .string a0_4, .int .i64 a0_5, .slice (some ad373) l0_6.length c0_6] 25 (0, 0)) (by exact BK369.out) hb); have n2_ := Aside0.mk (below_step (by with_reducible exact HB.out) hb); have n3_ := Aside0.mk (hbox); have n4_ := Aside0.mk ((by rw [hg]; exact (below_size (by with_reducible exact HB.out)) : w.heap.size ≤ gb375)); have n5_ := Aside0.mk ((by rw [hg]; exact (below_size (by with_reducible exact HB.out)) : w.heap.size ≤ gb375)); have n6_ := Aside0.mk ((by rw [hg]; exact Nat.ne_of_lt (blk_lt (g := gb369) (o := .cells #[.int .i64 a0_0, .string a0_1, .slice A0_2 l0_2.length c0_2, .int .i64 a0_3, .string a0_4, .int .i64 a0_5, .slice (some ad373) l0_6.length c0_6] 25 (0, 0)) (by exact BK369.out)) : gb369 ≠ gb375)); have n7_ := Aside0.mk ((by rw [hg]; exact Nat.ne_of_gt (blk_lt (g := gb369) (o := .cells #[.int .i64 a0_0, .string a0_1, .slice A0_2 l0_2.length c0_2, .int .i64 a0_3, .string a0_4, .int .i64 a0_5, .slice (some ad373) l0_6.length c0_6] 25 (0, 0)) (by exact BK369.out)) : gb375 ≠ gb369)); clear HO_3 BK369 HB; have HO_3 := n0_; have BK369 := n1_; have HB := n2_; have BK375 := n3_; have GW375 := n4_; have GE375 := n5_; have NB369_375 := n6_; have NB375_369 := n7_; clear n0_ n1_ n2_ n3_ n4_ n5_ n6_ n7_ hb hbox hg; have hnb27 := NB375_369.out; have hnc27 := NB369_375.out; have hcz28_0 : w26.cell? ⟨gb375, 0, none⟩ = some (.string (⟨#[]⟩ : ByteArray)) := (blk_cell BK375.out 0).trans rfl; have hcz28_1 : w26.cell? ⟨gb375, 1, none⟩ = some (.bool false) := (blk_cell BK375.out 1).trans rfl; have hcz28_2 : w26.cell? ⟨gb375, 2, none⟩ = some (.int .i64 0) := (blk_cell BK375.out 2).trans rfl; have hcz28_3 : w26.cell? ⟨gb375, 3, none⟩ = some (.bool false) := (blk_cell BK375.out 3).trans rfl; have hcz28_4 : w26.cell? ⟨gb375, 4, none⟩ = some (.int .i64 0) := (blk_cell BK375.out 4).trans rfl; have hcz28_5 : w26.cell? ⟨gb375, 5, none⟩ = some (.string (⟨#[]⟩ : ByteArray)) := (blk_cell BK375.out 5).trans rfl; have hfz28_0 := blk_frozen BK375.out 0; have hfz28_1 := blk_frozen BK375.out 1; have hfz28_2 := blk_frozen BK375.out 2; have hfz28_3 := blk_frozen BK375.out 3; have hfz28_4 := blk_frozen BK375.out 4; have hfz28_5 := blk_frozen BK375.out 5))
               go_roundg kj4
               case measure => have := HK1.out; have := HK2.out; have := HJ4.out; omega
               case rel => exact ⟨(x3_2), (wrap64 (x5_2 + 1)), rfl, H', ⟨by have := HK1.out; have := HK2.out; have := HJ4.out; omega⟩, ⟨by exact Kd.R_mono (Kd.R_far (p := ⟨gb375, 5, none⟩) (Kd.R_far (p := ⟨gb375, 4, none⟩) (Kd.R_far (p := ⟨gb375, 3, none⟩) (Kd.R_far (p := ⟨gb375, 2, none⟩) (Kd.R_far (p := ⟨gb375, 1, none⟩) (Kd.R_far (p := ⟨gb375, 0, none⟩) (Kd.R_types HO_3.out BK375.out (by decide)) (fun _ hk => hk.2) (.string ((rd_T38 ((rd_T41 l0_6 x4_1).f2) x5_2).f0))) (fun _ hk => hk.2) (.bool false)) (fun _ hk => hk.2) (.int .i64 ((rd_T38 ((rd_T41 l0_6 x4_1).f2) x5_2).f2.f0))) (fun _ hk => hk.2) (.bool ((rd_T38 ((rd_T41 l0_6 x4_1).f2) x5_2).f2.f1))) (fun _ hk => hk.2) (.int .i64 ((rd_T38 ((rd_T41 l0_6 x4_1).f2) x5_2).f2.f2))) (fun _ hk => hk.2) (.string ((rd_T38 ((rd_T41 l0_6 x4_1).f2) x5_2).f2.f3))) (fun _ hk => trivial)⟩, ⟨by refine blk_far ?_ NB369_375.out _; refine blk_far ?_ NB369_375.out _; refine blk_far ?_ NB369_375.out _; refine blk_far ?_ NB369_375.out _; refine blk_far ?_ NB369_375.out _; refine blk_far ?_ NB369_375.out _; exact BK369.out⟩, ⟨by repeat (first | (with_reducible first | exact HB.out | apply below_alloc | apply pw_below_drewN | apply below_drew1 | refine below_set ?_ GE369.out | refine below_set ?_ GE375.out) | exact HB.out)⟩⟩
              ·
               rw [if_neg c24] at H
               have c24b0 : (((rd_T38 ((rd_T41 l0_6 x4_1).f2) x5_2).f0).toList == ([] : List UInt8)) = false := beq_eq_false_iff_ne.mpr c24
               have c24b1 : (((rd_T38 ((rd_T41 l0_6 x4_1).f2) x5_2).f0).toList != ([] : List UInt8)) = true := bne_iff_ne.mpr c24
               replace H := Option.bind_eq_some_iff.mp H
               obtain ⟨t376, A290, H⟩ := H
               replace H : (if t376 = true then (verdererref15_Bound.l1 kj4 x3_2 x4_1 (wrap64 (x5_2 + 1)) a0_0 a0_1 l0_2 a0_3 a0_4 a0_5 l0_6) else (if x3_2.length < 8796093022208 then (verdererref15_Bound.l1 kj4 (x3_2 ++ [(rd_T38 ((rd_T41 l0_6 x4_1).f2) x5_2).f0]) x4_1 (wrap64 (x5_2 + 1)) a0_0 a0_1 l0_2 a0_3 a0_4 a0_5 l0_6) else (none))) = some r := H
               have A29 := Aside0.mk A290
               clear A290
               by_cases c30 : t376 = true
               ·
                subst c30
                have H1 : (verdererref15_Bound.l1 kj4 x3_2 x4_1 (wrap64 (x5_2 + 1)) a0_0 a0_1 l0_2 a0_3 a0_4 a0_5 l0_6) = some r := by rw [if_pos rfl] at H; exact H
                clear H
                have H := H1
                clear H1
                have H' := Aside0.mk H
                clear H
                have hcz31_0 : wc.cell? ⟨gb369, 0, none⟩ = some (.int .i64 a0_0) := (blk_cell BK369.out 0).trans rfl
                have hcz31_1 : wc.cell? ⟨gb369, 1, none⟩ = some (.string a0_1) := (blk_cell BK369.out 1).trans rfl
                have hcz31_2 : wc.cell? ⟨gb369, 2, none⟩ = some (.slice A0_2 l0_2.length c0_2) := (blk_cell BK369.out 2).trans rfl
                have hcz31_3 : wc.cell? ⟨gb369, 3, none⟩ = some (.int .i64 a0_3) := (blk_cell BK369.out 3).trans rfl
                have hcz31_4 : wc.cell? ⟨gb369, 4, none⟩ = some (.string a0_4) := (blk_cell BK369.out 4).trans rfl
                have hcz31_5 : wc.cell? ⟨gb369, 5, none⟩ = some (.int .i64 a0_5) := (blk_cell BK369.out 5).trans rfl
                have hcz31_6 : wc.cell? ⟨gb369, 6, none⟩ = some (.slice A0_6 l0_6.length c0_6) := (blk_cell BK369.out 6).trans rfl
                have hfz31_0 := blk_frozen BK369.out 0
                have hfz31_1 := blk_frozen BK369.out 1
                have hfz31_2 := blk_frozen BK369.out 2
                have hfz31_3 := blk_frozen BK369.out 3
                have hfz31_4 := blk_frozen BK369.out 4
                have hfz31_5 := blk_frozen BK369.out 5
                have hfz31_6 := blk_frozen BK369.out 6
                have p373 : 0 ≤ (x4_1 : Int) := of_decide_eq_true (by first | (with_reducible assumption) | assumption)
                have q373 : x4_1 < (l0_6.length : Int) := of_decide_eq_true (by first | (with_reducible assumption) | assumption)
                obtain ⟨ad373, A373_2, c373_2, e373, hx373_0, hx373_1, hx373_2, hx373_3, hl373_2, hi373_2⟩ := at_T41 HR0_6.out x4_1 p373 q373
                (try rw [← Nbq18.out] at hx373_0)
                cases e373
                replace hx373_0 := (HB.out.cell (World.block_lt_of_cell? w _ hx373_0)).trans hx373_0
                replace hx373_1 := (HB.out.cell (World.block_lt_of_cell? w _ hx373_1)).trans hx373_1
                replace hx373_2 := (HB.out.cell (World.block_lt_of_cell? w _ hx373_2)).trans hx373_2
                replace hx373_3 := (HB.out.cell (World.block_lt_of_cell? w _ hx373_3)).trans hx373_3
                have HR373_2 := Aside0.mk hi373_2
                have HC373_2 := Aside0.mk hl373_2
                clear hi373_2 hl373_2
                replace p373 := eq_true p373
                replace q373 := eq_true q373
                have p374 : 0 ≤ (x5_2 : Int) := of_decide_eq_true (by first | (with_reducible assumption) | assumption)
                have q374 : x5_2 < (((rd_T41 l0_6 x4_1).f2).length : Int) := of_decide_eq_true (by first | (with_reducible assumption) | assumption)
                obtain ⟨ad374, e374, hx374_0, hx374_1, hx374_2, hx374_3, hx374_4, hx374_5⟩ := at_T38 HR373_2.out x5_2 p374 q374
                (try rw [← Nbq18.out] at hx374_1)
                (try rw [← Nbq18.out] at hx374_3)
                cases e374
                replace hx374_0 := (HB.out.cell (World.block_lt_of_cell? w _ hx374_0)).trans hx374_0
                replace hx374_1 := (HB.out.cell (World.block_lt_of_cell? w _ hx374_1)).trans hx374_1
                replace hx374_2 := (HB.out.cell (World.block_lt_of_cell? w _ hx374_2)).trans hx374_2
                replace hx374_3 := (HB.out.cell (World.block_lt_of_cell? w _ hx374_3)).trans hx374_3
                replace hx374_4 := (HB.out.cell (World.block_lt_of_cell? w _ hx374_4)).trans hx374_4
                replace hx374_5 := (HB.out.cell (World.block_lt_of_cell? w _ hx374_5)).trans hx374_5
                replace p374 := eq_true p374
                replace q374 := eq_true q374
                go_wp2_with (first | ((with_reducible refine gate_dst (N := 6) rfl ?_); refine box_event ?hg (N := 6) ?hd (cs := #[.string (⟨#[]⟩ : ByteArray), .bool false, .int .i64 0, .bool false, .int .i64 0, .string (⟨#[]⟩ : ByteArray)]) (t := 38) ?hr ?_; (case hd => rfl); (case hg => rfl); (case hr => first | (go_simp; done) | (go_simp; rfl)); intro gb375 hg w32 hbox hb; have n0_ := Aside0.mk (Kd.R_below (by exact HO_3.out) hb); have n1_ := Aside0.mk (blk_below (g := gb369) (o := .cells #[.int .i64 a0_0, .string a0_1, .slice A0_2 l0_2.length c0_2, .int .i64 a0_3, .string a0_4, .int .i64 a0_5, .slice (some ad373) l0_6.length c0_6] 25 (0, 0)) (by exact BK369.out) hb); have n2_ := Aside0.mk (below_step (by with_reducible exact HB.out) hb); have n3_ := Aside0.mk (hbox); have n4_ := Aside0.mk ((by rw [hg]; exact (below_size (by with_reducible exact HB.out)) : w.heap.size ≤ gb375)); have n5_ := Aside0.mk ((by rw [hg]; exact (below_size (by with_reducible exact HB.out)) : w.heap.size ≤ gb375)); have n6_ := Aside0.mk ((by rw [hg]; exact Nat.ne_of_lt (blk_lt (g := gb369) (o := .cells #[.int .i64 a0_0, .string a0_1, .slice A0_2 l0_2.length c0_2, .int .i64 a0_3, .string a0_4, .int .i64 a0_5, .slice (some ad373) l0_6.length c0_6] 25 (0, 0)) (by exact BK369.out)) : gb369 ≠ gb375)); have n7_ := Aside0.mk ((by rw [hg]; exact Nat.ne_of_gt (blk_lt (g := gb369) (o := .cells #[.int .i64 a0_0, .string a0_1, .slice A0_2 l0_2.length c0_2, .int .i64 a0_3, .string a0_4, .int .i64 a0_5, .slice (some ad373) l0_6.length c0_6] 25 (0, 0)) (by exact BK369.out)) : gb375 ≠ gb369)); clear HO_3 BK369 HB; have HO_3 := n0_; have BK369 := n1_; have HB := n2_; have BK375 := n3_; have GW375 := n4_; have GE375 := n5_; have NB369_375 := n6_; have NB375_369 := n7_; clear n0_ n1_ n2_ n3_ n4_ n5_ n6_ n7_ hb hbox hg; have hnb33 := NB375_369.out; have hnc33 := NB369_375.out; have hcz34_0 : w32.cell? ⟨gb375, 0, none⟩ = some (.string (⟨#[]⟩ : ByteArray)) := (blk_cell BK375.out 0).trans rfl; have hcz34_1 : w32.cell? ⟨gb375, 1, none⟩ = some (.bool false) := (blk_cell BK375.out 1).trans rfl; have hcz34_2 : w32.cell? ⟨gb375, 2, none⟩ = some (.int .i64 0) := (blk_cell BK375.out 2).trans rfl; have hcz34_3 : w32.cell? ⟨gb375, 3, none⟩ = some (.bool false) := (blk_cell BK375.out 3).trans rfl; have hcz34_4 : w32.cell? ⟨gb375, 4, none⟩ = some (.int .i64 0) := (blk_cell BK375.out 4).trans rfl; have hcz34_5 : w32.cell? ⟨gb375, 5, none⟩ = some (.string (⟨#[]⟩ : ByteArray)) := (blk_cell BK375.out 5).trans rfl; have hfz34_0 := blk_frozen BK375.out 0; have hfz34_1 := blk_frozen BK375.out 1; have hfz34_2 := blk_frozen BK375.out 2; have hfz34_3 := blk_frozen BK375.out 3; have hfz34_4 := blk_frozen BK375.out 4; have hfz34_5 := blk_frozen BK375.out 5; obtain ⟨Ao35, co35, eo35⟩ := Kd.R_slice HO_3.out; subst eo35) | (go_at_call 31; (with_reducible refine (verdererref15_has.calls kj4 _ _ x3_2 ((rd_T38 ((rd_T41 l0_6 x4_1).f2) x5_2).f0) true _ ?side1 ?side2 A29.out).mono ?_); (case side1 => refine (Kd.R_reads' (e := 9) (base := w.heap.size) (ok := fun k_ => True) (n := x3_2.length) (c := co35) ?_).2.2; exact (by exact (Kd.R_mono (Kd.R_far (p := ⟨gb375, 5, none⟩) (Kd.R_far (p := ⟨gb375, 4, none⟩) (Kd.R_far (p := ⟨gb375, 3, none⟩) (Kd.R_far (p := ⟨gb375, 2, none⟩) (Kd.R_far (p := ⟨gb375, 1, none⟩) (Kd.R_far (p := ⟨gb375, 0, none⟩) (Kd.R_types HO_3.out BK375.out (by decide)) (fun _ hk => hk.2) (.string ((rd_T38 ((rd_T41 l0_6 x4_1).f2) x5_2).f0))) (fun _ hk => hk.2) (.bool false)) (fun _ hk => hk.2) (.int .i64 ((rd_T38 ((rd_T41 l0_6 x4_1).f2) x5_2).f2.f0))) (fun _ hk => hk.2) (.bool ((rd_T38 ((rd_T41 l0_6 x4_1).f2) x5_2).f2.f1))) (fun _ hk => hk.2) (.int .i64 ((rd_T38 ((rd_T41 l0_6 x4_1).f2) x5_2).f2.f2))) (fun _ hk => hk.2) (.string ((rd_T38 ((rd_T41 l0_6 x4_1).f2) x5_2).f2.f3))) (fun _ h_ => h_.1)))); (case side2 => exact (Kd.R_reads' HO_3.out).2.1); rintro e w' ⟨rfl, ⟨nd, rfl⟩⟩))
                go_roundg kj4
                case measure => have := HK1.out; have := HK2.out; have := HJ4.out; omega
                case rel => exact ⟨(x3_2), (wrap64 (x5_2 + 1)), rfl, H', ⟨by have := HK1.out; have := HK2.out; have := HJ4.out; omega⟩, ⟨by (with_reducible repeat (first | apply Kd.R_alloc | apply Kd.R_drewN | apply Kd.R_drew)); exact Kd.R_mono (Kd.R_far (p := ⟨gb375, 5, none⟩) (Kd.R_far (p := ⟨gb375, 4, none⟩) (Kd.R_far (p := ⟨gb375, 3, none⟩) (Kd.R_far (p := ⟨gb375, 2, none⟩) (Kd.R_far (p := ⟨gb375, 1, none⟩) (Kd.R_far (p := ⟨gb375, 0, none⟩) (Kd.R_types HO_3.out BK375.out (by decide)) (fun _ hk => hk.2) (.string ((rd_T38 ((rd_T41 l0_6 x4_1).f2) x5_2).f0))) (fun _ hk => hk.2) (.bool false)) (fun _ hk => hk.2) (.int .i64 ((rd_T38 ((rd_T41 l0_6 x4_1).f2) x5_2).f2.f0))) (fun _ hk => hk.2) (.bool ((rd_T38 ((rd_T41 l0_6 x4_1).f2) x5_2).f2.f1))) (fun _ hk => hk.2) (.int .i64 ((rd_T38 ((rd_T41 l0_6 x4_1).f2) x5_2).f2.f2))) (fun _ hk => hk.2) (.string ((rd_T38 ((rd_T41 l0_6 x4_1).f2) x5_2).f2.f3))) (fun _ hk => trivial)⟩, ⟨by (with_reducible repeat (first | refine blk_drewN ?_ _ | refine blk_drew ?_ | refine blk_alloc ?_ _)); refine blk_far ?_ NB369_375.out _; refine blk_far ?_ NB369_375.out _; refine blk_far ?_ NB369_375.out _; refine blk_far ?_ NB369_375.out _; refine blk_far ?_ NB369_375.out _; refine blk_far ?_ NB369_375.out _; exact BK369.out⟩, ⟨by repeat (first | (with_reducible first | exact HB.out | apply below_alloc | apply pw_below_drewN | apply below_drew1 | refine below_set ?_ GE369.out | refine below_set ?_ GE375.out) | exact HB.out)⟩⟩
               ·
                replace c30 := Bool.eq_false_iff.mpr c30
                subst c30
                have H1 : (if x3_2.length < 8796093022208 then (verdererref15_Bound.l1 kj4 (x3_2 ++ [(rd_T38 ((rd_T41 l0_6 x4_1).f2) x5_2).f0]) x4_1 (wrap64 (x5_2 + 1)) a0_0 a0_1 l0_2 a0_3 a0_4 a0_5 l0_6) else (none)) = some r := by rw [if_neg (show ¬ (false = true) by decide)] at H; exact H
                clear H
                have H := H1
                clear H1
                by_cases c36 : x3_2.length < 8796093022208
                ·
                 rw [if_pos c36] at H
                 have LMc36 := Aside0.mk c36
                 clear c36
                 obtain ⟨y377, hy377⟩ : ∃ y_ : List ByteArray, y_ = (x3_2 ++ [(rd_T38 ((rd_T41 l0_6 x4_1).f2) x5_2).f0]) := ⟨_, rfl⟩
                 replace H : (verdererref15_Bound.l1 kj4 y377 x4_1 (wrap64 (x5_2 + 1)) a0_0 a0_1 l0_2 a0_3 a0_4 a0_5 l0_6) = some r := by first | (rw [hy377]; with_reducible exact H) | (have H2_ := (Option.bind_some _ _).symm.trans H; rw [hy377]; with_reducible exact H2_) | (have H2_ := (Option.bind_some _ _).symm.trans H; with_reducible exact H2_) | with_reducible exact H | (rw [hy377]; exact H) | exact H
                 have Ny377 := Aside0.mk hy377
                 clear hy377
                 have H' := Aside0.mk H
                 clear H
                 have hcz37_0 : wc.cell? ⟨gb369, 0, none⟩ = some (.int .i64 a0_0) := (blk_cell BK369.out 0).trans rfl
                 have hcz37_1 : wc.cell? ⟨gb369, 1, none⟩ = some (.string a0_1) := (blk_cell BK369.out 1).trans rfl
                 have hcz37_2 : wc.cell? ⟨gb369, 2, none⟩ = some (.slice A0_2 l0_2.length c0_2) := (blk_cell BK369.out 2).trans rfl
                 have hcz37_3 : wc.cell? ⟨gb369, 3, none⟩ = some (.int .i64 a0_3) := (blk_cell BK369.out 3).trans rfl
                 have hcz37_4 : wc.cell? ⟨gb369, 4, none⟩ = some (.string a0_4) := (blk_cell BK369.out 4).trans rfl
                 have hcz37_5 : wc.cell? ⟨gb369, 5, none⟩ = some (.int .i64 a0_5) := (blk_cell BK369.out 5).trans rfl
                 have hcz37_6 : wc.cell? ⟨gb369, 6, none⟩ = some (.slice A0_6 l0_6.length c0_6) := (blk_cell BK369.out 6).trans rfl
                 have hfz37_0 := blk_frozen BK369.out 0
                 have hfz37_1 := blk_frozen BK369.out 1
                 have hfz37_2 := blk_frozen BK369.out 2
                 have hfz37_3 := blk_frozen BK369.out 3
                 have hfz37_4 := blk_frozen BK369.out 4
                 have hfz37_5 := blk_frozen BK369.out 5
                 have hfz37_6 := blk_frozen BK369.out 6
                 have p373 : 0 ≤ (x4_1 : Int) := of_decide_eq_true (by first | (with_reducible assumption) | assumption)
                 have q373 : x4_1 < (l0_6.length : Int) := of_decide_eq_true (by first | (with_reducible assumption) | assumption)
                 obtain ⟨ad373, A373_2, c373_2, e373, hx373_0, hx373_1, hx373_2, hx373_3, hl373_2, hi373_2⟩ := at_T41 HR0_6.out x4_1 p373 q373
                 (try rw [← Nbq18.out] at hx373_0)
                 cases e373
                 replace hx373_0 := (HB.out.cell (World.block_lt_of_cell? w _ hx373_0)).trans hx373_0
                 replace hx373_1 := (HB.out.cell (World.block_lt_of_cell? w _ hx373_1)).trans hx373_1
                 replace hx373_2 := (HB.out.cell (World.block_lt_of_cell? w _ hx373_2)).trans hx373_2
                 replace hx373_3 := (HB.out.cell (World.block_lt_of_cell? w _ hx373_3)).trans hx373_3
                 have HR373_2 := Aside0.mk hi373_2
                 have HC373_2 := Aside0.mk hl373_2
                 clear hi373_2 hl373_2
                 replace p373 := eq_true p373
                 replace q373 := eq_true q373
                 have p374 : 0 ≤ (x5_2 : Int) := of_decide_eq_true (by first | (with_reducible assumption) | assumption)
                 have q374 : x5_2 < (((rd_T41 l0_6 x4_1).f2).length : Int) := of_decide_eq_true (by first | (with_reducible assumption) | assumption)
                 obtain ⟨ad374, e374, hx374_0, hx374_1, hx374_2, hx374_3, hx374_4, hx374_5⟩ := at_T38 HR373_2.out x5_2 p374 q374
                 (try rw [← Nbq18.out] at hx374_1)
                 (try rw [← Nbq18.out] at hx374_3)
                 cases e374
                 replace hx374_0 := (HB.out.cell (World.block_lt_of_cell? w _ hx374_0)).trans hx374_0
                 replace hx374_1 := (HB.out.cell (World.block_lt_of_cell? w _ hx374_1)).trans hx374_1
                 replace hx374_2 := (HB.out.cell (World.block_lt_of_cell? w _ hx374_2)).trans hx374_2
                 replace hx374_3 := (HB.out.cell (World.block_lt_of_cell? w _ hx374_3)).trans hx374_3
                 replace hx374_4 := (HB.out.cell (World.block_lt_of_cell? w _ hx374_4)).trans hx374_4
                 replace hx374_5 := (HB.out.cell (World.block_lt_of_cell? w _ hx374_5)).trans hx374_5
                 replace p374 := eq_true p374
                 replace q374 := eq_true q374
                 go_wp2_with (first | ((with_reducible refine gate_dst (N := 6) rfl ?_); refine box_event ?hg (N := 6) ?hd (cs := #[.string (⟨#[]⟩ : ByteArray), .bool false, .int .i64 0, .bool false, .int .i64 0, .string (⟨#[]⟩ : ByteArray)]) (t := 38) ?hr ?_; (case hd => rfl); (case hg => rfl); (case hr => first | (go_simp; done) | (go_simp; rfl)); intro gb375 hg w38 hbox hb; have n0_ := Aside0.mk (Kd.R_below (by exact HO_3.out) hb); have n1_ := Aside0.mk (blk_below (g := gb369) (o := .cells #[.int .i64 a0_0, .string a0_1, .slice A0_2 l0_2.length c0_2, .int .i64 a0_3, .string a0_4, .int .i64 a0_5, .slice (some ad373) l0_6.length c0_6] 25 (0, 0)) (by exact BK369.out) hb); have n2_ := Aside0.mk (below_step (by with_reducible exact HB.out) hb); have n3_ := Aside0.mk (hbox); have n4_ := Aside0.mk ((by rw [hg]; exact (below_size (by with_reducible exact HB.out)) : w.heap.size ≤ gb375)); have n5_ := Aside0.mk ((by rw [hg]; exact (below_size (by with_reducible exact HB.out)) : w.heap.size ≤ gb375)); have n6_ := Aside0.mk ((by rw [hg]; exact Nat.ne_of_lt (blk_lt (g := gb369) (o := .cells #[.int .i64 a0_0, .string a0_1, .slice A0_2 l0_2.length c0_2, .int .i64 a0_3, .string a0_4, .int .i64 a0_5, .slice (some ad373) l0_6.length c0_6] 25 (0, 0)) (by exact BK369.out)) : gb369 ≠ gb375)); have n7_ := Aside0.mk ((by rw [hg]; exact Nat.ne_of_gt (blk_lt (g := gb369) (o := .cells #[.int .i64 a0_0, .string a0_1, .slice A0_2 l0_2.length c0_2, .int .i64 a0_3, .string a0_4, .int .i64 a0_5, .slice (some ad373) l0_6.length c0_6] 25 (0, 0)) (by exact BK369.out)) : gb375 ≠ gb369)); clear HO_3 BK369 HB; have HO_3 := n0_; have BK369 := n1_; have HB := n2_; have BK375 := n3_; have GW375 := n4_; have GE375 := n5_; have NB369_375 := n6_; have NB375_369 := n7_; clear n0_ n1_ n2_ n3_ n4_ n5_ n6_ n7_ hb hbox hg; have hnb39 := NB375_369.out; have hnc39 := NB369_375.out; have hcz40_0 : w38.cell? ⟨gb375, 0, none⟩ = some (.string (⟨#[]⟩ : ByteArray)) := (blk_cell BK375.out 0).trans rfl; have hcz40_1 : w38.cell? ⟨gb375, 1, none⟩ = some (.bool false) := (blk_cell BK375.out 1).trans rfl; have hcz40_2 : w38.cell? ⟨gb375, 2, none⟩ = some (.int .i64 0) := (blk_cell BK375.out 2).trans rfl; have hcz40_3 : w38.cell? ⟨gb375, 3, none⟩ = some (.bool false) := (blk_cell BK375.out 3).trans rfl; have hcz40_4 : w38.cell? ⟨gb375, 4, none⟩ = some (.int .i64 0) := (blk_cell BK375.out 4).trans rfl; have hcz40_5 : w38.cell? ⟨gb375, 5, none⟩ = some (.string (⟨#[]⟩ : ByteArray)) := (blk_cell BK375.out 5).trans rfl; have hfz40_0 := blk_frozen BK375.out 0; have hfz40_1 := blk_frozen BK375.out 1; have hfz40_2 := blk_frozen BK375.out 2; have hfz40_3 := blk_frozen BK375.out 3; have hfz40_4 := blk_frozen BK375.out 4; have hfz40_5 := blk_frozen BK375.out 5) | ((with_reducible refine gate_store (t := 38) (p := 6) rfl ?_); refine store_event (t := 38) (p := 6) (v := ?vo_w41) (w1 := ((((((w38.setCell ⟨gb375, 0, none⟩ (.string ((rd_T38 ((rd_T41 l0_6 x4_1).f2) x5_2).f0))).setCell ⟨gb375, 1, none⟩ (.bool false)).setCell ⟨gb375, 2, none⟩ (.int .i64 ((rd_T38 ((rd_T41 l0_6 x4_1).f2) x5_2).f2.f0))).setCell ⟨gb375, 3, none⟩ (.bool ((rd_T38 ((rd_T41 l0_6 x4_1).f2) x5_2).f2.f1))).setCell ⟨gb375, 4, none⟩ (.int .i64 ((rd_T38 ((rd_T41 l0_6 x4_1).f2) x5_2).f2.f2))).setCell ⟨gb375, 5, none⟩ (.string ((rd_T38 ((rd_T41 l0_6 x4_1).f2) x5_2).f2.f3)))) ?hg ?ho ?hn ?hr ?_; (case ho => rfl); (case hg => rfl); (case hn => rfl); (case hr => first | (go_simp; done) | (go_simp; rfl)); intro w41 hw; have n0_ : Aside0 (Kd.R Kd.string 9 w41 w.heap.size (fun _ => True) u3 x3_2) := ⟨(by rw [hw]; exact (by exact Kd.R_mono (Kd.R_far (p := ⟨gb375, 5, none⟩) (Kd.R_far (p := ⟨gb375, 4, none⟩) (Kd.R_far (p := ⟨gb375, 3, none⟩) (Kd.R_far (p := ⟨gb375, 2, none⟩) (Kd.R_far (p := ⟨gb375, 1, none⟩) (Kd.R_far (p := ⟨gb375, 0, none⟩) (Kd.R_types HO_3.out BK375.out (by decide)) (fun _ hk => hk.2) (.string ((rd_T38 ((rd_T41 l0_6 x4_1).f2) x5_2).f0))) (fun _ hk => hk.2) (.bool false)) (fun _ hk => hk.2) (.int .i64 ((rd_T38 ((rd_T41 l0_6 x4_1).f2) x5_2).f2.f0))) (fun _ hk => hk.2) (.bool ((rd_T38 ((rd_T41 l0_6 x4_1).f2) x5_2).f2.f1))) (fun _ hk => hk.2) (.int .i64 ((rd_T38 ((rd_T41 l0_6 x4_1).f2) x5_2).f2.f2))) (fun _ hk => hk.2) (.string ((rd_T38 ((rd_T41 l0_6 x4_1).f2) x5_2).f2.f3))) (fun _ hk => trivial)))⟩; have n1_ : Aside0 (w41.heap[gb369]? = some (.cells #[.int .i64 a0_0, .string a0_1, .slice A0_2 l0_2.length c0_2, .int .i64 a0_3, .string a0_4, .int .i64 a0_5, .slice (some ad373) l0_6.length c0_6] 25 (0, 0))) := ⟨(by rw [hw]; exact (by refine blk_far ?_ NB369_375.out _; refine blk_far ?_ NB369_375.out _; refine blk_far ?_ NB369_375.out _; refine blk_far ?_ NB369_375.out _; refine blk_far ?_ NB369_375.out _; refine blk_far ?_ NB369_375.out _; exact BK369.out))⟩; have n2_ : Aside0 (w41.heap[gb375]? = some (.cells #[.string ((rd_T38 ((rd_T41 l0_6 x4_1).f2) x5_2).f0), .bool false, .int .i64 ((rd_T38 ((rd_T41 l0_6 x4_1).f2) x5_2).f2.f0), .bool ((rd_T38 ((rd_T41 l0_6 x4_1).f2) x5_2).f2.f1), .int .i64 ((rd_T38 ((rd_T41 l0_6 x4_1).f2) x5_2).f2.f2), .string ((rd_T38 ((rd_T41 l0_6 x4_1).f2) x5_2).f2.f3)] 38 (0, 0))) := ⟨(by rw [hw]; exact (by refine blk_put (cs := #[.string ((rd_T38 ((rd_T41 l0_6 x4_1).f2) x5_2).f0), .bool false, .int .i64 ((rd_T38 ((rd_T41 l0_6 x4_1).f2) x5_2).f2.f0), .bool ((rd_T38 ((rd_T41 l0_6 x4_1).f2) x5_2).f2.f1), .int .i64 ((rd_T38 ((rd_T41 l0_6 x4_1).f2) x5_2).f2.f2), .string (⟨#[]⟩ : ByteArray)]) ?_ 5 _ rfl; refine blk_put (cs := #[.string ((rd_T38 ((rd_T41 l0_6 x4_1).f2) x5_2).f0), .bool false, .int .i64 ((rd_T38 ((rd_T41 l0_6 x4_1).f2) x5_2).f2.f0), .bool ((rd_T38 ((rd_T41 l0_6 x4_1).f2) x5_2).f2.f1), .int .i64 0, .string (⟨#[]⟩ : ByteArray)]) ?_ 4 _ rfl; refine blk_put (cs := #[.string ((rd_T38 ((rd_T41 l0_6 x4_1).f2) x5_2).f0), .bool false, .int .i64 ((rd_T38 ((rd_T41 l0_6 x4_1).f2) x5_2).f2.f0), .bool false, .int .i64 0, .string (⟨#[]⟩ : ByteArray)]) ?_ 3 _ rfl; refine blk_put (cs := #[.string ((rd_T38 ((rd_T41 l0_6 x4_1).f2) x5_2).f0), .bool false, .int .i64 0, .bool false, .int .i64 0, .string (⟨#[]⟩ : ByteArray)]) ?_ 2 _ rfl; refine blk_put (cs := #[.string ((rd_T38 ((rd_T41 l0_6 x4_1).f2) x5_2).f0), .bool false, .int .i64 0, .bool false, .int .i64 0, .string (⟨#[]⟩ : ByteArray)]) ?_ 1 _ rfl; refine blk_put (cs := #[.string (⟨#[]⟩ : ByteArray), .bool false, .int .i64 0, .bool false, .int .i64 0, .string (⟨#[]⟩ : ByteArray)]) ?_ 0 _ rfl; exact BK375.out))⟩; have n3_ : Aside0 (Below w.heap.size w w41) := ⟨(by rw [hw]; exact (by repeat (first | (with_reducible first | exact HB.out | apply below_alloc | apply pw_below_drewN | apply below_drew1 | refine below_set ?_ GE369.out | refine below_set ?_ GE375.out) | exact HB.out)))⟩; clear hw HO_3 BK369 BK375 HB; have HO_3 := n0_; have BK369 := n1_; have BK375 := n2_; have HB := n3_; clear n0_ n1_ n2_ n3_; have hcz42_0 : w41.cell? ⟨gb375, 0, none⟩ = some (.string ((rd_T38 ((rd_T41 l0_6 x4_1).f2) x5_2).f0)) := (blk_cell BK375.out 0).trans rfl; have hcz42_1 : w41.cell? ⟨gb375, 1, none⟩ = some (.bool false) := (blk_cell BK375.out 1).trans rfl; have hcz42_2 : w41.cell? ⟨gb375, 2, none⟩ = some (.int .i64 ((rd_T38 ((rd_T41 l0_6 x4_1).f2) x5_2).f2.f0)) := (blk_cell BK375.out 2).trans rfl; have hcz42_3 : w41.cell? ⟨gb375, 3, none⟩ = some (.bool ((rd_T38 ((rd_T41 l0_6 x4_1).f2) x5_2).f2.f1)) := (blk_cell BK375.out 3).trans rfl; have hcz42_4 : w41.cell? ⟨gb375, 4, none⟩ = some (.int .i64 ((rd_T38 ((rd_T41 l0_6 x4_1).f2) x5_2).f2.f2)) := (blk_cell BK375.out 4).trans rfl; have hcz42_5 : w41.cell? ⟨gb375, 5, none⟩ = some (.string ((rd_T38 ((rd_T41 l0_6 x4_1).f2) x5_2).f2.f3)) := (blk_cell BK375.out 5).trans rfl; have hfz42_0 := blk_frozen BK375.out 0; have hfz42_1 := blk_frozen BK375.out 1; have hfz42_2 := blk_frozen BK375.out 2; have hfz42_3 := blk_frozen BK375.out 3; have hfz42_4 := blk_frozen BK375.out 4; have hfz42_5 := blk_frozen BK375.out 5; obtain ⟨Ao43, co43, eo43⟩ := Kd.R_slice HO_3.out; subst eo43) | (go_at_call 31; (with_reducible refine (verdererref15_has.calls kj4 _ _ x3_2 ((rd_T38 ((rd_T41 l0_6 x4_1).f2) x5_2).f0) false _ ?side1 ?side2 A29.out).mono ?_); (case side1 => repeat (first | exact (Kd.R_reads' HO_3.out).2.2 | (with_reducible refine Kd.C_alloc ?_ _) | (with_reducible refine Kd.C_drewN ?_ _) | (with_reducible refine Kd.C_drew ?_))); (case side2 => exact (Kd.R_reads' HO_3.out).2.1); rintro e w' ⟨rfl, ⟨nd, rfl⟩⟩) | ((with_reducible refine gate_builtin (b := .append) (xs := #[.tmp 57, .tmp 60]) rfl ?_); at_builtin; refine Kd.R_append Kd.string (w0 := w) w.heap.size rfl (.tmp 57) (.tmp 60) 22 9 (.string ⟨#[]⟩) 16 rfl Try.underlying22 info9 rfl (by decide) (by omega) (.slice Ao43 x3_2.length co43) x3_2 ((rd_T38 ((rd_T41 l0_6 x4_1).f2) x5_2).f0) [.string ((rd_T38 ((rd_T41 l0_6 x4_1).f2) x5_2).f0)] (fun _ => True) (fun _ => False) rfl rfl ?aP (fun _ hk => hk.elim) ?aF ?aO ?aB ?aS ?aL ?_; (case aP => exact rfl); (case aB => exact (by repeat (first | (with_reducible first | exact HB.out | apply below_alloc | apply pw_below_drewN | apply below_drew1 | refine below_set ?_ GE369.out | refine below_set ?_ GE375.out) | exact HB.out))); (case aF => exact (fun _ _ => trivial)); (case aO => exact (by (with_reducible repeat (first | apply Kd.R_alloc | apply Kd.R_drewN | apply Kd.R_drew)); exact HO_3.out)); (case aS => exact (below_size (by repeat (first | (with_reducible first | exact HB.out | apply below_alloc | apply pw_below_drewN | apply below_drew1 | refine below_set ?_ GE369.out | refine below_set ?_ GE375.out) | exact HB.out)))); (case aL => have := LMc36.out; omega); intro v378 w44 ho hb hg hat; rw [← Ny377.out] at ho; have n0_ := Aside0.mk (blk_grown (g := gb369) (o := .cells #[.int .i64 a0_0, .string a0_1, .slice A0_2 l0_2.length c0_2, .int .i64 a0_3, .string a0_4, .int .i64 a0_5, .slice (some ad373) l0_6.length c0_6] 25 (0, 0)) (by (with_reducible repeat (first | refine blk_drewN ?_ _ | refine blk_drew ?_ | refine blk_alloc ?_ _)); exact BK369.out) hg (Kd.R_ne HO_3.out BK369.out (by decide))); have n1_ := Aside0.mk (blk_grown (g := gb375) (o := .cells #[.string ((rd_T38 ((rd_T41 l0_6 x4_1).f2) x5_2).f0), .bool false, .int .i64 ((rd_T38 ((rd_T41 l0_6 x4_1).f2) x5_2).f2.f0), .bool ((rd_T38 ((rd_T41 l0_6 x4_1).f2) x5_2).f2.f1), .int .i64 ((rd_T38 ((rd_T41 l0_6 x4_1).f2) x5_2).f2.f2), .string ((rd_T38 ((rd_T41 l0_6 x4_1).f2) x5_2).f2.f3)] 38 (0, 0)) (by (with_reducible repeat (first | refine blk_drewN ?_ _ | refine blk_drew ?_ | refine blk_alloc ?_ _)); exact BK375.out) hg (Kd.R_ne HO_3.out BK375.out (by decide))); have n2_ := Aside0.mk (hb); have n3_ := Aside0.mk (ho); clear BK369 BK375 HB HO_3; have BK369 := n0_; have BK375 := n1_; have HB := n2_; have HO379 := n3_; clear n0_ n1_ n2_ n3_ ho hb hg hat))
                 go_roundg kj4
                 case measure => have := HK1.out; have := HK2.out; have := HJ4.out; omega
                 case rel => exact ⟨(y377), (wrap64 (x5_2 + 1)), rfl, H', ⟨by have := HK1.out; have := HK2.out; have := HJ4.out; omega⟩, ⟨by exact HO379.out⟩, ⟨by exact BK369.out⟩, ⟨by with_reducible exact HB.out⟩⟩
                ·
                 rw [if_neg c36] at H
                 exact absurd H (by simp)
            ·
             rw [if_neg c17] at H
             exact absurd H (by simp)
           ·
            rw [if_neg c16] at H
            exact absurd H (by simp)
          ·
           rw [if_neg c15] at H
           exact absurd H (by simp)
         ·
          rw [if_neg c14] at H
          exact absurd H (by simp)
        ·
         replace c13 := Bool.eq_false_iff.mpr c13
         subst c13
         have H1 : (verdererref15_Bound.l0 kj4 x3_2 (wrap64 (x4_1 + 1)) a0_0 a0_1 l0_2 a0_3 a0_4 a0_5 l0_6) = some r := by rw [if_neg (show ¬ (false = true) by decide)] at H; exact H
         clear H
         have H := H1
         clear H1
         have H' := Aside0.mk H
         clear H
         go_wp2
         go_roundg kj4
         case measure => have := HK1.out; have := HK2.out; have := HJ4.out; omega
         case rel => exact ⟨(x3_2), (wrap64 (x4_1 + 1)), rfl, H', ⟨by have := HK1.out; have := HK2.out; have := HJ4.out; omega⟩, ⟨by exact HO_3.out⟩, ⟨by exact BK369.out⟩, ⟨by with_reducible exact HB.out⟩⟩
   ·
    rw [if_neg c3] at H
    have c3b0 : decide (x4_1 < (l0_6.length : Int)) = false := decide_eq_false c3
    clear c3
    obtain rfl := Option.some.inj H
    have hcz45_0 : wr.cell? ⟨gb369, 0, none⟩ = some (.int .i64 a0_0) := (blk_cell BK369.out 0).trans rfl
    have hcz45_1 : wr.cell? ⟨gb369, 1, none⟩ = some (.string a0_1) := (blk_cell BK369.out 1).trans rfl
    have hcz45_2 : wr.cell? ⟨gb369, 2, none⟩ = some (.slice A0_2 l0_2.length c0_2) := (blk_cell BK369.out 2).trans rfl
    have hcz45_3 : wr.cell? ⟨gb369, 3, none⟩ = some (.int .i64 a0_3) := (blk_cell BK369.out 3).trans rfl
    have hcz45_4 : wr.cell? ⟨gb369, 4, none⟩ = some (.string a0_4) := (blk_cell BK369.out 4).trans rfl
    have hcz45_5 : wr.cell? ⟨gb369, 5, none⟩ = some (.int .i64 a0_5) := (blk_cell BK369.out 5).trans rfl
    have hcz45_6 : wr.cell? ⟨gb369, 6, none⟩ = some (.slice A0_6 l0_6.length c0_6) := (blk_cell BK369.out 6).trans rfl
    have hfz45_0 := blk_frozen BK369.out 0
    have hfz45_1 := blk_frozen BK369.out 1
    have hfz45_2 := blk_frozen BK369.out 2
    have hfz45_3 := blk_frozen BK369.out 3
    have hfz45_4 := blk_frozen BK369.out 4
    have hfz45_5 := blk_frozen BK369.out 5
    have hfz45_6 := blk_frozen BK369.out 6
    go_wp2
    go_ret
    exact ⟨_, rfl, by exact HO_3.out, by with_reducible exact HB.out⟩
end Go.Proofs.Ytikikmkfeeljgaa.G
