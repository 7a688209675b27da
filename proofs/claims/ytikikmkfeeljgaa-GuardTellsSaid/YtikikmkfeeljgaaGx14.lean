-- Written by a program for this claim (my own print over the kit's words).
import Derived.Test.YtikikmkfeeljgaaGx0
import Derived.Test.YtikikmkfeeljgaaGx13
namespace Go.Proofs.Ytikikmkfeeljgaa.G
open Go.RowKit Go.Proofs.YtikikmkfeeljgaaW.PrintWords Go.Proofs.YtikikmkfeeljgaaW.PrintLast Go.Proofs.YtikikmkfeeljgaaW.PrintMore
attribute [local go_sem] max2_int min2_int max_two min_two max_three min_three max_four min_four   -- for this text's walks alone
set_option linter.unusedVariables false
set_option linter.unusedSimpArgs false
/-! ### slices_Contains_string_string: function 28 -/
def slices_Contains_string_string.f (k : Nat) (l0 : List ByteArray) (a1 : ByteArray) : Option (Bool) := (slices_Index_string_string.f k l0 a1).bind fun t316 => (some (decide (t316 ≥ 0)))
set_option maxHeartbeats 8000000 in
set_option maxRecDepth 100000 in
theorem slices_Contains_string_string.calls (k : Nat) (A0 : Option Addr) (c0 : Nat) (l0 : List ByteArray) (a1 : ByteArray) (r : Bool) (w : World) (hr0 : Kd.C Kd.string w A0 l0.length l0) (hc0 : l0.length ≤ c0) (h : slices_Contains_string_string.f k l0 a1 = some r) :
  Calls Try.prog 28 #[.slice A0 l0.length c0, .string a1] w fun e w' => e = .returned (.bool r) ∧ Drawn0 w w' := by
 have HR0 := Aside0.mk hr0
 have HC0 := Aside0.mk hc0
 clear hr0 hc0
 have H : ((slices_Index_string_string.f k l0 a1).bind fun t316 => (some (decide (t316 ≥ 0)))) = some r := h
 clear h
 replace H := Option.bind_eq_some_iff.mp H
 obtain ⟨t316, A30, H⟩ := H
 replace H : (some (decide (t316 ≥ 0))) = some r := H
 have A3 := Aside0.mk A30
 clear A30
 obtain rfl := Option.some.inj H
 go_enter Try.func28, Try.ntmps28
 go_wp2_with (first | ((with_reducible refine gate_callee (f := 53) rfl ?_); refine goesL_ (some 7) rfl rfl Try.func53 (by kernel_rfl) rfl #[.slice A0 l0.length c0, .string a1] rfl (by (try simp only [List.map_toArray, List.map_cons, List.map_nil]); first | done | rfl | (simp only [List.length_drop, List.length_take]; rfl)) ?_; (with_reducible refine (slices_Index_string_string.calls k _ _ l0 a1 t316 _ ?side1 ?side2 A3.out).mono ?_); (case side1 => exact HR0.out); (case side2 => exact HC0.out); rintro e w' ⟨rfl, ⟨nd, rfl⟩⟩; refine ⟨_, rfl, ?_⟩))
 go_ret
 exact ⟨by first | rfl | (simp; done) | (simp [*]; done), by repeat (first | exact Drawn0.refl _ | apply Drawn0.step)⟩
/-! ### guard_binds: function 29 -/
def guard_binds.f (a0_0 : Bool) (a0_1 : ByteArray) (l0_2 : List (S38)) (a0_3 : Int) : Option (Bool) := if a0_3 = 0 then (some (!a0_0)) else (some false)
set_option maxHeartbeats 8000000 in
set_option maxRecDepth 100000 in
theorem guard_binds.calls (a0_0 : Bool) (a0_1 : ByteArray) (A0_2 : Option Addr) (c0_2 : Nat) (l0_2 : List (S38)) (a0_3 : Int) (r : Bool) (w : World) (hr0_2 : Kd.C k38 w A0_2 l0_2.length l0_2) (hc0_2 : l0_2.length ≤ c0_2) (h : guard_binds.f a0_0 a0_1 l0_2 a0_3 = some r) :
  Calls Try.prog 29 #[.agg #[.bool a0_0, .string a0_1, .slice A0_2 l0_2.length c0_2, .int .i64 a0_3]] w fun e w' => e = .returned (.bool r) ∧ Below w.heap.size w w' := by
 have hu41 := Try.underlying41
 have HR0_2 := Aside0.mk hr0_2
 have HC0_2 := Aside0.mk hc0_2
 clear hr0_2 hc0_2
 have HB := Aside0.mk (Below.refl w.heap.size w)
 have H : (if a0_3 = 0 then (some (!a0_0)) else (some false)) = some r := h
 clear h
 by_cases c2 : a0_3 = 0
 ·
  rw [if_pos c2] at H
  have c2b0 : (a0_3 == 0) = true := beq_iff_eq.mpr c2
  have c2b1 : (a0_3 != 0) = false := bne_eq_false_iff_eq.mpr c2
  clear c2
  obtain rfl := Option.some.inj H
  go_enter Try.func29, Try.ntmps29
  go_wp2_with (first | ((with_reducible refine gate_dst (N := 1) rfl ?_); refine box_event ?hg (N := 1) ?hd (cs := #[.bool a0_0, .string a0_1, .slice A0_2 l0_2.length c0_2, .int .i64 a0_3]) (t := 41) ?hr ?_; (case hd => rfl); (case hg => rfl); (case hr => first | (go_simp; done) | (go_simp; rfl)); intro gb317 hg w3 hbox hb; have n0_ := Aside0.mk (below_step (by with_reducible exact HB.out) hb); have n1_ := Aside0.mk (hbox); have n2_ := Aside0.mk ((by rw [hg]; exact (below_size (by with_reducible exact HB.out)) : w.heap.size ≤ gb317)); have n3_ := Aside0.mk ((by rw [hg]; exact (below_size (by with_reducible exact HB.out)) : w.heap.size ≤ gb317)); clear HB; have HB := n0_; have BK317 := n1_; have GW317 := n2_; have GE317 := n3_; clear n0_ n1_ n2_ n3_ hb hbox hg; have hcz4_0 : w3.cell? ⟨gb317, 0, none⟩ = some (.bool a0_0) := (blk_cell BK317.out 0).trans rfl; have hcz4_1 : w3.cell? ⟨gb317, 1, none⟩ = some (.string a0_1) := (blk_cell BK317.out 1).trans rfl; have hcz4_2 : w3.cell? ⟨gb317, 2, none⟩ = some (.slice A0_2 l0_2.length c0_2) := (blk_cell BK317.out 2).trans rfl; have hcz4_3 : w3.cell? ⟨gb317, 3, none⟩ = some (.int .i64 a0_3) := (blk_cell BK317.out 3).trans rfl; have hfz4_0 := blk_frozen BK317.out 0; have hfz4_1 := blk_frozen BK317.out 1; have hfz4_2 := blk_frozen BK317.out 2; have hfz4_3 := blk_frozen BK317.out 3))
  go_ret
  exact ⟨rfl, by with_reducible exact HB.out⟩
 ·
  rw [if_neg c2] at H
  have c2b0 : (a0_3 == 0) = false := beq_eq_false_iff_ne.mpr c2
  have c2b1 : (a0_3 != 0) = true := bne_iff_ne.mpr c2
  obtain rfl := Option.some.inj H
  go_enter Try.func29, Try.ntmps29
  go_wp2_with (first | ((with_reducible refine gate_dst (N := 1) rfl ?_); refine box_event ?hg (N := 1) ?hd (cs := #[.bool a0_0, .string a0_1, .slice A0_2 l0_2.length c0_2, .int .i64 a0_3]) (t := 41) ?hr ?_; (case hd => rfl); (case hg => rfl); (case hr => first | (go_simp; done) | (go_simp; rfl)); intro gb317 hg w5 hbox hb; have n0_ := Aside0.mk (below_step (by with_reducible exact HB.out) hb); have n1_ := Aside0.mk (hbox); have n2_ := Aside0.mk ((by rw [hg]; exact (below_size (by with_reducible exact HB.out)) : w.heap.size ≤ gb317)); have n3_ := Aside0.mk ((by rw [hg]; exact (below_size (by with_reducible exact HB.out)) : w.heap.size ≤ gb317)); clear HB; have HB := n0_; have BK317 := n1_; have GW317 := n2_; have GE317 := n3_; clear n0_ n1_ n2_ n3_ hb hbox hg; have hcz6_0 : w5.cell? ⟨gb317, 0, none⟩ = some (.bool a0_0) := (blk_cell BK317.out 0).trans rfl; have hcz6_1 : w5.cell? ⟨gb317, 1, none⟩ = some (.string a0_1) := (blk_cell BK317.out 1).trans rfl; have hcz6_2 : w5.cell? ⟨gb317, 2, none⟩ = some (.slice A0_2 l0_2.length c0_2) := (blk_cell BK317.out 2).trans rfl; have hcz6_3 : w5.cell? ⟨gb317, 3, none⟩ = some (.int .i64 a0_3) := (blk_cell BK317.out 3).trans rfl; have hfz6_0 := blk_frozen BK317.out 0; have hfz6_1 := blk_frozen BK317.out 1; have hfz6_2 := blk_frozen BK317.out 2; have hfz6_3 := blk_frozen BK317.out 3))
  go_ret
  exact ⟨rfl, by with_reducible exact HB.out⟩
/-! ### guard_vars: function 30 -/
def guard_vars.l0 : Nat → List ByteArray → List (S38) → Int → Int → Option (List ByteArray)
 | 0, _, _, _, _ => none
 | k + 1, x3, x7, x8, x9 => if x9 < x8 then (if 0 ≤ x9 then (if x9 < (x7.length : Int) then (if ((rd_T38 x7 x9).f1 = true) then (guard_vars.l0 k x3 x7 x8 (wrap64 (x9 + 1))) else (if ((rd_T38 x7 x9).f0).toList = ([] : List UInt8) then (guard_vars.l0 k x3 x7 x8 (wrap64 (x9 + 1))) else (if x3.length < 8796093022208 then (guard_vars.l0 k (x3 ++ [(rd_T38 x7 x9).f0]) x7 x8 (wrap64 (x9 + 1))) else (none)))) else (none)) else (none)) else (some x3)
def guard_vars.f (k : Nat) (a0_0 : Bool) (a0_1 : ByteArray) (l0_2 : List (S38)) (a0_3 : Int) : Option (List ByteArray) := guard_vars.l0 k ([] : List ByteArray) l0_2 (l0_2.length : Int) 0
set_option maxHeartbeats 8000000 in
set_option maxRecDepth 100000 in
theorem guard_vars.calls (k : Nat) (a0_0 : Bool) (a0_1 : ByteArray) (A0_2 : Option Addr) (c0_2 : Nat) (l0_2 : List (S38)) (a0_3 : Int) (r : List ByteArray) (w : World) (hr0_2 : Kd.C k38 w A0_2 l0_2.length l0_2) (hc0_2 : l0_2.length ≤ c0_2) (h : guard_vars.f k a0_0 a0_1 l0_2 a0_3 = some r) :
  Calls Try.prog 30 #[.agg #[.bool a0_0, .string a0_1, .slice A0_2 l0_2.length c0_2, .int .i64 a0_3]] w fun e w' => ∃ v0_ : Value, e = .returned (v0_) ∧ Kd.R Kd.string 9 w' w.heap.size (fun _ => True) v0_ r ∧ Below w.heap.size w w' := by
 have hu41 := Try.underlying41
 have hu38 := Try.underlying38
 have HR0_2 := Aside0.mk hr0_2
 have HC0_2 := Aside0.mk hc0_2
 clear hr0_2 hc0_2
 have HB := Aside0.mk (Below.refl w.heap.size w)
 have H : (guard_vars.l0 k ([] : List ByteArray) l0_2 (l0_2.length : Int) 0) = some r := h
 clear h
 have H' := Aside0.mk H
 clear H
 go_enter Try.func30, Try.ntmps30
 go_wp2_with (first | ((with_reducible refine gate_dst (N := 1) rfl ?_); refine box_event ?hg (N := 1) ?hd (cs := #[.bool a0_0, .string a0_1, .slice A0_2 l0_2.length c0_2, .int .i64 a0_3]) (t := 41) ?hr ?_; (case hd => rfl); (case hg => rfl); (case hr => first | (go_simp; done) | (go_simp; rfl)); intro gb318 hg w2 hbox hb; have n0_ := Aside0.mk (below_step (by with_reducible exact HB.out) hb); have n1_ := Aside0.mk (hbox); have n2_ := Aside0.mk ((by rw [hg]; exact (below_size (by with_reducible exact HB.out)) : w.heap.size ≤ gb318)); have n3_ := Aside0.mk ((by rw [hg]; exact (below_size (by with_reducible exact HB.out)) : w.heap.size ≤ gb318)); clear HB; have HB := n0_; have BK318 := n1_; have GW318 := n2_; have GE318 := n3_; clear n0_ n1_ n2_ n3_ hb hbox hg; have hcz3_0 : w2.cell? ⟨gb318, 0, none⟩ = some (.bool a0_0) := (blk_cell BK318.out 0).trans rfl; have hcz3_1 : w2.cell? ⟨gb318, 1, none⟩ = some (.string a0_1) := (blk_cell BK318.out 1).trans rfl; have hcz3_2 : w2.cell? ⟨gb318, 2, none⟩ = some (.slice A0_2 l0_2.length c0_2) := (blk_cell BK318.out 2).trans rfl; have hcz3_3 : w2.cell? ⟨gb318, 3, none⟩ = some (.int .i64 a0_3) := (blk_cell BK318.out 3).trans rfl; have hfz3_0 := blk_frozen BK318.out 0; have hfz3_1 := blk_frozen BK318.out 1; have hfz3_2 := blk_frozen BK318.out 2; have hfz3_3 := blk_frozen BK318.out 3))
 go_loopg [3, 9] k (fun kq v3 v9 w' => ∃ (x3_1 : List ByteArray) (x9_1 : Int), v9 = .int .i64 x9_1 ∧ Aside0 (guard_vars.l0 kq x3_1 l0_2 (l0_2.length : Int) x9_1 = some r) ∧ Aside0 (kq ≤ k) ∧ Aside0 (Kd.R Kd.string 9 w' w.heap.size (fun _ => True) v3 x3_1) ∧ Aside0 (w'.heap[gb318]? = some (.cells #[.bool a0_0, .string a0_1, (.slice A0_2 l0_2.length c0_2), .int .i64 a0_3] 41 (0, 0))) ∧ Aside0 (Below w.heap.size w w'))
 case atStart => exact ⟨(([] : List ByteArray)), (0), rfl, H', ⟨Nat.le_refl _⟩, ⟨by first | exact Kd.R_nil _ _ _ _ _ | exact Kd.N_nil _ _ _ _ _ | exact Kd.V_nil _ _ _ _ _ | exact Kd.Q_nil _ _ _ _ _ | exact Kd.S_nil _ _ _ _ _⟩, ⟨by exact BK318.out⟩, ⟨by with_reducible exact HB.out⟩⟩
 case round =>
  clear H'
  clear hcz3_0 hcz3_1 hcz3_2 hcz3_3 hfz3_0 hfz3_1 hfz3_2 hfz3_3
  obtain ⟨x3_1, x9_1, rfl, HA, HK1, HO_3, BK318, HB⟩ := hrel
  cases gk with
  | zero => exact absurd HA.out (by simp [guard_vars.l0])
  | succ k1 =>
   have H := HA.out
   clear HA
   simp only [guard_vars.l0] at H
   by_cases c4 : x9_1 < (l0_2.length : Int)
   ·
    rw [if_pos c4] at H
    have c4b0 : decide (x9_1 < (l0_2.length : Int)) = true := decide_eq_true c4
    clear c4
    by_cases c5 : 0 ≤ x9_1
    ·
     rw [if_pos c5] at H
     have c5b0 : decide (0 ≤ x9_1) = true := decide_eq_true c5
     clear c5
     by_cases c6 : x9_1 < (l0_2.length : Int)
     ·
      rw [if_pos c6] at H
      have c6b0 : decide (x9_1 < (l0_2.length : Int)) = true := decide_eq_true c6
      clear c6
      obtain ⟨bq7, hbq7⟩ : ∃ b_ : Bool, b_ = ((rd_T38 l0_2 x9_1).f1) := ⟨_, rfl⟩
      replace H : (if (bq7 = true) then (guard_vars.l0 k1 x3_1 l0_2 (l0_2.length : Int) (wrap64 (x9_1 + 1))) else (if ((rd_T38 l0_2 x9_1).f0).toList = ([] : List UInt8) then (guard_vars.l0 k1 x3_1 l0_2 (l0_2.length : Int) (wrap64 (x9_1 + 1))) else (if x3_1.length < 8796093022208 then (guard_vars.l0 k1 (x3_1 ++ [(rd_T38 l0_2 x9_1).f0]) l0_2 (l0_2.length : Int) (wrap64 (x9_1 + 1))) else (none)))) = some r := by rw [← hbq7] at H; exact H
      have Nbq7 := Aside0.mk hbq7
      clear hbq7
      by_cases c8 : (bq7 = true)
      ·
       subst c8
       have H1 : (guard_vars.l0 k1 x3_1 l0_2 (l0_2.length : Int) (wrap64 (x9_1 + 1))) = some r := by rw [if_pos rfl] at H; exact H
       clear H
       have H := H1
       clear H1
       have H' := Aside0.mk H
       clear H
       have p319 : 0 ≤ (x9_1 : Int) := of_decide_eq_true (by first | (with_reducible assumption) | assumption)
       have q319 : x9_1 < (l0_2.length : Int) := of_decide_eq_true (by first | (with_reducible assumption) | assumption)
       obtain ⟨ad319, e319, hx319_0, hx319_1, hx319_2, hx319_3, hx319_4, hx319_5⟩ := at_T38 HR0_2.out x9_1 p319 q319
       (try rw [← Nbq7.out] at hx319_1)
       (try rw [← Nbq7.out] at hx319_3)
       cases e319
       replace hx319_0 := (HB.out.cell (World.block_lt_of_cell? w _ hx319_0)).trans hx319_0
       replace hx319_1 := (HB.out.cell (World.block_lt_of_cell? w _ hx319_1)).trans hx319_1
       replace hx319_2 := (HB.out.cell (World.block_lt_of_cell? w _ hx319_2)).trans hx319_2
       replace hx319_3 := (HB.out.cell (World.block_lt_of_cell? w _ hx319_3)).trans hx319_3
       replace hx319_4 := (HB.out.cell (World.block_lt_of_cell? w _ hx319_4)).trans hx319_4
       replace hx319_5 := (HB.out.cell (World.block_lt_of_cell? w _ hx319_5)).trans hx319_5
       replace p319 := eq_true p319
       replace q319 := eq_true q319
       go_wp2_with (first | ((with_reducible refine gate_dst (N := 5) rfl ?_); refine box_event ?hg (N := 5) ?hd (cs := #[.string (⟨#[]⟩ : ByteArray), .bool false, .int .i64 0, .bool false, .int .i64 0, .string (⟨#[]⟩ : ByteArray)]) (t := 38) ?hr ?_; (case hd => rfl); (case hg => rfl); (case hr => first | (go_simp; done) | (go_simp; rfl)); intro gb320 hg w9 hbox hb; have n0_ := Aside0.mk (Kd.R_below (by exact HO_3.out) hb); have n1_ := Aside0.mk (blk_below (g := gb318) (o := .cells #[.bool a0_0, .string a0_1, .slice (some ad319) l0_2.length c0_2, .int .i64 a0_3] 41 (0, 0)) (by exact BK318.out) hb); have n2_ := Aside0.mk (below_step (by with_reducible exact HB.out) hb); have n3_ := Aside0.mk (hbox); have n4_ := Aside0.mk ((by rw [hg]; exact (below_size (by with_reducible exact HB.out)) : w.heap.size ≤ gb320)); have n5_ := Aside0.mk ((by rw [hg]; exact (below_size (by with_reducible exact HB.out)) : w.heap.size ≤ gb320)); have n6_ := Aside0.mk ((by rw [hg]; exact Nat.ne_of_lt (blk_lt (g := gb318) (o := .cells #[.bool a0_0, .string a0_1, .slice (some ad319) l0_2.length c0_2, .int .i64 a0_3] 41 (0, 0)) (by exact BK318.out)) : gb318 ≠ gb320)); have n7_ := Aside0.mk ((by rw [hg]; exact Nat.ne_of_gt (blk_lt (g := gb318) (o := .cells #[.bool a0_0, .string a0_1, .slice (some ad319) l0_2.length c0_2, .int .i64 a0_3] 41 (0, 0)) (by exact BK318.out)) : gb320 ≠ gb318)); clear HO_3 BK318 HB; have HO_3 := n0_; have BK318 := n1_; have HB := n2_; have BK320 := n3_; have GW320 := n4_; have GE320 := n5_; have NB318_320 := n6_; have NB320_318 := n7_; clear n0_ n1_ n2_ n3_ n4_ n5_ n6_ n7_ hb hbox hg; have hnb10 := NB320_318.out; have hnc10 := NB318_320.out; have hcz11_0 : w9.cell? ⟨gb320, 0, none⟩ = some (.string (⟨#[]⟩ : ByteArray)) := (blk_cell BK320.out 0).trans rfl; have hcz11_1 : w9.cell? ⟨gb320, 1, none⟩ = some (.bool false) := (blk_cell BK320.out 1).trans rfl; have hcz11_2 : w9.cell? ⟨gb320, 2, none⟩ = some (.int .i64 0) := (blk_cell BK320.out 2).trans rfl; have hcz11_3 : w9.cell? ⟨gb320, 3, none⟩ = some (.bool false) := (blk_cell BK320.out 3).trans rfl; have hcz11_4 : w9.cell? ⟨gb320, 4, none⟩ = some (.int .i64 0) := (blk_cell BK320.out 4).trans rfl; have hcz11_5 : w9.cell? ⟨gb320, 5, none⟩ = some (.string (⟨#[]⟩ : ByteArray)) := (blk_cell BK320.out 5).trans rfl; have hfz11_0 := blk_frozen BK320.out 0; have hfz11_1 := blk_frozen BK320.out 1; have hfz11_2 := blk_frozen BK320.out 2; have hfz11_3 := blk_frozen BK320.out 3; have hfz11_4 := blk_frozen BK320.out 4; have hfz11_5 := blk_frozen BK320.out 5))
       go_roundg k1
       case measure => have := HK1.out; omega
       case rel => exact ⟨(x3_1), (wrap64 (x9_1 + 1)), rfl, H', ⟨by have := HK1.out; omega⟩, ⟨by exact Kd.R_mono (Kd.R_far (p := ⟨gb320, 5, none⟩) (Kd.R_far (p := ⟨gb320, 4, none⟩) (Kd.R_far (p := ⟨gb320, 3, none⟩) (Kd.R_far (p := ⟨gb320, 2, none⟩) (Kd.R_far (p := ⟨gb320, 1, none⟩) (Kd.R_far (p := ⟨gb320, 0, none⟩) (Kd.R_types HO_3.out BK320.out (by decide)) (fun _ hk => hk.2) (.string ((rd_T38 l0_2 x9_1).f0))) (fun _ hk => hk.2) (.bool true)) (fun _ hk => hk.2) (.int .i64 ((rd_T38 l0_2 x9_1).f2.f0))) (fun _ hk => hk.2) (.bool ((rd_T38 l0_2 x9_1).f2.f1))) (fun _ hk => hk.2) (.int .i64 ((rd_T38 l0_2 x9_1).f2.f2))) (fun _ hk => hk.2) (.string ((rd_T38 l0_2 x9_1).f2.f3))) (fun _ hk => trivial)⟩, ⟨by refine blk_far ?_ NB318_320.out _; refine blk_far ?_ NB318_320.out _; refine blk_far ?_ NB318_320.out _; refine blk_far ?_ NB318_320.out _; refine blk_far ?_ NB318_320.out _; refine blk_far ?_ NB318_320.out _; exact BK318.out⟩, ⟨by repeat (first | (with_reducible first | exact HB.out | apply below_alloc | apply pw_below_drewN | apply below_drew1 | refine below_set ?_ GE318.out | refine below_set ?_ GE320.out) | exact HB.out)⟩⟩
      ·
       replace c8 := Bool.eq_false_iff.mpr c8
       subst c8
       have H1 : (if ((rd_T38 l0_2 x9_1).f0).toList = ([] : List UInt8) then (guard_vars.l0 k1 x3_1 l0_2 (l0_2.length : Int) (wrap64 (x9_1 + 1))) else (if x3_1.length < 8796093022208 then (guard_vars.l0 k1 (x3_1 ++ [(rd_T38 l0_2 x9_1).f0]) l0_2 (l0_2.length : Int) (wrap64 (x9_1 + 1))) else (none))) = some r := by rw [if_neg (show ¬ (false = true) by decide)] at H; exact H
       clear H
       have H := H1
       clear H1
       by_cases c12 : ((rd_T38 l0_2 x9_1).f0).toList = ([] : List UInt8)
       ·
        rw [if_pos c12] at H
        have c12b0 : (((rd_T38 l0_2 x9_1).f0).toList == ([] : List UInt8)) = true := beq_iff_eq.mpr c12
        have c12b1 : (((rd_T38 l0_2 x9_1).f0).toList != ([] : List UInt8)) = false := bne_eq_false_iff_eq.mpr c12
        clear c12
        have H' := Aside0.mk H
        clear H
        have p319 : 0 ≤ (x9_1 : Int) := of_decide_eq_true (by first | (with_reducible assumption) | assumption)
        have q319 : x9_1 < (l0_2.length : Int) := of_decide_eq_true (by first | (with_reducible assumption) | assumption)
        obtain ⟨ad319, e319, hx319_0, hx319_1, hx319_2, hx319_3, hx319_4, hx319_5⟩ := at_T38 HR0_2.out x9_1 p319 q319
        (try rw [← Nbq7.out] at hx319_1)
        (try rw [← Nbq7.out] at hx319_3)
        cases e319
        replace hx319_0 := (HB.out.cell (World.block_lt_of_cell? w _ hx319_0)).trans hx319_0
        replace hx319_1 := (HB.out.cell (World.block_lt_of_cell? w _ hx319_1)).trans hx319_1
        replace hx319_2 := (HB.out.cell (World.block_lt_of_cell? w _ hx319_2)).trans hx319_2
        replace hx319_3 := (HB.out.cell (World.block_lt_of_cell? w _ hx319_3)).trans hx319_3
        replace hx319_4 := (HB.out.cell (World.block_lt_of_cell? w _ hx319_4)).trans hx319_4
        replace hx319_5 := (HB.out.cell (World.block_lt_of_cell? w _ hx319_5)).trans hx319_5
        replace p319 := eq_true p319
        replace q319 := eq_true q319
        go_wp2_with (first | ((with_reducible refine gate_dst (N := 5) rfl ?_); refine box_event ?hg (N := 5) ?hd (cs := #[.string (⟨#[]⟩ : ByteArray), .bool false, .int .i64 0, .bool false, .int .i64 0, .string (⟨#[]⟩ : ByteArray)]) (t := 38) ?hr ?_; (case hd => rfl); (case hg => rfl); (case hr => first | (go_simp; done) | (go_simp; rfl)); intro gb320 hg w13 hbox hb; have n0_ := Aside0.mk (Kd.R_below (by exact HO_3.out) hb); have n1_ := Aside0.mk (blk_below (g := gb318) (o := .cells #[.bool a0_0, .string a0_1, .slice (some ad319) l0_2.length c0_2, .int .i64 a0_3] 41 (0, 0)) (by exact BK318.out) hb); have n2_ := Aside0.mk (below_step (by with_reducible exact HB.out) hb); have n3_ := Aside0.mk (hbox); have n4_ := Aside0.mk ((by rw [hg]; exact (below_size (by with_reducible exact HB.out)) : w.heap.size ≤ gb320)); have n5_ := Aside0.mk ((by rw [hg]; exact (below_size (by with_reducible exact HB.out)) : w.heap.size ≤ gb320)); have n6_ := Aside0.mk ((by rw [hg]; exact Nat.ne_of_lt (blk_lt (g := gb318) (o := .cells #[.bool a0_0, .string a0_1, .slice (some ad319) l0_2.length c0_2, .int .i64 a0_3] 41 (0, 0)) (by exact BK318.out)) : gb318 ≠ gb320)); have n7_ := Aside0.mk ((by rw [hg]; exact Nat.ne_of_gt (blk_lt (g := gb318) (o := .cells #[.bool a0_0, .string a0_1, .slice (some ad319) l0_2.length c0_2, .int .i64 a0_3] 41 (0, 0)) (by exact BK318.out)) : gb320 ≠ gb318)); clear HO_3 BK318 HB; have HO_3 := n0_; have BK318 := n1_; have HB := n2_; have BK320 := n3_; have GW320 := n4_; have GE320 := n5_; have NB318_320 := n6_; have NB320_318 := n7_; clear n0_ n1_ n2_ n3_ n4_ n5_ n6_ n7_ hb hbox hg; have hnb14 := NB320_318.out; have hnc14 := NB318_320.out; have hcz15_0 : w13.cell? ⟨gb320, 0, none⟩ = some (.string (⟨#[]⟩ : ByteArray)) := (blk_cell BK320.out 0).trans rfl; have hcz15_1 : w13.cell? ⟨gb320, 1, none⟩ = some (.bool false) := (blk_cell BK320.out 1).trans rfl; have hcz15_2 : w13.cell? ⟨gb320, 2, none⟩ = some (.int .i64 0) := (blk_cell BK320.out 2).trans rfl; have hcz15_3 : w13.cell? ⟨gb320, 3, none⟩ = some (.bool false) := (blk_cell BK320.out 3).trans rfl; have hcz15_4 : w13.cell? ⟨gb320, 4, none⟩ = some (.int .i64 0) := (blk_cell BK320.out 4).trans rfl; have hcz15_5 : w13.cell? ⟨gb320, 5, none⟩ = some (.string (⟨#[]⟩ : ByteArray)) := (blk_cell BK320.out 5).trans rfl; have hfz15_0 := blk_frozen BK320.out 0; have hfz15_1 := blk_frozen BK320.out 1; have hfz15_2 := blk_frozen BK320.out 2; have hfz15_3 := blk_frozen BK320.out 3; have hfz15_4 := blk_frozen BK320.out 4; have hfz15_5 := blk_frozen BK320.out 5))
        go_roundg k1
        case measure => have := HK1.out; omega
        case rel => exact ⟨(x3_1), (wrap64 (x9_1 + 1)), rfl, H', ⟨by have := HK1.out; omega⟩, ⟨by exact Kd.R_mono (Kd.R_far (p := ⟨gb320, 5, none⟩) (Kd.R_far (p := ⟨gb320, 4, none⟩) (Kd.R_far (p := ⟨gb320, 3, none⟩) (Kd.R_far (p := ⟨gb320, 2, none⟩) (Kd.R_far (p := ⟨gb320, 1, none⟩) (Kd.R_far (p := ⟨gb320, 0, none⟩) (Kd.R_types HO_3.out BK320.out (by decide)) (fun _ hk => hk.2) (.string ((rd_T38 l0_2 x9_1).f0))) (fun _ hk => hk.2) (.bool false)) (fun _ hk => hk.2) (.int .i64 ((rd_T38 l0_2 x9_1).f2.f0))) (fun _ hk => hk.2) (.bool ((rd_T38 l0_2 x9_1).f2.f1))) (fun _ hk => hk.2) (.int .i64 ((rd_T38 l0_2 x9_1).f2.f2))) (fun _ hk => hk.2) (.string ((rd_T38 l0_2 x9_1).f2.f3))) (fun _ hk => trivial)⟩, ⟨by refine blk_far ?_ NB318_320.out _; refine blk_far ?_ NB318_320.out _; refine blk_far ?_ NB318_320.out _; refine blk_far ?_ NB318_320.out _; refine blk_far ?_ NB318_320.out _; refine blk_far ?_ NB318_320.out _; exact BK318.out⟩, ⟨by repeat (first | (with_reducible first | exact HB.out | apply below_alloc | apply pw_below_drewN | apply below_drew1 | refine below_set ?_ GE318.out | refine below_set ?_ GE320.out) | exact HB.out)⟩⟩
       ·
        rw [if_neg c12] at H
        have c12b0 : (((rd_T38 l0_2 x9_1).f0).toList == ([] : List UInt8)) = false := beq_eq_false_iff_ne.mpr c12
        have c12b1 : (((rd_T38 l0_2 x9_1).f0).toList != ([] : List UInt8)) = true := bne_iff_ne.mpr c12
        by_cases c16 : x3_1.length < 8796093022208
        ·
         rw [if_pos c16] at H
         have LMc16 := Aside0.mk c16
         clear c16
         obtain ⟨y321, hy321⟩ : ∃ y_ : List ByteArray, y_ = (x3_1 ++ [(rd_T38 l0_2 x9_1).f0]) := ⟨_, rfl⟩
         replace H : (guard_vars.l0 k1 y321 l0_2 (l0_2.length : Int) (wrap64 (x9_1 + 1))) = some r := by first | (rw [hy321]; with_reducible exact H) | (have H2_ := (Option.bind_some _ _).symm.trans H; rw [hy321]; with_reducible exact H2_) | (have H2_ := (Option.bind_some _ _).symm.trans H; with_reducible exact H2_) | with_reducible exact H | (rw [hy321]; exact H) | exact H
         have Ny321 := Aside0.mk hy321
         clear hy321
         have H' := Aside0.mk H
         clear H
         have p319 : 0 ≤ (x9_1 : Int) := of_decide_eq_true (by first | (with_reducible assumption) | assumption)
         have q319 : x9_1 < (l0_2.length : Int) := of_decide_eq_true (by first | (with_reducible assumption) | assumption)
         obtain ⟨ad319, e319, hx319_0, hx319_1, hx319_2, hx319_3, hx319_4, hx319_5⟩ := at_T38 HR0_2.out x9_1 p319 q319
         (try rw [← Nbq7.out] at hx319_1)
         (try rw [← Nbq7.out] at hx319_3)
         cases e319
         replace hx319_0 := (HB.out.cell (World.block_lt_of_cell? w _ hx319_0)).trans hx319_0
         replace hx319_1 := (HB.out.cell (World.block_lt_of_cell? w _ hx319_1)).trans hx319_1
         replace hx319_2 := (HB.out.cell (World.block_lt_of_cell? w _ hx319_2)).trans hx319_2
         replace hx319_3 := (HB.out.cell (World.block_lt_of_cell? w _ hx319_3)).trans hx319_3
         replace hx319_4 := (HB.out.cell (World.block_lt_of_cell? w _ hx319_4)).trans hx319_4
         replace hx319_5 := (HB.out.cell (World.block_lt_of_cell? w _ hx319_5)).trans hx319_5
         replace p319 := eq_true p319
         replace q319 := eq_true q319
         go_wp2_with (first | ((with_reducible refine gate_dst (N := 5) rfl ?_); refine box_event ?hg (N := 5) ?hd (cs := #[.string (⟨#[]⟩ : ByteArray), .bool false, .int .i64 0, .bool false, .int .i64 0, .string (⟨#[]⟩ : ByteArray)]) (t := 38) ?hr ?_; (case hd => rfl); (case hg => rfl); (case hr => first | (go_simp; done) | (go_simp; rfl)); intro gb320 hg w17 hbox hb; have n0_ := Aside0.mk (Kd.R_below (by exact HO_3.out) hb); have n1_ := Aside0.mk (blk_below (g := gb318) (o := .cells #[.bool a0_0, .string a0_1, .slice (some ad319) l0_2.length c0_2, .int .i64 a0_3] 41 (0, 0)) (by exact BK318.out) hb); have n2_ := Aside0.mk (below_step (by with_reducible exact HB.out) hb); have n3_ := Aside0.mk (hbox); have n4_ := Aside0.mk ((by rw [hg]; exact (below_size (by with_reducible exact HB.out)) : w.heap.size ≤ gb320)); have n5_ := Aside0.mk ((by rw [hg]; exact (below_size (by with_reducible exact HB.out)) : w.heap.size ≤ gb320)); have n6_ := Aside0.mk ((by rw [hg]; exact Nat.ne_of_lt (blk_lt (g := gb318) (o := .cells #[.bool a0_0, .string a0_1, .slice (some ad319) l0_2.length c0_2, .int .i64 a0_3] 41 (0, 0)) (by exact BK318.out)) : gb318 ≠ gb320)); have n7_ := Aside0.mk ((by rw [hg]; exact Nat.ne_of_gt (blk_lt (g := gb318) (o := .cells #[.bool a0_0, .string a0_1, .slice (some ad319) l0_2.length c0_2, .int .i64 a0_3] 41 (0, 0)) (by exact BK318.out)) : gb320 ≠ gb318)); clear HO_3 BK318 HB; have HO_3 := n0_; have BK318 := n1_; have HB := n2_; have BK320 := n3_; have GW320 := n4_; have GE320 := n5_; have NB318_320 := n6_; have NB320_318 := n7_; clear n0_ n1_ n2_ n3_ n4_ n5_ n6_ n7_ hb hbox hg; have hnb18 := NB320_318.out; have hnc18 := NB318_320.out; have hcz19_0 : w17.cell? ⟨gb320, 0, none⟩ = some (.string (⟨#[]⟩ : ByteArray)) := (blk_cell BK320.out 0).trans rfl; have hcz19_1 : w17.cell? ⟨gb320, 1, none⟩ = some (.bool false) := (blk_cell BK320.out 1).trans rfl; have hcz19_2 : w17.cell? ⟨gb320, 2, none⟩ = some (.int .i64 0) := (blk_cell BK320.out 2).trans rfl; have hcz19_3 : w17.cell? ⟨gb320, 3, none⟩ = some (.bool false) := (blk_cell BK320.out 3).trans rfl; have hcz19_4 : w17.cell? ⟨gb320, 4, none⟩ = some (.int .i64 0) := (blk_cell BK320.out 4).trans rfl; have hcz19_5 : w17.cell? ⟨gb320, 5, none⟩ = some (.string (⟨#[]⟩ : ByteArray)) := (blk_cell BK320.out 5).trans rfl; have hfz19_0 := blk_frozen BK320.out 0; have hfz19_1 := blk_frozen BK320.out 1; have hfz19_2 := blk_frozen BK320.out 2; have hfz19_3 := blk_frozen BK320.out 3; have hfz19_4 := blk_frozen BK320.out 4; have hfz19_5 := blk_frozen BK320.out 5) | ((with_reducible refine gate_store (t := 38) (p := 5) rfl ?_); refine store_event (t := 38) (p := 5) (v := ?vo_w20) (w1 := ((((((w17.setCell ⟨gb320, 0, none⟩ (.string ((rd_T38 l0_2 x9_1).f0))).setCell ⟨gb320, 1, none⟩ (.bool false)).setCell ⟨gb320, 2, none⟩ (.int .i64 ((rd_T38 l0_2 x9_1).f2.f0))).setCell ⟨gb320, 3, none⟩ (.bool ((rd_T38 l0_2 x9_1).f2.f1))).setCell ⟨gb320, 4, none⟩ (.int .i64 ((rd_T38 l0_2 x9_1).f2.f2))).setCell ⟨gb320, 5, none⟩ (.string ((rd_T38 l0_2 x9_1).f2.f3)))) ?hg ?ho ?hn ?hr ?_; (case ho => rfl); (case hg => rfl); (case hn => rfl); (case hr => first | (go_simp; done) | (go_simp; rfl)); intro w20 hw; have n0_ : Aside0 (Kd.R Kd.string 9 w20 w.heap.size (fun _ => True) u3 x3_1) := ⟨(by rw [hw]; exact (by exact Kd.R_mono (Kd.R_far (p := ⟨gb320, 5, none⟩) (Kd.R_far (p := ⟨gb320, 4, none⟩) (Kd.R_far (p := ⟨gb320, 3, none⟩) (Kd.R_far (p := ⟨gb320, 2, none⟩) (Kd.R_far (p := ⟨gb320, 1, none⟩) (Kd.R_far (p := ⟨gb320, 0, none⟩) (Kd.R_types HO_3.out BK320.out (by decide)) (fun _ hk => hk.2) (.string ((rd_T38 l0_2 x9_1).f0))) (fun _ hk => hk.2) (.bool false)) (fun _ hk => hk.2) (.int .i64 ((rd_T38 l0_2 x9_1).f2.f0))) (fun _ hk => hk.2) (.bool ((rd_T38 l0_2 x9_1).f2.f1))) (fun _ hk => hk.2) (.int .i64 ((rd_T38 l0_2 x9_1).f2.f2))) (fun _ hk => hk.2) (.string ((rd_T38 l0_2 x9_1).f2.f3))) (fun _ hk => trivial)))⟩; have n1_ : Aside0 (w20.heap[gb318]? = some (.cells #[.bool a0_0, .string a0_1, .slice (some ad319) l0_2.length c0_2, .int .i64 a0_3] 41 (0, 0))) := ⟨(by rw [hw]; exact (by refine blk_far ?_ NB318_320.out _; refine blk_far ?_ NB318_320.out _; refine blk_far ?_ NB318_320.out _; refine blk_far ?_ NB318_320.out _; refine blk_far ?_ NB318_320.out _; refine blk_far ?_ NB318_320.out _; exact BK318.out))⟩; have n2_ : Aside0 (w20.heap[gb320]? = some (.cells #[.string ((rd_T38 l0_2 x9_1).f0), .bool false, .int .i64 ((rd_T38 l0_2 x9_1).f2.f0), .bool ((rd_T38 l0_2 x9_1).f2.f1), .int .i64 ((rd_T38 l0_2 x9_1).f2.f2), .string ((rd_T38 l0_2 x9_1).f2.f3)] 38 (0, 0))) := ⟨(by rw [hw]; exact (by refine blk_put (cs := #[.string ((rd_T38 l0_2 x9_1).f0), .bool false, .int .i64 ((rd_T38 l0_2 x9_1).f2.f0), .bool ((rd_T38 l0_2 x9_1).f2.f1), .int .i64 ((rd_T38 l0_2 x9_1).f2.f2), .string (⟨#[]⟩ : ByteArray)]) ?_ 5 _ rfl; refine blk_put (cs := #[.string ((rd_T38 l0_2 x9_1).f0), .bool false, .int .i64 ((rd_T38 l0_2 x9_1).f2.f0), .bool ((rd_T38 l0_2 x9_1).f2.f1), .int .i64 0, .string (⟨#[]⟩ : ByteArray)]) ?_ 4 _ rfl; refine blk_put (cs := #[.string ((rd_T38 l0_2 x9_1).f0), .bool false, .int .i64 ((rd_T38 l0_2 x9_1).f2.f0), .bool false, .int .i64 0, .string (⟨#[]⟩ : ByteArray)]) ?_ 3 _ rfl; refine blk_put (cs := #[.string ((rd_T38 l0_2 x9_1).f0), .bool false, .int .i64 0, .bool false, .int .i64 0, .string (⟨#[]⟩ : ByteArray)]) ?_ 2 _ rfl; refine blk_put (cs := #[.string ((rd_T38 l0_2 x9_1).f0), .bool false, .int .i64 0, .bool false, .int .i64 0, .string (⟨#[]⟩ : ByteArray)]) ?_ 1 _ rfl; refine blk_put (cs := #[.string (⟨#[]⟩ : ByteArray), .bool false, .int .i64 0, .bool false, .int .i64 0, .string (⟨#[]⟩ : ByteArray)]) ?_ 0 _ rfl; exact BK320.out))⟩; have n3_ : Aside0 (Below w.heap.size w w20) := ⟨(by rw [hw]; exact (by repeat (first | (with_reducible first | exact HB.out | apply below_alloc | apply pw_below_drewN | apply below_drew1 | refine below_set ?_ GE318.out | refine below_set ?_ GE320.out) | exact HB.out)))⟩; clear hw HO_3 BK318 BK320 HB; have HO_3 := n0_; have BK318 := n1_; have BK320 := n2_; have HB := n3_; clear n0_ n1_ n2_ n3_; have hcz21_0 : w20.cell? ⟨gb320, 0, none⟩ = some (.string ((rd_T38 l0_2 x9_1).f0)) := (blk_cell BK320.out 0).trans rfl; have hcz21_1 : w20.cell? ⟨gb320, 1, none⟩ = some (.bool false) := (blk_cell BK320.out 1).trans rfl; have hcz21_2 : w20.cell? ⟨gb320, 2, none⟩ = some (.int .i64 ((rd_T38 l0_2 x9_1).f2.f0)) := (blk_cell BK320.out 2).trans rfl; have hcz21_3 : w20.cell? ⟨gb320, 3, none⟩ = some (.bool ((rd_T38 l0_2 x9_1).f2.f1)) := (blk_cell BK320.out 3).trans rfl; have hcz21_4 : w20.cell? ⟨gb320, 4, none⟩ = some (.int .i64 ((rd_T38 l0_2 x9_1).f2.f2)) := (blk_cell BK320.out 4).trans rfl; have hcz21_5 : w20.cell? ⟨gb320, 5, none⟩ = some (.string ((rd_T38 l0_2 x9_1).f2.f3)) := (blk_cell BK320.out 5).trans rfl; have hfz21_0 := blk_frozen BK320.out 0; have hfz21_1 := blk_frozen BK320.out 1; have hfz21_2 := blk_frozen BK320.out 2; have hfz21_3 := blk_frozen BK320.out 3; have hfz21_4 := blk_frozen BK320.out 4; have hfz21_5 := blk_frozen BK320.out 5) | ((with_reducible refine gate_builtin (b := .append) (xs := #[.tmp 21, .tmp 24]) rfl ?_); at_builtin; refine Kd.R_append Kd.string (w0 := w) w.heap.size rfl (.tmp 21) (.tmp 24) 22 9 (.string ⟨#[]⟩) 16 rfl Try.underlying22 info9 rfl (by decide) (by omega) u3 x3_1 ((rd_T38 l0_2 x9_1).f0) [.string ((rd_T38 l0_2 x9_1).f0)] (fun _ => True) (fun _ => False) rfl rfl ?aP (fun _ hk => hk.elim) ?aF ?aO ?aB ?aS ?aL ?_; (case aP => exact rfl); (case aB => exact (by with_reducible exact HB.out)); (case aF => exact (fun _ _ => trivial)); (case aO => exact (by exact HO_3.out)); (case aS => exact (below_size (by with_reducible exact HB.out))); (case aL => have := LMc16.out; omega); intro v322 w22 ho hb hg hat; rw [← Ny321.out] at ho; have n0_ := Aside0.mk (blk_grown (g := gb318) (o := .cells #[.bool a0_0, .string a0_1, .slice (some ad319) l0_2.length c0_2, .int .i64 a0_3] 41 (0, 0)) (by exact BK318.out) hg (Kd.R_ne HO_3.out BK318.out (by decide))); have n1_ := Aside0.mk (blk_grown (g := gb320) (o := .cells #[.string ((rd_T38 l0_2 x9_1).f0), .bool false, .int .i64 ((rd_T38 l0_2 x9_1).f2.f0), .bool ((rd_T38 l0_2 x9_1).f2.f1), .int .i64 ((rd_T38 l0_2 x9_1).f2.f2), .string ((rd_T38 l0_2 x9_1).f2.f3)] 38 (0, 0)) (by exact BK320.out) hg (Kd.R_ne HO_3.out BK320.out (by decide))); have n2_ := Aside0.mk (hb); have n3_ := Aside0.mk (ho); clear BK318 BK320 HB HO_3; have BK318 := n0_; have BK320 := n1_; have HB := n2_; have HO323 := n3_; clear n0_ n1_ n2_ n3_ ho hb hg hat))
         go_roundg k1
         case measure => have := HK1.out; omega
         case rel => exact ⟨(y321), (wrap64 (x9_1 + 1)), rfl, H', ⟨by have := HK1.out; omega⟩, ⟨by exact HO323.out⟩, ⟨by exact BK318.out⟩, ⟨by with_reducible exact HB.out⟩⟩
        ·
         rw [if_neg c16] at H
         exact absurd H (by simp)
     ·
      rw [if_neg c6] at H
      exact absurd H (by simp)
    ·
     rw [if_neg c5] at H
     exact absurd H (by simp)
   ·
    rw [if_neg c4] at H
    have c4b0 : decide (x9_1 < (l0_2.length : Int)) = false := decide_eq_false c4
    clear c4
    obtain rfl := Option.some.inj H
    go_wp2
    go_ret
    exact ⟨_, rfl, by exact HO_3.out, by with_reducible exact HB.out⟩
/-! ### guard_Bound: function 15 -/
mutual
def guard_Bound.l0 : Nat → List ByteArray → List (S41) → Int → Int → Option (List ByteArray)
 | 0, _, _, _, _ => none
 | k + 1, x3, x9, x10, x11 => if x11 < x10 then (if 0 ≤ x11 then (if x11 < (x9.length : Int) then ((guard_binds.f ((rd_T41 x9 x11).f0) ((rd_T41 x9 x11).f1) ((rd_T41 x9 x11).f2) ((rd_T41 x9 x11).f3)).bind fun t327 => (if t327 = true then ((guard_vars.f k ((rd_T41 x9 x11).f0) ((rd_T41 x9 x11).f1) ((rd_T41 x9 x11).f2) ((rd_T41 x9 x11).f3)).bind fun t328 => (guard_Bound.l1 k x3 x9 x10 x11 t328 (t328.length : Int) 0)) else (guard_Bound.l0 k x3 x9 x10 (wrap64 (x11 + 1))))) else (none)) else (none)) else (some x3)
def guard_Bound.l1 : Nat → List ByteArray → List (S41) → Int → Int → List ByteArray → Int → Int → Option (List ByteArray)
 | 0, _, _, _, _, _, _, _ => none
 | k + 1, x3, x9, x10, x11, x19, x20, x21 => if x21 < x20 then (if 0 ≤ x21 then (if x21 < (x19.length : Int) then ((slices_Contains_string_string.f k x3 (rdOf ByteArray.empty x19 x21)).bind fun t332 => (if t332 = true then (guard_Bound.l1 k x3 x9 x10 x11 x19 x20 (wrap64 (x21 + 1))) else (if x3.length < 8796093022208 then (guard_Bound.l1 k (x3 ++ [rdOf ByteArray.empty x19 x21]) x9 x10 x11 x19 x20 (wrap64 (x21 + 1))) else (none)))) else (none)) else (none)) else (guard_Bound.l0 k x3 x9 x10 (wrap64 (x11 + 1)))
end
def guard_Bound.f (k : Nat) (a0_0 : Int) (a0_1 : ByteArray) (l0_2 : List ByteArray) (a0_3 : Int) (a0_4 : ByteArray) (a0_5 : Int) (l0_6 : List (S41)) : Option (List ByteArray) := guard_Bound.l0 k ([] : List ByteArray) l0_6 (l0_6.length : Int) 0
set_option maxHeartbeats 8000000 in
set_option maxRecDepth 100000 in
theorem guard_Bound.calls (k : Nat) (a0_0 : Int) (a0_1 : ByteArray) (A0_2 : Option Addr) (c0_2 : Nat) (l0_2 : List ByteArray) (a0_3 : Int) (a0_4 : ByteArray) (a0_5 : Int) (A0_6 : Option Addr) (c0_6 : Nat) (l0_6 : List (S41)) (r : List ByteArray) (w : World) (hr0_2 : Kd.C Kd.string w A0_2 l0_2.length l0_2) (hc0_2 : l0_2.length ≤ c0_2) (hr0_6 : Kd.C k41 w A0_6 l0_6.length l0_6) (hc0_6 : l0_6.length ≤ c0_6) (h : guard_Bound.f k a0_0 a0_1 l0_2 a0_3 a0_4 a0_5 l0_6 = some r) :
  Calls Try.prog 15 #[.agg #[.int .i64 a0_0, .string a0_1, .slice A0_2 l0_2.length c0_2, .int .i64 a0_3, .string a0_4, .int .i64 a0_5, .slice A0_6 l0_6.length c0_6]] w fun e w' => ∃ v0_ : Value, e = .returned (v0_) ∧ Kd.R Kd.string 9 w' w.heap.size (fun _ => True) v0_ r ∧ Below w.heap.size w w' := by
 have hu25 := Try.underlying25
 have hu41 := Try.underlying41
 have HR0_2 := Aside0.mk hr0_2
 have HC0_2 := Aside0.mk hc0_2
 clear hr0_2 hc0_2
 have HR0_6 := Aside0.mk hr0_6
 have HC0_6 := Aside0.mk hc0_6
 clear hr0_6 hc0_6
 have HB := Aside0.mk (Below.refl w.heap.size w)
 have H : (guard_Bound.l0 k ([] : List ByteArray) l0_6 (l0_6.length : Int) 0) = some r := h
 clear h
 have H' := Aside0.mk H
 clear H
 go_enter Try.func15, Try.ntmps15
 go_wp2_with (first | ((with_reducible refine gate_dst (N := 1) rfl ?_); refine box_event ?hg (N := 1) ?hd (cs := #[.int .i64 a0_0, .string a0_1, .slice A0_2 l0_2.length c0_2, .int .i64 a0_3, .string a0_4, .int .i64 a0_5, .slice A0_6 l0_6.length c0_6]) (t := 25) ?hr ?_; (case hd => rfl); (case hg => rfl); (case hr => first | (go_simp; done) | (go_simp; rfl)); intro gb324 hg w2 hbox hb; have n0_ := Aside0.mk (below_step (by with_reducible exact HB.out) hb); have n1_ := Aside0.mk (hbox); have n2_ := Aside0.mk ((by rw [hg]; exact (below_size (by with_reducible exact HB.out)) : w.heap.size ≤ gb324)); have n3_ := Aside0.mk ((by rw [hg]; exact (below_size (by with_reducible exact HB.out)) : w.heap.size ≤ gb324)); clear HB; have HB := n0_; have BK324 := n1_; have GW324 := n2_; have GE324 := n3_; clear n0_ n1_ n2_ n3_ hb hbox hg; have hcz3_0 : w2.cell? ⟨gb324, 0, none⟩ = some (.int .i64 a0_0) := (blk_cell BK324.out 0).trans rfl; have hcz3_1 : w2.cell? ⟨gb324, 1, none⟩ = some (.string a0_1) := (blk_cell BK324.out 1).trans rfl; have hcz3_2 : w2.cell? ⟨gb324, 2, none⟩ = some (.slice A0_2 l0_2.length c0_2) := (blk_cell BK324.out 2).trans rfl; have hcz3_3 : w2.cell? ⟨gb324, 3, none⟩ = some (.int .i64 a0_3) := (blk_cell BK324.out 3).trans rfl; have hcz3_4 : w2.cell? ⟨gb324, 4, none⟩ = some (.string a0_4) := (blk_cell BK324.out 4).trans rfl; have hcz3_5 : w2.cell? ⟨gb324, 5, none⟩ = some (.int .i64 a0_5) := (blk_cell BK324.out 5).trans rfl; have hcz3_6 : w2.cell? ⟨gb324, 6, none⟩ = some (.slice A0_6 l0_6.length c0_6) := (blk_cell BK324.out 6).trans rfl; have hfz3_0 := blk_frozen BK324.out 0; have hfz3_1 := blk_frozen BK324.out 1; have hfz3_2 := blk_frozen BK324.out 2; have hfz3_3 := blk_frozen BK324.out 3; have hfz3_4 := blk_frozen BK324.out 4; have hfz3_5 := blk_frozen BK324.out 5; have hfz3_6 := blk_frozen BK324.out 6))
 go_loopg [3, 11] k (fun kq v3 v11 w' => ∃ (x3_1 : List ByteArray) (x11_1 : Int), v11 = .int .i64 x11_1 ∧ Aside0 (guard_Bound.l0 kq x3_1 l0_6 (l0_6.length : Int) x11_1 = some r) ∧ Aside0 (kq ≤ k) ∧ Aside0 (Kd.R Kd.string 9 w' w.heap.size (fun _ => True) v3 x3_1) ∧ Aside0 (w'.heap[gb324]? = some (.cells #[.int .i64 a0_0, .string a0_1, (.slice A0_2 l0_2.length c0_2), .int .i64 a0_3, .string a0_4, .int .i64 a0_5, (.slice A0_6 l0_6.length c0_6)] 25 (0, 0))) ∧ Aside0 (Below w.heap.size w w'))
 case atStart => exact ⟨(([] : List ByteArray)), (0), rfl, H', ⟨Nat.le_refl _⟩, ⟨by first | exact Kd.R_nil _ _ _ _ _ | exact Kd.N_nil _ _ _ _ _ | exact Kd.V_nil _ _ _ _ _ | exact Kd.Q_nil _ _ _ _ _ | exact Kd.S_nil _ _ _ _ _⟩, ⟨by exact BK324.out⟩, ⟨by with_reducible exact HB.out⟩⟩
 case round =>
  clear H'
  clear hcz3_0 hcz3_1 hcz3_2 hcz3_3 hcz3_4 hcz3_5 hcz3_6 hfz3_0 hfz3_1 hfz3_2 hfz3_3 hfz3_4 hfz3_5 hfz3_6
  obtain ⟨x3_1, x11_1, rfl, HA, HK1, HO_3, BK324, HB⟩ := hrel
  cases gk with
  | zero => exact absurd HA.out (by simp [guard_Bound.l0])
  | succ k1 =>
   have H := HA.out
   clear HA
   simp only [guard_Bound.l0] at H
   by_cases c4 : x11_1 < (l0_6.length : Int)
   ·
    rw [if_pos c4] at H
    have c4b0 : decide (x11_1 < (l0_6.length : Int)) = true := decide_eq_true c4
    clear c4
    by_cases c5 : 0 ≤ x11_1
    ·
     rw [if_pos c5] at H
     have c5b0 : decide (0 ≤ x11_1) = true := decide_eq_true c5
     clear c5
     by_cases c6 : x11_1 < (l0_6.length : Int)
     ·
      rw [if_pos c6] at H
      have c6b0 : decide (x11_1 < (l0_6.length : Int)) = true := decide_eq_true c6
      clear c6
      replace H := Option.bind_eq_some_iff.mp H
      obtain ⟨t327, A70, H⟩ := H
      replace H : (if t327 = true then ((guard_vars.f k1 ((rd_T41 l0_6 x11_1).f0) ((rd_T41 l0_6 x11_1).f1) ((rd_T41 l0_6 x11_1).f2) ((rd_T41 l0_6 x11_1).f3)).bind fun t328 => (guard_Bound.l1 k1 x3_1 l0_6 (l0_6.length : Int) x11_1 t328 (t328.length : Int) 0)) else (guard_Bound.l0 k1 x3_1 l0_6 (l0_6.length : Int) (wrap64 (x11_1 + 1)))) = some r := H
      have A7 := Aside0.mk A70
      clear A70
      by_cases c8 : t327 = true
      ·
       subst c8
       have H1 : ((guard_vars.f k1 ((rd_T41 l0_6 x11_1).f0) ((rd_T41 l0_6 x11_1).f1) ((rd_T41 l0_6 x11_1).f2) ((rd_T41 l0_6 x11_1).f3)).bind fun t328 => (guard_Bound.l1 k1 x3_1 l0_6 (l0_6.length : Int) x11_1 t328 (t328.length : Int) 0)) = some r := by rw [if_pos rfl] at H; exact H
       clear H
       have H := H1
       clear H1
       replace H := Option.bind_eq_some_iff.mp H
       obtain ⟨t328, A90, H⟩ := H
       replace H : (guard_Bound.l1 k1 x3_1 l0_6 (l0_6.length : Int) x11_1 t328 (t328.length : Int) 0) = some r := H
       have A9 := Aside0.mk A90
       clear A90
       have H' := Aside0.mk H
       clear H
       have p325 : 0 ≤ (x11_1 : Int) := of_decide_eq_true (by first | (with_reducible assumption) | assumption)
       have q325 : x11_1 < (l0_6.length : Int) := of_decide_eq_true (by first | (with_reducible assumption) | assumption)
       obtain ⟨ad325, A325_2, c325_2, e325, hx325_0, hx325_1, hx325_2, hx325_3, hl325_2, hi325_2⟩ := at_T41 HR0_6.out x11_1 p325 q325
       cases e325
       replace hx325_0 := (HB.out.cell (World.block_lt_of_cell? w _ hx325_0)).trans hx325_0
       replace hx325_1 := (HB.out.cell (World.block_lt_of_cell? w _ hx325_1)).trans hx325_1
       replace hx325_2 := (HB.out.cell (World.block_lt_of_cell? w _ hx325_2)).trans hx325_2
       replace hx325_3 := (HB.out.cell (World.block_lt_of_cell? w _ hx325_3)).trans hx325_3
       have HR325_2 := Aside0.mk hi325_2
       have HC325_2 := Aside0.mk hl325_2
       clear hi325_2 hl325_2
       replace p325 := eq_true p325
       replace q325 := eq_true q325
       go_wp2_with (first | ((with_reducible refine gate_dst (N := 5) rfl ?_); refine box_event ?hg (N := 5) ?hd (cs := #[.bool false, .string (⟨#[]⟩ : ByteArray), .slice none 0 0, .int .i64 0]) (t := 41) ?hr ?_; (case hd => rfl); (case hg => rfl); (case hr => first | (go_simp; done) | (go_simp; rfl)); intro gb326 hg w10 hbox hb; have n0_ := Aside0.mk (Kd.R_below (by exact HO_3.out) hb); have n1_ := Aside0.mk (blk_below (g := gb324) (o := .cells #[.int .i64 a0_0, .string a0_1, .slice A0_2 l0_2.length c0_2, .int .i64 a0_3, .string a0_4, .int .i64 a0_5, .slice (some ad325) l0_6.length c0_6] 25 (0, 0)) (by exact BK324.out) hb); have n2_ := Aside0.mk (below_step (by with_reducible exact HB.out) hb); have n3_ := Aside0.mk (hbox); have n4_ := Aside0.mk ((by rw [hg]; exact (below_size (by with_reducible exact HB.out)) : w.heap.size ≤ gb326)); have n5_ := Aside0.mk ((by rw [hg]; exact (below_size (by with_reducible exact HB.out)) : w.heap.size ≤ gb326)); have n6_ := Aside0.mk ((by rw [hg]; exact Nat.ne_of_lt (blk_lt (g := gb324) (o := .cells #[.int .i64 a0_0, .string a0_1, .slice A0_2 l0_2.length c0_2, .int .i64 a0_3, .string a0_4, .int .i64 a0_5, .slice (some ad325) l0_6.length c0_6] 25 (0, 0)) (by exact BK324.out)) : gb324 ≠ gb326)); have n7_ := Aside0.mk ((by rw [hg]; exact Nat.ne_of_gt (blk_lt (g := gb324) (o := .cells #[.int .i64 a0_0, .string a0_1, .slice A0_2 l0_2.length c0_2, .int .i64 a0_3, .string a0_4, .int .i64 a0_5, .slice (some ad325) l0_6.length c0_6] 25 (0, 0)) (by exact BK324.out)) : gb326 ≠ gb324)); clear HO_3 BK324 HB; have HO_3 := n0_; have BK324 := n1_; have HB := n2_; have BK326 := n3_; have GW326 := n4_; have GE326 := n5_; have NB324_326 := n6_; have NB326_324 := n7_; clear n0_ n1_ n2_ n3_ n4_ n5_ n6_ n7_ hb hbox hg; have hnb11 := NB326_324.out; have hnc11 := NB324_326.out; have hcz12_0 : w10.cell? ⟨gb326, 0, none⟩ = some (.bool false) := (blk_cell BK326.out 0).trans rfl; have hcz12_1 : w10.cell? ⟨gb326, 1, none⟩ = some (.string (⟨#[]⟩ : ByteArray)) := (blk_cell BK326.out 1).trans rfl; have hcz12_2 : w10.cell? ⟨gb326, 2, none⟩ = some (.slice none 0 0) := (blk_cell BK326.out 2).trans rfl; have hcz12_3 : w10.cell? ⟨gb326, 3, none⟩ = some (.int .i64 0) := (blk_cell BK326.out 3).trans rfl; have hfz12_0 := blk_frozen BK326.out 0; have hfz12_1 := blk_frozen BK326.out 1; have hfz12_2 := blk_frozen BK326.out 2; have hfz12_3 := blk_frozen BK326.out 3) | ((with_reducible refine gate_callee (f := 29) rfl ?_); refine goesL_ (some 16) rfl rfl Try.func29 (by kernel_rfl) rfl #[.agg #[.bool ((rd_T41 l0_6 x11_1).f0), .string ((rd_T41 l0_6 x11_1).f1), .slice A325_2 ((rd_T41 l0_6 x11_1).f2).length c325_2, .int .i64 ((rd_T41 l0_6 x11_1).f3)]] rfl (by (try simp only [List.map_toArray, List.map_cons, List.map_nil]); first | done | rfl | (simp only [List.length_drop, List.length_take]; rfl)) ?_; (with_reducible refine (guard_binds.calls ((rd_T41 l0_6 x11_1).f0) ((rd_T41 l0_6 x11_1).f1) _ _ ((rd_T41 l0_6 x11_1).f2) ((rd_T41 l0_6 x11_1).f3) true _ ?side1 ?side2 A7.out).mono ?_); (case side1 => exact Kd.C_below HR325_2.out (by repeat (first | (with_reducible first | exact HB.out | apply below_alloc | apply pw_below_drewN | apply below_drew1 | refine below_set ?_ GE324.out | refine below_set ?_ GE326.out) | exact HB.out))); (case side2 => exact HC325_2.out); rintro e w13 ⟨rfl, hb⟩; refine ⟨_, rfl, ?_⟩; have n0_ := Aside0.mk (Kd.R_below (by exact (Kd.R_mono (Kd.R_far (p := ⟨gb326, 3, none⟩) (Kd.R_far (p := ⟨gb326, 2, none⟩) (Kd.R_far (p := ⟨gb326, 1, none⟩) (Kd.R_far (p := ⟨gb326, 0, none⟩) (Kd.R_types HO_3.out BK326.out (by decide)) (fun _ hk => hk.2) (.bool ((rd_T41 l0_6 x11_1).f0))) (fun _ hk => hk.2) (.string ((rd_T41 l0_6 x11_1).f1))) (fun _ hk => hk.2) (.slice A325_2 ((rd_T41 l0_6 x11_1).f2).length c325_2)) (fun _ hk => hk.2) (.int .i64 ((rd_T41 l0_6 x11_1).f3))) (fun _ h_ => h_.1))) hb); have n1_ := Aside0.mk (blk_below (g := gb324) (o := .cells #[.int .i64 a0_0, .string a0_1, .slice A0_2 l0_2.length c0_2, .int .i64 a0_3, .string a0_4, .int .i64 a0_5, .slice (some ad325) l0_6.length c0_6] 25 (0, 0)) (by refine blk_far ?_ NB324_326.out _; refine blk_far ?_ NB324_326.out _; refine blk_far ?_ NB324_326.out _; refine blk_far ?_ NB324_326.out _; exact BK324.out) hb); have n2_ := Aside0.mk (blk_below (g := gb326) (o := .cells #[.bool ((rd_T41 l0_6 x11_1).f0), .string ((rd_T41 l0_6 x11_1).f1), .slice A325_2 ((rd_T41 l0_6 x11_1).f2).length c325_2, .int .i64 ((rd_T41 l0_6 x11_1).f3)] 41 (0, 0)) (by refine blk_put (cs := #[.bool ((rd_T41 l0_6 x11_1).f0), .string ((rd_T41 l0_6 x11_1).f1), .slice A325_2 ((rd_T41 l0_6 x11_1).f2).length c325_2, .int .i64 0]) ?_ 3 _ rfl; refine blk_put (cs := #[.bool ((rd_T41 l0_6 x11_1).f0), .string ((rd_T41 l0_6 x11_1).f1), .slice none 0 0, .int .i64 0]) ?_ 2 _ rfl; refine blk_put (cs := #[.bool ((rd_T41 l0_6 x11_1).f0), .string (⟨#[]⟩ : ByteArray), .slice none 0 0, .int .i64 0]) ?_ 1 _ rfl; refine blk_put (cs := #[.bool false, .string (⟨#[]⟩ : ByteArray), .slice none 0 0, .int .i64 0]) ?_ 0 _ rfl; exact BK326.out) hb); have n3_ := Aside0.mk (below_step (by repeat (first | (with_reducible first | exact HB.out | apply below_alloc | apply pw_below_drewN | apply below_drew1 | refine below_set ?_ GE324.out | refine below_set ?_ GE326.out) | exact HB.out)) hb); clear HO_3 BK324 BK326 HB; have HO_3 := n0_; have BK324 := n1_; have BK326 := n2_; have HB := n3_; clear n0_ n1_ n2_ n3_ hb; have hcz14_0 : w13.cell? ⟨gb326, 0, none⟩ = some (.bool ((rd_T41 l0_6 x11_1).f0)) := (blk_cell BK326.out 0).trans rfl; have hcz14_1 : w13.cell? ⟨gb326, 1, none⟩ = some (.string ((rd_T41 l0_6 x11_1).f1)) := (blk_cell BK326.out 1).trans rfl; have hcz14_2 : w13.cell? ⟨gb326, 2, none⟩ = some (.slice A325_2 ((rd_T41 l0_6 x11_1).f2).length c325_2) := (blk_cell BK326.out 2).trans rfl; have hcz14_3 : w13.cell? ⟨gb326, 3, none⟩ = some (.int .i64 ((rd_T41 l0_6 x11_1).f3)) := (blk_cell BK326.out 3).trans rfl; have hfz14_0 := blk_frozen BK326.out 0; have hfz14_1 := blk_frozen BK326.out 1; have hfz14_2 := blk_frozen BK326.out 2; have hfz14_3 := blk_frozen BK326.out 3) | ((with_reducible refine gate_callee (f := 30) rfl ?_); refine goesL_ (some 19) rfl rfl Try.func30 (by kernel_rfl) rfl #[.agg #[.bool ((rd_T41 l0_6 x11_1).f0), .string ((rd_T41 l0_6 x11_1).f1), .slice A325_2 ((rd_T41 l0_6 x11_1).f2).length c325_2, .int .i64 ((rd_T41 l0_6 x11_1).f3)]] rfl (by (try simp only [List.map_toArray, List.map_cons, List.map_nil]); first | done | rfl | (simp only [List.length_drop, List.length_take]; rfl)) ?_; (with_reducible refine (guard_vars.calls k1 ((rd_T41 l0_6 x11_1).f0) ((rd_T41 l0_6 x11_1).f1) _ _ ((rd_T41 l0_6 x11_1).f2) ((rd_T41 l0_6 x11_1).f3) t328 _ ?side1 ?side2 A9.out).mono ?_); (case side1 => exact (Kd.C_below HR325_2.out HB.out)); (case side2 => exact HC325_2.out); rintro e w15 ⟨v329, rfl, ho0, hb⟩; refine ⟨_, rfl, ?_⟩; have n0_ := Aside0.mk (Kd.R_elder' (by exact HO_3.out) (Kd.R_base ho0) hb); have n1_ := Aside0.mk (Kd.R_lower (Kd.R_new' ho0 (Kd.R_lt (by exact HO_3.out))) (below_size (by with_reducible exact HB.out))); have n2_ := Aside0.mk (blk_below (g := gb324) (o := .cells #[.int .i64 a0_0, .string a0_1, .slice A0_2 l0_2.length c0_2, .int .i64 a0_3, .string a0_4, .int .i64 a0_5, .slice (some ad325) l0_6.length c0_6] 25 (0, 0)) (by exact BK324.out) hb); have n3_ := Aside0.mk (blk_below (g := gb326) (o := .cells #[.bool ((rd_T41 l0_6 x11_1).f0), .string ((rd_T41 l0_6 x11_1).f1), .slice A325_2 ((rd_T41 l0_6 x11_1).f2).length c325_2, .int .i64 ((rd_T41 l0_6 x11_1).f3)] 41 (0, 0)) (by exact BK326.out) hb); have n4_ := Aside0.mk (below_step (by with_reducible exact HB.out) hb); clear HO_3 BK324 BK326 HB; have HO_3 := n0_; have HO330 := n1_; have BK324 := n2_; have BK326 := n3_; have HB := n4_; clear n0_ n1_ n2_ n3_ n4_ hb ho0; obtain ⟨Ao16, co16, eo16⟩ := Kd.R_slice HO330.out; subst eo16))
       go_loopg [3, 21] k1 (fun kq v3 v21 w' => ∃ (x3_2 : List ByteArray) (x21_2 : Int), v21 = .int .i64 x21_2 ∧ Aside0 (guard_Bound.l1 kq x3_2 l0_6 (l0_6.length : Int) x11_1 t328 (t328.length : Int) x21_2 = some r) ∧ Aside0 (kq ≤ k1) ∧ Aside0 (Kd.R Kd.string 9 w' w.heap.size (fun k_ => some k_ ≠ ((.slice Ao16 t328.length co16) : Value).ownBlock) v3 x3_2) ∧ Aside0 (Kd.R Kd.string 9 w' w.heap.size (fun k_ => some k_ ≠ (v3 : Value).ownBlock) (.slice Ao16 t328.length co16) t328) ∧ Aside0 (w'.heap[gb324]? = some (.cells #[.int .i64 a0_0, .string a0_1, (.slice A0_2 l0_2.length c0_2), .int .i64 a0_3, .string a0_4, .int .i64 a0_5, (.slice (some ad325) l0_6.length c0_6)] 25 (0, 0))) ∧ Aside0 (w'.heap[gb326]? = some (.cells #[.bool ((rd_T41 l0_6 x11_1).f0), .string ((rd_T41 l0_6 x11_1).f1), (.slice A325_2 ((rd_T41 l0_6 x11_1).f2).length c325_2), .int .i64 ((rd_T41 l0_6 x11_1).f3)] 41 (0, 0))) ∧ Aside0 (Below w.heap.size w w'))
       case atStart => exact ⟨(x3_1), (0), rfl, H', ⟨Nat.le_refl _⟩, ⟨by exact Kd.R_mono HO_3.out (fun _ hk => hk.2)⟩, ⟨by exact Kd.R_mono HO330.out (fun _ hk => hk.2)⟩, ⟨by exact BK324.out⟩, ⟨by exact BK326.out⟩, ⟨by with_reducible exact HB.out⟩⟩
       case round =>
        clear H'
        clear c4b0 c5b0 c6b0 hcz12_0 hcz12_1 hcz12_2 hcz12_3 hcz14_0 hcz14_1 hcz14_2 hcz14_3 hfz12_0 hfz12_1 hfz12_2 hfz12_3 hfz14_0 hfz14_1 hfz14_2 hfz14_3 hx325_0 hx325_1 hx325_2 hx325_3 p325 q325
        obtain ⟨x3_2, x21_2, rfl, HA, HK2, HO_3, HO_19, BK324, BK326, HB⟩ := hrel
        cases gk with
        | zero => exact absurd HA.out (by simp [guard_Bound.l1])
        | succ k2 =>
         have H := HA.out
         clear HA
         simp only [guard_Bound.l1] at H
         by_cases c17 : x21_2 < (t328.length : Int)
         ·
          rw [if_pos c17] at H
          have c17b0 : decide (x21_2 < (t328.length : Int)) = true := decide_eq_true c17
          clear c17
          by_cases c18 : 0 ≤ x21_2
          ·
           rw [if_pos c18] at H
           have c18b0 : decide (0 ≤ x21_2) = true := decide_eq_true c18
           clear c18
           by_cases c19 : x21_2 < (t328.length : Int)
           ·
            rw [if_pos c19] at H
            have c19b0 : decide (x21_2 < (t328.length : Int)) = true := decide_eq_true c19
            clear c19
            replace H := Option.bind_eq_some_iff.mp H
            obtain ⟨t332, A200, H⟩ := H
            replace H : (if t332 = true then (guard_Bound.l1 k2 x3_2 l0_6 (l0_6.length : Int) x11_1 t328 (t328.length : Int) (wrap64 (x21_2 + 1))) else (if x3_2.length < 8796093022208 then (guard_Bound.l1 k2 (x3_2 ++ [rdOf ByteArray.empty t328 x21_2]) l0_6 (l0_6.length : Int) x11_1 t328 (t328.length : Int) (wrap64 (x21_2 + 1))) else (none))) = some r := H
            have A20 := Aside0.mk A200
            clear A200
            by_cases c21 : t332 = true
            ·
             subst c21
             have H1 : (guard_Bound.l1 k2 x3_2 l0_6 (l0_6.length : Int) x11_1 t328 (t328.length : Int) (wrap64 (x21_2 + 1))) = some r := by rw [if_pos rfl] at H; exact H
             clear H
             have H := H1
             clear H1
             have H' := Aside0.mk H
             clear H
             have p331 : 0 ≤ (x21_2 : Int) := of_decide_eq_true (by first | (with_reducible assumption) | assumption)
             have q331 : x21_2 < (t328.length : Int) := of_decide_eq_true (by first | (with_reducible assumption) | assumption)
             obtain ⟨ad331, e331, hx331_0⟩ := Kd.at_string (Kd.R_reads' HO_19.out).2.2 x21_2 p331 q331
             cases e331
             replace p331 := eq_true p331
             replace q331 := eq_true q331
             obtain ⟨Ao22, co22, eo22⟩ := Kd.R_slice HO_3.out
             subst eo22
             go_wp2_with (first | ((with_reducible refine gate_callee (f := 28) rfl ?_); refine goesL_ (some 27) rfl rfl Try.func28 (by kernel_rfl) rfl #[.slice Ao22 x3_2.length co22, .string (rdOf ByteArray.empty t328 x21_2)] rfl (by (try simp only [List.map_toArray, List.map_cons, List.map_nil]); first | done | rfl | (simp only [List.length_drop, List.length_take]; rfl)) ?_; (with_reducible refine (slices_Contains_string_string.calls k2 _ _ x3_2 (rdOf ByteArray.empty t328 x21_2) true _ ?side1 ?side2 A20.out).mono ?_); (case side1 => repeat (first | exact (Kd.R_reads' HO_3.out).2.2 | (with_reducible refine Kd.C_alloc ?_ _) | (with_reducible refine Kd.C_drewN ?_ _) | (with_reducible refine Kd.C_drew ?_))); (case side2 => exact (Kd.R_reads' HO_3.out).2.1); rintro e w' ⟨rfl, ⟨nd, rfl⟩⟩; refine ⟨_, rfl, ?_⟩))
             go_roundg k2
             case measure => have := HK1.out; have := HK2.out; omega
             case rel => exact ⟨(x3_2), (wrap64 (x21_2 + 1)), rfl, H', ⟨by have := HK1.out; have := HK2.out; omega⟩, ⟨by (with_reducible repeat (first | apply Kd.R_alloc | apply Kd.R_drewN | apply Kd.R_drew)); exact HO_3.out⟩, ⟨by (with_reducible repeat (first | apply Kd.R_alloc | apply Kd.R_drewN | apply Kd.R_drew)); exact HO_19.out⟩, ⟨by (with_reducible repeat (first | refine blk_drewN ?_ _ | refine blk_drew ?_ | refine blk_alloc ?_ _)); exact BK324.out⟩, ⟨by (with_reducible repeat (first | refine blk_drewN ?_ _ | refine blk_drew ?_ | refine blk_alloc ?_ _)); exact BK326.out⟩, ⟨by repeat (first | (with_reducible first | exact HB.out | apply below_alloc | apply pw_below_drewN | apply below_drew1 | refine below_set ?_ GE324.out | refine below_set ?_ GE326.out) | exact HB.out)⟩⟩
            ·
             replace c21 := Bool.eq_false_iff.mpr c21
             subst c21
             have H1 : (if x3_2.length < 8796093022208 then (guard_Bound.l1 k2 (x3_2 ++ [rdOf ByteArray.empty t328 x21_2]) l0_6 (l0_6.length : Int) x11_1 t328 (t328.length : Int) (wrap64 (x21_2 + 1))) else (none)) = some r := by rw [if_neg (show ¬ (false = true) by decide)] at H; exact H
             clear H
             have H := H1
             clear H1
             by_cases c23 : x3_2.length < 8796093022208
             ·
              rw [if_pos c23] at H
              have LMc23 := Aside0.mk c23
              clear c23
              obtain ⟨y333, hy333⟩ : ∃ y_ : List ByteArray, y_ = (x3_2 ++ [rdOf ByteArray.empty t328 x21_2]) := ⟨_, rfl⟩
              replace H : (guard_Bound.l1 k2 y333 l0_6 (l0_6.length : Int) x11_1 t328 (t328.length : Int) (wrap64 (x21_2 + 1))) = some r := by first | (rw [hy333]; with_reducible exact H) | (have H2_ := (Option.bind_some _ _).symm.trans H; rw [hy333]; with_reducible exact H2_) | (have H2_ := (Option.bind_some _ _).symm.trans H; with_reducible exact H2_) | with_reducible exact H | (rw [hy333]; exact H) | exact H
              have Ny333 := Aside0.mk hy333
              clear hy333
              have H' := Aside0.mk H
              clear H
              have p331 : 0 ≤ (x21_2 : Int) := of_decide_eq_true (by first | (with_reducible assumption) | assumption)
              have q331 : x21_2 < (t328.length : Int) := of_decide_eq_true (by first | (with_reducible assumption) | assumption)
              obtain ⟨ad331, e331, hx331_0⟩ := Kd.at_string (Kd.R_reads' HO_19.out).2.2 x21_2 p331 q331
              cases e331
              replace p331 := eq_true p331
              replace q331 := eq_true q331
              obtain ⟨Ao24, co24, eo24⟩ := Kd.R_slice HO_3.out
              subst eo24
              go_wp2_with (first | ((with_reducible refine gate_callee (f := 28) rfl ?_); refine goesL_ (some 27) rfl rfl Try.func28 (by kernel_rfl) rfl #[.slice Ao24 x3_2.length co24, .string (rdOf ByteArray.empty t328 x21_2)] rfl (by (try simp only [List.map_toArray, List.map_cons, List.map_nil]); first | done | rfl | (simp only [List.length_drop, List.length_take]; rfl)) ?_; (with_reducible refine (slices_Contains_string_string.calls k2 _ _ x3_2 (rdOf ByteArray.empty t328 x21_2) false _ ?side1 ?side2 A20.out).mono ?_); (case side1 => repeat (first | exact (Kd.R_reads' HO_3.out).2.2 | (with_reducible refine Kd.C_alloc ?_ _) | (with_reducible refine Kd.C_drewN ?_ _) | (with_reducible refine Kd.C_drew ?_))); (case side2 => exact (Kd.R_reads' HO_3.out).2.1); rintro e w' ⟨rfl, ⟨nd, rfl⟩⟩; refine ⟨_, rfl, ?_⟩) | ((with_reducible refine gate_builtin (b := .append) (xs := #[.tmp 29, .tmp 31]) rfl ?_); at_builtin; refine Kd.R_append Kd.string (w0 := w) w.heap.size rfl (.tmp 29) (.tmp 31) 22 9 (.string ⟨#[]⟩) 16 rfl Try.underlying22 info9 rfl (by decide) (by omega) (.slice Ao24 x3_2.length co24) x3_2 (rdOf ByteArray.empty t328 x21_2) [.string (rdOf ByteArray.empty t328 x21_2)] (fun k_ => some k_ ≠ (.slice (some ad331) t328.length co16 : Value).ownBlock) (fun _ => False) rfl rfl ?aP (fun _ hk => hk.elim) ?aF ?aO ?aB ?aS ?aL ?_; (case aP => exact rfl); (case aB => exact (by repeat (first | (with_reducible first | exact HB.out | apply below_alloc | apply pw_below_drewN | apply below_drew1 | refine below_set ?_ GE324.out | refine below_set ?_ GE326.out) | exact HB.out))); (case aF => exact (fun k_ hk => Kd.fresh' (Kd.R_lt (by (with_reducible repeat (first | apply Kd.R_alloc | apply Kd.R_drewN | apply Kd.R_drew)); exact HO_19.out)) k_ hk)); (case aO => exact (by (with_reducible repeat (first | apply Kd.R_alloc | apply Kd.R_drewN | apply Kd.R_drew)); exact HO_3.out)); (case aS => exact (below_size (by repeat (first | (with_reducible first | exact HB.out | apply below_alloc | apply pw_below_drewN | apply below_drew1 | refine below_set ?_ GE324.out | refine below_set ?_ GE326.out) | exact HB.out)))); (case aL => have := LMc23.out; omega); intro v334 w25 ho hb hg hat; rw [← Ny333.out] at ho; have n0_ := Aside0.mk (Kd.R_after (ok := (fun _ => True)) (by (with_reducible repeat (first | apply Kd.R_alloc | apply Kd.R_drewN | apply Kd.R_drew)); exact Kd.R_mono HO_19.out (fun _ hk => ⟨trivial, hk⟩)) hg hat); have n1_ := Aside0.mk (blk_grown (g := gb324) (o := .cells #[.int .i64 a0_0, .string a0_1, .slice A0_2 l0_2.length c0_2, .int .i64 a0_3, .string a0_4, .int .i64 a0_5, .slice (some ad325) l0_6.length c0_6] 25 (0, 0)) (by (with_reducible repeat (first | refine blk_drewN ?_ _ | refine blk_drew ?_ | refine blk_alloc ?_ _)); exact BK324.out) hg (Kd.R_ne HO_3.out BK324.out (by decide))); have n2_ := Aside0.mk (blk_grown (g := gb326) (o := .cells #[.bool ((rd_T41 l0_6 x11_1).f0), .string ((rd_T41 l0_6 x11_1).f1), .slice A325_2 ((rd_T41 l0_6 x11_1).f2).length c325_2, .int .i64 ((rd_T41 l0_6 x11_1).f3)] 41 (0, 0)) (by (with_reducible repeat (first | refine blk_drewN ?_ _ | refine blk_drew ?_ | refine blk_alloc ?_ _)); exact BK326.out) hg (Kd.R_ne HO_3.out BK326.out (by decide))); have n3_ := Aside0.mk (hb); have n4_ := Aside0.mk (ho); clear HO_19 BK324 BK326 HB HO_3; have HO_19 := n0_; have BK324 := n1_; have BK326 := n2_; have HB := n3_; have HO335 := n4_; clear n0_ n1_ n2_ n3_ n4_ ho hb hg hat))
              go_roundg k2
              case measure => have := HK1.out; have := HK2.out; omega
              case rel => exact ⟨(y333), (wrap64 (x21_2 + 1)), rfl, H', ⟨by have := HK1.out; have := HK2.out; omega⟩, ⟨by exact HO335.out⟩, ⟨by exact Kd.R_mono HO_19.out (fun _ hk => hk.2)⟩, ⟨by exact BK324.out⟩, ⟨by exact BK326.out⟩, ⟨by with_reducible exact HB.out⟩⟩
             ·
              rw [if_neg c23] at H
              exact absurd H (by simp)
           ·
            rw [if_neg c19] at H
            exact absurd H (by simp)
          ·
           rw [if_neg c18] at H
           exact absurd H (by simp)
         ·
          rw [if_neg c17] at H
          have c17b0 : decide (x21_2 < (t328.length : Int)) = false := decide_eq_false c17
          clear c17
          have H' := Aside0.mk H
          clear H
          go_wp2
          go_roundg k2
          case measure => have := HK1.out; have := HK2.out; omega
          case rel => exact ⟨(x3_2), (wrap64 (x11_1 + 1)), rfl, H', ⟨by have := HK1.out; have := HK2.out; omega⟩, ⟨by exact Kd.R_mono HO_3.out (fun _ hk => trivial)⟩, ⟨by exact BK324.out⟩, ⟨by with_reducible exact HB.out⟩⟩
      ·
       replace c8 := Bool.eq_false_iff.mpr c8
       subst c8
       have H1 : (guard_Bound.l0 k1 x3_1 l0_6 (l0_6.length : Int) (wrap64 (x11_1 + 1))) = some r := by rw [if_neg (show ¬ (false = true) by decide)] at H; exact H
       clear H
       have H := H1
       clear H1
       have H' := Aside0.mk H
       clear H
       have p325 : 0 ≤ (x11_1 : Int) := of_decide_eq_true (by first | (with_reducible assumption) | assumption)
       have q325 : x11_1 < (l0_6.length : Int) := of_decide_eq_true (by first | (with_reducible assumption) | assumption)
       obtain ⟨ad325, A325_2, c325_2, e325, hx325_0, hx325_1, hx325_2, hx325_3, hl325_2, hi325_2⟩ := at_T41 HR0_6.out x11_1 p325 q325
       cases e325
       replace hx325_0 := (HB.out.cell (World.block_lt_of_cell? w _ hx325_0)).trans hx325_0
       replace hx325_1 := (HB.out.cell (World.block_lt_of_cell? w _ hx325_1)).trans hx325_1
       replace hx325_2 := (HB.out.cell (World.block_lt_of_cell? w _ hx325_2)).trans hx325_2
       replace hx325_3 := (HB.out.cell (World.block_lt_of_cell? w _ hx325_3)).trans hx325_3
       have HR325_2 := Aside0.mk hi325_2
       have HC325_2 := Aside0.mk hl325_2
       clear hi325_2 hl325_2
       replace p325 := eq_true p325
       replace q325 := eq_true q325
       go_wp2_with (first | ((with_reducible refine gate_dst (N := 5) rfl ?_); refine box_event ?hg (N := 5) ?hd (cs := #[.bool false, .string (⟨#[]⟩ : ByteArray), .slice none 0 0, .int .i64 0]) (t := 41) ?hr ?_; (case hd => rfl); (case hg => rfl); (case hr => first | (go_simp; done) | (go_simp; rfl)); intro gb326 hg w26 hbox hb; have n0_ := Aside0.mk (Kd.R_below (by exact HO_3.out) hb); have n1_ := Aside0.mk (blk_below (g := gb324) (o := .cells #[.int .i64 a0_0, .string a0_1, .slice A0_2 l0_2.length c0_2, .int .i64 a0_3, .string a0_4, .int .i64 a0_5, .slice (some ad325) l0_6.length c0_6] 25 (0, 0)) (by exact BK324.out) hb); have n2_ := Aside0.mk (below_step (by with_reducible exact HB.out) hb); have n3_ := Aside0.mk (hbox); have n4_ := Aside0.mk ((by rw [hg]; exact (below_size (by with_reducible exact HB.out)) : w.heap.size ≤ gb326)); have n5_ := Aside0.mk ((by rw [hg]; exact (below_size (by with_reducible exact HB.out)) : w.heap.size ≤ gb326)); have n6_ := Aside0.mk ((by rw [hg]; exact Nat.ne_of_lt (blk_lt (g := gb324) (o := .cells #[.int .i64 a0_0, .string a0_1, .slice A0_2 l0_2.length c0_2, .int .i64 a0_3, .string a0_4, .int .i64 a0_5, .slice (some ad325) l0_6.length c0_6] 25 (0, 0)) (by exact BK324.out)) : gb324 ≠ gb326)); have n7_ := Aside0.mk ((by rw [hg]; exact Nat.ne_of_gt (blk_lt (g := gb324) (o := .cells #[.int .i64 a0_0, .string a0_1, .slice A0_2 l0_2.length c0_2, .int .i64 a0_3, .string a0_4, .int .i64 a0_5, .slice (some ad325) l0_6.length c0_6] 25 (0, 0)) (by exact BK324.out)) : gb326 ≠ gb324)); clear HO_3 BK324 HB; have HO_3 := n0_; have BK324 := n1_; have HB := n2_; have BK326 := n3_; have GW326 := n4_; have GE326 := n5_; have NB324_326 := n6_; have NB326_324 := n7_; clear n0_ n1_ n2_ n3_ n4_ n5_ n6_ n7_ hb hbox hg; have hnb27 := NB326_324.out; have hnc27 := NB324_326.out; have hcz28_0 : w26.cell? ⟨gb326, 0, none⟩ = some (.bool false) := (blk_cell BK326.out 0).trans rfl; have hcz28_1 : w26.cell? ⟨gb326, 1, none⟩ = some (.string (⟨#[]⟩ : ByteArray)) := (blk_cell BK326.out 1).trans rfl; have hcz28_2 : w26.cell? ⟨gb326, 2, none⟩ = some (.slice none 0 0) := (blk_cell BK326.out 2).trans rfl; have hcz28_3 : w26.cell? ⟨gb326, 3, none⟩ = some (.int .i64 0) := (blk_cell BK326.out 3).trans rfl; have hfz28_0 := blk_frozen BK326.out 0; have hfz28_1 := blk_frozen BK326.out 1; have hfz28_2 := blk_frozen BK326.out 2; have hfz28_3 := blk_frozen BK326.out 3) | ((with_reducible refine gate_callee (f := 29) rfl ?_); refine goesL_ (some 16) rfl rfl Try.func29 (by kernel_rfl) rfl #[.agg #[.bool ((rd_T41 l0_6 x11_1).f0), .string ((rd_T41 l0_6 x11_1).f1), .slice A325_2 ((rd_T41 l0_6 x11_1).f2).length c325_2, .int .i64 ((rd_T41 l0_6 x11_1).f3)]] rfl (by (try simp only [List.map_toArray, List.map_cons, List.map_nil]); first | done | rfl | (simp only [List.length_drop, List.length_take]; rfl)) ?_; (with_reducible refine (guard_binds.calls ((rd_T41 l0_6 x11_1).f0) ((rd_T41 l0_6 x11_1).f1) _ _ ((rd_T41 l0_6 x11_1).f2) ((rd_T41 l0_6 x11_1).f3) false _ ?side1 ?side2 A7.out).mono ?_); (case side1 => exact Kd.C_below HR325_2.out (by repeat (first | (with_reducible first | exact HB.out | apply below_alloc | apply pw_below_drewN | apply below_drew1 | refine below_set ?_ GE324.out | refine below_set ?_ GE326.out) | exact HB.out))); (case side2 => exact HC325_2.out); rintro e w29 ⟨rfl, hb⟩; refine ⟨_, rfl, ?_⟩; have n0_ := Aside0.mk (Kd.R_below (by exact (Kd.R_mono (Kd.R_far (p := ⟨gb326, 3, none⟩) (Kd.R_far (p := ⟨gb326, 2, none⟩) (Kd.R_far (p := ⟨gb326, 1, none⟩) (Kd.R_far (p := ⟨gb326, 0, none⟩) (Kd.R_types HO_3.out BK326.out (by decide)) (fun _ hk => hk.2) (.bool ((rd_T41 l0_6 x11_1).f0))) (fun _ hk => hk.2) (.string ((rd_T41 l0_6 x11_1).f1))) (fun _ hk => hk.2) (.slice A325_2 ((rd_T41 l0_6 x11_1).f2).length c325_2)) (fun _ hk => hk.2) (.int .i64 ((rd_T41 l0_6 x11_1).f3))) (fun _ h_ => h_.1))) hb); have n1_ := Aside0.mk (blk_below (g := gb324) (o := .cells #[.int .i64 a0_0, .string a0_1, .slice A0_2 l0_2.length c0_2, .int .i64 a0_3, .string a0_4, .int .i64 a0_5, .slice (some ad325) l0_6.length c0_6] 25 (0, 0)) (by refine blk_far ?_ NB324_326.out _; refine blk_far ?_ NB324_326.out _; refine blk_far ?_ NB324_326.out _; refine blk_far ?_ NB324_326.out _; exact BK324.out) hb); have n2_ := Aside0.mk (blk_below (g := gb326) (o := .cells #[.bool ((rd_T41 l0_6 x11_1).f0), .string ((rd_T41 l0_6 x11_1).f1), .slice A325_2 ((rd_T41 l0_6 x11_1).f2).length c325_2, .int .i64 ((rd_T41 l0_6 x11_1).f3)] 41 (0, 0)) (by refine blk_put (cs := #[.bool ((rd_T41 l0_6 x11_1).f0), .string ((rd_T41 l0_6 x11_1).f1), .slice A325_2 ((rd_T41 l0_6 x11_1).f2).length c325_2, .int .i64 0]) ?_ 3 _ rfl; refine blk_put (cs := #[.bool ((rd_T41 l0_6 x11_1).f0), .string ((rd_T41 l0_6 x11_1).f1), .slice none 0 0, .int .i64 0]) ?_ 2 _ rfl; refine blk_put (cs := #[.bool ((rd_T41 l0_6 x11_1).f0), .string (⟨#[]⟩ : ByteArray), .slice none 0 0, .int .i64 0]) ?_ 1 _ rfl; refine blk_put (cs := #[.bool false, .string (⟨#[]⟩ : ByteArray), .slice none 0 0, .int .i64 0]) ?_ 0 _ rfl; exact BK326.out) hb); have n3_ := Aside0.mk (below_step (by repeat (first | (with_reducible first | exact HB.out | apply below_alloc | apply pw_below_drewN | apply below_drew1 | refine below_set ?_ GE324.out | refine below_set ?_ GE326.out) | exact HB.out)) hb); clear HO_3 BK324 BK326 HB; have HO_3 := n0_; have BK324 := n1_; have BK326 := n2_; have HB := n3_; clear n0_ n1_ n2_ n3_ hb))
       go_roundg k1
       case measure => have := HK1.out; omega
       case rel => exact ⟨(x3_1), (wrap64 (x11_1 + 1)), rfl, H', ⟨by have := HK1.out; omega⟩, ⟨by exact HO_3.out⟩, ⟨by exact BK324.out⟩, ⟨by with_reducible exact HB.out⟩⟩
     ·
      rw [if_neg c6] at H
      exact absurd H (by simp)
    ·
     rw [if_neg c5] at H
     exact absurd H (by simp)
   ·
    rw [if_neg c4] at H
    have c4b0 : decide (x11_1 < (l0_6.length : Int)) = false := decide_eq_false c4
    clear c4
    obtain rfl := Option.some.inj H
    go_wp2
    go_ret
    exact ⟨_, rfl, by exact HO_3.out, by with_reducible exact HB.out⟩
/-! ### slices_Clone_string_string: function 52 -/
/-- a row's copy -/
def slices_Clone_string_string.f (l0 : List (ByteArray)) : Option (List (ByteArray)) := if l0.length * 16 ≤ 140737488355328 then some l0 else none
set_option maxHeartbeats 4000000 in
set_option maxRecDepth 100000 in
theorem slices_Clone_string_string.calls (A0 : Option Addr) (c0 : Nat) (l0 : List (ByteArray)) (r : List (ByteArray)) (w : World) (hr0 : Kd.C Kd.string w A0 l0.length l0) (hc0 : l0.length ≤ c0) (h : slices_Clone_string_string.f l0 = some r) :
  Calls Try.prog 52 #[.slice A0 l0.length c0] w fun e w' => ∃ v0_ : Value, e = .returned v0_ ∧ Kd.R Kd.string 9 w' w.heap.size (fun _ => True) v0_ r ∧ Below w.heap.size w w' := by
 unfold slices_Clone_string_string.f at h
 split at h
 case isFalse => cases h
 rename_i hsz
 injection h with h
 subst h
 have q : ∀ (w : World) (a : Option Addr) (n c n' c' : Nat), (binOp .eql 22 (.slice a n c) (.slice none n' c')).run Try.prog w = .ok (.bool a.isNone) w := fun w a n c n' c' => Lib.run_eql_slice_nil w _ _ a n c n' c' Try.underlying22
 cases A0 with
 | none =>
  have hl : l0 = [] := by
   cases l0 with
   | nil => rfl
   | cons x l => obtain ⟨a, e, _⟩ := hr0.2.2 (by simp); cases e
  subst hl
  go_enter Try.func52, Try.ntmps52
  go_wp2
  go_ret
  exact ⟨_, rfl, Kd.R_nil _ _ _ _ _, Below.refl _ _⟩
 | some ad =>
  go_enter Try.func52, Try.ntmps52
  go_wp2_with (first | ((with_reducible refine gate_builtin (b := .append) (xs := #[.tmp 5, .tmp 6]) rfl ?_); at_builtin; refine Kd.R_append_rows Kd.string (w0 := w) w.heap.size rfl (.tmp 5) (.tmp 6) 22 9 (.string ⟨#[]⟩) 16 rfl Try.underlying22 (by kernel_rfl) rfl (by decide) (by omega) _ [] l0 _ _ _ (fun _ => True) (fun _ => False) rfl rfl ?aO ?aR (fun _ _ h => h) (fun _ h => h.elim) ?aF ?aB ?aS ?aL ?_; (case aF => exact fun _ _ => trivial); (case aO => exact ⟨fun _ _ => trivial, OwnRow.lit w w.heap.size (inner := []) (Reps.none _ _) (Nat.le_refl _) (by simp)⟩); (case aR => exact Kd.C_alloc hr0 _); (case aB => exact below_alloc (Below.refl _ _) _); (case aS => simp); (case aL => simp; omega); intro v1 w1 ho hb hg hat))
  go_ret
  exact ⟨_, rfl, by simpa using ho, hb⟩
/-! ### guard_told: function 27 -/
def guard_told.f (a0_0 : Int) (a0_1 : ByteArray) (l0_2 : List ByteArray) (a0_3 : Int) (a0_4 : ByteArray) (a0_5 : Int) (l0_6 : List (S41)) : Option (List ByteArray) := (slices_Clone_string_string.f l0_2).bind fun t337 => (if a0_3 ≥ 2 then (if a0_3 ≤ 4 then (if t337.length < 8796093022208 then (some (t337 ++ [a0_4])) else (none)) else (some t337)) else (some t337))
set_option maxHeartbeats 8000000 in
set_option maxRecDepth 100000 in
theorem guard_told.calls (a0_0 : Int) (a0_1 : ByteArray) (A0_2 : Option Addr) (c0_2 : Nat) (l0_2 : List ByteArray) (a0_3 : Int) (a0_4 : ByteArray) (a0_5 : Int) (A0_6 : Option Addr) (c0_6 : Nat) (l0_6 : List (S41)) (r : List ByteArray) (w : World) (hr0_2 : Kd.C Kd.string w A0_2 l0_2.length l0_2) (hc0_2 : l0_2.length ≤ c0_2) (hr0_6 : Kd.C k41 w A0_6 l0_6.length l0_6) (hc0_6 : l0_6.length ≤ c0_6) (h : guard_told.f a0_0 a0_1 l0_2 a0_3 a0_4 a0_5 l0_6 = some r) :
  Calls Try.prog 27 #[.agg #[.int .i64 a0_0, .string a0_1, .slice A0_2 l0_2.length c0_2, .int .i64 a0_3, .string a0_4, .int .i64 a0_5, .slice A0_6 l0_6.length c0_6]] w fun e w' => ∃ v0_ : Value, e = .returned (v0_) ∧ Kd.R Kd.string 9 w' w.heap.size (fun _ => True) v0_ r ∧ Below w.heap.size w w' := by
 have hu25 := Try.underlying25
 have HR0_2 := Aside0.mk hr0_2
 have HC0_2 := Aside0.mk hc0_2
 clear hr0_2 hc0_2
 have HR0_6 := Aside0.mk hr0_6
 have HC0_6 := Aside0.mk hc0_6
 clear hr0_6 hc0_6
 have HB := Aside0.mk (Below.refl w.heap.size w)
 have H : ((slices_Clone_string_string.f l0_2).bind fun t337 => (if a0_3 ≥ 2 then (if a0_3 ≤ 4 then (if t337.length < 8796093022208 then (some (t337 ++ [a0_4])) else (none)) else (some t337)) else (some t337))) = some r := h
 clear h
 replace H := Option.bind_eq_some_iff.mp H
 obtain ⟨t337, A20, H⟩ := H
 replace H : (if a0_3 ≥ 2 then (if a0_3 ≤ 4 then (if t337.length < 8796093022208 then (some (t337 ++ [a0_4])) else (none)) else (some t337)) else (some t337)) = some r := H
 have A2 := Aside0.mk A20
 clear A20
 by_cases c3 : a0_3 ≥ 2
 ·
  rw [if_pos c3] at H
  have c3b0 : decide (2 ≤ a0_3) = true := decide_eq_true c3
  clear c3
  by_cases c4 : a0_3 ≤ 4
  ·
   rw [if_pos c4] at H
   have c4b0 : decide (a0_3 ≤ 4) = true := decide_eq_true c4
   clear c4
   by_cases c5 : t337.length < 8796093022208
   ·
    rw [if_pos c5] at H
    have LMc5 := Aside0.mk c5
    clear c5
    obtain ⟨y340, hy340⟩ : ∃ y_ : List ByteArray, y_ = (t337 ++ [a0_4]) := ⟨_, rfl⟩
    replace H : (some y340) = some r := by first | (rw [hy340]; with_reducible exact H) | (have H2_ := (Option.bind_some _ _).symm.trans H; rw [hy340]; with_reducible exact H2_) | (have H2_ := (Option.bind_some _ _).symm.trans H; with_reducible exact H2_) | with_reducible exact H | (rw [hy340]; exact H) | exact H
    have Ny340 := Aside0.mk hy340
    clear hy340
    obtain rfl := Option.some.inj H
    go_enter Try.func27, Try.ntmps27
    go_wp2_with (first | ((with_reducible refine gate_dst (N := 1) rfl ?_); refine box_event ?hg (N := 1) ?hd (cs := #[.int .i64 a0_0, .string a0_1, .slice A0_2 l0_2.length c0_2, .int .i64 a0_3, .string a0_4, .int .i64 a0_5, .slice A0_6 l0_6.length c0_6]) (t := 25) ?hr ?_; (case hd => rfl); (case hg => rfl); (case hr => first | (go_simp; done) | (go_simp; rfl)); intro gb336 hg w6 hbox hb; have n0_ := Aside0.mk (below_step (by with_reducible exact HB.out) hb); have n1_ := Aside0.mk (hbox); have n2_ := Aside0.mk ((by rw [hg]; exact (below_size (by with_reducible exact HB.out)) : w.heap.size ≤ gb336)); have n3_ := Aside0.mk ((by rw [hg]; exact (below_size (by with_reducible exact HB.out)) : w.heap.size ≤ gb336)); clear HB; have HB := n0_; have BK336 := n1_; have GW336 := n2_; have GE336 := n3_; clear n0_ n1_ n2_ n3_ hb hbox hg; have hcz7_0 : w6.cell? ⟨gb336, 0, none⟩ = some (.int .i64 a0_0) := (blk_cell BK336.out 0).trans rfl; have hcz7_1 : w6.cell? ⟨gb336, 1, none⟩ = some (.string a0_1) := (blk_cell BK336.out 1).trans rfl; have hcz7_2 : w6.cell? ⟨gb336, 2, none⟩ = some (.slice A0_2 l0_2.length c0_2) := (blk_cell BK336.out 2).trans rfl; have hcz7_3 : w6.cell? ⟨gb336, 3, none⟩ = some (.int .i64 a0_3) := (blk_cell BK336.out 3).trans rfl; have hcz7_4 : w6.cell? ⟨gb336, 4, none⟩ = some (.string a0_4) := (blk_cell BK336.out 4).trans rfl; have hcz7_5 : w6.cell? ⟨gb336, 5, none⟩ = some (.int .i64 a0_5) := (blk_cell BK336.out 5).trans rfl; have hcz7_6 : w6.cell? ⟨gb336, 6, none⟩ = some (.slice A0_6 l0_6.length c0_6) := (blk_cell BK336.out 6).trans rfl; have hfz7_0 := blk_frozen BK336.out 0; have hfz7_1 := blk_frozen BK336.out 1; have hfz7_2 := blk_frozen BK336.out 2; have hfz7_3 := blk_frozen BK336.out 3; have hfz7_4 := blk_frozen BK336.out 4; have hfz7_5 := blk_frozen BK336.out 5; have hfz7_6 := blk_frozen BK336.out 6) | ((with_reducible refine gate_callee (f := 52) rfl ?_); refine goesL_ (some 6) rfl rfl Try.func52 (by kernel_rfl) rfl #[.slice A0_2 l0_2.length c0_2] rfl (by (try simp only [List.map_toArray, List.map_cons, List.map_nil]); first | done | rfl | (simp only [List.length_drop, List.length_take]; rfl)) ?_; (with_reducible refine (slices_Clone_string_string.calls _ _ l0_2 t337 _ ?side1 ?side2 A2.out).mono ?_); (case side1 => exact (Kd.C_below HR0_2.out HB.out)); (case side2 => exact HC0_2.out); rintro e w8 ⟨v338, rfl, ho0, hb⟩; refine ⟨_, rfl, ?_⟩; have n0_ := Aside0.mk (Kd.R_lower ho0 (below_size (by with_reducible exact HB.out))); have n1_ := Aside0.mk (blk_below (g := gb336) (o := .cells #[.int .i64 a0_0, .string a0_1, .slice A0_2 l0_2.length c0_2, .int .i64 a0_3, .string a0_4, .int .i64 a0_5, .slice A0_6 l0_6.length c0_6] 25 (0, 0)) (by exact BK336.out) hb); have n2_ := Aside0.mk (below_step (by with_reducible exact HB.out) hb); clear BK336 HB; have HO339 := n0_; have BK336 := n1_; have HB := n2_; clear n0_ n1_ n2_ hb ho0; have hcz9_0 : w8.cell? ⟨gb336, 0, none⟩ = some (.int .i64 a0_0) := (blk_cell BK336.out 0).trans rfl; have hcz9_1 : w8.cell? ⟨gb336, 1, none⟩ = some (.string a0_1) := (blk_cell BK336.out 1).trans rfl; have hcz9_2 : w8.cell? ⟨gb336, 2, none⟩ = some (.slice A0_2 l0_2.length c0_2) := (blk_cell BK336.out 2).trans rfl; have hcz9_3 : w8.cell? ⟨gb336, 3, none⟩ = some (.int .i64 a0_3) := (blk_cell BK336.out 3).trans rfl; have hcz9_4 : w8.cell? ⟨gb336, 4, none⟩ = some (.string a0_4) := (blk_cell BK336.out 4).trans rfl; have hcz9_5 : w8.cell? ⟨gb336, 5, none⟩ = some (.int .i64 a0_5) := (blk_cell BK336.out 5).trans rfl; have hcz9_6 : w8.cell? ⟨gb336, 6, none⟩ = some (.slice A0_6 l0_6.length c0_6) := (blk_cell BK336.out 6).trans rfl; have hfz9_0 := blk_frozen BK336.out 0; have hfz9_1 := blk_frozen BK336.out 1; have hfz9_2 := blk_frozen BK336.out 2; have hfz9_3 := blk_frozen BK336.out 3; have hfz9_4 := blk_frozen BK336.out 4; have hfz9_5 := blk_frozen BK336.out 5; have hfz9_6 := blk_frozen BK336.out 6) | ((with_reducible refine gate_builtin (b := .append) (xs := #[.tmp 15, .tmp 18]) rfl ?_); at_builtin; refine Kd.R_append Kd.string (w0 := w) w.heap.size rfl (.tmp 15) (.tmp 18) 22 9 (.string ⟨#[]⟩) 16 rfl Try.underlying22 info9 rfl (by decide) (by omega) v338 t337 a0_4 [.string a0_4] (fun _ => True) (fun _ => False) rfl rfl ?aP (fun _ hk => hk.elim) ?aF ?aO ?aB ?aS ?aL ?_; (case aP => exact rfl); (case aB => exact (by with_reducible exact HB.out)); (case aF => exact (fun _ _ => trivial)); (case aO => exact (by exact HO339.out)); (case aS => exact (below_size (by with_reducible exact HB.out))); (case aL => have := LMc5.out; omega); intro v341 w10 ho hb hg hat; rw [← Ny340.out] at ho; have n0_ := Aside0.mk (blk_grown (g := gb336) (o := .cells #[.int .i64 a0_0, .string a0_1, .slice A0_2 l0_2.length c0_2, .int .i64 a0_3, .string a0_4, .int .i64 a0_5, .slice A0_6 l0_6.length c0_6] 25 (0, 0)) (by exact BK336.out) hg (Kd.R_ne HO339.out BK336.out (by decide))); have n1_ := Aside0.mk (hb); have n2_ := Aside0.mk (ho); clear BK336 HB HO339; have BK336 := n0_; have HB := n1_; have HO342 := n2_; clear n0_ n1_ n2_ ho hb hg hat))
    go_ret
    exact ⟨_, rfl, by exact HO342.out, by with_reducible exact HB.out⟩
   ·
    rw [if_neg c5] at H
    exact absurd H (by simp)
  ·
   rw [if_neg c4] at H
   have c4b0 : decide (a0_3 ≤ 4) = false := decide_eq_false c4
   clear c4
   obtain rfl := Option.some.inj H
   go_enter Try.func27, Try.ntmps27
   go_wp2_with (first | ((with_reducible refine gate_dst (N := 1) rfl ?_); refine box_event ?hg (N := 1) ?hd (cs := #[.int .i64 a0_0, .string a0_1, .slice A0_2 l0_2.length c0_2, .int .i64 a0_3, .string a0_4, .int .i64 a0_5, .slice A0_6 l0_6.length c0_6]) (t := 25) ?hr ?_; (case hd => rfl); (case hg => rfl); (case hr => first | (go_simp; done) | (go_simp; rfl)); intro gb336 hg w11 hbox hb; have n0_ := Aside0.mk (below_step (by with_reducible exact HB.out) hb); have n1_ := Aside0.mk (hbox); have n2_ := Aside0.mk ((by rw [hg]; exact (below_size (by with_reducible exact HB.out)) : w.heap.size ≤ gb336)); have n3_ := Aside0.mk ((by rw [hg]; exact (below_size (by with_reducible exact HB.out)) : w.heap.size ≤ gb336)); clear HB; have HB := n0_; have BK336 := n1_; have GW336 := n2_; have GE336 := n3_; clear n0_ n1_ n2_ n3_ hb hbox hg; have hcz12_0 : w11.cell? ⟨gb336, 0, none⟩ = some (.int .i64 a0_0) := (blk_cell BK336.out 0).trans rfl; have hcz12_1 : w11.cell? ⟨gb336, 1, none⟩ = some (.string a0_1) := (blk_cell BK336.out 1).trans rfl; have hcz12_2 : w11.cell? ⟨gb336, 2, none⟩ = some (.slice A0_2 l0_2.length c0_2) := (blk_cell BK336.out 2).trans rfl; have hcz12_3 : w11.cell? ⟨gb336, 3, none⟩ = some (.int .i64 a0_3) := (blk_cell BK336.out 3).trans rfl; have hcz12_4 : w11.cell? ⟨gb336, 4, none⟩ = some (.string a0_4) := (blk_cell BK336.out 4).trans rfl; have hcz12_5 : w11.cell? ⟨gb336, 5, none⟩ = some (.int .i64 a0_5) := (blk_cell BK336.out 5).trans rfl; have hcz12_6 : w11.cell? ⟨gb336, 6, none⟩ = some (.slice A0_6 l0_6.length c0_6) := (blk_cell BK336.out 6).trans rfl; have hfz12_0 := blk_frozen BK336.out 0; have hfz12_1 := blk_frozen BK336.out 1; have hfz12_2 := blk_frozen BK336.out 2; have hfz12_3 := blk_frozen BK336.out 3; have hfz12_4 := blk_frozen BK336.out 4; have hfz12_5 := blk_frozen BK336.out 5; have hfz12_6 := blk_frozen BK336.out 6) | ((with_reducible refine gate_callee (f := 52) rfl ?_); refine goesL_ (some 6) rfl rfl Try.func52 (by kernel_rfl) rfl #[.slice A0_2 l0_2.length c0_2] rfl (by (try simp only [List.map_toArray, List.map_cons, List.map_nil]); first | done | rfl | (simp only [List.length_drop, List.length_take]; rfl)) ?_; (with_reducible refine (slices_Clone_string_string.calls _ _ l0_2 t337 _ ?side1 ?side2 A2.out).mono ?_); (case side1 => exact (Kd.C_below HR0_2.out HB.out)); (case side2 => exact HC0_2.out); rintro e w13 ⟨v338, rfl, ho0, hb⟩; refine ⟨_, rfl, ?_⟩; have n0_ := Aside0.mk (Kd.R_lower ho0 (below_size (by with_reducible exact HB.out))); have n1_ := Aside0.mk (blk_below (g := gb336) (o := .cells #[.int .i64 a0_0, .string a0_1, .slice A0_2 l0_2.length c0_2, .int .i64 a0_3, .string a0_4, .int .i64 a0_5, .slice A0_6 l0_6.length c0_6] 25 (0, 0)) (by exact BK336.out) hb); have n2_ := Aside0.mk (below_step (by with_reducible exact HB.out) hb); clear BK336 HB; have HO339 := n0_; have BK336 := n1_; have HB := n2_; clear n0_ n1_ n2_ hb ho0; have hcz14_0 : w13.cell? ⟨gb336, 0, none⟩ = some (.int .i64 a0_0) := (blk_cell BK336.out 0).trans rfl; have hcz14_1 : w13.cell? ⟨gb336, 1, none⟩ = some (.string a0_1) := (blk_cell BK336.out 1).trans rfl; have hcz14_2 : w13.cell? ⟨gb336, 2, none⟩ = some (.slice A0_2 l0_2.length c0_2) := (blk_cell BK336.out 2).trans rfl; have hcz14_3 : w13.cell? ⟨gb336, 3, none⟩ = some (.int .i64 a0_3) := (blk_cell BK336.out 3).trans rfl; have hcz14_4 : w13.cell? ⟨gb336, 4, none⟩ = some (.string a0_4) := (blk_cell BK336.out 4).trans rfl; have hcz14_5 : w13.cell? ⟨gb336, 5, none⟩ = some (.int .i64 a0_5) := (blk_cell BK336.out 5).trans rfl; have hcz14_6 : w13.cell? ⟨gb336, 6, none⟩ = some (.slice A0_6 l0_6.length c0_6) := (blk_cell BK336.out 6).trans rfl; have hfz14_0 := blk_frozen BK336.out 0; have hfz14_1 := blk_frozen BK336.out 1; have hfz14_2 := blk_frozen BK336.out 2; have hfz14_3 := blk_frozen BK336.out 3; have hfz14_4 := blk_frozen BK336.out 4; have hfz14_5 := blk_frozen BK336.out 5; have hfz14_6 := blk_frozen BK336.out 6))
   go_ret
   exact ⟨_, rfl, by exact HO339.out, by with_reducible exact HB.out⟩
 ·
  rw [if_neg c3] at H
  have c3b0 : decide (2 ≤ a0_3) = false := decide_eq_false c3
  clear c3
  obtain rfl := Option.some.inj H
  go_enter Try.func27, Try.ntmps27
  go_wp2_with (first | ((with_reducible refine gate_dst (N := 1) rfl ?_); refine box_event ?hg (N := 1) ?hd (cs := #[.int .i64 a0_0, .string a0_1, .slice A0_2 l0_2.length c0_2, .int .i64 a0_3, .string a0_4, .int .i64 a0_5, .slice A0_6 l0_6.length c0_6]) (t := 25) ?hr ?_; (case hd => rfl); (case hg => rfl); (case hr => first | (go_simp; done) | (go_simp; rfl)); intro gb336 hg w15 hbox hb; have n0_ := Aside0.mk (below_step (by with_reducible exact HB.out) hb); have n1_ := Aside0.mk (hbox); have n2_ := Aside0.mk ((by rw [hg]; exact (below_size (by with_reducible exact HB.out)) : w.heap.size ≤ gb336)); have n3_ := Aside0.mk ((by rw [hg]; exact (below_size (by with_reducible exact HB.out)) : w.heap.size ≤ gb336)); clear HB; have HB := n0_; have BK336 := n1_; have GW336 := n2_; have GE336 := n3_; clear n0_ n1_ n2_ n3_ hb hbox hg; have hcz16_0 : w15.cell? ⟨gb336, 0, none⟩ = some (.int .i64 a0_0) := (blk_cell BK336.out 0).trans rfl; have hcz16_1 : w15.cell? ⟨gb336, 1, none⟩ = some (.string a0_1) := (blk_cell BK336.out 1).trans rfl; have hcz16_2 : w15.cell? ⟨gb336, 2, none⟩ = some (.slice A0_2 l0_2.length c0_2) := (blk_cell BK336.out 2).trans rfl; have hcz16_3 : w15.cell? ⟨gb336, 3, none⟩ = some (.int .i64 a0_3) := (blk_cell BK336.out 3).trans rfl; have hcz16_4 : w15.cell? ⟨gb336, 4, none⟩ = some (.string a0_4) := (blk_cell BK336.out 4).trans rfl; have hcz16_5 : w15.cell? ⟨gb336, 5, none⟩ = some (.int .i64 a0_5) := (blk_cell BK336.out 5).trans rfl; have hcz16_6 : w15.cell? ⟨gb336, 6, none⟩ = some (.slice A0_6 l0_6.length c0_6) := (blk_cell BK336.out 6).trans rfl; have hfz16_0 := blk_frozen BK336.out 0; have hfz16_1 := blk_frozen BK336.out 1; have hfz16_2 := blk_frozen BK336.out 2; have hfz16_3 := blk_frozen BK336.out 3; have hfz16_4 := blk_frozen BK336.out 4; have hfz16_5 := blk_frozen BK336.out 5; have hfz16_6 := blk_frozen BK336.out 6) | ((with_reducible refine gate_callee (f := 52) rfl ?_); refine goesL_ (some 6) rfl rfl Try.func52 (by kernel_rfl) rfl #[.slice A0_2 l0_2.length c0_2] rfl (by (try simp only [List.map_toArray, List.map_cons, List.map_nil]); first | done | rfl | (simp only [List.length_drop, List.length_take]; rfl)) ?_; (with_reducible refine (slices_Clone_string_string.calls _ _ l0_2 t337 _ ?side1 ?side2 A2.out).mono ?_); (case side1 => exact (Kd.C_below HR0_2.out HB.out)); (case side2 => exact HC0_2.out); rintro e w17 ⟨v338, rfl, ho0, hb⟩; refine ⟨_, rfl, ?_⟩; have n0_ := Aside0.mk (Kd.R_lower ho0 (below_size (by with_reducible exact HB.out))); have n1_ := Aside0.mk (blk_below (g := gb336) (o := .cells #[.int .i64 a0_0, .string a0_1, .slice A0_2 l0_2.length c0_2, .int .i64 a0_3, .string a0_4, .int .i64 a0_5, .slice A0_6 l0_6.length c0_6] 25 (0, 0)) (by exact BK336.out) hb); have n2_ := Aside0.mk (below_step (by with_reducible exact HB.out) hb); clear BK336 HB; have HO339 := n0_; have BK336 := n1_; have HB := n2_; clear n0_ n1_ n2_ hb ho0; have hcz18_0 : w17.cell? ⟨gb336, 0, none⟩ = some (.int .i64 a0_0) := (blk_cell BK336.out 0).trans rfl; have hcz18_1 : w17.cell? ⟨gb336, 1, none⟩ = some (.string a0_1) := (blk_cell BK336.out 1).trans rfl; have hcz18_2 : w17.cell? ⟨gb336, 2, none⟩ = some (.slice A0_2 l0_2.length c0_2) := (blk_cell BK336.out 2).trans rfl; have hcz18_3 : w17.cell? ⟨gb336, 3, none⟩ = some (.int .i64 a0_3) := (blk_cell BK336.out 3).trans rfl; have hcz18_4 : w17.cell? ⟨gb336, 4, none⟩ = some (.string a0_4) := (blk_cell BK336.out 4).trans rfl; have hcz18_5 : w17.cell? ⟨gb336, 5, none⟩ = some (.int .i64 a0_5) := (blk_cell BK336.out 5).trans rfl; have hcz18_6 : w17.cell? ⟨gb336, 6, none⟩ = some (.slice A0_6 l0_6.length c0_6) := (blk_cell BK336.out 6).trans rfl; have hfz18_0 := blk_frozen BK336.out 0; have hfz18_1 := blk_frozen BK336.out 1; have hfz18_2 := blk_frozen BK336.out 2; have hfz18_3 := blk_frozen BK336.out 3; have hfz18_4 := blk_frozen BK336.out 4; have hfz18_5 := blk_frozen BK336.out 5; have hfz18_6 := blk_frozen BK336.out 6))
  go_ret
  exact ⟨_, rfl, by exact HO339.out, by with_reducible exact HB.out⟩
end Go.Proofs.Ytikikmkfeeljgaa.G
