-- Written by a program for this claim (my own print over the kit's words).
import Derived.Test.YtikikmkfeeljgaaGx0
import Derived.Test.YtikikmkfeeljgaaGx13
import Derived.Test.YtikikmkfeeljgaaGx14
namespace Go.Proofs.Ytikikmkfeeljgaa.G
open Go.RowKit Go.Proofs.YtikikmkfeeljgaaW.PrintWords Go.Proofs.YtikikmkfeeljgaaW.PrintLast Go.Proofs.YtikikmkfeeljgaaW.PrintMore
attribute [local go_sem] max2_int min2_int max_two min_two max_three min_three max_four min_four   -- for this text's walks alone
set_option linter.unusedVariables false
set_option linter.unusedSimpArgs false
/-! ### guard_Free: function 10 -/
mutual
def guard_Free.l0 : Nat → List ByteArray → List ByteArray → Int → Int → Int → ByteArray → List ByteArray → Int → ByteArray → Int → List (S41) → Option (ByteArray × Int × Bool)
 | 0, _, _, _, _, _, _, _, _, _, _, _ => none
 | k + 1, x5, x18, x19, x20, x344000, x344001, x344002, x344003, x344004, x344005, x344006 => if x20 < x19 then (if 0 ≤ x20 then (if x20 < (x18.length : Int) then ((slices_Contains_string_string.f k x5 (rdOf ByteArray.empty x18 x20)).bind fun t351 => (if t351 = true then (guard_Free.l0 k x5 x18 x19 (wrap64 (x20 + 1)) x344000 x344001 x344002 x344003 x344004 x344005 x344006) else (some (rdOf ByteArray.empty x18 x20, (-1), true)))) else (none)) else (none)) else (guard_Free.l1 k x5 (⟨#[]⟩ : ByteArray) 0 false x344006 (x344006.length : Int) 0)
def guard_Free.l1 : Nat → List ByteArray → ByteArray → Int → Bool → List (S41) → Int → Int → Option (ByteArray × Int × Bool)
 | 0, _, _, _, _, _, _, _ => none
 | k + 1, x5, x8, x9, x10, x31, x32, x33 => if x33 < x32 then (if 0 ≤ x33 then (if x33 < (x31.length : Int) then ((guard_binds.f ((rd_T41 x31 x33).f0) ((rd_T41 x31 x33).f1) ((rd_T41 x31 x33).f2) ((rd_T41 x31 x33).f3)).bind fun t354 => (if t354 = true then (guard_Free.l1 k x5 x8 x9 x10 x31 x32 (wrap64 (x33 + 1))) else ((guard_vars.f k ((rd_T41 x31 x33).f0) ((rd_T41 x31 x33).f1) ((rd_T41 x31 x33).f2) ((rd_T41 x31 x33).f3)).bind fun t355 => (guard_Free.l2 k x5 x8 x9 x10 x33 x31 x32 x33 t355 (t355.length : Int) 0)))) else (none)) else (none)) else (some (x8, x9, x10))
def guard_Free.l2 : Nat → List ByteArray → ByteArray → Int → Bool → Int → List (S41) → Int → Int → List ByteArray → Int → Int → Option (ByteArray × Int × Bool)
 | 0, _, _, _, _, _, _, _, _, _, _, _ => none
 | k + 1, x5, x8, x9, x10, x11, x31, x32, x33, x41, x42, x43 => if x43 < x42 then (if 0 ≤ x43 then (if x43 < (x41.length : Int) then ((slices_Contains_string_string.f k x5 (rdOf ByteArray.empty x41 x43)).bind fun t359 => (if t359 = true then (guard_Free.l2 k x5 x8 x9 x10 x11 x31 x32 x33 x41 x42 (wrap64 (x43 + 1))) else (some (rdOf ByteArray.empty x41 x43, x11, true)))) else (none)) else (none)) else (guard_Free.l1 k x5 x8 x9 x10 x31 x32 (wrap64 (x33 + 1)))
end
def guard_Free.f (k : Nat) (a0_0 : Int) (a0_1 : ByteArray) (l0_2 : List ByteArray) (a0_3 : Int) (a0_4 : ByteArray) (a0_5 : Int) (l0_6 : List (S41)) : Option (ByteArray × Int × Bool) := (guard_Bound.f k a0_0 a0_1 l0_2 a0_3 a0_4 a0_5 l0_6).bind fun t344 => ((guard_told.f a0_0 a0_1 l0_2 a0_3 a0_4 a0_5 l0_6).bind fun t347 => (guard_Free.l0 k t344 t347 (t347.length : Int) 0 a0_0 a0_1 l0_2 a0_3 a0_4 a0_5 l0_6))
set_option maxHeartbeats 8000000 in
set_option maxRecDepth 100000 in
theorem guard_Free.calls (k : Nat) (a0_0 : Int) (a0_1 : ByteArray) (A0_2 : Option Addr) (c0_2 : Nat) (l0_2 : List ByteArray) (a0_3 : Int) (a0_4 : ByteArray) (a0_5 : Int) (A0_6 : Option Addr) (c0_6 : Nat) (l0_6 : List (S41)) (r1 : ByteArray) (r2 : Int) (r3 : Bool) (w : World) (hr0_2 : Kd.C Kd.string w A0_2 l0_2.length l0_2) (hc0_2 : l0_2.length ≤ c0_2) (hr0_6 : Kd.C k41 w A0_6 l0_6.length l0_6) (hc0_6 : l0_6.length ≤ c0_6) (h : guard_Free.f k a0_0 a0_1 l0_2 a0_3 a0_4 a0_5 l0_6 = some (r1, r2, r3)) :
  Calls Try.prog 10 #[.agg #[.int .i64 a0_0, .string a0_1, .slice A0_2 l0_2.length c0_2, .int .i64 a0_3, .string a0_4, .int .i64 a0_5, .slice A0_6 l0_6.length c0_6]] w fun e w' => e = .returned (.tuple #[.string r1, .int .i64 r2, .bool r3]) ∧ Below w.heap.size w w' := by
 have hu25 := Try.underlying25
 have hu41 := Try.underlying41
 have HR0_2 := Aside0.mk hr0_2
 have HC0_2 := Aside0.mk hc0_2
 clear hr0_2 hc0_2
 have HR0_6 := Aside0.mk hr0_6
 have HC0_6 := Aside0.mk hc0_6
 clear hr0_6 hc0_6
 have HB := Aside0.mk (Below.refl w.heap.size w)
 have H : ((guard_Bound.f k a0_0 a0_1 l0_2 a0_3 a0_4 a0_5 l0_6).bind fun t344 => ((guard_told.f a0_0 a0_1 l0_2 a0_3 a0_4 a0_5 l0_6).bind fun t347 => (guard_Free.l0 k t344 t347 (t347.length : Int) 0 a0_0 a0_1 l0_2 a0_3 a0_4 a0_5 l0_6))) = some (r1, r2, r3) := h
 clear h
 replace H := Option.bind_eq_some_iff.mp H
 obtain ⟨t344, A20, H⟩ := H
 replace H : ((guard_told.f a0_0 a0_1 l0_2 a0_3 a0_4 a0_5 l0_6).bind fun t347 => (guard_Free.l0 k t344 t347 (t347.length : Int) 0 a0_0 a0_1 l0_2 a0_3 a0_4 a0_5 l0_6)) = some (r1, r2, r3) := H
 have A2 := Aside0.mk A20
 clear A20
 replace H := Option.bind_eq_some_iff.mp H
 obtain ⟨t347, A30, H⟩ := H
 replace H : (guard_Free.l0 k t344 t347 (t347.length : Int) 0 a0_0 a0_1 l0_2 a0_3 a0_4 a0_5 l0_6) = some (r1, r2, r3) := H
 have A3 := Aside0.mk A30
 clear A30
 have H' := Aside0.mk H
 clear H
 go_enter Try.func10, Try.ntmps10
 go_wp2_with (first | (with_reducible refine wp_scope_straight ?_) | (with_reducible refine wp_label ?_) | ((with_reducible refine gate_dst (N := 1) rfl ?_); refine box_event ?hg (N := 1) ?hd (cs := #[.int .i64 a0_0, .string a0_1, .slice A0_2 l0_2.length c0_2, .int .i64 a0_3, .string a0_4, .int .i64 a0_5, .slice A0_6 l0_6.length c0_6]) (t := 25) ?hr ?_; (case hd => rfl); (case hg => rfl); (case hr => first | (go_simp; done) | (go_simp; rfl)); intro gb343 hg w4 hbox hb; have n0_ := Aside0.mk (below_step (by with_reducible exact HB.out) hb); have n1_ := Aside0.mk (hbox); have n2_ := Aside0.mk ((by rw [hg]; exact (below_size (by with_reducible exact HB.out)) : w.heap.size ≤ gb343)); have n3_ := Aside0.mk ((by rw [hg]; exact (below_size (by with_reducible exact HB.out)) : w.heap.size ≤ gb343)); clear HB; have HB := n0_; have BK343 := n1_; have GW343 := n2_; have GE343 := n3_; clear n0_ n1_ n2_ n3_ hb hbox hg; have hcz5_0 : w4.cell? ⟨gb343, 0, none⟩ = some (.int .i64 a0_0) := (blk_cell BK343.out 0).trans rfl; have hcz5_1 : w4.cell? ⟨gb343, 1, none⟩ = some (.string a0_1) := (blk_cell BK343.out 1).trans rfl; have hcz5_2 : w4.cell? ⟨gb343, 2, none⟩ = some (.slice A0_2 l0_2.length c0_2) := (blk_cell BK343.out 2).trans rfl; have hcz5_3 : w4.cell? ⟨gb343, 3, none⟩ = some (.int .i64 a0_3) := (blk_cell BK343.out 3).trans rfl; have hcz5_4 : w4.cell? ⟨gb343, 4, none⟩ = some (.string a0_4) := (blk_cell BK343.out 4).trans rfl; have hcz5_5 : w4.cell? ⟨gb343, 5, none⟩ = some (.int .i64 a0_5) := (blk_cell BK343.out 5).trans rfl; have hcz5_6 : w4.cell? ⟨gb343, 6, none⟩ = some (.slice A0_6 l0_6.length c0_6) := (blk_cell BK343.out 6).trans rfl; have hfz5_0 := blk_frozen BK343.out 0; have hfz5_1 := blk_frozen BK343.out 1; have hfz5_2 := blk_frozen BK343.out 2; have hfz5_3 := blk_frozen BK343.out 3; have hfz5_4 := blk_frozen BK343.out 4; have hfz5_5 := blk_frozen BK343.out 5; have hfz5_6 := blk_frozen BK343.out 6) | ((with_reducible refine gate_callee (f := 15) rfl ?_); refine goesL_ (some 16) rfl rfl Try.func15 (by kernel_rfl) rfl #[.agg #[.int .i64 a0_0, .string a0_1, .slice A0_2 l0_2.length c0_2, .int .i64 a0_3, .string a0_4, .int .i64 a0_5, .slice A0_6 l0_6.length c0_6]] rfl (by (try simp only [List.map_toArray, List.map_cons, List.map_nil]); first | done | rfl | (simp only [List.length_drop, List.length_take]; rfl)) ?_; (with_reducible refine (guard_Bound.calls k a0_0 a0_1 _ _ l0_2 a0_3 a0_4 a0_5 _ _ l0_6 t344 _ ?side1 ?side2 ?side3 ?side4 A2.out).mono ?_); (case side1 => exact (Kd.C_below HR0_2.out HB.out)); (case side2 => exact HC0_2.out); (case side3 => exact (Kd.C_below HR0_6.out HB.out)); (case side4 => exact HC0_6.out); rintro e w6 ⟨v345, rfl, ho0, hb⟩; refine ⟨_, rfl, ?_⟩; have n0_ := Aside0.mk (Kd.R_lower ho0 (below_size (by with_reducible exact HB.out))); have n1_ := Aside0.mk (blk_below (g := gb343) (o := .cells #[.int .i64 a0_0, .string a0_1, .slice A0_2 l0_2.length c0_2, .int .i64 a0_3, .string a0_4, .int .i64 a0_5, .slice A0_6 l0_6.length c0_6] 25 (0, 0)) (by exact BK343.out) hb); have n2_ := Aside0.mk (below_step (by with_reducible exact HB.out) hb); clear BK343 HB; have HO346 := n0_; have BK343 := n1_; have HB := n2_; clear n0_ n1_ n2_ hb ho0; have hcz7_0 : w6.cell? ⟨gb343, 0, none⟩ = some (.int .i64 a0_0) := (blk_cell BK343.out 0).trans rfl; have hcz7_1 : w6.cell? ⟨gb343, 1, none⟩ = some (.string a0_1) := (blk_cell BK343.out 1).trans rfl; have hcz7_2 : w6.cell? ⟨gb343, 2, none⟩ = some (.slice A0_2 l0_2.length c0_2) := (blk_cell BK343.out 2).trans rfl; have hcz7_3 : w6.cell? ⟨gb343, 3, none⟩ = some (.int .i64 a0_3) := (blk_cell BK343.out 3).trans rfl; have hcz7_4 : w6.cell? ⟨gb343, 4, none⟩ = some (.string a0_4) := (blk_cell BK343.out 4).trans rfl; have hcz7_5 : w6.cell? ⟨gb343, 5, none⟩ = some (.int .i64 a0_5) := (blk_cell BK343.out 5).trans rfl; have hcz7_6 : w6.cell? ⟨gb343, 6, none⟩ = some (.slice A0_6 l0_6.length c0_6) := (blk_cell BK343.out 6).trans rfl; have hfz7_0 := blk_frozen BK343.out 0; have hfz7_1 := blk_frozen BK343.out 1; have hfz7_2 := blk_frozen BK343.out 2; have hfz7_3 := blk_frozen BK343.out 3; have hfz7_4 := blk_frozen BK343.out 4; have hfz7_5 := blk_frozen BK343.out 5; have hfz7_6 := blk_frozen BK343.out 6) | ((with_reducible refine gate_callee (f := 27) rfl ?_); refine goesL_ (some 18) rfl rfl Try.func27 (by kernel_rfl) rfl #[.agg #[.int .i64 a0_0, .string a0_1, .slice A0_2 l0_2.length c0_2, .int .i64 a0_3, .string a0_4, .int .i64 a0_5, .slice A0_6 l0_6.length c0_6]] rfl (by (try simp only [List.map_toArray, List.map_cons, List.map_nil]); first | done | rfl | (simp only [List.length_drop, List.length_take]; rfl)) ?_; (with_reducible refine (guard_told.calls a0_0 a0_1 _ _ l0_2 a0_3 a0_4 a0_5 _ _ l0_6 t347 _ ?side1 ?side2 ?side3 ?side4 A3.out).mono ?_); (case side1 => exact (Kd.C_below HR0_2.out HB.out)); (case side2 => exact HC0_2.out); (case side3 => exact (Kd.C_below HR0_6.out HB.out)); (case side4 => exact HC0_6.out); rintro e w8 ⟨v348, rfl, ho0, hb⟩; refine ⟨_, rfl, ?_⟩; have n0_ := Aside0.mk (Kd.R_elder' (by exact HO346.out) (Kd.R_base ho0) hb); have n1_ := Aside0.mk (Kd.R_lower (Kd.R_new' ho0 (Kd.R_lt (by exact HO346.out))) (below_size (by with_reducible exact HB.out))); have n2_ := Aside0.mk (blk_below (g := gb343) (o := .cells #[.int .i64 a0_0, .string a0_1, .slice A0_2 l0_2.length c0_2, .int .i64 a0_3, .string a0_4, .int .i64 a0_5, .slice A0_6 l0_6.length c0_6] 25 (0, 0)) (by exact BK343.out) hb); have n3_ := Aside0.mk (below_step (by with_reducible exact HB.out) hb); clear HO346 BK343 HB; have HO346 := n0_; have HO349 := n1_; have BK343 := n2_; have HB := n3_; clear n0_ n1_ n2_ n3_ hb ho0; obtain ⟨Ao9, co9, eo9⟩ := Kd.R_slice HO349.out; subst eo9))
 go_loopg [20] k (fun kq v20 w' => ∃ (x20_1 : Int), v20 = .int .i64 x20_1 ∧ Aside0 (guard_Free.l0 kq t344 t347 (t347.length : Int) x20_1 a0_0 a0_1 l0_2 a0_3 a0_4 a0_5 l0_6 = some (r1, r2, r3)) ∧ Aside0 (kq ≤ k) ∧ Aside0 (Kd.R Kd.string 9 w' w.heap.size (fun k_ => some k_ ≠ ((.slice Ao9 t347.length co9) : Value).ownBlock) v345 t344) ∧ Aside0 (Kd.R Kd.string 9 w' w.heap.size (fun k_ => some k_ ≠ (v345 : Value).ownBlock) (.slice Ao9 t347.length co9) t347) ∧ Aside0 (w'.heap[gb343]? = some (.cells #[.int .i64 a0_0, .string a0_1, (.slice A0_2 l0_2.length c0_2), .int .i64 a0_3, .string a0_4, .int .i64 a0_5, (.slice A0_6 l0_6.length c0_6)] 25 (0, 0))) ∧ Aside0 (Below w.heap.size w w'))
 case atStart => exact ⟨(0), rfl, H', ⟨Nat.le_refl _⟩, ⟨by exact Kd.R_mono HO346.out (fun _ hk => hk.2)⟩, ⟨by exact Kd.R_mono HO349.out (fun _ hk => hk.2)⟩, ⟨by exact BK343.out⟩, ⟨by with_reducible exact HB.out⟩⟩
 case round =>
  clear H'
  clear hcz5_0 hcz5_1 hcz5_2 hcz5_3 hcz5_4 hcz5_5 hcz5_6 hcz7_0 hcz7_1 hcz7_2 hcz7_3 hcz7_4 hcz7_5 hcz7_6 hfz5_0 hfz5_1 hfz5_2 hfz5_3 hfz5_4 hfz5_5 hfz5_6 hfz7_0 hfz7_1 hfz7_2 hfz7_3 hfz7_4 hfz7_5 hfz7_6
  obtain ⟨x20_1, rfl, HA, HK1, HO_5, HO_18, BK343, HB⟩ := hrel
  cases gk with
  | zero => exact absurd HA.out (by simp [guard_Free.l0])
  | succ k1 =>
   have H := HA.out
   clear HA
   simp only [guard_Free.l0] at H
   by_cases c10 : x20_1 < (t347.length : Int)
   ·
    rw [if_pos c10] at H
    have c10b0 : decide (x20_1 < (t347.length : Int)) = true := decide_eq_true c10
    clear c10
    by_cases c11 : 0 ≤ x20_1
    ·
     rw [if_pos c11] at H
     have c11b0 : decide (0 ≤ x20_1) = true := decide_eq_true c11
     clear c11
     by_cases c12 : x20_1 < (t347.length : Int)
     ·
      rw [if_pos c12] at H
      have c12b0 : decide (x20_1 < (t347.length : Int)) = true := decide_eq_true c12
      clear c12
      replace H := Option.bind_eq_some_iff.mp H
      obtain ⟨t351, A130, H⟩ := H
      replace H : (if t351 = true then (guard_Free.l0 k1 t344 t347 (t347.length : Int) (wrap64 (x20_1 + 1)) a0_0 a0_1 l0_2 a0_3 a0_4 a0_5 l0_6) else (some (rdOf ByteArray.empty t347 x20_1, (-1), true))) = some (r1, r2, r3) := H
      have A13 := Aside0.mk A130
      clear A130
      by_cases c14 : t351 = true
      ·
       subst c14
       have H1 : (guard_Free.l0 k1 t344 t347 (t347.length : Int) (wrap64 (x20_1 + 1)) a0_0 a0_1 l0_2 a0_3 a0_4 a0_5 l0_6) = some (r1, r2, r3) := by rw [if_pos rfl] at H; exact H
       clear H
       have H := H1
       clear H1
       have H' := Aside0.mk H
       clear H
       have p350 : 0 ≤ (x20_1 : Int) := of_decide_eq_true (by first | (with_reducible assumption) | assumption)
       have q350 : x20_1 < (t347.length : Int) := of_decide_eq_true (by first | (with_reducible assumption) | assumption)
       obtain ⟨ad350, e350, hx350_0⟩ := Kd.at_string (Kd.R_reads' HO_18.out).2.2 x20_1 p350 q350
       cases e350
       replace p350 := eq_true p350
       replace q350 := eq_true q350
       obtain ⟨Ao15, co15, eo15⟩ := Kd.R_slice HO_5.out
       subst eo15
       go_wp2_with (first | (with_reducible refine wp_scope_straight ?_) | (with_reducible refine wp_label ?_) | ((with_reducible refine gate_callee (f := 28) rfl ?_); refine goesL_ (some 26) rfl rfl Try.func28 (by kernel_rfl) rfl #[.slice Ao15 t344.length co15, .string (rdOf ByteArray.empty t347 x20_1)] rfl (by (try simp only [List.map_toArray, List.map_cons, List.map_nil]); first | done | rfl | (simp only [List.length_drop, List.length_take]; rfl)) ?_; (with_reducible refine (slices_Contains_string_string.calls k1 _ _ t344 (rdOf ByteArray.empty t347 x20_1) true _ ?side1 ?side2 A13.out).mono ?_); (case side1 => repeat (first | exact (Kd.R_reads' HO_5.out).2.2 | (with_reducible refine Kd.C_alloc ?_ _) | (with_reducible refine Kd.C_drewN ?_ _) | (with_reducible refine Kd.C_drew ?_))); (case side2 => exact (Kd.R_reads' HO_5.out).2.1); rintro e w' ⟨rfl, ⟨nd, rfl⟩⟩; refine ⟨_, rfl, ?_⟩))
       go_roundg k1
       case measure => have := HK1.out; omega
       case rel => exact ⟨(wrap64 (x20_1 + 1)), rfl, H', ⟨by have := HK1.out; omega⟩, ⟨by (with_reducible repeat (first | apply Kd.R_alloc | apply Kd.R_drewN | apply Kd.R_drew)); exact HO_5.out⟩, ⟨by (with_reducible repeat (first | apply Kd.R_alloc | apply Kd.R_drewN | apply Kd.R_drew)); exact HO_18.out⟩, ⟨by (with_reducible repeat (first | refine blk_drewN ?_ _ | refine blk_drew ?_ | refine blk_alloc ?_ _)); exact BK343.out⟩, ⟨by repeat (first | (with_reducible first | exact HB.out | apply below_alloc | apply pw_below_drewN | apply below_drew1 | refine below_set ?_ GE343.out) | exact HB.out)⟩⟩
      ·
       replace c14 := Bool.eq_false_iff.mpr c14
       subst c14
       have H1 : (some (rdOf ByteArray.empty t347 x20_1, (-1), true)) = some (r1, r2, r3) := by rw [if_neg (show ¬ (false = true) by decide)] at H; exact H
       clear H
       have H := H1
       clear H1
       simp only [Option.some.injEq, Prod.mk.injEq] at H
       obtain ⟨rfl, rfl, rfl⟩ := H
       have p350 : 0 ≤ (x20_1 : Int) := of_decide_eq_true (by first | (with_reducible assumption) | assumption)
       have q350 : x20_1 < (t347.length : Int) := of_decide_eq_true (by first | (with_reducible assumption) | assumption)
       obtain ⟨ad350, e350, hx350_0⟩ := Kd.at_string (Kd.R_reads' HO_18.out).2.2 x20_1 p350 q350
       cases e350
       replace p350 := eq_true p350
       replace q350 := eq_true q350
       obtain ⟨Ao16, co16, eo16⟩ := Kd.R_slice HO_5.out
       subst eo16
       go_wp2_with (first | (with_reducible refine wp_scope_straight ?_) | (with_reducible refine wp_label ?_) | ((with_reducible refine gate_callee (f := 28) rfl ?_); refine goesL_ (some 26) rfl rfl Try.func28 (by kernel_rfl) rfl #[.slice Ao16 t344.length co16, .string (rdOf ByteArray.empty t347 x20_1)] rfl (by (try simp only [List.map_toArray, List.map_cons, List.map_nil]); first | done | rfl | (simp only [List.length_drop, List.length_take]; rfl)) ?_; (with_reducible refine (slices_Contains_string_string.calls k1 _ _ t344 (rdOf ByteArray.empty t347 x20_1) false _ ?side1 ?side2 A13.out).mono ?_); (case side1 => repeat (first | exact (Kd.R_reads' HO_5.out).2.2 | (with_reducible refine Kd.C_alloc ?_ _) | (with_reducible refine Kd.C_drewN ?_ _) | (with_reducible refine Kd.C_drew ?_))); (case side2 => exact (Kd.R_reads' HO_5.out).2.1); rintro e w' ⟨rfl, ⟨nd, rfl⟩⟩; refine ⟨_, rfl, ?_⟩))
       (try rw [Exit.noGoto_ret]); go_ret3
       exact ⟨rfl, by repeat (first | (with_reducible first | exact HB.out | apply below_alloc | apply pw_below_drewN | apply below_drew1 | refine below_set ?_ GE343.out) | exact HB.out)⟩
     ·
      rw [if_neg c12] at H
      exact absurd H (by simp)
    ·
     rw [if_neg c11] at H
     exact absurd H (by simp)
   ·
    rw [if_neg c10] at H
    have c10b0 : decide (x20_1 < (t347.length : Int)) = false := decide_eq_false c10
    clear c10
    have H' := Aside0.mk H
    clear H
    have hcz17_0 : wr.cell? ⟨gb343, 0, none⟩ = some (.int .i64 a0_0) := (blk_cell BK343.out 0).trans rfl
    have hcz17_1 : wr.cell? ⟨gb343, 1, none⟩ = some (.string a0_1) := (blk_cell BK343.out 1).trans rfl
    have hcz17_2 : wr.cell? ⟨gb343, 2, none⟩ = some (.slice A0_2 l0_2.length c0_2) := (blk_cell BK343.out 2).trans rfl
    have hcz17_3 : wr.cell? ⟨gb343, 3, none⟩ = some (.int .i64 a0_3) := (blk_cell BK343.out 3).trans rfl
    have hcz17_4 : wr.cell? ⟨gb343, 4, none⟩ = some (.string a0_4) := (blk_cell BK343.out 4).trans rfl
    have hcz17_5 : wr.cell? ⟨gb343, 5, none⟩ = some (.int .i64 a0_5) := (blk_cell BK343.out 5).trans rfl
    have hcz17_6 : wr.cell? ⟨gb343, 6, none⟩ = some (.slice A0_6 l0_6.length c0_6) := (blk_cell BK343.out 6).trans rfl
    have hfz17_0 := blk_frozen BK343.out 0
    have hfz17_1 := blk_frozen BK343.out 1
    have hfz17_2 := blk_frozen BK343.out 2
    have hfz17_3 := blk_frozen BK343.out 3
    have hfz17_4 := blk_frozen BK343.out 4
    have hfz17_5 := blk_frozen BK343.out 5
    have hfz17_6 := blk_frozen BK343.out 6
    go_wp2_with (first | (with_reducible refine wp_scope_straight ?_) | (with_reducible refine wp_label ?_))
    go_loopg [8, 9, 10, 33] k1 (fun kq v8 v9 v10 v33 w' => ∃ (x8_2 : ByteArray) (x9_2 : Int) (x10_2 : Bool) (x33_2 : Int), v8 = .string x8_2 ∧ v9 = .int .i64 x9_2 ∧ v10 = .bool x10_2 ∧ v33 = .int .i64 x33_2 ∧ Aside0 (guard_Free.l1 kq t344 x8_2 x9_2 x10_2 l0_6 (l0_6.length : Int) x33_2 = some (r1, r2, r3)) ∧ Aside0 (kq ≤ k1) ∧ Aside0 (Kd.R Kd.string 9 w' w.heap.size (fun _ => True) v345 t344) ∧ Aside0 (w'.heap[gb343]? = some (.cells #[.int .i64 a0_0, .string a0_1, (.slice A0_2 l0_2.length c0_2), .int .i64 a0_3, .string a0_4, .int .i64 a0_5, (.slice A0_6 l0_6.length c0_6)] 25 (0, 0))) ∧ Aside0 (Below w.heap.size w w'))
    case atStart => exact ⟨((⟨#[]⟩ : ByteArray)), (0), (false), (0), rfl, rfl, rfl, rfl, H', ⟨Nat.le_refl _⟩, ⟨by exact Kd.R_mono HO_5.out (fun _ hk => trivial)⟩, ⟨by exact BK343.out⟩, ⟨by with_reducible exact HB.out⟩⟩
    case round =>
     clear H'
     clear c10b0 hcz17_0 hcz17_1 hcz17_2 hcz17_3 hcz17_4 hcz17_5 hcz17_6 hfz17_0 hfz17_1 hfz17_2 hfz17_3 hfz17_4 hfz17_5 hfz17_6
     obtain ⟨x8_2, x9_2, x10_2, x33_2, rfl, rfl, rfl, rfl, HA, HK2, HO_5, BK343, HB⟩ := hrel
     cases gk with
     | zero => exact absurd HA.out (by simp [guard_Free.l1])
     | succ k2 =>
      have H := HA.out
      clear HA
      simp only [guard_Free.l1] at H
      by_cases c18 : x33_2 < (l0_6.length : Int)
      ·
       rw [if_pos c18] at H
       have c18b0 : decide (x33_2 < (l0_6.length : Int)) = true := decide_eq_true c18
       clear c18
       by_cases c19 : 0 ≤ x33_2
       ·
        rw [if_pos c19] at H
        have c19b0 : decide (0 ≤ x33_2) = true := decide_eq_true c19
        clear c19
        by_cases c20 : x33_2 < (l0_6.length : Int)
        ·
         rw [if_pos c20] at H
         have c20b0 : decide (x33_2 < (l0_6.length : Int)) = true := decide_eq_true c20
         clear c20
         replace H := Option.bind_eq_some_iff.mp H
         obtain ⟨t354, A210, H⟩ := H
         replace H : (if t354 = true then (guard_Free.l1 k2 t344 x8_2 x9_2 x10_2 l0_6 (l0_6.length : Int) (wrap64 (x33_2 + 1))) else ((guard_vars.f k2 ((rd_T41 l0_6 x33_2).f0) ((rd_T41 l0_6 x33_2).f1) ((rd_T41 l0_6 x33_2).f2) ((rd_T41 l0_6 x33_2).f3)).bind fun t355 => (guard_Free.l2 k2 t344 x8_2 x9_2 x10_2 x33_2 l0_6 (l0_6.length : Int) x33_2 t355 (t355.length : Int) 0))) = some (r1, r2, r3) := H
         have A21 := Aside0.mk A210
         clear A210
         by_cases c22 : t354 = true
         ·
          subst c22
          have H1 : (guard_Free.l1 k2 t344 x8_2 x9_2 x10_2 l0_6 (l0_6.length : Int) (wrap64 (x33_2 + 1))) = some (r1, r2, r3) := by rw [if_pos rfl] at H; exact H
          clear H
          have H := H1
          clear H1
          have H' := Aside0.mk H
          clear H
          have p352 : 0 ≤ (x33_2 : Int) := of_decide_eq_true (by first | (with_reducible assumption) | assumption)
          have q352 : x33_2 < (l0_6.length : Int) := of_decide_eq_true (by first | (with_reducible assumption) | assumption)
          obtain ⟨ad352, A352_2, c352_2, e352, hx352_0, hx352_1, hx352_2, hx352_3, hl352_2, hi352_2⟩ := at_T41 HR0_6.out x33_2 p352 q352
          cases e352
          replace hx352_0 := (HB.out.cell (World.block_lt_of_cell? w _ hx352_0)).trans hx352_0
          replace hx352_1 := (HB.out.cell (World.block_lt_of_cell? w _ hx352_1)).trans hx352_1
          replace hx352_2 := (HB.out.cell (World.block_lt_of_cell? w _ hx352_2)).trans hx352_2
          replace hx352_3 := (HB.out.cell (World.block_lt_of_cell? w _ hx352_3)).trans hx352_3
          have HR352_2 := Aside0.mk hi352_2
          have HC352_2 := Aside0.mk hl352_2
          clear hi352_2 hl352_2
          replace p352 := eq_true p352
          replace q352 := eq_true q352
          go_wp2_with (first | (with_reducible refine wp_scope_straight ?_) | (with_reducible refine wp_label ?_) | ((with_reducible refine gate_dst (N := 12) rfl ?_); refine box_event ?hg (N := 12) ?hd (cs := #[.bool false, .string (⟨#[]⟩ : ByteArray), .slice none 0 0, .int .i64 0]) (t := 41) ?hr ?_; (case hd => rfl); (case hg => rfl); (case hr => first | (go_simp; done) | (go_simp; rfl)); intro gb353 hg w23 hbox hb; have n0_ := Aside0.mk (Kd.R_below (by exact HO_5.out) hb); have n1_ := Aside0.mk (blk_below (g := gb343) (o := .cells #[.int .i64 a0_0, .string a0_1, .slice A0_2 l0_2.length c0_2, .int .i64 a0_3, .string a0_4, .int .i64 a0_5, .slice (some ad352) l0_6.length c0_6] 25 (0, 0)) (by exact BK343.out) hb); have n2_ := Aside0.mk (below_step (by with_reducible exact HB.out) hb); have n3_ := Aside0.mk (hbox); have n4_ := Aside0.mk ((by rw [hg]; exact (below_size (by with_reducible exact HB.out)) : w.heap.size ≤ gb353)); have n5_ := Aside0.mk ((by rw [hg]; exact (below_size (by with_reducible exact HB.out)) : w.heap.size ≤ gb353)); have n6_ := Aside0.mk ((by rw [hg]; exact Nat.ne_of_lt (blk_lt (g := gb343) (o := .cells #[.int .i64 a0_0, .string a0_1, .slice A0_2 l0_2.length c0_2, .int .i64 a0_3, .string a0_4, .int .i64 a0_5, .slice (some ad352) l0_6.length c0_6] 25 (0, 0)) (by exact BK343.out)) : gb343 ≠ gb353)); have n7_ := Aside0.mk ((by rw [hg]; exact Nat.ne_of_gt (blk_lt (g := gb343) (o := .cells #[.int .i64 a0_0, .string a0_1, .slice A0_2 l0_2.length c0_2, .int .i64 a0_3, .string a0_4, .int .i64 a0_5, .slice (some ad352) l0_6.length c0_6] 25 (0, 0)) (by exact BK343.out)) : gb353 ≠ gb343)); clear HO_5 BK343 HB; have HO_5 := n0_; have BK343 := n1_; have HB := n2_; have BK353 := n3_; have GW353 := n4_; have GE353 := n5_; have NB343_353 := n6_; have NB353_343 := n7_; clear n0_ n1_ n2_ n3_ n4_ n5_ n6_ n7_ hb hbox hg; have hnb24 := NB353_343.out; have hnc24 := NB343_353.out; have hcz25_0 : w23.cell? ⟨gb353, 0, none⟩ = some (.bool false) := (blk_cell BK353.out 0).trans rfl; have hcz25_1 : w23.cell? ⟨gb353, 1, none⟩ = some (.string (⟨#[]⟩ : ByteArray)) := (blk_cell BK353.out 1).trans rfl; have hcz25_2 : w23.cell? ⟨gb353, 2, none⟩ = some (.slice none 0 0) := (blk_cell BK353.out 2).trans rfl; have hcz25_3 : w23.cell? ⟨gb353, 3, none⟩ = some (.int .i64 0) := (blk_cell BK353.out 3).trans rfl; have hfz25_0 := blk_frozen BK353.out 0; have hfz25_1 := blk_frozen BK353.out 1; have hfz25_2 := blk_frozen BK353.out 2; have hfz25_3 := blk_frozen BK353.out 3) | ((with_reducible refine gate_callee (f := 29) rfl ?_); refine goesL_ (some 39) rfl rfl Try.func29 (by kernel_rfl) rfl #[.agg #[.bool ((rd_T41 l0_6 x33_2).f0), .string ((rd_T41 l0_6 x33_2).f1), .slice A352_2 ((rd_T41 l0_6 x33_2).f2).length c352_2, .int .i64 ((rd_T41 l0_6 x33_2).f3)]] rfl (by (try simp only [List.map_toArray, List.map_cons, List.map_nil]); first | done | rfl | (simp only [List.length_drop, List.length_take]; rfl)) ?_; (with_reducible refine (guard_binds.calls ((rd_T41 l0_6 x33_2).f0) ((rd_T41 l0_6 x33_2).f1) _ _ ((rd_T41 l0_6 x33_2).f2) ((rd_T41 l0_6 x33_2).f3) true _ ?side1 ?side2 A21.out).mono ?_); (case side1 => exact Kd.C_below HR352_2.out (by repeat (first | (with_reducible first | exact HB.out | apply below_alloc | apply pw_below_drewN | apply below_drew1 | refine below_set ?_ GE343.out | refine below_set ?_ GE353.out) | exact HB.out))); (case side2 => exact HC352_2.out); rintro e w26 ⟨rfl, hb⟩; refine ⟨_, rfl, ?_⟩; have n0_ := Aside0.mk (Kd.R_below (by exact (Kd.R_mono (Kd.R_far (p := ⟨gb353, 3, none⟩) (Kd.R_far (p := ⟨gb353, 2, none⟩) (Kd.R_far (p := ⟨gb353, 1, none⟩) (Kd.R_far (p := ⟨gb353, 0, none⟩) (Kd.R_types HO_5.out BK353.out (by decide)) (fun _ hk => hk.2) (.bool ((rd_T41 l0_6 x33_2).f0))) (fun _ hk => hk.2) (.string ((rd_T41 l0_6 x33_2).f1))) (fun _ hk => hk.2) (.slice A352_2 ((rd_T41 l0_6 x33_2).f2).length c352_2)) (fun _ hk => hk.2) (.int .i64 ((rd_T41 l0_6 x33_2).f3))) (fun _ h_ => h_.1))) hb); have n1_ := Aside0.mk (blk_below (g := gb343) (o := .cells #[.int .i64 a0_0, .string a0_1, .slice A0_2 l0_2.length c0_2, .int .i64 a0_3, .string a0_4, .int .i64 a0_5, .slice (some ad352) l0_6.length c0_6] 25 (0, 0)) (by refine blk_far ?_ NB343_353.out _; refine blk_far ?_ NB343_353.out _; refine blk_far ?_ NB343_353.out _; refine blk_far ?_ NB343_353.out _; exact BK343.out) hb); have n2_ := Aside0.mk (blk_below (g := gb353) (o := .cells #[.bool ((rd_T41 l0_6 x33_2).f0), .string ((rd_T41 l0_6 x33_2).f1), .slice A352_2 ((rd_T41 l0_6 x33_2).f2).length c352_2, .int .i64 ((rd_T41 l0_6 x33_2).f3)] 41 (0, 0)) (by refine blk_put (cs := #[.bool ((rd_T41 l0_6 x33_2).f0), .string ((rd_T41 l0_6 x33_2).f1), .slice A352_2 ((rd_T41 l0_6 x33_2).f2).length c352_2, .int .i64 0]) ?_ 3 _ rfl; refine blk_put (cs := #[.bool ((rd_T41 l0_6 x33_2).f0), .string ((rd_T41 l0_6 x33_2).f1), .slice none 0 0, .int .i64 0]) ?_ 2 _ rfl; refine blk_put (cs := #[.bool ((rd_T41 l0_6 x33_2).f0), .string (⟨#[]⟩ : ByteArray), .slice none 0 0, .int .i64 0]) ?_ 1 _ rfl; refine blk_put (cs := #[.bool false, .string (⟨#[]⟩ : ByteArray), .slice none 0 0, .int .i64 0]) ?_ 0 _ rfl; exact BK353.out) hb); have n3_ := Aside0.mk (below_step (by repeat (first | (with_reducible first | exact HB.out | apply below_alloc | apply pw_below_drewN | apply below_drew1 | refine below_set ?_ GE343.out | refine below_set ?_ GE353.out) | exact HB.out)) hb); clear HO_5 BK343 BK353 HB; have HO_5 := n0_; have BK343 := n1_; have BK353 := n2_; have HB := n3_; clear n0_ n1_ n2_ n3_ hb))
          go_roundg k2
          case measure => have := HK1.out; have := HK2.out; omega
          case rel => exact ⟨(x8_2), (x9_2), (x10_2), (wrap64 (x33_2 + 1)), rfl, rfl, rfl, rfl, H', ⟨by have := HK1.out; have := HK2.out; omega⟩, ⟨by exact HO_5.out⟩, ⟨by exact BK343.out⟩, ⟨by with_reducible exact HB.out⟩⟩
         ·
          replace c22 := Bool.eq_false_iff.mpr c22
          subst c22
          have H1 : ((guard_vars.f k2 ((rd_T41 l0_6 x33_2).f0) ((rd_T41 l0_6 x33_2).f1) ((rd_T41 l0_6 x33_2).f2) ((rd_T41 l0_6 x33_2).f3)).bind fun t355 => (guard_Free.l2 k2 t344 x8_2 x9_2 x10_2 x33_2 l0_6 (l0_6.length : Int) x33_2 t355 (t355.length : Int) 0)) = some (r1, r2, r3) := by rw [if_neg (show ¬ (false = true) by decide)] at H; exact H
          clear H
          have H := H1
          clear H1
          replace H := Option.bind_eq_some_iff.mp H
          obtain ⟨t355, A270, H⟩ := H
          replace H : (guard_Free.l2 k2 t344 x8_2 x9_2 x10_2 x33_2 l0_6 (l0_6.length : Int) x33_2 t355 (t355.length : Int) 0) = some (r1, r2, r3) := H
          have A27 := Aside0.mk A270
          clear A270
          have H' := Aside0.mk H
          clear H
          have p352 : 0 ≤ (x33_2 : Int) := of_decide_eq_true (by first | (with_reducible assumption) | assumption)
          have q352 : x33_2 < (l0_6.length : Int) := of_decide_eq_true (by first | (with_reducible assumption) | assumption)
          obtain ⟨ad352, A352_2, c352_2, e352, hx352_0, hx352_1, hx352_2, hx352_3, hl352_2, hi352_2⟩ := at_T41 HR0_6.out x33_2 p352 q352
          cases e352
          replace hx352_0 := (HB.out.cell (World.block_lt_of_cell? w _ hx352_0)).trans hx352_0
          replace hx352_1 := (HB.out.cell (World.block_lt_of_cell? w _ hx352_1)).trans hx352_1
          replace hx352_2 := (HB.out.cell (World.block_lt_of_cell? w _ hx352_2)).trans hx352_2
          replace hx352_3 := (HB.out.cell (World.block_lt_of_cell? w _ hx352_3)).trans hx352_3
          have HR352_2 := Aside0.mk hi352_2
          have HC352_2 := Aside0.mk hl352_2
          clear hi352_2 hl352_2
          replace p352 := eq_true p352
          replace q352 := eq_true q352
          go_wp2_with (first | (with_reducible refine wp_scope_straight ?_) | (with_reducible refine wp_label ?_) | ((with_reducible refine gate_dst (N := 12) rfl ?_); refine box_event ?hg (N := 12) ?hd (cs := #[.bool false, .string (⟨#[]⟩ : ByteArray), .slice none 0 0, .int .i64 0]) (t := 41) ?hr ?_; (case hd => rfl); (case hg => rfl); (case hr => first | (go_simp; done) | (go_simp; rfl)); intro gb353 hg w28 hbox hb; have n0_ := Aside0.mk (Kd.R_below (by exact HO_5.out) hb); have n1_ := Aside0.mk (blk_below (g := gb343) (o := .cells #[.int .i64 a0_0, .string a0_1, .slice A0_2 l0_2.length c0_2, .int .i64 a0_3, .string a0_4, .int .i64 a0_5, .slice (some ad352) l0_6.length c0_6] 25 (0, 0)) (by exact BK343.out) hb); have n2_ := Aside0.mk (below_step (by with_reducible exact HB.out) hb); have n3_ := Aside0.mk (hbox); have n4_ := Aside0.mk ((by rw [hg]; exact (below_size (by with_reducible exact HB.out)) : w.heap.size ≤ gb353)); have n5_ := Aside0.mk ((by rw [hg]; exact (below_size (by with_reducible exact HB.out)) : w.heap.size ≤ gb353)); have n6_ := Aside0.mk ((by rw [hg]; exact Nat.ne_of_lt (blk_lt (g := gb343) (o := .cells #[.int .i64 a0_0, .string a0_1, .slice A0_2 l0_2.length c0_2, .int .i64 a0_3, .string a0_4, .int .i64 a0_5, .slice (some ad352) l0_6.length c0_6] 25 (0, 0)) (by exact BK343.out)) : gb343 ≠ gb353)); have n7_ := Aside0.mk ((by rw [hg]; exact Nat.ne_of_gt (blk_lt (g := gb343) (o := .cells #[.int .i64 a0_0, .string a0_1, .slice A0_2 l0_2.length c0_2, .int .i64 a0_3, .string a0_4, .int .i64 a0_5, .slice (some ad352) l0_6.length c0_6] 25 (0, 0)) (by exact BK343.out)) : gb353 ≠ gb343)); clear HO_5 BK343 HB; have HO_5 := n0_; have BK343 := n1_; have HB := n2_; have BK353 := n3_; have GW353 := n4_; have GE353 := n5_; have NB343_353 := n6_; have NB353_343 := n7_; clear n0_ n1_ n2_ n3_ n4_ n5_ n6_ n7_ hb hbox hg; have hnb29 := NB353_343.out; have hnc29 := NB343_353.out; have hcz30_0 : w28.cell? ⟨gb353, 0, none⟩ = some (.bool false) := (blk_cell BK353.out 0).trans rfl; have hcz30_1 : w28.cell? ⟨gb353, 1, none⟩ = some (.string (⟨#[]⟩ : ByteArray)) := (blk_cell BK353.out 1).trans rfl; have hcz30_2 : w28.cell? ⟨gb353, 2, none⟩ = some (.slice none 0 0) := (blk_cell BK353.out 2).trans rfl; have hcz30_3 : w28.cell? ⟨gb353, 3, none⟩ = some (.int .i64 0) := (blk_cell BK353.out 3).trans rfl; have hfz30_0 := blk_frozen BK353.out 0; have hfz30_1 := blk_frozen BK353.out 1; have hfz30_2 := blk_frozen BK353.out 2; have hfz30_3 := blk_frozen BK353.out 3) | ((with_reducible refine gate_callee (f := 29) rfl ?_); refine goesL_ (some 39) rfl rfl Try.func29 (by kernel_rfl) rfl #[.agg #[.bool ((rd_T41 l0_6 x33_2).f0), .string ((rd_T41 l0_6 x33_2).f1), .slice A352_2 ((rd_T41 l0_6 x33_2).f2).length c352_2, .int .i64 ((rd_T41 l0_6 x33_2).f3)]] rfl (by (try simp only [List.map_toArray, List.map_cons, List.map_nil]); first | done | rfl | (simp only [List.length_drop, List.length_take]; rfl)) ?_; (with_reducible refine (guard_binds.calls ((rd_T41 l0_6 x33_2).f0) ((rd_T41 l0_6 x33_2).f1) _ _ ((rd_T41 l0_6 x33_2).f2) ((rd_T41 l0_6 x33_2).f3) false _ ?side1 ?side2 A21.out).mono ?_); (case side1 => exact Kd.C_below HR352_2.out (by repeat (first | (with_reducible first | exact HB.out | apply below_alloc | apply pw_below_drewN | apply below_drew1 | refine below_set ?_ GE343.out | refine below_set ?_ GE353.out) | exact HB.out))); (case side2 => exact HC352_2.out); rintro e w31 ⟨rfl, hb⟩; refine ⟨_, rfl, ?_⟩; have n0_ := Aside0.mk (Kd.R_below (by exact (Kd.R_mono (Kd.R_far (p := ⟨gb353, 3, none⟩) (Kd.R_far (p := ⟨gb353, 2, none⟩) (Kd.R_far (p := ⟨gb353, 1, none⟩) (Kd.R_far (p := ⟨gb353, 0, none⟩) (Kd.R_types HO_5.out BK353.out (by decide)) (fun _ hk => hk.2) (.bool ((rd_T41 l0_6 x33_2).f0))) (fun _ hk => hk.2) (.string ((rd_T41 l0_6 x33_2).f1))) (fun _ hk => hk.2) (.slice A352_2 ((rd_T41 l0_6 x33_2).f2).length c352_2)) (fun _ hk => hk.2) (.int .i64 ((rd_T41 l0_6 x33_2).f3))) (fun _ h_ => h_.1))) hb); have n1_ := Aside0.mk (blk_below (g := gb343) (o := .cells #[.int .i64 a0_0, .string a0_1, .slice A0_2 l0_2.length c0_2, .int .i64 a0_3, .string a0_4, .int .i64 a0_5, .slice (some ad352) l0_6.length c0_6] 25 (0, 0)) (by refine blk_far ?_ NB343_353.out _; refine blk_far ?_ NB343_353.out _; refine blk_far ?_ NB343_353.out _; refine blk_far ?_ NB343_353.out _; exact BK343.out) hb); have n2_ := Aside0.mk (blk_below (g := gb353) (o := .cells #[.bool ((rd_T41 l0_6 x33_2).f0), .string ((rd_T41 l0_6 x33_2).f1), .slice A352_2 ((rd_T41 l0_6 x33_2).f2).length c352_2, .int .i64 ((rd_T41 l0_6 x33_2).f3)] 41 (0, 0)) (by refine blk_put (cs := #[.bool ((rd_T41 l0_6 x33_2).f0), .string ((rd_T41 l0_6 x33_2).f1), .slice A352_2 ((rd_T41 l0_6 x33_2).f2).length c352_2, .int .i64 0]) ?_ 3 _ rfl; refine blk_put (cs := #[.bool ((rd_T41 l0_6 x33_2).f0), .string ((rd_T41 l0_6 x33_2).f1), .slice none 0 0, .int .i64 0]) ?_ 2 _ rfl; refine blk_put (cs := #[.bool ((rd_T41 l0_6 x33_2).f0), .string (⟨#[]⟩ : ByteArray), .slice none 0 0, .int .i64 0]) ?_ 1 _ rfl; refine blk_put (cs := #[.bool false, .string (⟨#[]⟩ : ByteArray), .slice none 0 0, .int .i64 0]) ?_ 0 _ rfl; exact BK353.out) hb); have n3_ := Aside0.mk (below_step (by repeat (first | (with_reducible first | exact HB.out | apply below_alloc | apply pw_below_drewN | apply below_drew1 | refine below_set ?_ GE343.out | refine below_set ?_ GE353.out) | exact HB.out)) hb); clear HO_5 BK343 BK353 HB; have HO_5 := n0_; have BK343 := n1_; have BK353 := n2_; have HB := n3_; clear n0_ n1_ n2_ n3_ hb; have hcz32_0 : w31.cell? ⟨gb353, 0, none⟩ = some (.bool ((rd_T41 l0_6 x33_2).f0)) := (blk_cell BK353.out 0).trans rfl; have hcz32_1 : w31.cell? ⟨gb353, 1, none⟩ = some (.string ((rd_T41 l0_6 x33_2).f1)) := (blk_cell BK353.out 1).trans rfl; have hcz32_2 : w31.cell? ⟨gb353, 2, none⟩ = some (.slice A352_2 ((rd_T41 l0_6 x33_2).f2).length c352_2) := (blk_cell BK353.out 2).trans rfl; have hcz32_3 : w31.cell? ⟨gb353, 3, none⟩ = some (.int .i64 ((rd_T41 l0_6 x33_2).f3)) := (blk_cell BK353.out 3).trans rfl; have hfz32_0 := blk_frozen BK353.out 0; have hfz32_1 := blk_frozen BK353.out 1; have hfz32_2 := blk_frozen BK353.out 2; have hfz32_3 := blk_frozen BK353.out 3) | ((with_reducible refine gate_callee (f := 30) rfl ?_); refine goesL_ (some 41) rfl rfl Try.func30 (by kernel_rfl) rfl #[.agg #[.bool ((rd_T41 l0_6 x33_2).f0), .string ((rd_T41 l0_6 x33_2).f1), .slice A352_2 ((rd_T41 l0_6 x33_2).f2).length c352_2, .int .i64 ((rd_T41 l0_6 x33_2).f3)]] rfl (by (try simp only [List.map_toArray, List.map_cons, List.map_nil]); first | done | rfl | (simp only [List.length_drop, List.length_take]; rfl)) ?_; (with_reducible refine (guard_vars.calls k2 ((rd_T41 l0_6 x33_2).f0) ((rd_T41 l0_6 x33_2).f1) _ _ ((rd_T41 l0_6 x33_2).f2) ((rd_T41 l0_6 x33_2).f3) t355 _ ?side1 ?side2 A27.out).mono ?_); (case side1 => exact (Kd.C_below HR352_2.out HB.out)); (case side2 => exact HC352_2.out); rintro e w33 ⟨v356, rfl, ho0, hb⟩; refine ⟨_, rfl, ?_⟩; have n0_ := Aside0.mk (Kd.R_elder' (by exact HO_5.out) (Kd.R_base ho0) hb); have n1_ := Aside0.mk (Kd.R_lower (Kd.R_new' ho0 (Kd.R_lt (by exact HO_5.out))) (below_size (by with_reducible exact HB.out))); have n2_ := Aside0.mk (blk_below (g := gb343) (o := .cells #[.int .i64 a0_0, .string a0_1, .slice A0_2 l0_2.length c0_2, .int .i64 a0_3, .string a0_4, .int .i64 a0_5, .slice (some ad352) l0_6.length c0_6] 25 (0, 0)) (by exact BK343.out) hb); have n3_ := Aside0.mk (blk_below (g := gb353) (o := .cells #[.bool ((rd_T41 l0_6 x33_2).f0), .string ((rd_T41 l0_6 x33_2).f1), .slice A352_2 ((rd_T41 l0_6 x33_2).f2).length c352_2, .int .i64 ((rd_T41 l0_6 x33_2).f3)] 41 (0, 0)) (by exact BK353.out) hb); have n4_ := Aside0.mk (below_step (by with_reducible exact HB.out) hb); clear HO_5 BK343 BK353 HB; have HO_5 := n0_; have HO357 := n1_; have BK343 := n2_; have BK353 := n3_; have HB := n4_; clear n0_ n1_ n2_ n3_ n4_ hb ho0; obtain ⟨Ao34, co34, eo34⟩ := Kd.R_slice HO357.out; subst eo34))
          go_loopg [8, 9, 10, 43] k2 (fun kq v8 v9 v10 v43 w' => ∃ (x8_3 : ByteArray) (x9_3 : Int) (x10_3 : Bool) (x43_3 : Int), v8 = .string x8_3 ∧ v9 = .int .i64 x9_3 ∧ v10 = .bool x10_3 ∧ v43 = .int .i64 x43_3 ∧ Aside0 (guard_Free.l2 kq t344 x8_3 x9_3 x10_3 x33_2 l0_6 (l0_6.length : Int) x33_2 t355 (t355.length : Int) x43_3 = some (r1, r2, r3)) ∧ Aside0 (kq ≤ k2) ∧ Aside0 (Kd.R Kd.string 9 w' w.heap.size (fun k_ => some k_ ≠ ((.slice Ao34 t355.length co34) : Value).ownBlock) v345 t344) ∧ Aside0 (Kd.R Kd.string 9 w' w.heap.size (fun k_ => some k_ ≠ (v345 : Value).ownBlock) (.slice Ao34 t355.length co34) t355) ∧ Aside0 (w'.heap[gb343]? = some (.cells #[.int .i64 a0_0, .string a0_1, (.slice A0_2 l0_2.length c0_2), .int .i64 a0_3, .string a0_4, .int .i64 a0_5, (.slice (some ad352) l0_6.length c0_6)] 25 (0, 0))) ∧ Aside0 (w'.heap[gb353]? = some (.cells #[.bool ((rd_T41 l0_6 x33_2).f0), .string ((rd_T41 l0_6 x33_2).f1), (.slice A352_2 ((rd_T41 l0_6 x33_2).f2).length c352_2), .int .i64 ((rd_T41 l0_6 x33_2).f3)] 41 (0, 0))) ∧ Aside0 (Below w.heap.size w w'))
          case atStart => exact ⟨(x8_2), (x9_2), (x10_2), (0), rfl, rfl, rfl, rfl, H', ⟨Nat.le_refl _⟩, ⟨by exact Kd.R_mono HO_5.out (fun _ hk => hk.2)⟩, ⟨by exact Kd.R_mono HO357.out (fun _ hk => hk.2)⟩, ⟨by exact BK343.out⟩, ⟨by exact BK353.out⟩, ⟨by with_reducible exact HB.out⟩⟩
          case round =>
           clear H'
           clear c18b0 c19b0 c20b0 hcz30_0 hcz30_1 hcz30_2 hcz30_3 hcz32_0 hcz32_1 hcz32_2 hcz32_3 hfz30_0 hfz30_1 hfz30_2 hfz30_3 hfz32_0 hfz32_1 hfz32_2 hfz32_3 hx352_0 hx352_1 hx352_2 hx352_3 p352 q352
           obtain ⟨x8_3, x9_3, x10_3, x43_3, rfl, rfl, rfl, rfl, HA, HK3, HO_5, HO_41, BK343, BK353, HB⟩ := hrel
           cases gk with
           | zero => exact absurd HA.out (by simp [guard_Free.l2])
           | succ k3 =>
            have H := HA.out
            clear HA
            simp only [guard_Free.l2] at H
            by_cases c35 : x43_3 < (t355.length : Int)
            ·
             rw [if_pos c35] at H
             have c35b0 : decide (x43_3 < (t355.length : Int)) = true := decide_eq_true c35
             clear c35
             by_cases c36 : 0 ≤ x43_3
             ·
              rw [if_pos c36] at H
              have c36b0 : decide (0 ≤ x43_3) = true := decide_eq_true c36
              clear c36
              by_cases c37 : x43_3 < (t355.length : Int)
              ·
               rw [if_pos c37] at H
               have c37b0 : decide (x43_3 < (t355.length : Int)) = true := decide_eq_true c37
               clear c37
               replace H := Option.bind_eq_some_iff.mp H
               obtain ⟨t359, A380, H⟩ := H
               replace H : (if t359 = true then (guard_Free.l2 k3 t344 x8_3 x9_3 x10_3 x33_2 l0_6 (l0_6.length : Int) x33_2 t355 (t355.length : Int) (wrap64 (x43_3 + 1))) else (some (rdOf ByteArray.empty t355 x43_3, x33_2, true))) = some (r1, r2, r3) := H
               have A38 := Aside0.mk A380
               clear A380
               by_cases c39 : t359 = true
               ·
                subst c39
                have H1 : (guard_Free.l2 k3 t344 x8_3 x9_3 x10_3 x33_2 l0_6 (l0_6.length : Int) x33_2 t355 (t355.length : Int) (wrap64 (x43_3 + 1))) = some (r1, r2, r3) := by rw [if_pos rfl] at H; exact H
                clear H
                have H := H1
                clear H1
                have H' := Aside0.mk H
                clear H
                have p358 : 0 ≤ (x43_3 : Int) := of_decide_eq_true (by first | (with_reducible assumption) | assumption)
                have q358 : x43_3 < (t355.length : Int) := of_decide_eq_true (by first | (with_reducible assumption) | assumption)
                obtain ⟨ad358, e358, hx358_0⟩ := Kd.at_string (Kd.R_reads' HO_41.out).2.2 x43_3 p358 q358
                cases e358
                replace p358 := eq_true p358
                replace q358 := eq_true q358
                obtain ⟨Ao40, co40, eo40⟩ := Kd.R_slice HO_5.out
                subst eo40
                go_wp2_with (first | (with_reducible refine wp_scope_straight ?_) | (with_reducible refine wp_label ?_) | ((with_reducible refine gate_callee (f := 28) rfl ?_); refine goesL_ (some 49) rfl rfl Try.func28 (by kernel_rfl) rfl #[.slice Ao40 t344.length co40, .string (rdOf ByteArray.empty t355 x43_3)] rfl (by (try simp only [List.map_toArray, List.map_cons, List.map_nil]); first | done | rfl | (simp only [List.length_drop, List.length_take]; rfl)) ?_; (with_reducible refine (slices_Contains_string_string.calls k3 _ _ t344 (rdOf ByteArray.empty t355 x43_3) true _ ?side1 ?side2 A38.out).mono ?_); (case side1 => repeat (first | exact (Kd.R_reads' HO_5.out).2.2 | (with_reducible refine Kd.C_alloc ?_ _) | (with_reducible refine Kd.C_drewN ?_ _) | (with_reducible refine Kd.C_drew ?_))); (case side2 => exact (Kd.R_reads' HO_5.out).2.1); rintro e w' ⟨rfl, ⟨nd, rfl⟩⟩; refine ⟨_, rfl, ?_⟩))
                go_roundg k3
                case measure => have := HK1.out; have := HK2.out; have := HK3.out; omega
                case rel => exact ⟨(x8_3), (x9_3), (x10_3), (wrap64 (x43_3 + 1)), rfl, rfl, rfl, rfl, H', ⟨by have := HK1.out; have := HK2.out; have := HK3.out; omega⟩, ⟨by (with_reducible repeat (first | apply Kd.R_alloc | apply Kd.R_drewN | apply Kd.R_drew)); exact HO_5.out⟩, ⟨by (with_reducible repeat (first | apply Kd.R_alloc | apply Kd.R_drewN | apply Kd.R_drew)); exact HO_41.out⟩, ⟨by (with_reducible repeat (first | refine blk_drewN ?_ _ | refine blk_drew ?_ | refine blk_alloc ?_ _)); exact BK343.out⟩, ⟨by (with_reducible repeat (first | refine blk_drewN ?_ _ | refine blk_drew ?_ | refine blk_alloc ?_ _)); exact BK353.out⟩, ⟨by repeat (first | (with_reducible first | exact HB.out | apply below_alloc | apply pw_below_drewN | apply below_drew1 | refine below_set ?_ GE343.out | refine below_set ?_ GE353.out) | exact HB.out)⟩⟩
               ·
                replace c39 := Bool.eq_false_iff.mpr c39
                subst c39
                have H1 : (some (rdOf ByteArray.empty t355 x43_3, x33_2, true)) = some (r1, r2, r3) := by rw [if_neg (show ¬ (false = true) by decide)] at H; exact H
                clear H
                have H := H1
                clear H1
                simp only [Option.some.injEq, Prod.mk.injEq] at H
                obtain ⟨rfl, rfl, rfl⟩ := H
                have p358 : 0 ≤ (x43_3 : Int) := of_decide_eq_true (by first | (with_reducible assumption) | assumption)
                have q358 : x43_3 < (t355.length : Int) := of_decide_eq_true (by first | (with_reducible assumption) | assumption)
                obtain ⟨ad358, e358, hx358_0⟩ := Kd.at_string (Kd.R_reads' HO_41.out).2.2 x43_3 p358 q358
                cases e358
                replace p358 := eq_true p358
                replace q358 := eq_true q358
                obtain ⟨Ao41, co41, eo41⟩ := Kd.R_slice HO_5.out
                subst eo41
                go_wp2_with (first | (with_reducible refine wp_scope_straight ?_) | (with_reducible refine wp_label ?_) | ((with_reducible refine gate_callee (f := 28) rfl ?_); refine goesL_ (some 49) rfl rfl Try.func28 (by kernel_rfl) rfl #[.slice Ao41 t344.length co41, .string (rdOf ByteArray.empty t355 x43_3)] rfl (by (try simp only [List.map_toArray, List.map_cons, List.map_nil]); first | done | rfl | (simp only [List.length_drop, List.length_take]; rfl)) ?_; (with_reducible refine (slices_Contains_string_string.calls k3 _ _ t344 (rdOf ByteArray.empty t355 x43_3) false _ ?side1 ?side2 A38.out).mono ?_); (case side1 => repeat (first | exact (Kd.R_reads' HO_5.out).2.2 | (with_reducible refine Kd.C_alloc ?_ _) | (with_reducible refine Kd.C_drewN ?_ _) | (with_reducible refine Kd.C_drew ?_))); (case side2 => exact (Kd.R_reads' HO_5.out).2.1); rintro e w' ⟨rfl, ⟨nd, rfl⟩⟩; refine ⟨_, rfl, ?_⟩))
                (try rw [Exit.noGoto_ret]); go_ret3
                exact ⟨rfl, by repeat (first | (with_reducible first | exact HB.out | apply below_alloc | apply pw_below_drewN | apply below_drew1 | refine below_set ?_ GE343.out | refine below_set ?_ GE353.out) | exact HB.out)⟩
              ·
               rw [if_neg c37] at H
               exact absurd H (by simp)
             ·
              rw [if_neg c36] at H
              exact absurd H (by simp)
            ·
             rw [if_neg c35] at H
             have c35b0 : decide (x43_3 < (t355.length : Int)) = false := decide_eq_false c35
             clear c35
             have H' := Aside0.mk H
             clear H
             go_wp2_with (first | (with_reducible refine wp_scope_straight ?_) | (with_reducible refine wp_label ?_))
             go_roundg k3
             case measure => have := HK1.out; have := HK2.out; have := HK3.out; omega
             case rel => exact ⟨(x8_3), (x9_3), (x10_3), (wrap64 (x33_2 + 1)), rfl, rfl, rfl, rfl, H', ⟨by have := HK1.out; have := HK2.out; have := HK3.out; omega⟩, ⟨by exact Kd.R_mono HO_5.out (fun _ hk => trivial)⟩, ⟨by exact BK343.out⟩, ⟨by with_reducible exact HB.out⟩⟩
        ·
         rw [if_neg c20] at H
         exact absurd H (by simp)
       ·
        rw [if_neg c19] at H
        exact absurd H (by simp)
      ·
       rw [if_neg c18] at H
       have c18b0 : decide (x33_2 < (l0_6.length : Int)) = false := decide_eq_false c18
       clear c18
       simp only [Option.some.injEq, Prod.mk.injEq] at H
       obtain ⟨rfl, rfl, rfl⟩ := H
       go_wp2_with (first | (with_reducible refine wp_scope_straight ?_) | (with_reducible refine wp_label ?_))
       (try rw [Exit.noGoto_ret]); go_ret3
       exact ⟨rfl, by with_reducible exact HB.out⟩
/-! ### guard_Check: function 12 -/
def ixFrom {α : Type} (p : α → Bool) : List α → Nat → Int
 | [], _ => -1
 | x :: l, i => if p x = true then (i : Int) else ixFrom p l (i + 1)
def bindsB (x : S41) : Bool := if x.f3 = 0 then !x.f0 else false
theorem binds_eq (x : S41) : guard_binds.f x.f0 x.f1 x.f2 x.f3 = some (bindsB x) := by
 unfold guard_binds.f bindsB; split <;> rfl
theorem ix_none {α : Type} (p : α → Bool) (l : List α) (i : Nat) (h : l.length ≤ i) : ixFrom p (l.drop i) i = -1 := by
 rw [List.drop_eq_nil_of_le h]; rfl
theorem ix_step {α : Type} (p : α → Bool) (l : List α) (i : Nat) (h : i < l.length) : ixFrom p (l.drop i) i = if p l[i] = true then (i : Int) else ixFrom p (l.drop (i + 1)) (i + 1) := by
 rw [List.drop_eq_getElem_cons h]; rfl
set_option maxHeartbeats 4000000 in
set_option maxRecDepth 100000 in
theorem IndexFunc_binds (A0 : Option Addr) (c0 : Nat) (l0 : List (S41)) (w : World) (hr0 : Kd.C k41 w A0 l0.length l0) (hc0 : l0.length ≤ c0) :
  Calls Try.prog 54 #[.slice A0 l0.length c0, .func (.func 29) #[] #[]] w fun e w' => e = .returned (.int .i64 (ixFrom bindsB l0 0)) ∧ Below w.heap.size w w' := by
 have hlen : l0.length ≤ 9223372036854775807 := hr0.2.1
 go_enter Try.func54, Try.ntmps54
 go_wp2
 go_loopw [8] (fun v wr => ∃ i : Nat, i ≤ l0.length ∧ v = .int .i64 i ∧ ixFrom bindsB (l0.drop i) i = ixFrom bindsB l0 0 ∧ Below w.heap.size w wr) (fun v _ => l0.length - (intOf v).toNat)
 case atStart => exact ⟨0, Nat.zero_le _, rfl, rfl, Below.refl _ _⟩
 case round =>
  obtain ⟨i, hi, rfl, hix, hbel⟩ := hrel
  by_cases hlt : i < l0.length
  ·
   have hlt' : (i : Int) < (l0.length : Int) := by omega
   obtain ⟨ad, A2, c2, rfl, q0, q1, q2, q3, hl2, hC2⟩ := at_T41 hr0 (i : Int) (by omega) hlt'
   have hb0 : (ad.add ((i : Int).toNat * 4)).block < w.heap.size := World.block_lt_of_cell? _ _ q0
   have p0 := (Below.cell hbel (p := ad.add ((i : Int).toNat * 4)) hb0).trans q0
   have p1 := (Below.cell hbel (p := ⟨(ad.add ((i : Int).toNat * 4)).block, (ad.add ((i : Int).toNat * 4)).off + 1, none⟩) hb0).trans q1
   have p2 := (Below.cell hbel (p := ⟨(ad.add ((i : Int).toNat * 4)).block, (ad.add ((i : Int).toNat * 4)).off + 2, none⟩) hb0).trans q2
   have p3 := (Below.cell hbel (p := ⟨(ad.add ((i : Int).toNat * 4)).block, (ad.add ((i : Int).toNat * 4)).off + 3, none⟩) hb0).trans q3
   clear q0 q1 q2 q3
   simp only [Int.toNat_natCast] at p0 p1 p2 p3
   have hi0 : (0 : Int) ≤ (i : Int) := by omega
   have hrd : rd_T41 l0 (i : Int) = l0[i] := by unfold rd_T41; simp [List.getD_eq_getElem?_getD, hlt]
   have hst := ix_step bindsB l0 i hlt
   have hbv : bindsB l0[i] = if l0[i].f3 = 0 then !l0[i].f0 else false := rfl
   go_wp2
   ·
    rename_i h1 h2
    rw [hbv, if_pos h1, if_pos h2, hix] at hst
    go_ret
    exact ⟨by rw [hst]; rfl, below_alloc hbel _⟩
   ·
    rename_i h1 h2
    rw [hbv, if_pos h1, if_neg (by rw [h2]; decide), hix] at hst
    exact ⟨⟨i + 1, by omega, by simp, hst.symm, below_alloc hbel _⟩, by simp [intOf]; omega⟩
   ·
    rename_i h1 h2
    rw [hbv, if_neg h1, if_neg (by decide), hix] at hst
    exact ⟨⟨i + 1, by omega, by simp, hst.symm, below_alloc hbel _⟩, by simp [intOf]; omega⟩
  ·
   have hn := ix_none bindsB l0 i (by omega)
   rw [hix] at hn
   have hlt' : ¬ ((i : Int) < (l0.length : Int)) := by omega
   go_wp2
   go_ret
   exact ⟨by first | rfl | (rw [hn]; rfl), hbel⟩
set_option maxHeartbeats 4000000 in
set_option maxRecDepth 100000 in
theorem ContainsFunc_binds (A0 : Option Addr) (c0 : Nat) (l0 : List (S41)) (w : World) (hr0 : Kd.C k41 w A0 l0.length l0) (hc0 : l0.length ≤ c0) :
  Calls Try.prog 33 #[.slice A0 l0.length c0, .func (.func 29) #[] #[]] w fun e w' => e = .returned (.bool (decide (0 ≤ ixFrom bindsB l0 0))) ∧ Below w.heap.size w w' := by
 go_enter Try.func33, Try.ntmps33
 go_wp2_with fail
 refine (IndexFunc_binds A0 c0 l0 w hr0 hc0).mono ?_
 rintro e w1 ⟨rfl, hb⟩
 go_wp2
 go_ret
 exact ⟨rfl, hb⟩
/-- is a rule so? -/
def guard_Check.f (k : Nat) (a0_0 : Int) (a0_1 : ByteArray) (l0_2 : List ByteArray) (a0_3 : Int) (a0_4 : ByteArray) (a0_5 : Int) (l0_6 : List (S41)) : Option (Int × Int) :=
 if 0 ≤ ixFrom bindsB l0_6 0 then (guard_Free.f k a0_0 a0_1 l0_2 a0_3 a0_4 a0_5 l0_6).bind fun t => (if t.2.2 = true then some (t.2.1, 12) else some (0, 0)) else some (-1, 12)
set_option maxHeartbeats 4000000 in
set_option maxRecDepth 100000 in
theorem guard_Check.calls (k : Nat) (a0_0 : Int) (a0_1 : ByteArray) (A0_2 : Option Addr) (c0_2 : Nat) (l0_2 : List ByteArray) (a0_3 : Int) (a0_4 : ByteArray) (a0_5 : Int) (A0_6 : Option Addr) (c0_6 : Nat) (l0_6 : List (S41)) (r1 : Int) (r2 : Int) (w : World) (hr0_2 : Kd.C Kd.string w A0_2 l0_2.length l0_2) (hc0_2 : l0_2.length ≤ c0_2) (hr0_6 : Kd.C k41 w A0_6 l0_6.length l0_6) (hc0_6 : l0_6.length ≤ c0_6) (h : guard_Check.f k a0_0 a0_1 l0_2 a0_3 a0_4 a0_5 l0_6 = some (r1, r2)) :
  Calls Try.prog 12 #[.agg #[.int .i64 a0_0, .string a0_1, .slice A0_2 l0_2.length c0_2, .int .i64 a0_3, .string a0_4, .int .i64 a0_5, .slice A0_6 l0_6.length c0_6]] w fun e w' => e = .returned (.tuple #[.int .i64 r1, .int .i64 r2]) ∧ Below w.heap.size w w' := by
 have hu := Try.underlying25
 unfold guard_Check.f at h
 go_enter Try.func12, Try.ntmps12
 go_wp2_with fail
 refine (ContainsFunc_binds A0_6 c0_6 l0_6 _ (Kd.C_alloc hr0_6 _) hc0_6).mono ?_
 rintro e w1 ⟨rfl, hb⟩
 have BK : w1.heap[w.heap.size]? = some (.cells #[.int .i64 a0_0, .string a0_1, .slice A0_2 l0_2.length c0_2, .int .i64 a0_3, .string a0_4, .int .i64 a0_5, .slice A0_6 l0_6.length c0_6] 25 (0, 0)) := (hb.block _ (by simp)).trans (by simpa using heap_alloc_new w _)
 have hB : Below w.heap.size w w1 := (below_alloc (Below.refl _ _) _).trans (hb.mono (by simp))
 have c0 : w1.cell? ⟨w.heap.size, 0, none⟩ = some (.int .i64 a0_0) := (blk_cell BK 0).trans rfl
 have c1 : w1.cell? ⟨w.heap.size, 1, none⟩ = some (.string a0_1) := (blk_cell BK 1).trans rfl
 have c2 : w1.cell? ⟨w.heap.size, 2, none⟩ = some (.slice A0_2 l0_2.length c0_2) := (blk_cell BK 2).trans rfl
 have c3 : w1.cell? ⟨w.heap.size, 3, none⟩ = some (.int .i64 a0_3) := (blk_cell BK 3).trans rfl
 have c4 : w1.cell? ⟨w.heap.size, 4, none⟩ = some (.string a0_4) := (blk_cell BK 4).trans rfl
 have c5 : w1.cell? ⟨w.heap.size, 5, none⟩ = some (.int .i64 a0_5) := (blk_cell BK 5).trans rfl
 have c6 : w1.cell? ⟨w.heap.size, 6, none⟩ = some (.slice A0_6 l0_6.length c0_6) := (blk_cell BK 6).trans rfl
 clear hb
 by_cases hx : 0 ≤ ixFrom bindsB l0_6 0
 ·
  rw [if_pos hx] at h
  obtain ⟨⟨t1, t2, t3⟩, hf, h⟩ := Option.bind_eq_some_iff.1 h
  simp only at h
  have hd : decide (0 ≤ ixFrom bindsB l0_6 0) = true := decide_eq_true hx
  rw [hd]
  go_wp2_with fail
  refine (guard_Free.calls k a0_0 a0_1 A0_2 c0_2 l0_2 a0_3 a0_4 a0_5 A0_6 c0_6 l0_6 t1 t2 t3 _ (Kd.C_below hr0_2 hB) hc0_2 (Kd.C_below hr0_6 hB) hc0_6 hf).mono ?_
  rintro e w2 ⟨rfl, hb2⟩
  have hB2 : Below w.heap.size w w2 := hB.trans (hb2.mono hB.size)
  cases t3 with
  | true =>
   rw [if_pos rfl] at h
   injection h with h
   injection h with e1 e2
   subst e1 e2
   go_wp2
   go_ret2
   exact ⟨rfl, hB2⟩
  | false =>
   rw [if_neg (by decide)] at h
   injection h with h
   injection h with e1 e2
   subst e1 e2
   go_wp2
   go_ret2
   exact ⟨rfl, hB2⟩
 ·
  rw [if_neg hx] at h
  injection h with h
  injection h with e1 e2
  subst e1 e2
  have hd : decide (0 ≤ ixFrom bindsB l0_6 0) = false := decide_eq_false hx
  rw [hd]
  go_wp2
  go_ret2
  exact ⟨rfl, hB⟩
/-! ### verdererlaw15_known: function 9 -/
def k15b1 : List (S41) := [⟨false, ⟨#[104]⟩, [⟨⟨#[98]⟩, false, ⟨0, false, 0, ⟨#[]⟩⟩⟩], 0⟩]
def k15b2 : List (S41) := [⟨false, ⟨#[104]⟩, [⟨⟨#[97]⟩, false, ⟨0, false, 0, ⟨#[]⟩⟩⟩], 0⟩, ⟨true, ⟨#[107]⟩, [⟨⟨#[97]⟩, false, ⟨0, false, 0, ⟨#[]⟩⟩⟩], 0⟩, ⟨false, ⟨#[]⟩, [⟨⟨#[97]⟩, false, ⟨0, false, 0, ⟨#[]⟩⟩⟩, ⟨⟨#[]⟩, false, ⟨2, false, 3, ⟨#[]⟩⟩⟩], 3⟩]
theorem k15_a : verdererref12_Rule.f 400 ⟨#[100, 101, 110, 121, 32, 100, 40, 97, 41, 32, 105, 102, 32, 104, 40, 98, 41]⟩ = some (1, ⟨#[100]⟩, [⟨#[97]⟩], 0, ⟨#[]⟩, 0, k15b1, 0, 0) := by kernel_rfl
theorem k15_b : guard_Free.f 400 1 ⟨#[100]⟩ [⟨#[97]⟩] 0 ⟨#[]⟩ 0 k15b1 = some (⟨#[97]⟩, -1, true) := by kernel_rfl
theorem k15_c : guard_Check.f 400 1 ⟨#[100]⟩ [⟨#[97]⟩] 0 ⟨#[]⟩ 0 k15b1 = some (-1, 12) := by kernel_rfl
theorem k15_d : verdererref12_Rule.f 400 ⟨#[100, 101, 110, 121, 32, 100, 40, 97, 41, 32, 105, 102, 32, 104, 40, 97, 41, 44, 32, 110, 111, 116, 32, 107, 40, 97, 41, 44, 32, 97, 32, 60, 32, 51]⟩ = some (1, ⟨#[100]⟩, [⟨#[97]⟩], 0, ⟨#[]⟩, 0, k15b2, 0, 0) := by kernel_rfl
theorem k15_e : guard_Check.f 400 1 ⟨#[100]⟩ [⟨#[97]⟩] 0 ⟨#[]⟩ 0 k15b2 = some (0, 0) := by kernel_rfl
/-- fixed calls: true, by their contracts at 400 rounds -/
def verdererlaw15_known.f (k : Nat) : Option Bool := if 400 ≤ k then some true else none
set_option maxHeartbeats 4000000 in
set_option maxRecDepth 100000 in
theorem verdererlaw15_known.calls : ∀ (k : Nat) (r : Bool) (w : World) (h : verdererlaw15_known.f k = some r),
  Calls Try.prog 9 #[] w fun e w' => e = .returned (.bool r) ∧ Below w.heap.size w w' := by
 intro k r w h
 unfold verdererlaw15_known.f at h
 split at h
 case isFalse => cases h
 injection h with h
 subst h
 have hu := Try.underlying25
 go_enter Try.func9, Try.ntmps9
 go_wp2_with fail
 refine (verdererref12_Rule.calls 400 ⟨#[100, 101, 110, 121, 32, 100, 40, 97, 41, 32, 105, 102, 32, 104, 40, 98, 41]⟩ 1 ⟨#[100]⟩ [⟨#[97]⟩] 0 ⟨#[]⟩ 0 k15b1 0 0 _ k15_a).mono ?_
 rintro e w1 ⟨v2, v6, rfl, R2, R6, hb1⟩
 obtain ⟨A2, c2, rfl, hc2, hC2⟩ := Kd.R_reads R2
 obtain ⟨A6, c6, rfl, hc6, hC6⟩ := Kd.R_reads R6
 clear R2 R6
 have e1 : ([⟨#[97]⟩] : List ByteArray).length = 1 := rfl
 have e2 : k15b1.length = 1 := rfl
 have e3 : k15b2.length = 3 := rfl
 go_wp2_with fail
 trace_state
 refine (guard_Free.calls 400 1 ⟨#[100]⟩ A2 c2 [⟨#[97]⟩] 0 ⟨#[]⟩ 0 A6 c6 k15b1 ⟨#[97]⟩ (-1) true _ (Kd.C_alloc hC2 _) hc2 (Kd.C_alloc hC6 _) hc6 k15_b).mono ?_
 rintro e w3 ⟨rfl, hb3⟩
 have BX : w3.heap[w1.heap.size]? = some (.cells #[.int .i64 1, .string ⟨#[100]⟩, .slice A2 1 c2, .int .i64 0, .string (⟨#[]⟩ : ByteArray), .int .i64 0, .slice A6 1 c6] 25 (0, 0)) := (hb3.block _ (by simp)).trans (by simpa using heap_alloc_new w1 _)
 have hB3 : Below w.heap.size w w3 := (below_alloc hb1 _).trans (hb3.mono (by have := hb1.size; simp; omega))
 have hb13 : Below w1.heap.size w1 w3 := (below_alloc (Below.refl _ _) _).trans (hb3.mono (by simp))
 have x0 : w3.cell? ⟨w1.heap.size, 0, none⟩ = some (.int .i64 1) := (blk_cell BX 0).trans rfl
 have x1 : w3.cell? ⟨w1.heap.size, 1, none⟩ = some (.string ⟨#[100]⟩) := (blk_cell BX 1).trans rfl
 have x2 : w3.cell? ⟨w1.heap.size, 2, none⟩ = some (.slice A2 1 c2) := (blk_cell BX 2).trans rfl
 have x3 : w3.cell? ⟨w1.heap.size, 3, none⟩ = some (.int .i64 0) := (blk_cell BX 3).trans rfl
 have x4 : w3.cell? ⟨w1.heap.size, 4, none⟩ = some (.string (⟨#[]⟩ : ByteArray)) := (blk_cell BX 4).trans rfl
 have x5 : w3.cell? ⟨w1.heap.size, 5, none⟩ = some (.int .i64 0) := (blk_cell BX 5).trans rfl
 have x6 : w3.cell? ⟨w1.heap.size, 6, none⟩ = some (.slice A6 1 c6) := (blk_cell BX 6).trans rfl
 go_wp2_with fail
 refine (guard_Check.calls 400 1 ⟨#[100]⟩ A2 c2 [⟨#[97]⟩] 0 ⟨#[]⟩ 0 A6 c6 k15b1 (-1) 12 _ (Kd.C_below hC2 hb13) hc2 (Kd.C_below hC6 hb13) hc6 k15_c).mono ?_
 rintro e w4 ⟨rfl, hb4⟩
 have hB4 := hB3.trans (hb4.mono hB3.size)
 clear BX x0 x1 x2 x3 x4 x5 x6
 go_wp2_with fail
 refine (verdererref12_Rule.calls 400 ⟨#[100, 101, 110, 121, 32, 100, 40, 97, 41, 32, 105, 102, 32, 104, 40, 97, 41, 44, 32, 110, 111, 116, 32, 107, 40, 97, 41, 44, 32, 97, 32, 60, 32, 51]⟩ 1 ⟨#[100]⟩ [⟨#[97]⟩] 0 ⟨#[]⟩ 0 k15b2 0 0 _ k15_d).mono ?_
 rintro e w5 ⟨v3, v7, rfl, R3, R7, hb5⟩
 obtain ⟨A3, c3, rfl, hc3, hC3⟩ := Kd.R_reads R3
 obtain ⟨A7, c7, rfl, hc7, hC7⟩ := Kd.R_reads R7
 clear R3 R7
 have hB5 := hB4.trans (hb5.mono hB4.size)
 go_wp2_with fail
 refine (guard_Check.calls 400 1 ⟨#[100]⟩ A3 c3 [⟨#[97]⟩] 0 ⟨#[]⟩ 0 A7 c7 k15b2 0 0 _ (Kd.C_alloc hC3 _) hc3 (Kd.C_alloc hC7 _) hc7 k15_e).mono ?_
 rintro e w7 ⟨rfl, hb7⟩
 have hB7 : Below w.heap.size w w7 := (below_alloc hB5 _).trans (hb7.mono (by have := hB5.size; simp; omega))
 go_wp2
 go_ret
 exact ⟨rfl, hB7⟩
end Go.Proofs.Ytikikmkfeeljgaa.G
