-- Written by a program for this claim (my own print over the kit's words).
import Derived.Test.YtikikmkfeeljgaaGx0
import Derived.Test.YtikikmkfeeljgaaGx14
import Derived.Test.YtikikmkfeeljgaaGx15
import Derived.Test.YtikikmkfeeljgaaGx16
import Derived.Test.YtikikmkfeeljgaaGx17
import Derived.Test.YtikikmkfeeljgaaGx18
namespace Go.Proofs.Ytikikmkfeeljgaa.G
open Go.RowKit Go.Proofs.YtikikmkfeeljgaaW.PrintWords Go.Proofs.YtikikmkfeeljgaaW.PrintLast Go.Proofs.YtikikmkfeeljgaaW.PrintMore
attribute [local go_sem] max2_int min2_int max_two min_two max_three min_three max_four min_four   -- for this text's walks alone
set_option linter.unusedVariables false
set_option linter.unusedSimpArgs false
/-! ### verdererref15_Check: function 13 -/
def verdererref15_Check.l0 : Nat → Bool → Int → Int → ByteArray → List ByteArray → Int → ByteArray → Int → List (S41) → Option (Int × Int)
 | 0, _, _, _, _, _, _, _, _, _ => none
 | k + 1, x4, x5, x396000, x396001, x396002, x396003, x396004, x396005, x396006 => if x5 < (x396006.length : Int) then (if x4 = true then (verdererref15_Check.l0 k true (wrap64 (x5 + 1)) x396000 x396001 x396002 x396003 x396004 x396005 x396006) else (if 0 ≤ x5 then ((verdererref15_atom.f ((rd_T41 x396006 x5).f0) ((rd_T41 x396006 x5).f1) ((rd_T41 x396006 x5).f2) ((rd_T41 x396006 x5).f3)).bind fun t397 => (verdererref15_Check.l0 k t397 (wrap64 (x5 + 1)) x396000 x396001 x396002 x396003 x396004 x396005 x396006)) else (none))) else (if x4 = true then ((verdererref15_Free.f k x396000 x396001 x396002 x396003 x396004 x396005 x396006).bind fun bt398 => (if bt398.2.2 = true then (some (bt398.2.1, 12)) else (some (0, 0)))) else (some ((-1), 12)))
def verdererref15_Check.f (k : Nat) (a0_0 : Int) (a0_1 : ByteArray) (l0_2 : List ByteArray) (a0_3 : Int) (a0_4 : ByteArray) (a0_5 : Int) (l0_6 : List (S41)) : Option (Int × Int) := verdererref15_Check.l0 k false 0 a0_0 a0_1 l0_2 a0_3 a0_4 a0_5 l0_6
set_option maxHeartbeats 8000000 in
set_option maxRecDepth 100000 in
theorem verdererref15_Check.calls (k : Nat) (a0_0 : Int) (a0_1 : ByteArray) (A0_2 : Option Addr) (c0_2 : Nat) (l0_2 : List ByteArray) (a0_3 : Int) (a0_4 : ByteArray) (a0_5 : Int) (A0_6 : Option Addr) (c0_6 : Nat) (l0_6 : List (S41)) (r1 : Int) (r2 : Int) (w : World) (hr0_2 : Kd.C Kd.string w A0_2 l0_2.length l0_2) (hc0_2 : l0_2.length ≤ c0_2) (hr0_6 : Kd.C k41 w A0_6 l0_6.length l0_6) (hc0_6 : l0_6.length ≤ c0_6) (h : verdererref15_Check.f k a0_0 a0_1 l0_2 a0_3 a0_4 a0_5 l0_6 = some (r1, r2)) :
  Calls Try.prog 13 #[.agg #[.int .i64 a0_0, .string a0_1, .slice A0_2 l0_2.length c0_2, .int .i64 a0_3, .string a0_4, .int .i64 a0_5, .slice A0_6 l0_6.length c0_6]] w fun e w' => e = .returned (.tuple #[.int .i64 r1, .int .i64 r2]) ∧ Below w.heap.size w w' := by
 have hu25 := Try.underlying25
 have hu41 := Try.underlying41
 have HR0_2 := Aside0.mk hr0_2
 have HC0_2 := Aside0.mk hc0_2
 clear hr0_2 hc0_2
 have HR0_6 := Aside0.mk hr0_6
 have HC0_6 := Aside0.mk hc0_6
 clear hr0_6 hc0_6
 have HB := Aside0.mk (Below.refl w.heap.size w)
 have H : (verdererref15_Check.l0 k false 0 a0_0 a0_1 l0_2 a0_3 a0_4 a0_5 l0_6) = some (r1, r2) := h
 clear h
 have H' := Aside0.mk H
 clear H
 go_enter Try.func13, Try.ntmps13
 go_wp2_with (first | ((with_reducible refine gate_dst (N := 1) rfl ?_); refine box_event ?hg (N := 1) ?hd (cs := #[.int .i64 a0_0, .string a0_1, .slice A0_2 l0_2.length c0_2, .int .i64 a0_3, .string a0_4, .int .i64 a0_5, .slice A0_6 l0_6.length c0_6]) (t := 25) ?hr ?_; (case hd => rfl); (case hg => rfl); (case hr => first | (go_simp; done) | (go_simp; rfl)); intro gb395 hg w2 hbox hb; have n0_ := Aside0.mk (below_step (by with_reducible exact HB.out) hb); have n1_ := Aside0.mk (hbox); have n2_ := Aside0.mk ((by rw [hg]; exact (below_size (by with_reducible exact HB.out)) : w.heap.size ≤ gb395)); have n3_ := Aside0.mk ((by rw [hg]; exact (below_size (by with_reducible exact HB.out)) : w.heap.size ≤ gb395)); clear HB; have HB := n0_; have BK395 := n1_; have GW395 := n2_; have GE395 := n3_; clear n0_ n1_ n2_ n3_ hb hbox hg))
 go_loopg [4, 5] k (fun kq v4 v5 w' => ∃ (x4_1 : Bool) (x5_1 : Int), v4 = .bool x4_1 ∧ v5 = .int .i64 x5_1 ∧ Aside0 (verdererref15_Check.l0 kq x4_1 x5_1 a0_0 a0_1 l0_2 a0_3 a0_4 a0_5 l0_6 = some (r1, r2)) ∧ Aside0 (kq ≤ k) ∧ Aside0 (w'.heap[gb395]? = some (.cells #[.int .i64 a0_0, .string a0_1, (.slice A0_2 l0_2.length c0_2), .int .i64 a0_3, .string a0_4, .int .i64 a0_5, (.slice A0_6 l0_6.length c0_6)] 25 (0, 0))) ∧ Aside0 (Below w.heap.size w w'))
 case atStart => exact ⟨(false), (0), rfl, rfl, H', ⟨Nat.le_refl _⟩, ⟨by exact BK395.out⟩, ⟨by with_reducible exact HB.out⟩⟩
 case round =>
  clear H'
  obtain ⟨x4_1, x5_1, rfl, rfl, HA, HK1, BK395, HB⟩ := hrel
  cases gk with
  | zero => exact absurd HA.out (by simp [verdererref15_Check.l0])
  | succ k1 =>
   have H := HA.out
   clear HA
   simp only [verdererref15_Check.l0] at H
   by_cases c3 : x5_1 < (l0_6.length : Int)
   ·
    rw [if_pos c3] at H
    have c3b0 : decide (x5_1 < (l0_6.length : Int)) = true := decide_eq_true c3
    clear c3
    by_cases c4 : x4_1 = true
    ·
     subst c4
     have H1 : (verdererref15_Check.l0 k1 true (wrap64 (x5_1 + 1)) a0_0 a0_1 l0_2 a0_3 a0_4 a0_5 l0_6) = some (r1, r2) := by rw [if_pos rfl] at H; exact H
     clear H
     have H := H1
     clear H1
     have H' := Aside0.mk H
     clear H
     have hcz5_0 : wr.cell? ⟨gb395, 0, none⟩ = some (.int .i64 a0_0) := (blk_cell BK395.out 0).trans rfl
     have hcz5_1 : wr.cell? ⟨gb395, 1, none⟩ = some (.string a0_1) := (blk_cell BK395.out 1).trans rfl
     have hcz5_2 : wr.cell? ⟨gb395, 2, none⟩ = some (.slice A0_2 l0_2.length c0_2) := (blk_cell BK395.out 2).trans rfl
     have hcz5_3 : wr.cell? ⟨gb395, 3, none⟩ = some (.int .i64 a0_3) := (blk_cell BK395.out 3).trans rfl
     have hcz5_4 : wr.cell? ⟨gb395, 4, none⟩ = some (.string a0_4) := (blk_cell BK395.out 4).trans rfl
     have hcz5_5 : wr.cell? ⟨gb395, 5, none⟩ = some (.int .i64 a0_5) := (blk_cell BK395.out 5).trans rfl
     have hcz5_6 : wr.cell? ⟨gb395, 6, none⟩ = some (.slice A0_6 l0_6.length c0_6) := (blk_cell BK395.out 6).trans rfl
     have hfz5_0 := blk_frozen BK395.out 0
     have hfz5_1 := blk_frozen BK395.out 1
     have hfz5_2 := blk_frozen BK395.out 2
     have hfz5_3 := blk_frozen BK395.out 3
     have hfz5_4 := blk_frozen BK395.out 4
     have hfz5_5 := blk_frozen BK395.out 5
     have hfz5_6 := blk_frozen BK395.out 6
     go_wp2
     go_roundg k1
     case measure => have := HK1.out; omega
     case rel => exact ⟨(true), (wrap64 (x5_1 + 1)), rfl, rfl, H', ⟨by have := HK1.out; omega⟩, ⟨by exact BK395.out⟩, ⟨by with_reducible exact HB.out⟩⟩
    ·
     replace c4 := Bool.eq_false_iff.mpr c4
     subst c4
     have H1 : (if 0 ≤ x5_1 then ((verdererref15_atom.f ((rd_T41 l0_6 x5_1).f0) ((rd_T41 l0_6 x5_1).f1) ((rd_T41 l0_6 x5_1).f2) ((rd_T41 l0_6 x5_1).f3)).bind fun t397 => (verdererref15_Check.l0 k1 t397 (wrap64 (x5_1 + 1)) a0_0 a0_1 l0_2 a0_3 a0_4 a0_5 l0_6)) else (none)) = some (r1, r2) := by rw [if_neg (show ¬ (false = true) by decide)] at H; exact H
     clear H
     have H := H1
     clear H1
     by_cases c6 : 0 ≤ x5_1
     ·
      rw [if_pos c6] at H
      have c6b0 : decide (0 ≤ x5_1) = true := decide_eq_true c6
      clear c6
      replace H := Option.bind_eq_some_iff.mp H
      obtain ⟨t397, A70, H⟩ := H
      replace H : (verdererref15_Check.l0 k1 t397 (wrap64 (x5_1 + 1)) a0_0 a0_1 l0_2 a0_3 a0_4 a0_5 l0_6) = some (r1, r2) := H
      have A7 := Aside0.mk A70
      clear A70
      have H' := Aside0.mk H
      clear H
      have hcz8_0 : wr.cell? ⟨gb395, 0, none⟩ = some (.int .i64 a0_0) := (blk_cell BK395.out 0).trans rfl
      have hcz8_1 : wr.cell? ⟨gb395, 1, none⟩ = some (.string a0_1) := (blk_cell BK395.out 1).trans rfl
      have hcz8_2 : wr.cell? ⟨gb395, 2, none⟩ = some (.slice A0_2 l0_2.length c0_2) := (blk_cell BK395.out 2).trans rfl
      have hcz8_3 : wr.cell? ⟨gb395, 3, none⟩ = some (.int .i64 a0_3) := (blk_cell BK395.out 3).trans rfl
      have hcz8_4 : wr.cell? ⟨gb395, 4, none⟩ = some (.string a0_4) := (blk_cell BK395.out 4).trans rfl
      have hcz8_5 : wr.cell? ⟨gb395, 5, none⟩ = some (.int .i64 a0_5) := (blk_cell BK395.out 5).trans rfl
      have hcz8_6 : wr.cell? ⟨gb395, 6, none⟩ = some (.slice A0_6 l0_6.length c0_6) := (blk_cell BK395.out 6).trans rfl
      have hfz8_0 := blk_frozen BK395.out 0
      have hfz8_1 := blk_frozen BK395.out 1
      have hfz8_2 := blk_frozen BK395.out 2
      have hfz8_3 := blk_frozen BK395.out 3
      have hfz8_4 := blk_frozen BK395.out 4
      have hfz8_5 := blk_frozen BK395.out 5
      have hfz8_6 := blk_frozen BK395.out 6
      have p396 : 0 ≤ (x5_1 : Int) := of_decide_eq_true (by first | (with_reducible assumption) | assumption)
      have q396 : x5_1 < (l0_6.length : Int) := of_decide_eq_true (by first | (with_reducible assumption) | assumption)
      obtain ⟨ad396, A396_2, c396_2, e396, hx396_0, hx396_1, hx396_2, hx396_3, hl396_2, hi396_2⟩ := at_T41 HR0_6.out x5_1 p396 q396
      cases e396
      replace hx396_0 := (HB.out.cell (World.block_lt_of_cell? w _ hx396_0)).trans hx396_0
      replace hx396_1 := (HB.out.cell (World.block_lt_of_cell? w _ hx396_1)).trans hx396_1
      replace hx396_2 := (HB.out.cell (World.block_lt_of_cell? w _ hx396_2)).trans hx396_2
      replace hx396_3 := (HB.out.cell (World.block_lt_of_cell? w _ hx396_3)).trans hx396_3
      have HR396_2 := Aside0.mk hi396_2
      have HC396_2 := Aside0.mk hl396_2
      clear hi396_2 hl396_2
      replace p396 := eq_true p396
      replace q396 := eq_true q396
      go_wp2_with (first | (go_at_call 32; (with_reducible refine (verdererref15_atom.calls ((rd_T41 l0_6 x5_1).f0) ((rd_T41 l0_6 x5_1).f1) _ _ ((rd_T41 l0_6 x5_1).f2) ((rd_T41 l0_6 x5_1).f3) t397 _ ?side1 ?side2 A7.out).mono ?_); (case side1 => exact (Kd.C_below HR396_2.out HB.out)); (case side2 => exact HC396_2.out); rintro e w9 ⟨rfl, hb⟩; have n0_ := Aside0.mk (blk_below (g := gb395) (o := .cells #[.int .i64 a0_0, .string a0_1, .slice A0_2 l0_2.length c0_2, .int .i64 a0_3, .string a0_4, .int .i64 a0_5, .slice (some ad396) l0_6.length c0_6] 25 (0, 0)) (by exact BK395.out) hb); have n1_ := Aside0.mk (below_step (by with_reducible exact HB.out) hb); clear BK395 HB; have BK395 := n0_; have HB := n1_; clear n0_ n1_ hb))
      go_roundg k1
      case measure => have := HK1.out; omega
      case rel => exact ⟨(t397), (wrap64 (x5_1 + 1)), rfl, rfl, H', ⟨by have := HK1.out; omega⟩, ⟨by exact BK395.out⟩, ⟨by with_reducible exact HB.out⟩⟩
     ·
      rw [if_neg c6] at H
      exact absurd H (by simp)
   ·
    rw [if_neg c3] at H
    have c3b0 : decide (x5_1 < (l0_6.length : Int)) = false := decide_eq_false c3
    clear c3
    by_cases c10 : x4_1 = true
    ·
     subst c10
     have H1 : ((verdererref15_Free.f k1 a0_0 a0_1 l0_2 a0_3 a0_4 a0_5 l0_6).bind fun bt398 => (if bt398.2.2 = true then (some (bt398.2.1, 12)) else (some (0, 0)))) = some (r1, r2) := by rw [if_pos rfl] at H; exact H
     clear H
     have H := H1
     clear H1
     replace H := Option.bind_eq_some_iff.mp H
     obtain ⟨⟨t398, t399, t400⟩, A110, H⟩ := H
     replace H : (if t400 = true then (some (t399, 12)) else (some (0, 0))) = some (r1, r2) := H
     have A11 := Aside0.mk A110
     clear A110
     by_cases c12 : t400 = true
     ·
      subst c12
      have H1 : (some (t399, 12)) = some (r1, r2) := by rw [if_pos rfl] at H; exact H
      clear H
      have H := H1
      clear H1
      simp only [Option.some.injEq, Prod.mk.injEq] at H
      obtain ⟨rfl, rfl⟩ := H
      have hcz13_0 : wr.cell? ⟨gb395, 0, none⟩ = some (.int .i64 a0_0) := (blk_cell BK395.out 0).trans rfl
      have hcz13_1 : wr.cell? ⟨gb395, 1, none⟩ = some (.string a0_1) := (blk_cell BK395.out 1).trans rfl
      have hcz13_2 : wr.cell? ⟨gb395, 2, none⟩ = some (.slice A0_2 l0_2.length c0_2) := (blk_cell BK395.out 2).trans rfl
      have hcz13_3 : wr.cell? ⟨gb395, 3, none⟩ = some (.int .i64 a0_3) := (blk_cell BK395.out 3).trans rfl
      have hcz13_4 : wr.cell? ⟨gb395, 4, none⟩ = some (.string a0_4) := (blk_cell BK395.out 4).trans rfl
      have hcz13_5 : wr.cell? ⟨gb395, 5, none⟩ = some (.int .i64 a0_5) := (blk_cell BK395.out 5).trans rfl
      have hcz13_6 : wr.cell? ⟨gb395, 6, none⟩ = some (.slice A0_6 l0_6.length c0_6) := (blk_cell BK395.out 6).trans rfl
      have hfz13_0 := blk_frozen BK395.out 0
      have hfz13_1 := blk_frozen BK395.out 1
      have hfz13_2 := blk_frozen BK395.out 2
      have hfz13_3 := blk_frozen BK395.out 3
      have hfz13_4 := blk_frozen BK395.out 4
      have hfz13_5 := blk_frozen BK395.out 5
      have hfz13_6 := blk_frozen BK395.out 6
      go_wp2_with (first | ((with_reducible refine gate_callee (f := 11) rfl ?_); refine goesL_ (some 29) rfl rfl Try.func11 (by kernel_rfl) rfl #[.agg #[.int .i64 a0_0, .string a0_1, .slice A0_2 l0_2.length c0_2, .int .i64 a0_3, .string a0_4, .int .i64 a0_5, .slice A0_6 l0_6.length c0_6]] rfl (by (try simp only [List.map_toArray, List.map_cons, List.map_nil]); first | done | rfl | (simp only [List.length_drop, List.length_take]; rfl)) ?_; (with_reducible refine (verdererref15_Free.calls k1 a0_0 a0_1 _ _ l0_2 a0_3 a0_4 a0_5 _ _ l0_6 t398 t399 true _ ?side1 ?side2 ?side3 ?side4 A11.out).mono ?_); (case side1 => exact (Kd.C_below HR0_2.out HB.out)); (case side2 => exact HC0_2.out); (case side3 => exact (Kd.C_below HR0_6.out HB.out)); (case side4 => exact HC0_6.out); rintro e w14 ⟨rfl, hb⟩; refine ⟨_, rfl, ?_⟩; have n0_ := Aside0.mk (blk_below (g := gb395) (o := .cells #[.int .i64 a0_0, .string a0_1, .slice A0_2 l0_2.length c0_2, .int .i64 a0_3, .string a0_4, .int .i64 a0_5, .slice A0_6 l0_6.length c0_6] 25 (0, 0)) (by exact BK395.out) hb); have n1_ := Aside0.mk (below_step (by with_reducible exact HB.out) hb); clear BK395 HB; have BK395 := n0_; have HB := n1_; clear n0_ n1_ hb))
      go_ret2
      exact ⟨rfl, by with_reducible exact HB.out⟩
     ·
      replace c12 := Bool.eq_false_iff.mpr c12
      subst c12
      have H1 : (some (0, 0)) = some (r1, r2) := by rw [if_neg (show ¬ (false = true) by decide)] at H; exact H
      clear H
      have H := H1
      clear H1
      simp only [Option.some.injEq, Prod.mk.injEq] at H
      obtain ⟨rfl, rfl⟩ := H
      have hcz15_0 : wr.cell? ⟨gb395, 0, none⟩ = some (.int .i64 a0_0) := (blk_cell BK395.out 0).trans rfl
      have hcz15_1 : wr.cell? ⟨gb395, 1, none⟩ = some (.string a0_1) := (blk_cell BK395.out 1).trans rfl
      have hcz15_2 : wr.cell? ⟨gb395, 2, none⟩ = some (.slice A0_2 l0_2.length c0_2) := (blk_cell BK395.out 2).trans rfl
      have hcz15_3 : wr.cell? ⟨gb395, 3, none⟩ = some (.int .i64 a0_3) := (blk_cell BK395.out 3).trans rfl
      have hcz15_4 : wr.cell? ⟨gb395, 4, none⟩ = some (.string a0_4) := (blk_cell BK395.out 4).trans rfl
      have hcz15_5 : wr.cell? ⟨gb395, 5, none⟩ = some (.int .i64 a0_5) := (blk_cell BK395.out 5).trans rfl
      have hcz15_6 : wr.cell? ⟨gb395, 6, none⟩ = some (.slice A0_6 l0_6.length c0_6) := (blk_cell BK395.out 6).trans rfl
      have hfz15_0 := blk_frozen BK395.out 0
      have hfz15_1 := blk_frozen BK395.out 1
      have hfz15_2 := blk_frozen BK395.out 2
      have hfz15_3 := blk_frozen BK395.out 3
      have hfz15_4 := blk_frozen BK395.out 4
      have hfz15_5 := blk_frozen BK395.out 5
      have hfz15_6 := blk_frozen BK395.out 6
      go_wp2_with (first | ((with_reducible refine gate_callee (f := 11) rfl ?_); refine goesL_ (some 29) rfl rfl Try.func11 (by kernel_rfl) rfl #[.agg #[.int .i64 a0_0, .string a0_1, .slice A0_2 l0_2.length c0_2, .int .i64 a0_3, .string a0_4, .int .i64 a0_5, .slice A0_6 l0_6.length c0_6]] rfl (by (try simp only [List.map_toArray, List.map_cons, List.map_nil]); first | done | rfl | (simp only [List.length_drop, List.length_take]; rfl)) ?_; (with_reducible refine (verdererref15_Free.calls k1 a0_0 a0_1 _ _ l0_2 a0_3 a0_4 a0_5 _ _ l0_6 t398 t399 false _ ?side1 ?side2 ?side3 ?side4 A11.out).mono ?_); (case side1 => exact (Kd.C_below HR0_2.out HB.out)); (case side2 => exact HC0_2.out); (case side3 => exact (Kd.C_below HR0_6.out HB.out)); (case side4 => exact HC0_6.out); rintro e w16 ⟨rfl, hb⟩; refine ⟨_, rfl, ?_⟩; have n0_ := Aside0.mk (blk_below (g := gb395) (o := .cells #[.int .i64 a0_0, .string a0_1, .slice A0_2 l0_2.length c0_2, .int .i64 a0_3, .string a0_4, .int .i64 a0_5, .slice A0_6 l0_6.length c0_6] 25 (0, 0)) (by exact BK395.out) hb); have n1_ := Aside0.mk (below_step (by with_reducible exact HB.out) hb); clear BK395 HB; have BK395 := n0_; have HB := n1_; clear n0_ n1_ hb))
      go_ret2
      exact ⟨rfl, by with_reducible exact HB.out⟩
    ·
     replace c10 := Bool.eq_false_iff.mpr c10
     subst c10
     have H1 : (some ((-1), 12)) = some (r1, r2) := by rw [if_neg (show ¬ (false = true) by decide)] at H; exact H
     clear H
     have H := H1
     clear H1
     simp only [Option.some.injEq, Prod.mk.injEq] at H
     obtain ⟨rfl, rfl⟩ := H
     have hcz17_0 : wr.cell? ⟨gb395, 0, none⟩ = some (.int .i64 a0_0) := (blk_cell BK395.out 0).trans rfl
     have hcz17_1 : wr.cell? ⟨gb395, 1, none⟩ = some (.string a0_1) := (blk_cell BK395.out 1).trans rfl
     have hcz17_2 : wr.cell? ⟨gb395, 2, none⟩ = some (.slice A0_2 l0_2.length c0_2) := (blk_cell BK395.out 2).trans rfl
     have hcz17_3 : wr.cell? ⟨gb395, 3, none⟩ = some (.int .i64 a0_3) := (blk_cell BK395.out 3).trans rfl
     have hcz17_4 : wr.cell? ⟨gb395, 4, none⟩ = some (.string a0_4) := (blk_cell BK395.out 4).trans rfl
     have hcz17_5 : wr.cell? ⟨gb395, 5, none⟩ = some (.int .i64 a0_5) := (blk_cell BK395.out 5).trans rfl
     have hcz17_6 : wr.cell? ⟨gb395, 6, none⟩ = some (.slice A0_6 l0_6.length c0_6) := (blk_cell BK395.out 6).trans rfl
     have hfz17_0 := blk_frozen BK395.out 0
     have hfz17_1 := blk_frozen BK395.out 1
     have hfz17_2 := blk_frozen BK395.out 2
     have hfz17_3 := blk_frozen BK395.out 3
     have hfz17_4 := blk_frozen BK395.out 4
     have hfz17_5 := blk_frozen BK395.out 5
     have hfz17_6 := blk_frozen BK395.out 6
     go_wp2
     go_ret2
     exact ⟨rfl, by with_reducible exact HB.out⟩
/-! ### verdererref09_Texts: function 14 -/
def verdererref09_Texts.l0 : Nat → List ByteArray → List ByteArray → Int → Option (Bool)
 | 0, _, _, _ => none
 | k + 1, x0, x1, x5 => if x5 < (x0.length : Int) then (if 0 ≤ x5 then (if x5 < (x1.length : Int) then (if (rdOf ByteArray.empty x0 x5).toList = (rdOf ByteArray.empty x1 x5).toList then (verdererref09_Texts.l0 k x0 x1 (wrap64 (x5 + 1))) else (some false)) else (none)) else (none)) else (some true)
def verdererref09_Texts.f (k : Nat) (l0 : List ByteArray) (l1 : List ByteArray) : Option (Bool) := if (l0.length : Int) = (l1.length : Int) then (verdererref09_Texts.l0 k l0 l1 0) else (some false)
set_option maxHeartbeats 8000000 in
set_option maxRecDepth 100000 in
theorem verdererref09_Texts.calls (k : Nat) (A0 : Option Addr) (c0 : Nat) (l0 : List ByteArray) (A1 : Option Addr) (c1 : Nat) (l1 : List ByteArray) (r : Bool) (w : World) (hr0 : Kd.C Kd.string w A0 l0.length l0) (hc0 : l0.length ≤ c0) (hr1 : Kd.C Kd.string w A1 l1.length l1) (hc1 : l1.length ≤ c1) (h : verdererref09_Texts.f k l0 l1 = some r) :
  Calls Try.prog 14 #[.slice A0 l0.length c0, .slice A1 l1.length c1] w fun e w' => e = .returned (.bool r) ∧ Drawn0 w w' := by
 have HR0 := Aside0.mk hr0
 have HC0 := Aside0.mk hc0
 clear hr0 hc0
 have HR1 := Aside0.mk hr1
 have HC1 := Aside0.mk hc1
 clear hr1 hc1
 have H : (if (l0.length : Int) = (l1.length : Int) then (verdererref09_Texts.l0 k l0 l1 0) else (some false)) = some r := h
 clear h
 by_cases c3 : (l0.length : Int) = (l1.length : Int)
 ·
  rw [if_pos c3] at H
  have c3b0 : ((l0.length : Int) == (l1.length : Int)) = true := beq_iff_eq.mpr c3
  have c3b1 : ((l0.length : Int) != (l1.length : Int)) = false := bne_eq_false_iff_eq.mpr c3
  have c3b2 : (l0.length == l1.length) = true := by first | simpa using c3 | (simp at c3 ⊢; omega)
  clear c3
  have H' := Aside0.mk H
  clear H
  go_enter Try.func14, Try.ntmps14
  go_wp2
  repeat (go_quiet (fail); try go_wp2)
  go_loopg [5] k (fun kq v5 w' => ∃ (x5_1 : Int), v5 = .int .i64 x5_1 ∧ Aside0 (verdererref09_Texts.l0 kq l0 l1 x5_1 = some r) ∧ Aside0 (kq ≤ k) ∧ Drawn0 w w')
  case atStart => exact ⟨(0), rfl, H', ⟨Nat.le_refl _⟩, by repeat (first | exact Drawn0.refl _ | apply Drawn0.step)⟩
  case round =>
   clear H'
   clear c3b0 c3b1 c3b2
   obtain ⟨x5_1, rfl, HA, HK1, ⟨m1, rfl⟩⟩ := hrel
   cases gk with
   | zero => exact absurd HA.out (by simp [verdererref09_Texts.l0])
   | succ k1 =>
    have H := HA.out
    clear HA
    simp only [verdererref09_Texts.l0] at H
    by_cases c4 : x5_1 < (l0.length : Int)
    ·
     rw [if_pos c4] at H
     have c4b0 : decide (x5_1 < (l0.length : Int)) = true := decide_eq_true c4
     clear c4
     by_cases c5 : 0 ≤ x5_1
     ·
      rw [if_pos c5] at H
      have c5b0 : decide (0 ≤ x5_1) = true := decide_eq_true c5
      clear c5
      by_cases c6 : x5_1 < (l1.length : Int)
      ·
       rw [if_pos c6] at H
       have c6b0 : decide (x5_1 < (l1.length : Int)) = true := decide_eq_true c6
       clear c6
       by_cases c7 : (rdOf ByteArray.empty l0 x5_1).toList = (rdOf ByteArray.empty l1 x5_1).toList
       ·
        rw [if_pos c7] at H
        have c7b0 : ((rdOf ByteArray.empty l0 x5_1).toList == (rdOf ByteArray.empty l1 x5_1).toList) = true := beq_iff_eq.mpr c7
        have c7b1 : ((rdOf ByteArray.empty l0 x5_1).toList != (rdOf ByteArray.empty l1 x5_1).toList) = false := bne_eq_false_iff_eq.mpr c7
        clear c7
        have H' := Aside0.mk H
        clear H
        have p401 : 0 ≤ (x5_1 : Int) := of_decide_eq_true (by first | (with_reducible assumption) | assumption)
        have q401 : x5_1 < (l0.length : Int) := of_decide_eq_true (by first | (with_reducible assumption) | assumption)
        obtain ⟨ad401, e401, hx401_0⟩ := Kd.at_string HR0.out x5_1 p401 q401
        cases e401
        replace p401 := eq_true p401
        replace q401 := eq_true q401
        have p402 : 0 ≤ (x5_1 : Int) := of_decide_eq_true (by first | (with_reducible assumption) | assumption)
        have q402 : x5_1 < (l1.length : Int) := of_decide_eq_true (by first | (with_reducible assumption) | assumption)
        obtain ⟨ad402, e402, hx402_0⟩ := Kd.at_string HR1.out x5_1 p402 q402
        cases e402
        replace p402 := eq_true p402
        replace q402 := eq_true q402
        go_wp2
        repeat (go_quiet (fail); try go_wp2)
        go_roundg k1
        case measure => have := HK1.out; omega
        case rel => exact ⟨(wrap64 (x5_1 + 1)), rfl, H', ⟨by have := HK1.out; omega⟩, by repeat (first | exact Drawn0.refl _ | apply Drawn0.step)⟩
       ·
        rw [if_neg c7] at H
        have c7b0 : ((rdOf ByteArray.empty l0 x5_1).toList == (rdOf ByteArray.empty l1 x5_1).toList) = false := beq_eq_false_iff_ne.mpr c7
        have c7b1 : ((rdOf ByteArray.empty l0 x5_1).toList != (rdOf ByteArray.empty l1 x5_1).toList) = true := bne_iff_ne.mpr c7
        obtain rfl := Option.some.inj H
        have p401 : 0 ≤ (x5_1 : Int) := of_decide_eq_true (by first | (with_reducible assumption) | assumption)
        have q401 : x5_1 < (l0.length : Int) := of_decide_eq_true (by first | (with_reducible assumption) | assumption)
        obtain ⟨ad401, e401, hx401_0⟩ := Kd.at_string HR0.out x5_1 p401 q401
        cases e401
        replace p401 := eq_true p401
        replace q401 := eq_true q401
        have p402 : 0 ≤ (x5_1 : Int) := of_decide_eq_true (by first | (with_reducible assumption) | assumption)
        have q402 : x5_1 < (l1.length : Int) := of_decide_eq_true (by first | (with_reducible assumption) | assumption)
        obtain ⟨ad402, e402, hx402_0⟩ := Kd.at_string HR1.out x5_1 p402 q402
        cases e402
        replace p402 := eq_true p402
        replace q402 := eq_true q402
        go_wp2
        repeat (go_quiet (fail); try go_wp2)
        go_ret
        exact ⟨by first | rfl | (simp; done) | (simp [*]; done), by repeat (first | exact Drawn0.refl _ | apply Drawn0.step)⟩
      ·
       rw [if_neg c6] at H
       exact absurd H (by simp)
     ·
      rw [if_neg c5] at H
      exact absurd H (by simp)
    ·
     rw [if_neg c4] at H
     have c4b0 : decide (x5_1 < (l0.length : Int)) = false := decide_eq_false c4
     clear c4
     obtain rfl := Option.some.inj H
     go_wp2
     repeat (go_quiet (fail); try go_wp2)
     go_ret
     exact ⟨by first | rfl | (simp; done) | (simp [*]; done), by repeat (first | exact Drawn0.refl _ | apply Drawn0.step)⟩
 ·
  rw [if_neg c3] at H
  have c3b0 : ((l0.length : Int) == (l1.length : Int)) = false := beq_eq_false_iff_ne.mpr c3
  have c3b1 : ((l0.length : Int) != (l1.length : Int)) = true := bne_iff_ne.mpr c3
  have c3b2 : (l0.length == l1.length) = false := by first | simpa using c3 | (simp at c3 ⊢; omega)
  obtain rfl := Option.some.inj H
  go_enter Try.func14, Try.ntmps14
  go_wp2
  repeat (go_quiet (fail); try go_wp2)
  go_ret
  exact ⟨by first | rfl | (simp; done) | (simp [*]; done), by repeat (first | exact Drawn0.refl _ | apply Drawn0.step)⟩
/-! ### verdererlaw15_GuardTells: function 3 -/
/-- what the law asks, all of it -/
def verdererlaw15_GuardTells.f (k : Nat) (a0_0 : Int) (a0_1 : ByteArray) (l0_2 : List ByteArray) (a0_3 : Int) (a0_4 : ByteArray) (a0_5 : Int) (l0_6 : List (S41)) : Option Bool :=
 (verdererref13_Few.f k a0_0 a0_1 l0_2 a0_3 a0_4 a0_5 l0_6).bind fun fw => if fw = true then
  (guard_Free.f k a0_0 a0_1 l0_2 a0_3 a0_4 a0_5 l0_6).bind fun a => (verdererref15_Free.f k a0_0 a0_1 l0_2 a0_3 a0_4 a0_5 l0_6).bind fun b => (guard_Check.f k a0_0 a0_1 l0_2 a0_3 a0_4 a0_5 l0_6).bind fun c => (verdererref15_Check.f k a0_0 a0_1 l0_2 a0_3 a0_4 a0_5 l0_6).bind fun d => (guard_Bound.f k a0_0 a0_1 l0_2 a0_3 a0_4 a0_5 l0_6).bind fun x => (verdererref15_Bound.f k a0_0 a0_1 l0_2 a0_3 a0_4 a0_5 l0_6).bind fun y => (verdererref09_Texts.f k x y).bind fun t =>
   if a = b ∧ c = d ∧ t = true then verdererlaw15_known.f k else none
 else verdererlaw15_known.f k
set_option maxHeartbeats 8000000 in
set_option maxRecDepth 100000 in
theorem verdererlaw15_GuardTells.calls (k : Nat) (a0_0 : Int) (a0_1 : ByteArray) (A0_2 : Option Addr) (c0_2 : Nat) (l0_2 : List ByteArray) (a0_3 : Int) (a0_4 : ByteArray) (a0_5 : Int) (A0_6 : Option Addr) (c0_6 : Nat) (l0_6 : List (S41)) (r : Bool) (w : World) (hr0_2 : Kd.C Kd.string w A0_2 l0_2.length l0_2) (hc0_2 : l0_2.length ≤ c0_2) (hr0_6 : Kd.C k41 w A0_6 l0_6.length l0_6) (hc0_6 : l0_6.length ≤ c0_6) (h : verdererlaw15_GuardTells.f k a0_0 a0_1 l0_2 a0_3 a0_4 a0_5 l0_6 = some r) :
  Calls Try.prog 3 #[.agg #[.int .i64 a0_0, .string a0_1, .slice A0_2 l0_2.length c0_2, .int .i64 a0_3, .string a0_4, .int .i64 a0_5, .slice A0_6 l0_6.length c0_6]] w fun e w' => e = .returned (.bool r) ∧ Below w.heap.size w w' := by
 unfold verdererlaw15_GuardTells.f at h
 obtain ⟨fw, hfw, h⟩ := Option.bind_eq_some_iff.1 h
 have hu := Try.underlying25
 have HF := Aside0.mk hfw
 have H := Aside0.mk h
 clear hfw h
 go_enter Try.func3, Try.ntmps3
 have BX1 : (w.alloc (.cells #[.int .i64 a0_0, .string a0_1, .slice A0_2 l0_2.length c0_2, .int .i64 a0_3, .string a0_4, .int .i64 a0_5, .slice A0_6 l0_6.length c0_6] 25)).heap[w.heap.size]? = some (.cells #[.int .i64 a0_0, .string a0_1, .slice A0_2 l0_2.length c0_2, .int .i64 a0_3, .string a0_4, .int .i64 a0_5, .slice A0_6 l0_6.length c0_6] 25 (0, 0)) := by simpa using heap_alloc_new w _
 have hB1 := below_alloc (Below.refl w.heap.size w) (.cells #[.int .i64 a0_0, .string a0_1, .slice A0_2 l0_2.length c0_2, .int .i64 a0_3, .string a0_4, .int .i64 a0_5, .slice A0_6 l0_6.length c0_6] 25)
 go_wp2_with fail
 refine (verdererref13_Few.calls k a0_0 a0_1 A0_2 c0_2 l0_2 a0_3 a0_4 a0_5 A0_6 c0_6 l0_6 fw _ (Kd.C_below hr0_2 hB1) hc0_2 (Kd.C_below hr0_6 hB1) hc0_6 HF.out).mono ?_
 rintro e w2 ⟨rfl, hb2⟩
 have BX2 := (hb2.block _ (blk_lt BX1)).trans BX1
 have hB2 := hB1.trans (hb2.mono hB1.size)
 clear BX1 hB1 hb2
 have x0 : w2.cell? ⟨w.heap.size, 0, none⟩ = some (.int .i64 a0_0) := (blk_cell BX2 0).trans rfl
 have x1 : w2.cell? ⟨w.heap.size, 1, none⟩ = some (.string a0_1) := (blk_cell BX2 1).trans rfl
 have x2 : w2.cell? ⟨w.heap.size, 2, none⟩ = some (.slice A0_2 l0_2.length c0_2) := (blk_cell BX2 2).trans rfl
 have x3 : w2.cell? ⟨w.heap.size, 3, none⟩ = some (.int .i64 a0_3) := (blk_cell BX2 3).trans rfl
 have x4 : w2.cell? ⟨w.heap.size, 4, none⟩ = some (.string a0_4) := (blk_cell BX2 4).trans rfl
 have x5 : w2.cell? ⟨w.heap.size, 5, none⟩ = some (.int .i64 a0_5) := (blk_cell BX2 5).trans rfl
 have x6 : w2.cell? ⟨w.heap.size, 6, none⟩ = some (.slice A0_6 l0_6.length c0_6) := (blk_cell BX2 6).trans rfl
 cases fw with
 | false =>
  have h := H.out
  rw [if_neg (by decide)] at h
  go_wp2_with fail
  refine (verdererlaw15_known.calls k r _ h).mono ?_
  rintro e w3 ⟨rfl, hb3⟩
  go_wp2
  go_ret
  exact ⟨rfl, hB2.trans (hb3.mono hB2.size)⟩
 | true =>
  have h := H.out
  rw [if_pos rfl] at h
  clear H
  obtain ⟨⟨v1, v2, v3⟩, ha_, q_a⟩ := Option.bind_eq_some_iff.1 h
  clear h
  obtain ⟨⟨y1, y2, y3⟩, hb_, q_b⟩ := Option.bind_eq_some_iff.1 q_a
  clear q_a
  obtain ⟨⟨c1, c2⟩, hc_, q_c⟩ := Option.bind_eq_some_iff.1 q_b
  clear q_b
  obtain ⟨⟨d1, d2⟩, hd_, q_d⟩ := Option.bind_eq_some_iff.1 q_c
  clear q_c
  obtain ⟨bx, he_, q_e⟩ := Option.bind_eq_some_iff.1 q_d
  clear q_d
  obtain ⟨by_, hf_, q_f⟩ := Option.bind_eq_some_iff.1 q_e
  clear q_e
  obtain ⟨t, hg_, q_g⟩ := Option.bind_eq_some_iff.1 q_f
  clear q_f
  split at q_g
  case isFalse => cases q_g
  rename_i hh
  obtain ⟨h1, h2, h3⟩ := hh
  simp only [Prod.mk.injEq] at h1 h2
  obtain ⟨rfl, rfl, rfl⟩ := h1
  obtain ⟨rfl, rfl⟩ := h2
  subst h3
  have Ha := Aside0.mk ha_
  have Hb := Aside0.mk hb_
  have Hc := Aside0.mk hc_
  have Hd := Aside0.mk hd_
  have He := Aside0.mk he_
  have Hf := Aside0.mk hf_
  have Hg := Aside0.mk hg_
  have HK := Aside0.mk q_g
  clear ha_ hb_ hc_ hd_ he_ hf_ hg_ q_g
  go_wp2_with fail
  refine (guard_Free.calls k a0_0 a0_1 A0_2 c0_2 l0_2 a0_3 a0_4 a0_5 A0_6 c0_6 l0_6 v1 v2 v3 _ (Kd.C_below hr0_2 hB2) hc0_2 (Kd.C_below hr0_6 hB2) hc0_6 Ha.out).mono ?_
  rintro e w3 ⟨rfl, hb3⟩
  have BX3 := (hb3.block _ (blk_lt BX2)).trans BX2
  have hB3 := hB2.trans (hb3.mono hB2.size)
  clear BX2 hB2 hb3
  clear x0 x1 x2 x3 x4 x5 x6
  have x0 : w3.cell? ⟨w.heap.size, 0, none⟩ = some (.int .i64 a0_0) := (blk_cell BX3 0).trans rfl
  have x1 : w3.cell? ⟨w.heap.size, 1, none⟩ = some (.string a0_1) := (blk_cell BX3 1).trans rfl
  have x2 : w3.cell? ⟨w.heap.size, 2, none⟩ = some (.slice A0_2 l0_2.length c0_2) := (blk_cell BX3 2).trans rfl
  have x3 : w3.cell? ⟨w.heap.size, 3, none⟩ = some (.int .i64 a0_3) := (blk_cell BX3 3).trans rfl
  have x4 : w3.cell? ⟨w.heap.size, 4, none⟩ = some (.string a0_4) := (blk_cell BX3 4).trans rfl
  have x5 : w3.cell? ⟨w.heap.size, 5, none⟩ = some (.int .i64 a0_5) := (blk_cell BX3 5).trans rfl
  have x6 : w3.cell? ⟨w.heap.size, 6, none⟩ = some (.slice A0_6 l0_6.length c0_6) := (blk_cell BX3 6).trans rfl
  go_wp2_with fail
  refine (verdererref15_Free.calls k a0_0 a0_1 A0_2 c0_2 l0_2 a0_3 a0_4 a0_5 A0_6 c0_6 l0_6 v1 v2 v3 _ (Kd.C_below hr0_2 hB3) hc0_2 (Kd.C_below hr0_6 hB3) hc0_6 Hb.out).mono ?_
  rintro e w4 ⟨rfl, hb4⟩
  have BX4 := (hb4.block _ (blk_lt BX3)).trans BX3
  have hB4 := hB3.trans (hb4.mono hB3.size)
  clear BX3 hB3 hb4
  clear x0 x1 x2 x3 x4 x5 x6
  have x0 : w4.cell? ⟨w.heap.size, 0, none⟩ = some (.int .i64 a0_0) := (blk_cell BX4 0).trans rfl
  have x1 : w4.cell? ⟨w.heap.size, 1, none⟩ = some (.string a0_1) := (blk_cell BX4 1).trans rfl
  have x2 : w4.cell? ⟨w.heap.size, 2, none⟩ = some (.slice A0_2 l0_2.length c0_2) := (blk_cell BX4 2).trans rfl
  have x3 : w4.cell? ⟨w.heap.size, 3, none⟩ = some (.int .i64 a0_3) := (blk_cell BX4 3).trans rfl
  have x4 : w4.cell? ⟨w.heap.size, 4, none⟩ = some (.string a0_4) := (blk_cell BX4 4).trans rfl
  have x5 : w4.cell? ⟨w.heap.size, 5, none⟩ = some (.int .i64 a0_5) := (blk_cell BX4 5).trans rfl
  have x6 : w4.cell? ⟨w.heap.size, 6, none⟩ = some (.slice A0_6 l0_6.length c0_6) := (blk_cell BX4 6).trans rfl
  go_wp2_with fail
  refine (guard_Check.calls k a0_0 a0_1 A0_2 c0_2 l0_2 a0_3 a0_4 a0_5 A0_6 c0_6 l0_6 c1 c2 _ (Kd.C_below hr0_2 hB4) hc0_2 (Kd.C_below hr0_6 hB4) hc0_6 Hc.out).mono ?_
  rintro e w5 ⟨rfl, hb5⟩
  have BX5 := (hb5.block _ (blk_lt BX4)).trans BX4
  have hB5 := hB4.trans (hb5.mono hB4.size)
  clear BX4 hB4 hb5
  clear x0 x1 x2 x3 x4 x5 x6
  have x0 : w5.cell? ⟨w.heap.size, 0, none⟩ = some (.int .i64 a0_0) := (blk_cell BX5 0).trans rfl
  have x1 : w5.cell? ⟨w.heap.size, 1, none⟩ = some (.string a0_1) := (blk_cell BX5 1).trans rfl
  have x2 : w5.cell? ⟨w.heap.size, 2, none⟩ = some (.slice A0_2 l0_2.length c0_2) := (blk_cell BX5 2).trans rfl
  have x3 : w5.cell? ⟨w.heap.size, 3, none⟩ = some (.int .i64 a0_3) := (blk_cell BX5 3).trans rfl
  have x4 : w5.cell? ⟨w.heap.size, 4, none⟩ = some (.string a0_4) := (blk_cell BX5 4).trans rfl
  have x5 : w5.cell? ⟨w.heap.size, 5, none⟩ = some (.int .i64 a0_5) := (blk_cell BX5 5).trans rfl
  have x6 : w5.cell? ⟨w.heap.size, 6, none⟩ = some (.slice A0_6 l0_6.length c0_6) := (blk_cell BX5 6).trans rfl
  go_wp2_with fail
  refine (verdererref15_Check.calls k a0_0 a0_1 A0_2 c0_2 l0_2 a0_3 a0_4 a0_5 A0_6 c0_6 l0_6 c1 c2 _ (Kd.C_below hr0_2 hB5) hc0_2 (Kd.C_below hr0_6 hB5) hc0_6 Hd.out).mono ?_
  rintro e w6 ⟨rfl, hb6⟩
  have BX6 := (hb6.block _ (blk_lt BX5)).trans BX5
  have hB6 := hB5.trans (hb6.mono hB5.size)
  clear BX5 hB5 hb6
  clear x0 x1 x2 x3 x4 x5 x6
  have x0 : w6.cell? ⟨w.heap.size, 0, none⟩ = some (.int .i64 a0_0) := (blk_cell BX6 0).trans rfl
  have x1 : w6.cell? ⟨w.heap.size, 1, none⟩ = some (.string a0_1) := (blk_cell BX6 1).trans rfl
  have x2 : w6.cell? ⟨w.heap.size, 2, none⟩ = some (.slice A0_2 l0_2.length c0_2) := (blk_cell BX6 2).trans rfl
  have x3 : w6.cell? ⟨w.heap.size, 3, none⟩ = some (.int .i64 a0_3) := (blk_cell BX6 3).trans rfl
  have x4 : w6.cell? ⟨w.heap.size, 4, none⟩ = some (.string a0_4) := (blk_cell BX6 4).trans rfl
  have x5 : w6.cell? ⟨w.heap.size, 5, none⟩ = some (.int .i64 a0_5) := (blk_cell BX6 5).trans rfl
  have x6 : w6.cell? ⟨w.heap.size, 6, none⟩ = some (.slice A0_6 l0_6.length c0_6) := (blk_cell BX6 6).trans rfl
  go_upto_region 7 with (fail)
  clear hu
  refine start_ (n := 34) (S := fun w' => w'.cell? ⟨w.heap.size, 0, none⟩ = some (.int .i64 a0_0) ∧ w'.cell? ⟨w.heap.size, 1, none⟩ = some (.string a0_1) ∧ w'.cell? ⟨w.heap.size, 2, none⟩ = some (.slice A0_2 l0_2.length c0_2) ∧ w'.cell? ⟨w.heap.size, 3, none⟩ = some (.int .i64 a0_3) ∧ w'.cell? ⟨w.heap.size, 4, none⟩ = some (.string a0_4) ∧ w'.cell? ⟨w.heap.size, 5, none⟩ = some (.int .i64 a0_5) ∧ w'.cell? ⟨w.heap.size, 6, none⟩ = some (.slice A0_6 l0_6.length c0_6)) (ds := []) #[false, false, false, false, false, false, false, false, false, false, false, false, false, false, false, false, false, false, false, false, false, false, false, false, false, false, false, false, false, false, false, false, false, false] (by kernel_rfl) rfl rfl ⟨(blk_cell BX6 0).trans rfl, (blk_cell BX6 1).trans rfl, (blk_cell BX6 2).trans rfl, (blk_cell BX6 3).trans rfl, (blk_cell BX6 4).trans rfl, (blk_cell BX6 5).trans rfl, (blk_cell BX6 6).trans rfl⟩ (fun hHeld => ?_)
  refine take_ (i := 0) (N := some 39) (v := ?_) (a' := ?_) #[true, false, false, false, false, false, false, false, false, false, false, false, false, false, false, false, false, false, false, false, false, false, false, false, false, false, false, false, false, false, false, false, false, false] rfl rfl (by kernel_rfl) (fun _ _ _ h => h) (Or.inl ⟨by rfl, ?_⟩) hHeld ?_ ?_
  rotate_left
  ·
   rintro w' ⟨e0, e1, e2, e3, e4, e5, e6⟩
   go_simp
   with_reducible rfl
  rotate_left
  ·
   simp only [Act.put, List.setIfInBounds_toArray, List.set_cons_zero, List.set_cons_succ, i64_w, i32_w]
   rfl
  refine take_ (i := 2) (N := some 41) (v := ?_) (a' := ?_) #[true, false, true, false, false, false, false, false, false, false, false, false, false, false, false, false, false, false, false, false, false, false, false, false, false, false, false, false, false, false, false, false, false, false] rfl rfl (by kernel_rfl) (fun _ _ _ h => h) (Or.inl ⟨by rfl, ?_⟩) hHeld ?_ ?_
  rotate_left
  ·
   rintro w' ⟨e0, e1, e2, e3, e4, e5, e6⟩
   go_simp
   with_reducible rfl
  rotate_left
  ·
   simp only [Act.put, List.setIfInBounds_toArray, List.set_cons_zero, List.set_cons_succ, i64_w, i32_w]
   rfl
  have hB6 := below_drew hB6
  have BX6 := blk_drew BX6
  refine one_ (i := 1) (N := some 40) #[true, true, true, false, false, false, false, false, false, false, false, false, false, false, false, false, false, false, false, false, false, false, false, false, false, false, false, false, false, false, false, false, false, false] rfl rfl (by kernel_rfl) (by decide) (fun K hK => ?_)
  refine goes_ Try.func15 (by kernel_rfl) rfl #[.agg #[.int .i64 a0_0, .string a0_1, .slice A0_2 l0_2.length c0_2, .int .i64 a0_3, .string a0_4, .int .i64 a0_5, .slice A0_6 l0_6.length c0_6]] (by rfl) rfl rfl (by (try simp only [List.map_toArray, List.map_cons, List.map_nil]); first | done | rfl) ?_
  refine (guard_Bound.calls k a0_0 a0_1 A0_2 c0_2 l0_2 a0_3 a0_4 a0_5 A0_6 c0_6 l0_6 bx _ (Kd.C_below hr0_2 hB6) hc0_2 (Kd.C_below hr0_6 hB6) hc0_6 He.out).mono ?_
  rintro e w7 ⟨vb, rfl, Rb, hb7⟩
  have BX7 := (hb7.block _ (blk_lt BX6)).trans BX6
  have hB7 := hB6.trans (hb7.mono hB6.size)
  obtain ⟨Ab, cb, rfl, hcb, hCb⟩ := Kd.R_reads Rb
  refine ⟨_, rfl, hK.out _ _ ⟨(blk_cell BX7 0).trans rfl, (blk_cell BX7 1).trans rfl, (blk_cell BX7 2).trans rfl, (blk_cell BX7 3).trans rfl, (blk_cell BX7 4).trans rfl, (blk_cell BX7 5).trans rfl, (blk_cell BX7 6).trans rfl⟩ (fun hHeld => ?_)⟩
  clear hK K
  refine norm_ (a' := ?_) ?_ ?_
  rotate_left
  ·
   show Act.put _ (some 40) _ = _
   simp only [Act.put, List.setIfInBounds_toArray, List.set_cons_zero, List.set_cons_succ, i64_w, i32_w]
   rfl
  refine one_ (i := 3) (N := some 42) #[true, true, true, true, false, false, false, false, false, false, false, false, false, false, false, false, false, false, false, false, false, false, false, false, false, false, false, false, false, false, false, false, false, false] rfl rfl (by kernel_rfl) (by decide) (fun K hK => ?_)
  refine goes_ Try.func16 (by kernel_rfl) rfl #[.agg #[.int .i64 a0_0, .string a0_1, .slice A0_2 l0_2.length c0_2, .int .i64 a0_3, .string a0_4, .int .i64 a0_5, .slice A0_6 l0_6.length c0_6]] (by rfl) rfl rfl (by (try simp only [List.map_toArray, List.map_cons, List.map_nil]); first | done | rfl) ?_
  refine (verdererref15_Bound.calls k a0_0 a0_1 A0_2 c0_2 l0_2 a0_3 a0_4 a0_5 A0_6 c0_6 l0_6 by_ _ (Kd.C_below hr0_2 hB7) hc0_2 (Kd.C_below hr0_6 hB7) hc0_6 Hf.out).mono ?_
  rintro e w8 ⟨vc, rfl, Rc, hb8⟩
  have BX8 := (hb8.block _ (blk_lt BX7)).trans BX7
  have hB8 := hB7.trans (hb8.mono hB7.size)
  obtain ⟨Ac, cc, rfl, hcc, hCc⟩ := Kd.R_reads Rc
  have hCb8 := Kd.C_below hCb hb8
  refine ⟨_, rfl, hK.out _ _ ⟨(blk_cell BX8 0).trans rfl, (blk_cell BX8 1).trans rfl, (blk_cell BX8 2).trans rfl, (blk_cell BX8 3).trans rfl, (blk_cell BX8 4).trans rfl, (blk_cell BX8 5).trans rfl, (blk_cell BX8 6).trans rfl⟩ (fun hHeld => ?_)⟩
  clear hK K
  refine norm_ (a' := ?_) ?_ ?_
  rotate_left
  ·
   show Act.put _ (some 42) _ = _
   simp only [Act.put, List.setIfInBounds_toArray, List.set_cons_zero, List.set_cons_succ, i64_w, i32_w]
   rfl
  refine one_ (i := 4) (N := some 43) #[true, true, true, true, true, false, false, false, false, false, false, false, false, false, false, false, false, false, false, false, false, false, false, false, false, false, false, false, false, false, false, false, false, false] rfl rfl (by kernel_rfl) (by decide) (fun K hK => ?_)
  refine goes_ Try.func14 (by kernel_rfl) rfl #[.slice Ab bx.length cb, .slice Ac by_.length cc] (by rfl) rfl rfl (by (try simp only [List.map_toArray, List.map_cons, List.map_nil]); first | done | rfl) ?_
  refine (verdererref09_Texts.calls k Ab cb bx Ac cc by_ true _ hCb8 hcb hCc hcc Hg.out).mono ?_
  rintro e w9 ⟨rfl, hd9⟩
  have hb9 := hd9.below
  have BX9 := (hb9.block _ (blk_lt BX8)).trans BX8
  have hB9 := hB8.trans (hb9.mono hB8.size)
  refine ⟨_, rfl, hK.out _ _ ⟨(blk_cell BX9 0).trans rfl, (blk_cell BX9 1).trans rfl, (blk_cell BX9 2).trans rfl, (blk_cell BX9 3).trans rfl, (blk_cell BX9 4).trans rfl, (blk_cell BX9 5).trans rfl, (blk_cell BX9 6).trans rfl⟩ (fun hHeld => ?_)⟩
  clear hK K
  refine norm_ (a' := ?_) ?_ ?_
  rotate_left
  ·
   show Act.put _ (some 43) _ = _
   simp only [Act.put, List.setIfInBounds_toArray, List.set_cons_zero, List.set_cons_succ, i64_w, i32_w]
   rfl
  refine pure_ (i := 5) (N := some 44) (v := ?_) (a' := ?_) #[true, true, true, true, true, true, false, false, false, false, false, false, false, false, false, false, false, false, false, false, false, false, false, false, false, false, false, false, false, false, false, false, false, false] rfl rfl (by kernel_rfl) (fun _ _ _ h => h) (Or.inl ⟨by rfl, ?_⟩) ?_ ?_
  rotate_left
  ·
   intro w'
   go_simp
   with_reducible rfl
  rotate_left
  ·
   simp only [Act.put, List.setIfInBounds_toArray, List.set_cons_zero, List.set_cons_succ, i64_w, i32_w]
   rfl
  refine pure_ (i := 6) (N := some 45) (v := ?_) (a' := ?_) #[true, true, true, true, true, true, true, false, false, false, false, false, false, false, false, false, false, false, false, false, false, false, false, false, false, false, false, false, false, false, false, false, false, false] rfl rfl (by kernel_rfl) (fun _ _ _ h => h) (Or.inl ⟨by rfl, ?_⟩) ?_ ?_
  rotate_left
  ·
   intro w'
   go_simp
   with_reducible rfl
  rotate_left
  ·
   simp only [Act.put, List.setIfInBounds_toArray, List.set_cons_zero, List.set_cons_succ, i64_w, i32_w]
   rfl
  refine pure_ (i := 7) (N := some 46) (v := ?_) (a' := ?_) #[true, true, true, true, true, true, true, true, false, false, false, false, false, false, false, false, false, false, false, false, false, false, false, false, false, false, false, false, false, false, false, false, false, false] rfl rfl (by kernel_rfl) (fun _ _ _ h => h) (Or.inl ⟨by rfl, ?_⟩) ?_ ?_
  rotate_left
  ·
   intro w'
   go_simp
   with_reducible rfl
  rotate_left
  ·
   simp only [Act.put, List.setIfInBounds_toArray, List.set_cons_zero, List.set_cons_succ, i64_w, i32_w]
   rfl
  refine pure_ (i := 8) (N := some 47) (v := ?_) (a' := ?_) #[true, true, true, true, true, true, true, true, true, false, false, false, false, false, false, false, false, false, false, false, false, false, false, false, false, false, false, false, false, false, false, false, false, false] rfl rfl (by kernel_rfl) (fun _ _ _ h => h) (Or.inl ⟨by rfl, ?_⟩) ?_ ?_
  rotate_left
  ·
   intro w'
   go_simp
   with_reducible rfl
  rotate_left
  ·
   simp only [Act.put, List.setIfInBounds_toArray, List.set_cons_zero, List.set_cons_succ, i64_w, i32_w]
   rfl
  refine pure_ (i := 9) (N := some 48) (v := ?_) (a' := ?_) #[true, true, true, true, true, true, true, true, true, true, false, false, false, false, false, false, false, false, false, false, false, false, false, false, false, false, false, false, false, false, false, false, false, false] rfl rfl (by kernel_rfl) (fun _ _ _ h => h) (Or.inl ⟨by rfl, ?_⟩) ?_ ?_
  rotate_left
  ·
   intro w'
   go_simp
   with_reducible rfl
  rotate_left
  ·
   simp only [Act.put, List.setIfInBounds_toArray, List.set_cons_zero, List.set_cons_succ, i64_w, i32_w]
   rfl
  refine pure_ (i := 10) (N := some 49) (v := ?_) (a' := ?_) #[true, true, true, true, true, true, true, true, true, true, true, false, false, false, false, false, false, false, false, false, false, false, false, false, false, false, false, false, false, false, false, false, false, false] rfl rfl (by kernel_rfl) (fun _ _ _ h => h) (Or.inl ⟨by rfl, ?_⟩) ?_ ?_
  rotate_left
  ·
   intro w'
   go_simp
   with_reducible rfl
  rotate_left
  ·
   simp only [Act.put, List.setIfInBounds_toArray, List.set_cons_zero, List.set_cons_succ, i64_w, i32_w]
   rfl
  refine pure_ (i := 11) (N := some 50) (v := ?_) (a' := ?_) #[true, true, true, true, true, true, true, true, true, true, true, true, false, false, false, false, false, false, false, false, false, false, false, false, false, false, false, false, false, false, false, false, false, false] rfl rfl (by kernel_rfl) (fun _ _ _ h => h) (Or.inl ⟨by rfl, ?_⟩) ?_ ?_
  rotate_left
  ·
   intro w'
   go_simp
   with_reducible rfl
  rotate_left
  ·
   simp only [Act.put, List.setIfInBounds_toArray, List.set_cons_zero, List.set_cons_succ, i64_w, i32_w]
   rfl
  refine pure_ (i := 12) (N := some 51) (v := ?_) (a' := ?_) #[true, true, true, true, true, true, true, true, true, true, true, true, true, false, false, false, false, false, false, false, false, false, false, false, false, false, false, false, false, false, false, false, false, false] rfl rfl (by kernel_rfl) (fun _ _ _ h => h) (Or.inl ⟨by rfl, ?_⟩) ?_ ?_
  rotate_left
  ·
   intro w'
   go_simp
   with_reducible rfl
  rotate_left
  ·
   simp only [Act.put, List.setIfInBounds_toArray, List.set_cons_zero, List.set_cons_succ, i64_w, i32_w]
   rfl
  refine pure_ (i := 13) (N := some 52) (v := ?_) (a' := ?_) #[true, true, true, true, true, true, true, true, true, true, true, true, true, true, false, false, false, false, false, false, false, false, false, false, false, false, false, false, false, false, false, false, false, false] rfl rfl (by kernel_rfl) (fun _ _ _ h => h) (Or.inl ⟨by rfl, ?_⟩) ?_ ?_
  rotate_left
  ·
   intro w'
   go_simp
   with_reducible rfl
  rotate_left
  ·
   simp only [Act.put, List.setIfInBounds_toArray, List.set_cons_zero, List.set_cons_succ, i64_w, i32_w]
   rfl
  refine pure_ (i := 14) (N := some 53) (v := ?_) (a' := ?_) #[true, true, true, true, true, true, true, true, true, true, true, true, true, true, true, false, false, false, false, false, false, false, false, false, false, false, false, false, false, false, false, false, false, false] rfl rfl (by kernel_rfl) (fun _ _ _ h => h) (Or.inl ⟨by rfl, ?_⟩) ?_ ?_
  rotate_left
  ·
   intro w'
   go_simp
   with_reducible rfl
  rotate_left
  ·
   simp only [Act.put, List.setIfInBounds_toArray, List.set_cons_zero, List.set_cons_succ, i64_w, i32_w]
   rfl
  refine pure_ (i := 15) (N := some 54) (v := ?_) (a' := ?_) #[true, true, true, true, true, true, true, true, true, true, true, true, true, true, true, true, false, false, false, false, false, false, false, false, false, false, false, false, false, false, false, false, false, false] rfl rfl (by kernel_rfl) (fun _ _ _ h => h) (Or.inl ⟨by rfl, ?_⟩) ?_ ?_
  rotate_left
  ·
   intro w'
   go_simp
   with_reducible rfl
  rotate_left
  ·
   simp only [Act.put, List.setIfInBounds_toArray, List.set_cons_zero, List.set_cons_succ, i64_w, i32_w]
   rfl
  refine pure_ (i := 16) (N := some 55) (v := ?_) (a' := ?_) #[true, true, true, true, true, true, true, true, true, true, true, true, true, true, true, true, true, false, false, false, false, false, false, false, false, false, false, false, false, false, false, false, false, false] rfl rfl (by kernel_rfl) (fun _ _ _ h => h) (Or.inl ⟨by rfl, ?_⟩) ?_ ?_
  rotate_left
  ·
   intro w'
   go_simp
   with_reducible rfl
  rotate_left
  ·
   simp only [Act.put, List.setIfInBounds_toArray, List.set_cons_zero, List.set_cons_succ, i64_w, i32_w]
   rfl
  refine pure_ (i := 17) (N := some 56) (v := ?_) (a' := ?_) #[true, true, true, true, true, true, true, true, true, true, true, true, true, true, true, true, true, true, false, false, false, false, false, false, false, false, false, false, false, false, false, false, false, false] rfl rfl (by kernel_rfl) (fun _ _ _ h => h) (Or.inl ⟨by rfl, ?_⟩) ?_ ?_
  rotate_left
  ·
   intro w'
   go_simp
   with_reducible rfl
  rotate_left
  ·
   simp only [Act.put, List.setIfInBounds_toArray, List.set_cons_zero, List.set_cons_succ, i64_w, i32_w]
   rfl
  refine pure_ (i := 18) (N := some 57) (v := ?_) (a' := ?_) #[true, true, true, true, true, true, true, true, true, true, true, true, true, true, true, true, true, true, true, false, false, false, false, false, false, false, false, false, false, false, false, false, false, false] rfl rfl (by kernel_rfl) (fun _ _ _ h => h) (Or.inl ⟨by rfl, ?_⟩) ?_ ?_
  rotate_left
  ·
   intro w'
   go_simp
   with_reducible rfl
  rotate_left
  ·
   simp only [Act.put, List.setIfInBounds_toArray, List.set_cons_zero, List.set_cons_succ, i64_w, i32_w]
   rfl
  refine pure_ (i := 19) (N := some 58) (v := ?_) (a' := ?_) #[true, true, true, true, true, true, true, true, true, true, true, true, true, true, true, true, true, true, true, true, false, false, false, false, false, false, false, false, false, false, false, false, false, false] rfl rfl (by kernel_rfl) (fun _ _ _ h => h) (Or.inl ⟨by rfl, ?_⟩) ?_ ?_
  rotate_left
  ·
   intro w'
   go_simp
   with_reducible rfl
  rotate_left
  ·
   simp only [Act.put, List.setIfInBounds_toArray, List.set_cons_zero, List.set_cons_succ, i64_w, i32_w]
   rfl
  refine pure_ (i := 20) (N := some 59) (v := ?_) (a' := ?_) #[true, true, true, true, true, true, true, true, true, true, true, true, true, true, true, true, true, true, true, true, true, false, false, false, false, false, false, false, false, false, false, false, false, false] rfl rfl (by kernel_rfl) (fun _ _ _ h => h) (Or.inl ⟨by rfl, ?_⟩) ?_ ?_
  rotate_left
  ·
   intro w'
   go_simp
   with_reducible rfl
  rotate_left
  ·
   simp only [Act.put, List.setIfInBounds_toArray, List.set_cons_zero, List.set_cons_succ, i64_w, i32_w]
   rfl
  refine pure_ (i := 21) (N := some 60) (v := ?_) (a' := ?_) #[true, true, true, true, true, true, true, true, true, true, true, true, true, true, true, true, true, true, true, true, true, true, false, false, false, false, false, false, false, false, false, false, false, false] rfl rfl (by kernel_rfl) (fun _ _ _ h => h) (Or.inl ⟨by rfl, ?_⟩) ?_ ?_
  rotate_left
  ·
   intro w'
   go_simp
   with_reducible rfl
  rotate_left
  ·
   simp only [Act.put, List.setIfInBounds_toArray, List.set_cons_zero, List.set_cons_succ, i64_w, i32_w]
   rfl
  refine pure_ (i := 22) (N := some 61) (v := ?_) (a' := ?_) #[true, true, true, true, true, true, true, true, true, true, true, true, true, true, true, true, true, true, true, true, true, true, true, false, false, false, false, false, false, false, false, false, false, false] rfl rfl (by kernel_rfl) (fun _ _ _ h => h) (Or.inl ⟨by rfl, ?_⟩) ?_ ?_
  rotate_left
  ·
   intro w'
   go_simp
   with_reducible rfl
  rotate_left
  ·
   simp only [Act.put, List.setIfInBounds_toArray, List.set_cons_zero, List.set_cons_succ, i64_w, i32_w]
   rfl
  refine pure_ (i := 23) (N := some 62) (v := ?_) (a' := ?_) #[true, true, true, true, true, true, true, true, true, true, true, true, true, true, true, true, true, true, true, true, true, true, true, true, false, false, false, false, false, false, false, false, false, false] rfl rfl (by kernel_rfl) (fun _ _ _ h => h) (Or.inl ⟨by rfl, ?_⟩) ?_ ?_
  rotate_left
  ·
   intro w'
   go_simp
   with_reducible rfl
  rotate_left
  ·
   simp only [Act.put, List.setIfInBounds_toArray, List.set_cons_zero, List.set_cons_succ, i64_w, i32_w]
   rfl
  refine pure_ (i := 24) (N := some 63) (v := ?_) (a' := ?_) #[true, true, true, true, true, true, true, true, true, true, true, true, true, true, true, true, true, true, true, true, true, true, true, true, true, false, false, false, false, false, false, false, false, false] rfl rfl (by kernel_rfl) (fun _ _ _ h => h) (Or.inl ⟨by rfl, ?_⟩) ?_ ?_
  rotate_left
  ·
   intro w'
   go_simp
   with_reducible rfl
  rotate_left
  ·
   simp only [Act.put, List.setIfInBounds_toArray, List.set_cons_zero, List.set_cons_succ, i64_w, i32_w]
   rfl
  refine pure_ (i := 25) (N := some 64) (v := ?_) (a' := ?_) #[true, true, true, true, true, true, true, true, true, true, true, true, true, true, true, true, true, true, true, true, true, true, true, true, true, true, false, false, false, false, false, false, false, false] rfl rfl (by kernel_rfl) (fun _ _ _ h => h) (Or.inl ⟨by rfl, ?_⟩) ?_ ?_
  rotate_left
  ·
   intro w'
   go_simp
   with_reducible rfl
  rotate_left
  ·
   simp only [Act.put, List.setIfInBounds_toArray, List.set_cons_zero, List.set_cons_succ, i64_w, i32_w]
   rfl
  refine pure_ (i := 26) (N := some 65) (v := ?_) (a' := ?_) #[true, true, true, true, true, true, true, true, true, true, true, true, true, true, true, true, true, true, true, true, true, true, true, true, true, true, true, false, false, false, false, false, false, false] rfl rfl (by kernel_rfl) (fun _ _ _ h => h) (Or.inl ⟨by rfl, ?_⟩) ?_ ?_
  rotate_left
  ·
   intro w'
   go_simp
   with_reducible rfl
  rotate_left
  ·
   simp only [Act.put, List.setIfInBounds_toArray, List.set_cons_zero, List.set_cons_succ, i64_w, i32_w]
   rfl
  refine pure_ (i := 27) (N := some 66) (v := ?_) (a' := ?_) #[true, true, true, true, true, true, true, true, true, true, true, true, true, true, true, true, true, true, true, true, true, true, true, true, true, true, true, true, false, false, false, false, false, false] rfl rfl (by kernel_rfl) (fun _ _ _ h => h) (Or.inl ⟨by rfl, ?_⟩) ?_ ?_
  rotate_left
  ·
   intro w'
   go_simp
   with_reducible rfl
  rotate_left
  ·
   simp only [Act.put, List.setIfInBounds_toArray, List.set_cons_zero, List.set_cons_succ, i64_w, i32_w]
   rfl
  refine pure_ (i := 28) (N := some 67) (v := ?_) (a' := ?_) #[true, true, true, true, true, true, true, true, true, true, true, true, true, true, true, true, true, true, true, true, true, true, true, true, true, true, true, true, true, false, false, false, false, false] rfl rfl (by kernel_rfl) (fun _ _ _ h => h) (Or.inl ⟨by rfl, ?_⟩) ?_ ?_
  rotate_left
  ·
   intro w'
   go_simp
   with_reducible rfl
  rotate_left
  ·
   simp only [Act.put, List.setIfInBounds_toArray, List.set_cons_zero, List.set_cons_succ, i64_w, i32_w]
   rfl
  refine pure_ (i := 29) (N := some 68) (v := ?_) (a' := ?_) #[true, true, true, true, true, true, true, true, true, true, true, true, true, true, true, true, true, true, true, true, true, true, true, true, true, true, true, true, true, true, false, false, false, false] rfl rfl (by kernel_rfl) (fun _ _ _ h => h) (Or.inl ⟨by rfl, ?_⟩) ?_ ?_
  rotate_left
  ·
   intro w'
   go_simp
   with_reducible rfl
  rotate_left
  ·
   simp only [Act.put, List.setIfInBounds_toArray, List.set_cons_zero, List.set_cons_succ, i64_w, i32_w]
   rfl
  refine pure_ (i := 30) (N := some 69) (v := ?_) (a' := ?_) #[true, true, true, true, true, true, true, true, true, true, true, true, true, true, true, true, true, true, true, true, true, true, true, true, true, true, true, true, true, true, true, false, false, false] rfl rfl (by kernel_rfl) (fun _ _ _ h => h) (Or.inl ⟨by rfl, ?_⟩) ?_ ?_
  rotate_left
  ·
   intro w'
   go_simp
   with_reducible rfl
  rotate_left
  ·
   simp only [Act.put, List.setIfInBounds_toArray, List.set_cons_zero, List.set_cons_succ, i64_w, i32_w]
   rfl
  refine one_ (i := 31) (N := some 70) #[true, true, true, true, true, true, true, true, true, true, true, true, true, true, true, true, true, true, true, true, true, true, true, true, true, true, true, true, true, true, true, true, false, false] rfl rfl (by kernel_rfl) (by decide) (fun K hK => ?_)
  refine goes_ Try.func9 (by kernel_rfl) rfl #[] (by rfl) rfl rfl (by (try simp only [List.map_toArray, List.map_cons, List.map_nil]); first | done | rfl) ?_
  refine (verdererlaw15_known.calls k r _ HK.out).mono ?_
  rintro e w10 ⟨rfl, hb10⟩
  have BX10 := (hb10.block _ (blk_lt BX9)).trans BX9
  have hB10 := hB9.trans (hb10.mono hB9.size)
  refine ⟨_, rfl, hK.out _ _ ⟨(blk_cell BX10 0).trans rfl, (blk_cell BX10 1).trans rfl, (blk_cell BX10 2).trans rfl, (blk_cell BX10 3).trans rfl, (blk_cell BX10 4).trans rfl, (blk_cell BX10 5).trans rfl, (blk_cell BX10 6).trans rfl⟩ (fun hHeld => ?_)⟩
  clear hK K
  refine norm_ (a' := ?_) ?_ ?_
  rotate_left
  ·
   show Act.put _ (some 70) _ = _
   simp only [Act.put, List.setIfInBounds_toArray, List.set_cons_zero, List.set_cons_succ, i64_w, i32_w]
   rfl
  refine pure_ (i := 32) (N := some 71) (v := ?_) (a' := ?_) #[true, true, true, true, true, true, true, true, true, true, true, true, true, true, true, true, true, true, true, true, true, true, true, true, true, true, true, true, true, true, true, true, true, false] rfl rfl (by kernel_rfl) (fun _ _ _ h => h) (Or.inl ⟨by rfl, ?_⟩) ?_ ?_
  rotate_left
  ·
   intro w'
   go_simp
   with_reducible rfl
  rotate_left
  ·
   simp only [Act.put, List.setIfInBounds_toArray, List.set_cons_zero, List.set_cons_succ, i64_w, i32_w]
   rfl
  refine pure_ (i := 33) (N := some 2) (v := ?_) (a' := ?_) #[true, true, true, true, true, true, true, true, true, true, true, true, true, true, true, true, true, true, true, true, true, true, true, true, true, true, true, true, true, true, true, true, true, true] rfl rfl (by kernel_rfl) (fun _ _ _ h => h) (Or.inl ⟨by rfl, ?_⟩) ?_ ?_
  rotate_left
  ·
   intro w'
   go_simp
   with_reducible rfl
  rotate_left
  ·
   simp only [Act.put, List.setIfInBounds_toArray, List.set_cons_zero, List.set_cons_succ, i64_w, i32_w]
   rfl
  refine done_ (by kernel_rfl) ?_
  go_wp2
  go_ret
  exact ⟨rfl, hB10⟩
-- NOT PRINTED: function 4 (verdererlaw15_GuardAll)
end Go.Proofs.Ytikikmkfeeljgaa.G
