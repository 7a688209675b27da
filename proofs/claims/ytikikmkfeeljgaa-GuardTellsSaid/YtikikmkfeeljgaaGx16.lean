-- Written by a program for this claim (my own print over the kit's words).
import Derived.Test.YtikikmkfeeljgaaGx0
namespace Go.Proofs.Ytikikmkfeeljgaa.G
open Go.RowKit Go.Proofs.YtikikmkfeeljgaaW.PrintWords Go.Proofs.YtikikmkfeeljgaaW.PrintLast Go.Proofs.YtikikmkfeeljgaaW.PrintMore
attribute [local go_sem] max2_int min2_int max_two min_two max_three min_three max_four min_four   -- for this text's walks alone
set_option linter.unusedVariables false
set_option linter.unusedSimpArgs false
/-! ### verdererref13_Few: function 8 -/
mutual
def verdererref13_Few.j0 : Nat → Bool → Int → ByteArray → List ByteArray → Int → ByteArray → Int → List (S41) → Option (Bool)
 | 0, _, _, _, _, _, _, _, _ => none
 | k + 1, x25, x361000, x361001, x361002, x361003, x361004, x361005, x361006 => if x25 = true then (some false) else (verdererref13_Few.l0 k 0 x361000 x361001 x361002 x361003 x361004 x361005 x361006)
def verdererref13_Few.l0 : Nat → Int → Int → ByteArray → List ByteArray → Int → ByteArray → Int → List (S41) → Option (Bool)
 | 0, _, _, _, _, _, _, _, _ => none
 | k + 1, x3, x361000, x361001, x361002, x361003, x361004, x361005, x361006 => if x3 < (x361002.length : Int) then (if 0 ≤ x3 then (if ((rdOf ByteArray.empty x361002 x3).size : Int) > 400 then (some false) else (verdererref13_Few.l0 k (wrap64 (x3 + 1)) x361000 x361001 x361002 x361003 x361004 x361005 x361006)) else (none)) else (verdererref13_Few.l1 k 0 x361000 x361001 x361002 x361003 x361004 x361005 x361006)
def verdererref13_Few.l1 : Nat → Int → Int → ByteArray → List ByteArray → Int → ByteArray → Int → List (S41) → Option (Bool)
 | 0, _, _, _, _, _, _, _, _ => none
 | k + 1, x4, x361000, x361001, x361002, x361003, x361004, x361005, x361006 => if x4 < (x361006.length : Int) then (if 0 ≤ x4 then (if (((rd_T41 x361006 x4).f2).length : Int) > 100 then (verdererref13_Few.j3 k x4 true x361000 x361001 x361002 x361003 x361004 x361005 x361006) else (verdererref13_Few.j3 k x4 (decide ((((rd_T41 x361006 x4).f1).size : Int) > 400)) x361000 x361001 x361002 x361003 x361004 x361005 x361006)) else (none)) else (some true)
def verdererref13_Few.j3 : Nat → Int → Bool → Int → ByteArray → List ByteArray → Int → ByteArray → Int → List (S41) → Option (Bool)
 | 0, _, _, _, _, _, _, _, _, _ => none
 | k + 1, x4, x64, x361000, x361001, x361002, x361003, x361004, x361005, x361006 => if x64 = true then (some false) else (verdererref13_Few.l2 k x4 0 x361000 x361001 x361002 x361003 x361004 x361005 x361006)
def verdererref13_Few.l2 : Nat → Int → Int → Int → ByteArray → List ByteArray → Int → ByteArray → Int → List (S41) → Option (Bool)
 | 0, _, _, _, _, _, _, _, _, _ => none
 | k + 1, x4, x5, x361000, x361001, x361002, x361003, x361004, x361005, x361006 => if 0 ≤ x4 then (if x4 < (x361006.length : Int) then (if x5 < (((rd_T41 x361006 x4).f2).length : Int) then (if 0 ≤ x5 then (if (((rd_T38 ((rd_T41 x361006 x4).f2) x5).f0).size : Int) > 400 then (some false) else (verdererref13_Few.l2 k x4 (wrap64 (x5 + 1)) x361000 x361001 x361002 x361003 x361004 x361005 x361006)) else (none)) else (verdererref13_Few.l1 k (wrap64 (x4 + 1)) x361000 x361001 x361002 x361003 x361004 x361005 x361006)) else (none)) else (none)
end
def verdererref13_Few.f (k : Nat) (a0_0 : Int) (a0_1 : ByteArray) (l0_2 : List ByteArray) (a0_3 : Int) (a0_4 : ByteArray) (a0_5 : Int) (l0_6 : List (S41)) : Option (Bool) := if (l0_2.length : Int) > 100 then (verdererref13_Few.j0 k true a0_0 a0_1 l0_2 a0_3 a0_4 a0_5 l0_6) else (if (l0_6.length : Int) > 40 then (verdererref13_Few.j0 k true a0_0 a0_1 l0_2 a0_3 a0_4 a0_5 l0_6) else (verdererref13_Few.j0 k (decide ((wrap64 ((a0_1.size : Int) + (a0_4.size : Int))) > 400)) a0_0 a0_1 l0_2 a0_3 a0_4 a0_5 l0_6))
set_option maxHeartbeats 8000000 in
set_option maxRecDepth 100000 in
theorem verdererref13_Few.calls (k : Nat) (a0_0 : Int) (a0_1 : ByteArray) (A0_2 : Option Addr) (c0_2 : Nat) (l0_2 : List ByteArray) (a0_3 : Int) (a0_4 : ByteArray) (a0_5 : Int) (A0_6 : Option Addr) (c0_6 : Nat) (l0_6 : List (S41)) (r : Bool) (w : World) (hr0_2 : Kd.C Kd.string w A0_2 l0_2.length l0_2) (hc0_2 : l0_2.length ≤ c0_2) (hr0_6 : Kd.C k41 w A0_6 l0_6.length l0_6) (hc0_6 : l0_6.length ≤ c0_6) (h : verdererref13_Few.f k a0_0 a0_1 l0_2 a0_3 a0_4 a0_5 l0_6 = some r) :
  Calls Try.prog 8 #[.agg #[.int .i64 a0_0, .string a0_1, .slice A0_2 l0_2.length c0_2, .int .i64 a0_3, .string a0_4, .int .i64 a0_5, .slice A0_6 l0_6.length c0_6]] w fun e w' => e = .returned (.bool r) ∧ Below w.heap.size w w' := by
 have hu25 := Try.underlying25
 have HR0_2 := Aside0.mk hr0_2
 have HC0_2 := Aside0.mk hc0_2
 clear hr0_2 hc0_2
 have HR0_6 := Aside0.mk hr0_6
 have HC0_6 := Aside0.mk hc0_6
 clear hr0_6 hc0_6
 have HB := Aside0.mk (Below.refl w.heap.size w)
 have H : (if (l0_2.length : Int) > 100 then (verdererref13_Few.j0 k true a0_0 a0_1 l0_2 a0_3 a0_4 a0_5 l0_6) else (if (l0_6.length : Int) > 40 then (verdererref13_Few.j0 k true a0_0 a0_1 l0_2 a0_3 a0_4 a0_5 l0_6) else (verdererref13_Few.j0 k (decide ((wrap64 ((a0_1.size : Int) + (a0_4.size : Int))) > 400)) a0_0 a0_1 l0_2 a0_3 a0_4 a0_5 l0_6))) = some r := h
 clear h
 have HC2 := Aside0.mk H
 clear H
 go_enter Try.func8, Try.ntmps8
 go_upto_region 1 with (first | ((with_reducible refine gate_dst (N := 1) rfl ?_); (try (refine gate_guard (by rfl) ?_; dsimp only)); refine box_event ?hg (N := 1) ?hd (cs := #[.int .i64 a0_0, .string a0_1, .slice A0_2 l0_2.length c0_2, .int .i64 a0_3, .string a0_4, .int .i64 a0_5, .slice A0_6 l0_6.length c0_6]) (t := 25) ?hr ?_; (case hd => rfl); (case hg => rfl); (case hr => first | (go_simp; done) | (go_simp; rfl)); intro gb360 hg w3 hbox hb; have n0_ := Aside0.mk (below_step (by with_reducible exact HB.out) hb); have n1_ := Aside0.mk (hbox); have n2_ := Aside0.mk ((by rw [hg]; exact (below_size (by with_reducible exact HB.out)) : w.heap.size ≤ gb360)); have n3_ := Aside0.mk ((by rw [hg]; exact (below_size (by with_reducible exact HB.out)) : w.heap.size ≤ gb360)); clear HB; have HB := n0_; have BK360 := n1_; have GW360 := n2_; have GE360 := n3_; clear n0_ n1_ n2_ n3_ hb hbox hg))
 (try simp only [Act.put, List.setIfInBounds_toArray, List.set_cons_zero, List.set_cons_succ])
 go_cut [25] (fun v25 wc => ∃ (kq : Nat) (x25_1 : Bool), v25 = .bool x25_1 ∧ Aside0 (verdererref13_Few.j0 kq x25_1 a0_0 a0_1 l0_2 a0_3 a0_4 a0_5 l0_6 = some r) ∧ Aside0 (kq ≤ k) ∧ Aside0 (wc.heap[gb360]? = some (.cells #[.int .i64 a0_0, .string a0_1, (.slice A0_2 l0_2.length c0_2), .int .i64 a0_3, .string a0_4, .int .i64 a0_5, (.slice A0_6 l0_6.length c0_6)] 25 (0, 0))) ∧ Aside0 (Below w.heap.size w wc))
 case first =>
  have H := HC2.out
  clear HC2
  by_cases c4 : (l0_2.length : Int) > 100
  ·
   rw [if_pos c4] at H
   have c4b0 : decide (100 < (l0_2.length : Int)) = true := decide_eq_true c4
   have c4b1 : decide (100 < l0_2.length) = true := decide_eq_true (by omega)
   clear c4
   (first | rw [c4b0] | (simp only [i64_w, i32_w]; rw [c4b0]) | skip)
   have H' := Aside0.mk H
   clear H
   have hcz5_0 : w3.cell? ⟨gb360, 0, none⟩ = some (.int .i64 a0_0) := (blk_cell BK360.out 0).trans rfl
   have hcz5_1 : w3.cell? ⟨gb360, 1, none⟩ = some (.string a0_1) := (blk_cell BK360.out 1).trans rfl
   have hcz5_2 : w3.cell? ⟨gb360, 2, none⟩ = some (.slice A0_2 l0_2.length c0_2) := (blk_cell BK360.out 2).trans rfl
   have hcz5_3 : w3.cell? ⟨gb360, 3, none⟩ = some (.int .i64 a0_3) := (blk_cell BK360.out 3).trans rfl
   have hcz5_4 : w3.cell? ⟨gb360, 4, none⟩ = some (.string a0_4) := (blk_cell BK360.out 4).trans rfl
   have hcz5_5 : w3.cell? ⟨gb360, 5, none⟩ = some (.int .i64 a0_5) := (blk_cell BK360.out 5).trans rfl
   have hcz5_6 : w3.cell? ⟨gb360, 6, none⟩ = some (.slice A0_6 l0_6.length c0_6) := (blk_cell BK360.out 6).trans rfl
   have hfz5_0 := blk_frozen BK360.out 0
   have hfz5_1 := blk_frozen BK360.out 1
   have hfz5_2 := blk_frozen BK360.out 2
   have hfz5_3 := blk_frozen BK360.out 3
   have hfz5_4 := blk_frozen BK360.out 4
   have hfz5_5 := blk_frozen BK360.out 5
   have hfz5_6 := blk_frozen BK360.out 6
   go_wp2
   go_meet
   case rel => exact ⟨_, (true), rfl, H', ⟨by first | omega | exact Nat.le_refl _⟩, ⟨by exact BK360.out⟩, ⟨by with_reducible exact HB.out⟩⟩
  ·
   rw [if_neg c4] at H
   have c4b0 : decide (100 < (l0_2.length : Int)) = false := decide_eq_false c4
   have c4b1 : decide (100 < l0_2.length) = false := decide_eq_false (by omega)
   clear c4
   (first | rw [c4b0] | (simp only [i64_w, i32_w]; rw [c4b0]) | skip)
   by_cases c6 : (l0_6.length : Int) > 40
   ·
    rw [if_pos c6] at H
    have c6b0 : decide (40 < (l0_6.length : Int)) = true := decide_eq_true c6
    have c6b1 : decide (40 < l0_6.length) = true := decide_eq_true (by omega)
    clear c6
    have H' := Aside0.mk H
    clear H
    have hcz7_0 : w3.cell? ⟨gb360, 0, none⟩ = some (.int .i64 a0_0) := (blk_cell BK360.out 0).trans rfl
    have hcz7_1 : w3.cell? ⟨gb360, 1, none⟩ = some (.string a0_1) := (blk_cell BK360.out 1).trans rfl
    have hcz7_2 : w3.cell? ⟨gb360, 2, none⟩ = some (.slice A0_2 l0_2.length c0_2) := (blk_cell BK360.out 2).trans rfl
    have hcz7_3 : w3.cell? ⟨gb360, 3, none⟩ = some (.int .i64 a0_3) := (blk_cell BK360.out 3).trans rfl
    have hcz7_4 : w3.cell? ⟨gb360, 4, none⟩ = some (.string a0_4) := (blk_cell BK360.out 4).trans rfl
    have hcz7_5 : w3.cell? ⟨gb360, 5, none⟩ = some (.int .i64 a0_5) := (blk_cell BK360.out 5).trans rfl
    have hcz7_6 : w3.cell? ⟨gb360, 6, none⟩ = some (.slice A0_6 l0_6.length c0_6) := (blk_cell BK360.out 6).trans rfl
    have hfz7_0 := blk_frozen BK360.out 0
    have hfz7_1 := blk_frozen BK360.out 1
    have hfz7_2 := blk_frozen BK360.out 2
    have hfz7_3 := blk_frozen BK360.out 3
    have hfz7_4 := blk_frozen BK360.out 4
    have hfz7_5 := blk_frozen BK360.out 5
    have hfz7_6 := blk_frozen BK360.out 6
    go_wp2
    go_meet
    case rel => exact ⟨_, (true), rfl, H', ⟨by first | omega | exact Nat.le_refl _⟩, ⟨by exact BK360.out⟩, ⟨by with_reducible exact HB.out⟩⟩
   ·
    rw [if_neg c6] at H
    have c6b0 : decide (40 < (l0_6.length : Int)) = false := decide_eq_false c6
    have c6b1 : decide (40 < l0_6.length) = false := decide_eq_false (by omega)
    clear c6
    have H' := Aside0.mk H
    clear H
    have hcz8_0 : w3.cell? ⟨gb360, 0, none⟩ = some (.int .i64 a0_0) := (blk_cell BK360.out 0).trans rfl
    have hcz8_1 : w3.cell? ⟨gb360, 1, none⟩ = some (.string a0_1) := (blk_cell BK360.out 1).trans rfl
    have hcz8_2 : w3.cell? ⟨gb360, 2, none⟩ = some (.slice A0_2 l0_2.length c0_2) := (blk_cell BK360.out 2).trans rfl
    have hcz8_3 : w3.cell? ⟨gb360, 3, none⟩ = some (.int .i64 a0_3) := (blk_cell BK360.out 3).trans rfl
    have hcz8_4 : w3.cell? ⟨gb360, 4, none⟩ = some (.string a0_4) := (blk_cell BK360.out 4).trans rfl
    have hcz8_5 : w3.cell? ⟨gb360, 5, none⟩ = some (.int .i64 a0_5) := (blk_cell BK360.out 5).trans rfl
    have hcz8_6 : w3.cell? ⟨gb360, 6, none⟩ = some (.slice A0_6 l0_6.length c0_6) := (blk_cell BK360.out 6).trans rfl
    have hfz8_0 := blk_frozen BK360.out 0
    have hfz8_1 := blk_frozen BK360.out 1
    have hfz8_2 := blk_frozen BK360.out 2
    have hfz8_3 := blk_frozen BK360.out 3
    have hfz8_4 := blk_frozen BK360.out 4
    have hfz8_5 := blk_frozen BK360.out 5
    have hfz8_6 := blk_frozen BK360.out 6
    go_wp2
    go_meet
    case rel => exact ⟨_, (decide ((wrap64 ((a0_1.size : Int) + (a0_4.size : Int))) > 400)), rfl, H', ⟨by first | omega | exact Nat.le_refl _⟩, ⟨by exact BK360.out⟩, ⟨by with_reducible exact HB.out⟩⟩
 case rest =>
  clear HC2
  obtain ⟨kq, x25_1, rfl, HA, HJ1, BK360, HB⟩ := hcut
  cases kq with
  | zero => exact absurd HA.out (by simp [verdererref13_Few.j0])
  | succ kj1 =>
   have H := HA.out
   clear HA
   simp only [verdererref13_Few.j0] at H
   by_cases c9 : x25_1 = true
   ·
    subst c9
    have H1 : (some false) = some r := by rw [if_pos rfl] at H; exact H
    clear H
    have H := H1
    clear H1
    obtain rfl := Option.some.inj H
    go_wp2
    go_ret
    exact ⟨rfl, by with_reducible exact HB.out⟩
   ·
    replace c9 := Bool.eq_false_iff.mpr c9
    subst c9
    have H1 : (verdererref13_Few.l0 kj1 0 a0_0 a0_1 l0_2 a0_3 a0_4 a0_5 l0_6) = some r := by rw [if_neg (show ¬ (false = true) by decide)] at H; exact H
    clear H
    have H := H1
    clear H1
    have H' := Aside0.mk H
    clear H
    go_wp2
    go_loopg [3] kj1 (fun kq v3 w' => ∃ (x3_2 : Int), v3 = .int .i64 x3_2 ∧ Aside0 (verdererref13_Few.l0 kq x3_2 a0_0 a0_1 l0_2 a0_3 a0_4 a0_5 l0_6 = some r) ∧ Aside0 (kq ≤ kj1) ∧ Aside0 (w'.heap[gb360]? = some (.cells #[.int .i64 a0_0, .string a0_1, (.slice A0_2 l0_2.length c0_2), .int .i64 a0_3, .string a0_4, .int .i64 a0_5, (.slice A0_6 l0_6.length c0_6)] 25 (0, 0))) ∧ Aside0 (Below w.heap.size w w'))
    case atStart => exact ⟨(0), rfl, H', ⟨Nat.le_refl _⟩, ⟨by exact BK360.out⟩, ⟨by with_reducible exact HB.out⟩⟩
    case round =>
     clear H'
     obtain ⟨x3_2, rfl, HA, HK2, BK360, HB⟩ := hrel
     cases gk with
     | zero => exact absurd HA.out (by simp [verdererref13_Few.l0])
     | succ k2 =>
      have H := HA.out
      clear HA
      simp only [verdererref13_Few.l0] at H
      by_cases c10 : x3_2 < (l0_2.length : Int)
      ·
       rw [if_pos c10] at H
       have c10b0 : decide (x3_2 < (l0_2.length : Int)) = true := decide_eq_true c10
       clear c10
       by_cases c11 : 0 ≤ x3_2
       ·
        rw [if_pos c11] at H
        have c11b0 : decide (0 ≤ x3_2) = true := decide_eq_true c11
        clear c11
        by_cases c12 : ((rdOf ByteArray.empty l0_2 x3_2).size : Int) > 400
        ·
         rw [if_pos c12] at H
         have c12b0 : decide (400 < ((rdOf ByteArray.empty l0_2 x3_2).size : Int)) = true := decide_eq_true c12
         have c12b1 : decide (400 < (rdOf ByteArray.empty l0_2 x3_2).size) = true := decide_eq_true (by omega)
         clear c12
         obtain rfl := Option.some.inj H
         have hcz13_0 : wr.cell? ⟨gb360, 0, none⟩ = some (.int .i64 a0_0) := (blk_cell BK360.out 0).trans rfl
         have hcz13_1 : wr.cell? ⟨gb360, 1, none⟩ = some (.string a0_1) := (blk_cell BK360.out 1).trans rfl
         have hcz13_2 : wr.cell? ⟨gb360, 2, none⟩ = some (.slice A0_2 l0_2.length c0_2) := (blk_cell BK360.out 2).trans rfl
         have hcz13_3 : wr.cell? ⟨gb360, 3, none⟩ = some (.int .i64 a0_3) := (blk_cell BK360.out 3).trans rfl
         have hcz13_4 : wr.cell? ⟨gb360, 4, none⟩ = some (.string a0_4) := (blk_cell BK360.out 4).trans rfl
         have hcz13_5 : wr.cell? ⟨gb360, 5, none⟩ = some (.int .i64 a0_5) := (blk_cell BK360.out 5).trans rfl
         have hcz13_6 : wr.cell? ⟨gb360, 6, none⟩ = some (.slice A0_6 l0_6.length c0_6) := (blk_cell BK360.out 6).trans rfl
         have hfz13_0 := blk_frozen BK360.out 0
         have hfz13_1 := blk_frozen BK360.out 1
         have hfz13_2 := blk_frozen BK360.out 2
         have hfz13_3 := blk_frozen BK360.out 3
         have hfz13_4 := blk_frozen BK360.out 4
         have hfz13_5 := blk_frozen BK360.out 5
         have hfz13_6 := blk_frozen BK360.out 6
         have p361 : 0 ≤ (x3_2 : Int) := of_decide_eq_true (by first | (with_reducible assumption) | assumption)
         have q361 : x3_2 < (l0_2.length : Int) := of_decide_eq_true (by first | (with_reducible assumption) | assumption)
         obtain ⟨ad361, e361, hx361_0⟩ := Kd.at_string HR0_2.out x3_2 p361 q361
         cases e361
         replace hx361_0 := (HB.out.cell (World.block_lt_of_cell? w _ hx361_0)).trans hx361_0
         replace p361 := eq_true p361
         replace q361 := eq_true q361
         go_wp2
         go_ret
         exact ⟨rfl, by with_reducible exact HB.out⟩
        ·
         rw [if_neg c12] at H
         have c12b0 : decide (400 < ((rdOf ByteArray.empty l0_2 x3_2).size : Int)) = false := decide_eq_false c12
         have c12b1 : decide (400 < (rdOf ByteArray.empty l0_2 x3_2).size) = false := decide_eq_false (by omega)
         clear c12
         have H' := Aside0.mk H
         clear H
         have hcz14_0 : wr.cell? ⟨gb360, 0, none⟩ = some (.int .i64 a0_0) := (blk_cell BK360.out 0).trans rfl
         have hcz14_1 : wr.cell? ⟨gb360, 1, none⟩ = some (.string a0_1) := (blk_cell BK360.out 1).trans rfl
         have hcz14_2 : wr.cell? ⟨gb360, 2, none⟩ = some (.slice A0_2 l0_2.length c0_2) := (blk_cell BK360.out 2).trans rfl
         have hcz14_3 : wr.cell? ⟨gb360, 3, none⟩ = some (.int .i64 a0_3) := (blk_cell BK360.out 3).trans rfl
         have hcz14_4 : wr.cell? ⟨gb360, 4, none⟩ = some (.string a0_4) := (blk_cell BK360.out 4).trans rfl
         have hcz14_5 : wr.cell? ⟨gb360, 5, none⟩ = some (.int .i64 a0_5) := (blk_cell BK360.out 5).trans rfl
         have hcz14_6 : wr.cell? ⟨gb360, 6, none⟩ = some (.slice A0_6 l0_6.length c0_6) := (blk_cell BK360.out 6).trans rfl
         have hfz14_0 := blk_frozen BK360.out 0
         have hfz14_1 := blk_frozen BK360.out 1
         have hfz14_2 := blk_frozen BK360.out 2
         have hfz14_3 := blk_frozen BK360.out 3
         have hfz14_4 := blk_frozen BK360.out 4
         have hfz14_5 := blk_frozen BK360.out 5
         have hfz14_6 := blk_frozen BK360.out 6
         have p361 : 0 ≤ (x3_2 : Int) := of_decide_eq_true (by first | (with_reducible assumption) | assumption)
         have q361 : x3_2 < (l0_2.length : Int) := of_decide_eq_true (by first | (with_reducible assumption) | assumption)
         obtain ⟨ad361, e361, hx361_0⟩ := Kd.at_string HR0_2.out x3_2 p361 q361
         cases e361
         replace hx361_0 := (HB.out.cell (World.block_lt_of_cell? w _ hx361_0)).trans hx361_0
         replace p361 := eq_true p361
         replace q361 := eq_true q361
         go_wp2
         go_roundg k2
         case measure => have := HJ1.out; have := HK2.out; omega
         case rel => exact ⟨(wrap64 (x3_2 + 1)), rfl, H', ⟨by have := HJ1.out; have := HK2.out; omega⟩, ⟨by exact BK360.out⟩, ⟨by with_reducible exact HB.out⟩⟩
       ·
        rw [if_neg c11] at H
        exact absurd H (by simp)
      ·
       rw [if_neg c10] at H
       have c10b0 : decide (x3_2 < (l0_2.length : Int)) = false := decide_eq_false c10
       clear c10
       have H' := Aside0.mk H
       clear H
       have hcz15_0 : wr.cell? ⟨gb360, 0, none⟩ = some (.int .i64 a0_0) := (blk_cell BK360.out 0).trans rfl
       have hcz15_1 : wr.cell? ⟨gb360, 1, none⟩ = some (.string a0_1) := (blk_cell BK360.out 1).trans rfl
       have hcz15_2 : wr.cell? ⟨gb360, 2, none⟩ = some (.slice A0_2 l0_2.length c0_2) := (blk_cell BK360.out 2).trans rfl
       have hcz15_3 : wr.cell? ⟨gb360, 3, none⟩ = some (.int .i64 a0_3) := (blk_cell BK360.out 3).trans rfl
       have hcz15_4 : wr.cell? ⟨gb360, 4, none⟩ = some (.string a0_4) := (blk_cell BK360.out 4).trans rfl
       have hcz15_5 : wr.cell? ⟨gb360, 5, none⟩ = some (.int .i64 a0_5) := (blk_cell BK360.out 5).trans rfl
       have hcz15_6 : wr.cell? ⟨gb360, 6, none⟩ = some (.slice A0_6 l0_6.length c0_6) := (blk_cell BK360.out 6).trans rfl
       have hfz15_0 := blk_frozen BK360.out 0
       have hfz15_1 := blk_frozen BK360.out 1
       have hfz15_2 := blk_frozen BK360.out 2
       have hfz15_3 := blk_frozen BK360.out 3
       have hfz15_4 := blk_frozen BK360.out 4
       have hfz15_5 := blk_frozen BK360.out 5
       have hfz15_6 := blk_frozen BK360.out 6
       go_wp2
       go_loopg [4] k2 (fun kq v4 w' => ∃ (x4_3 : Int), v4 = .int .i64 x4_3 ∧ Aside0 (verdererref13_Few.l1 kq x4_3 a0_0 a0_1 l0_2 a0_3 a0_4 a0_5 l0_6 = some r) ∧ Aside0 (kq ≤ k2) ∧ Aside0 (w'.heap[gb360]? = some (.cells #[.int .i64 a0_0, .string a0_1, (.slice A0_2 l0_2.length c0_2), .int .i64 a0_3, .string a0_4, .int .i64 a0_5, (.slice A0_6 l0_6.length c0_6)] 25 (0, 0))) ∧ Aside0 (Below w.heap.size w w'))
       case atStart => exact ⟨(0), rfl, H', ⟨Nat.le_refl _⟩, ⟨by exact BK360.out⟩, ⟨by with_reducible exact HB.out⟩⟩
       case round =>
        clear H'
        clear c10b0 hcz15_0 hcz15_1 hcz15_2 hcz15_3 hcz15_4 hcz15_5 hcz15_6 hfz15_0 hfz15_1 hfz15_2 hfz15_3 hfz15_4 hfz15_5 hfz15_6
        obtain ⟨x4_3, rfl, HA, HK3, BK360, HB⟩ := hrel
        cases gk with
        | zero => exact absurd HA.out (by simp [verdererref13_Few.l1])
        | succ k3 =>
         have H := HA.out
         clear HA
         simp only [verdererref13_Few.l1] at H
         by_cases c16 : x4_3 < (l0_6.length : Int)
         ·
          rw [if_pos c16] at H
          have c16b0 : decide (x4_3 < (l0_6.length : Int)) = true := decide_eq_true c16
          clear c16
          have HC17 := Aside0.mk H
          clear H
          have hcz18_0 : wr.cell? ⟨gb360, 0, none⟩ = some (.int .i64 a0_0) := (blk_cell BK360.out 0).trans rfl
          have hcz18_1 : wr.cell? ⟨gb360, 1, none⟩ = some (.string a0_1) := (blk_cell BK360.out 1).trans rfl
          have hcz18_2 : wr.cell? ⟨gb360, 2, none⟩ = some (.slice A0_2 l0_2.length c0_2) := (blk_cell BK360.out 2).trans rfl
          have hcz18_3 : wr.cell? ⟨gb360, 3, none⟩ = some (.int .i64 a0_3) := (blk_cell BK360.out 3).trans rfl
          have hcz18_4 : wr.cell? ⟨gb360, 4, none⟩ = some (.string a0_4) := (blk_cell BK360.out 4).trans rfl
          have hcz18_5 : wr.cell? ⟨gb360, 5, none⟩ = some (.int .i64 a0_5) := (blk_cell BK360.out 5).trans rfl
          have hcz18_6 : wr.cell? ⟨gb360, 6, none⟩ = some (.slice A0_6 l0_6.length c0_6) := (blk_cell BK360.out 6).trans rfl
          have hfz18_0 := blk_frozen BK360.out 0
          have hfz18_1 := blk_frozen BK360.out 1
          have hfz18_2 := blk_frozen BK360.out 2
          have hfz18_3 := blk_frozen BK360.out 3
          have hfz18_4 := blk_frozen BK360.out 4
          have hfz18_5 := blk_frozen BK360.out 5
          have hfz18_6 := blk_frozen BK360.out 6
          go_upto_region 11 with (fail)
          go_cut [64] (fun v64 wc => ∃ (kq : Nat) (x64_16 : Bool), v64 = .bool x64_16 ∧ Aside0 (verdererref13_Few.j3 kq x4_3 x64_16 a0_0 a0_1 l0_2 a0_3 a0_4 a0_5 l0_6 = some r) ∧ Aside0 (kq ≤ k3) ∧ Aside0 (wc.heap[gb360]? = some (.cells #[.int .i64 a0_0, .string a0_1, (.slice A0_2 l0_2.length c0_2), .int .i64 a0_3, .string a0_4, .int .i64 a0_5, (.slice A0_6 l0_6.length c0_6)] 25 (0, 0))) ∧ Aside0 (Below w.heap.size w wc))
          case first =>
           have H := HC17.out
           clear HC17
           by_cases c19 : 0 ≤ x4_3
           ·
            rw [if_pos c19] at H
            have c19b0 : decide (0 ≤ x4_3) = true := decide_eq_true c19
            clear c19
            (first | rw [c19b0] | (simp only [i64_w, i32_w]; rw [c19b0]) | skip)
            by_cases c20 : (((rd_T41 l0_6 x4_3).f2).length : Int) > 100
            ·
             rw [if_pos c20] at H
             have c20b0 : decide (100 < (((rd_T41 l0_6 x4_3).f2).length : Int)) = true := decide_eq_true c20
             have c20b1 : decide (100 < ((rd_T41 l0_6 x4_3).f2).length) = true := decide_eq_true (by omega)
             clear c20
             have H' := Aside0.mk H
             clear H
             have hcz21_0 : wr.cell? ⟨gb360, 0, none⟩ = some (.int .i64 a0_0) := (blk_cell BK360.out 0).trans rfl
             have hcz21_1 : wr.cell? ⟨gb360, 1, none⟩ = some (.string a0_1) := (blk_cell BK360.out 1).trans rfl
             have hcz21_2 : wr.cell? ⟨gb360, 2, none⟩ = some (.slice A0_2 l0_2.length c0_2) := (blk_cell BK360.out 2).trans rfl
             have hcz21_3 : wr.cell? ⟨gb360, 3, none⟩ = some (.int .i64 a0_3) := (blk_cell BK360.out 3).trans rfl
             have hcz21_4 : wr.cell? ⟨gb360, 4, none⟩ = some (.string a0_4) := (blk_cell BK360.out 4).trans rfl
             have hcz21_5 : wr.cell? ⟨gb360, 5, none⟩ = some (.int .i64 a0_5) := (blk_cell BK360.out 5).trans rfl
             have hcz21_6 : wr.cell? ⟨gb360, 6, none⟩ = some (.slice A0_6 l0_6.length c0_6) := (blk_cell BK360.out 6).trans rfl
             have hfz21_0 := blk_frozen BK360.out 0
             have hfz21_1 := blk_frozen BK360.out 1
             have hfz21_2 := blk_frozen BK360.out 2
             have hfz21_3 := blk_frozen BK360.out 3
             have hfz21_4 := blk_frozen BK360.out 4
             have hfz21_5 := blk_frozen BK360.out 5
             have hfz21_6 := blk_frozen BK360.out 6
             have p362 : 0 ≤ (x4_3 : Int) := of_decide_eq_true (by first | (with_reducible assumption) | assumption)
             have q362 : x4_3 < (l0_6.length : Int) := of_decide_eq_true (by first | (with_reducible assumption) | assumption)
             obtain ⟨ad362, A362_2, c362_2, e362, hx362_0, hx362_1, hx362_2, hx362_3, hl362_2, hi362_2⟩ := at_T41 HR0_6.out x4_3 p362 q362
             cases e362
             replace hx362_0 := (HB.out.cell (World.block_lt_of_cell? w _ hx362_0)).trans hx362_0
             replace hx362_1 := (HB.out.cell (World.block_lt_of_cell? w _ hx362_1)).trans hx362_1
             replace hx362_2 := (HB.out.cell (World.block_lt_of_cell? w _ hx362_2)).trans hx362_2
             replace hx362_3 := (HB.out.cell (World.block_lt_of_cell? w _ hx362_3)).trans hx362_3
             have HR362_2 := Aside0.mk hi362_2
             have HC362_2 := Aside0.mk hl362_2
             clear hi362_2 hl362_2
             replace p362 := eq_true p362
             replace q362 := eq_true q362
             go_wp2
             go_meet
             case rel => exact ⟨_, (true), rfl, H', ⟨by have := HJ1.out; have := HK2.out; have := HK3.out; first | omega | exact Nat.le_refl _⟩, ⟨by exact BK360.out⟩, ⟨by with_reducible exact HB.out⟩⟩
            ·
             rw [if_neg c20] at H
             have c20b0 : decide (100 < (((rd_T41 l0_6 x4_3).f2).length : Int)) = false := decide_eq_false c20
             have c20b1 : decide (100 < ((rd_T41 l0_6 x4_3).f2).length) = false := decide_eq_false (by omega)
             clear c20
             have H' := Aside0.mk H
             clear H
             have hcz22_0 : wr.cell? ⟨gb360, 0, none⟩ = some (.int .i64 a0_0) := (blk_cell BK360.out 0).trans rfl
             have hcz22_1 : wr.cell? ⟨gb360, 1, none⟩ = some (.string a0_1) := (blk_cell BK360.out 1).trans rfl
             have hcz22_2 : wr.cell? ⟨gb360, 2, none⟩ = some (.slice A0_2 l0_2.length c0_2) := (blk_cell BK360.out 2).trans rfl
             have hcz22_3 : wr.cell? ⟨gb360, 3, none⟩ = some (.int .i64 a0_3) := (blk_cell BK360.out 3).trans rfl
             have hcz22_4 : wr.cell? ⟨gb360, 4, none⟩ = some (.string a0_4) := (blk_cell BK360.out 4).trans rfl
             have hcz22_5 : wr.cell? ⟨gb360, 5, none⟩ = some (.int .i64 a0_5) := (blk_cell BK360.out 5).trans rfl
             have hcz22_6 : wr.cell? ⟨gb360, 6, none⟩ = some (.slice A0_6 l0_6.length c0_6) := (blk_cell BK360.out 6).trans rfl
             have hfz22_0 := blk_frozen BK360.out 0
             have hfz22_1 := blk_frozen BK360.out 1
             have hfz22_2 := blk_frozen BK360.out 2
             have hfz22_3 := blk_frozen BK360.out 3
             have hfz22_4 := blk_frozen BK360.out 4
             have hfz22_5 := blk_frozen BK360.out 5
             have hfz22_6 := blk_frozen BK360.out 6
             have p362 : 0 ≤ (x4_3 : Int) := of_decide_eq_true (by first | (with_reducible assumption) | assumption)
             have q362 : x4_3 < (l0_6.length : Int) := of_decide_eq_true (by first | (with_reducible assumption) | assumption)
             obtain ⟨ad362, A362_2, c362_2, e362, hx362_0, hx362_1, hx362_2, hx362_3, hl362_2, hi362_2⟩ := at_T41 HR0_6.out x4_3 p362 q362
             cases e362
             replace hx362_0 := (HB.out.cell (World.block_lt_of_cell? w _ hx362_0)).trans hx362_0
             replace hx362_1 := (HB.out.cell (World.block_lt_of_cell? w _ hx362_1)).trans hx362_1
             replace hx362_2 := (HB.out.cell (World.block_lt_of_cell? w _ hx362_2)).trans hx362_2
             replace hx362_3 := (HB.out.cell (World.block_lt_of_cell? w _ hx362_3)).trans hx362_3
             have HR362_2 := Aside0.mk hi362_2
             have HC362_2 := Aside0.mk hl362_2
             clear hi362_2 hl362_2
             replace p362 := eq_true p362
             replace q362 := eq_true q362
             have p363 : 0 ≤ (x4_3 : Int) := of_decide_eq_true (by first | (with_reducible assumption) | assumption)
             have q363 : x4_3 < (l0_6.length : Int) := of_decide_eq_true (by first | (with_reducible assumption) | assumption)
             obtain ⟨ad363, A363_2, c363_2, e363, hx363_0, hx363_1, hx363_2, hx363_3, hl363_2, hi363_2⟩ := at_T41 HR0_6.out x4_3 p363 q363
             obtain rfl : ad362 = ad363 := (by injection e363)
             replace hx363_0 := (HB.out.cell (World.block_lt_of_cell? w _ hx363_0)).trans hx363_0
             replace hx363_1 := (HB.out.cell (World.block_lt_of_cell? w _ hx363_1)).trans hx363_1
             replace hx363_2 := (HB.out.cell (World.block_lt_of_cell? w _ hx363_2)).trans hx363_2
             replace hx363_3 := (HB.out.cell (World.block_lt_of_cell? w _ hx363_3)).trans hx363_3
             have HR363_2 := Aside0.mk hi363_2
             have HC363_2 := Aside0.mk hl363_2
             clear hi363_2 hl363_2
             replace p363 := eq_true p363
             replace q363 := eq_true q363
             have ea_ := Option.some.inj (hx362_2.symm.trans hx363_2)
             injection ea_ with ea_ en_ ec_
             subst ea_
             subst ec_
             clear en_
             go_wp2
             go_meet
             case rel => exact ⟨_, (decide ((((rd_T41 l0_6 x4_3).f1).size : Int) > 400)), rfl, H', ⟨by have := HJ1.out; have := HK2.out; have := HK3.out; first | omega | exact Nat.le_refl _⟩, ⟨by exact BK360.out⟩, ⟨by with_reducible exact HB.out⟩⟩
           ·
            rw [if_neg c19] at H
            exact absurd H (by simp)
          case rest =>
           clear HC17
           clear c16b0 hcz18_0 hcz18_1 hcz18_2 hcz18_3 hcz18_4 hcz18_5 hcz18_6 hfz18_0 hfz18_1 hfz18_2 hfz18_3 hfz18_4 hfz18_5 hfz18_6
           obtain ⟨kq, x64_16, rfl, HA, HJ16, BK360, HB⟩ := hcut
           cases kq with
           | zero => exact absurd HA.out (by simp [verdererref13_Few.j3])
           | succ kj16 =>
            have H := HA.out
            clear HA
            simp only [verdererref13_Few.j3] at H
            by_cases c23 : x64_16 = true
            ·
             subst c23
             have H1 : (some false) = some r := by rw [if_pos rfl] at H; exact H
             clear H
             have H := H1
             clear H1
             obtain rfl := Option.some.inj H
             go_wp2
             go_ret
             exact ⟨rfl, by with_reducible exact HB.out⟩
            ·
             replace c23 := Bool.eq_false_iff.mpr c23
             subst c23
             have H1 : (verdererref13_Few.l2 kj16 x4_3 0 a0_0 a0_1 l0_2 a0_3 a0_4 a0_5 l0_6) = some r := by rw [if_neg (show ¬ (false = true) by decide)] at H; exact H
             clear H
             have H := H1
             clear H1
             have H' := Aside0.mk H
             clear H
             go_wp2
             go_loopg [5] kj16 (fun kq v5 w' => ∃ (x5_5 : Int), v5 = .int .i64 x5_5 ∧ Aside0 (verdererref13_Few.l2 kq x4_3 x5_5 a0_0 a0_1 l0_2 a0_3 a0_4 a0_5 l0_6 = some r) ∧ Aside0 (kq ≤ kj16) ∧ Aside0 (w'.heap[gb360]? = some (.cells #[.int .i64 a0_0, .string a0_1, (.slice A0_2 l0_2.length c0_2), .int .i64 a0_3, .string a0_4, .int .i64 a0_5, (.slice A0_6 l0_6.length c0_6)] 25 (0, 0))) ∧ Aside0 (Below w.heap.size w w'))
             case atStart => exact ⟨(0), rfl, H', ⟨Nat.le_refl _⟩, ⟨by exact BK360.out⟩, ⟨by with_reducible exact HB.out⟩⟩
             case round =>
              clear H'
              
              obtain ⟨x5_5, rfl, HA, HK5, BK360, HB⟩ := hrel
              cases gk with
              | zero => exact absurd HA.out (by simp [verdererref13_Few.l2])
              | succ k5 =>
               have H := HA.out
               clear HA
               simp only [verdererref13_Few.l2] at H
               by_cases c24 : 0 ≤ x4_3
               ·
                rw [if_pos c24] at H
                have c24b0 : decide (0 ≤ x4_3) = true := decide_eq_true c24
                clear c24
                by_cases c25 : x4_3 < (l0_6.length : Int)
                ·
                 rw [if_pos c25] at H
                 have c25b0 : decide (x4_3 < (l0_6.length : Int)) = true := decide_eq_true c25
                 clear c25
                 by_cases c26 : x5_5 < (((rd_T41 l0_6 x4_3).f2).length : Int)
                 ·
                  rw [if_pos c26] at H
                  have c26b0 : decide (x5_5 < (((rd_T41 l0_6 x4_3).f2).length : Int)) = true := decide_eq_true c26
                  clear c26
                  by_cases c27 : 0 ≤ x5_5
                  ·
                   rw [if_pos c27] at H
                   have c27b0 : decide (0 ≤ x5_5) = true := decide_eq_true c27
                   clear c27
                   by_cases c28 : (((rd_T38 ((rd_T41 l0_6 x4_3).f2) x5_5).f0).size : Int) > 400
                   ·
                    rw [if_pos c28] at H
                    have c28b0 : decide (400 < (((rd_T38 ((rd_T41 l0_6 x4_3).f2) x5_5).f0).size : Int)) = true := decide_eq_true c28
                    have c28b1 : decide (400 < ((rd_T38 ((rd_T41 l0_6 x4_3).f2) x5_5).f0).size) = true := decide_eq_true (by omega)
                    clear c28
                    obtain rfl := Option.some.inj H
                    have hcz29_0 : wr.cell? ⟨gb360, 0, none⟩ = some (.int .i64 a0_0) := (blk_cell BK360.out 0).trans rfl
                    have hcz29_1 : wr.cell? ⟨gb360, 1, none⟩ = some (.string a0_1) := (blk_cell BK360.out 1).trans rfl
                    have hcz29_2 : wr.cell? ⟨gb360, 2, none⟩ = some (.slice A0_2 l0_2.length c0_2) := (blk_cell BK360.out 2).trans rfl
                    have hcz29_3 : wr.cell? ⟨gb360, 3, none⟩ = some (.int .i64 a0_3) := (blk_cell BK360.out 3).trans rfl
                    have hcz29_4 : wr.cell? ⟨gb360, 4, none⟩ = some (.string a0_4) := (blk_cell BK360.out 4).trans rfl
                    have hcz29_5 : wr.cell? ⟨gb360, 5, none⟩ = some (.int .i64 a0_5) := (blk_cell BK360.out 5).trans rfl
                    have hcz29_6 : wr.cell? ⟨gb360, 6, none⟩ = some (.slice A0_6 l0_6.length c0_6) := (blk_cell BK360.out 6).trans rfl
                    have hfz29_0 := blk_frozen BK360.out 0
                    have hfz29_1 := blk_frozen BK360.out 1
                    have hfz29_2 := blk_frozen BK360.out 2
                    have hfz29_3 := blk_frozen BK360.out 3
                    have hfz29_4 := blk_frozen BK360.out 4
                    have hfz29_5 := blk_frozen BK360.out 5
                    have hfz29_6 := blk_frozen BK360.out 6
                    have p364 : 0 ≤ (x4_3 : Int) := of_decide_eq_true (by first | (with_reducible assumption) | assumption)
                    have q364 : x4_3 < (l0_6.length : Int) := of_decide_eq_true (by first | (with_reducible assumption) | assumption)
                    obtain ⟨ad364, A364_2, c364_2, e364, hx364_0, hx364_1, hx364_2, hx364_3, hl364_2, hi364_2⟩ := at_T41 HR0_6.out x4_3 p364 q364
                    cases e364
                    replace hx364_0 := (HB.out.cell (World.block_lt_of_cell? w _ hx364_0)).trans hx364_0
                    replace hx364_1 := (HB.out.cell (World.block_lt_of_cell? w _ hx364_1)).trans hx364_1
                    replace hx364_2 := (HB.out.cell (World.block_lt_of_cell? w _ hx364_2)).trans hx364_2
                    replace hx364_3 := (HB.out.cell (World.block_lt_of_cell? w _ hx364_3)).trans hx364_3
                    have HR364_2 := Aside0.mk hi364_2
                    have HC364_2 := Aside0.mk hl364_2
                    clear hi364_2 hl364_2
                    replace p364 := eq_true p364
                    replace q364 := eq_true q364
                    have p365 : 0 ≤ (x4_3 : Int) := of_decide_eq_true (by first | (with_reducible assumption) | assumption)
                    have q365 : x4_3 < (l0_6.length : Int) := of_decide_eq_true (by first | (with_reducible assumption) | assumption)
                    obtain ⟨ad365, A365_2, c365_2, e365, hx365_0, hx365_1, hx365_2, hx365_3, hl365_2, hi365_2⟩ := at_T41 HR0_6.out x4_3 p365 q365
                    obtain rfl : ad364 = ad365 := (by injection e365)
                    replace hx365_0 := (HB.out.cell (World.block_lt_of_cell? w _ hx365_0)).trans hx365_0
                    replace hx365_1 := (HB.out.cell (World.block_lt_of_cell? w _ hx365_1)).trans hx365_1
                    replace hx365_2 := (HB.out.cell (World.block_lt_of_cell? w _ hx365_2)).trans hx365_2
                    replace hx365_3 := (HB.out.cell (World.block_lt_of_cell? w _ hx365_3)).trans hx365_3
                    have HR365_2 := Aside0.mk hi365_2
                    have HC365_2 := Aside0.mk hl365_2
                    clear hi365_2 hl365_2
                    replace p365 := eq_true p365
                    replace q365 := eq_true q365
                    have ea_ := Option.some.inj (hx364_2.symm.trans hx365_2)
                    injection ea_ with ea_ en_ ec_
                    subst ea_
                    subst ec_
                    clear en_
                    have p366 : 0 ≤ (x5_5 : Int) := of_decide_eq_true (by first | (with_reducible assumption) | assumption)
                    have q366 : x5_5 < (((rd_T41 l0_6 x4_3).f2).length : Int) := of_decide_eq_true (by first | (with_reducible assumption) | assumption)
                    obtain ⟨ad366, e366, hx366_0, hx366_1, hx366_2, hx366_3, hx366_4, hx366_5⟩ := at_T38 HR365_2.out x5_5 p366 q366
                    cases e366
                    replace hx366_0 := (HB.out.cell (World.block_lt_of_cell? w _ hx366_0)).trans hx366_0
                    replace hx366_1 := (HB.out.cell (World.block_lt_of_cell? w _ hx366_1)).trans hx366_1
                    replace hx366_2 := (HB.out.cell (World.block_lt_of_cell? w _ hx366_2)).trans hx366_2
                    replace hx366_3 := (HB.out.cell (World.block_lt_of_cell? w _ hx366_3)).trans hx366_3
                    replace hx366_4 := (HB.out.cell (World.block_lt_of_cell? w _ hx366_4)).trans hx366_4
                    replace hx366_5 := (HB.out.cell (World.block_lt_of_cell? w _ hx366_5)).trans hx366_5
                    replace p366 := eq_true p366
                    replace q366 := eq_true q366
                    go_wp2
                    go_ret
                    exact ⟨rfl, by with_reducible exact HB.out⟩
                   ·
                    rw [if_neg c28] at H
                    have c28b0 : decide (400 < (((rd_T38 ((rd_T41 l0_6 x4_3).f2) x5_5).f0).size : Int)) = false := decide_eq_false c28
                    have c28b1 : decide (400 < ((rd_T38 ((rd_T41 l0_6 x4_3).f2) x5_5).f0).size) = false := decide_eq_false (by omega)
                    clear c28
                    have H' := Aside0.mk H
                    clear H
                    have hcz30_0 : wr.cell? ⟨gb360, 0, none⟩ = some (.int .i64 a0_0) := (blk_cell BK360.out 0).trans rfl
                    have hcz30_1 : wr.cell? ⟨gb360, 1, none⟩ = some (.string a0_1) := (blk_cell BK360.out 1).trans rfl
                    have hcz30_2 : wr.cell? ⟨gb360, 2, none⟩ = some (.slice A0_2 l0_2.length c0_2) := (blk_cell BK360.out 2).trans rfl
                    have hcz30_3 : wr.cell? ⟨gb360, 3, none⟩ = some (.int .i64 a0_3) := (blk_cell BK360.out 3).trans rfl
                    have hcz30_4 : wr.cell? ⟨gb360, 4, none⟩ = some (.string a0_4) := (blk_cell BK360.out 4).trans rfl
                    have hcz30_5 : wr.cell? ⟨gb360, 5, none⟩ = some (.int .i64 a0_5) := (blk_cell BK360.out 5).trans rfl
                    have hcz30_6 : wr.cell? ⟨gb360, 6, none⟩ = some (.slice A0_6 l0_6.length c0_6) := (blk_cell BK360.out 6).trans rfl
                    have hfz30_0 := blk_frozen BK360.out 0
                    have hfz30_1 := blk_frozen BK360.out 1
                    have hfz30_2 := blk_frozen BK360.out 2
                    have hfz30_3 := blk_frozen BK360.out 3
                    have hfz30_4 := blk_frozen BK360.out 4
                    have hfz30_5 := blk_frozen BK360.out 5
                    have hfz30_6 := blk_frozen BK360.out 6
                    have p364 : 0 ≤ (x4_3 : Int) := of_decide_eq_true (by first | (with_reducible assumption) | assumption)
                    have q364 : x4_3 < (l0_6.length : Int) := of_decide_eq_true (by first | (with_reducible assumption) | assumption)
                    obtain ⟨ad364, A364_2, c364_2, e364, hx364_0, hx364_1, hx364_2, hx364_3, hl364_2, hi364_2⟩ := at_T41 HR0_6.out x4_3 p364 q364
                    cases e364
                    replace hx364_0 := (HB.out.cell (World.block_lt_of_cell? w _ hx364_0)).trans hx364_0
                    replace hx364_1 := (HB.out.cell (World.block_lt_of_cell? w _ hx364_1)).trans hx364_1
                    replace hx364_2 := (HB.out.cell (World.block_lt_of_cell? w _ hx364_2)).trans hx364_2
                    replace hx364_3 := (HB.out.cell (World.block_lt_of_cell? w _ hx364_3)).trans hx364_3
                    have HR364_2 := Aside0.mk hi364_2
                    have HC364_2 := Aside0.mk hl364_2
                    clear hi364_2 hl364_2
                    replace p364 := eq_true p364
                    replace q364 := eq_true q364
                    have p365 : 0 ≤ (x4_3 : Int) := of_decide_eq_true (by first | (with_reducible assumption) | assumption)
                    have q365 : x4_3 < (l0_6.length : Int) := of_decide_eq_true (by first | (with_reducible assumption) | assumption)
                    obtain ⟨ad365, A365_2, c365_2, e365, hx365_0, hx365_1, hx365_2, hx365_3, hl365_2, hi365_2⟩ := at_T41 HR0_6.out x4_3 p365 q365
                    obtain rfl : ad364 = ad365 := (by injection e365)
                    replace hx365_0 := (HB.out.cell (World.block_lt_of_cell? w _ hx365_0)).trans hx365_0
                    replace hx365_1 := (HB.out.cell (World.block_lt_of_cell? w _ hx365_1)).trans hx365_1
                    replace hx365_2 := (HB.out.cell (World.block_lt_of_cell? w _ hx365_2)).trans hx365_2
                    replace hx365_3 := (HB.out.cell (World.block_lt_of_cell? w _ hx365_3)).trans hx365_3
                    have HR365_2 := Aside0.mk hi365_2
                    have HC365_2 := Aside0.mk hl365_2
                    clear hi365_2 hl365_2
                    replace p365 := eq_true p365
                    replace q365 := eq_true q365
                    have ea_ := Option.some.inj (hx364_2.symm.trans hx365_2)
                    injection ea_ with ea_ en_ ec_
                    subst ea_
                    subst ec_
                    clear en_
                    have p366 : 0 ≤ (x5_5 : Int) := of_decide_eq_true (by first | (with_reducible assumption) | assumption)
                    have q366 : x5_5 < (((rd_T41 l0_6 x4_3).f2).length : Int) := of_decide_eq_true (by first | (with_reducible assumption) | assumption)
                    obtain ⟨ad366, e366, hx366_0, hx366_1, hx366_2, hx366_3, hx366_4, hx366_5⟩ := at_T38 HR365_2.out x5_5 p366 q366
                    cases e366
                    replace hx366_0 := (HB.out.cell (World.block_lt_of_cell? w _ hx366_0)).trans hx366_0
                    replace hx366_1 := (HB.out.cell (World.block_lt_of_cell? w _ hx366_1)).trans hx366_1
                    replace hx366_2 := (HB.out.cell (World.block_lt_of_cell? w _ hx366_2)).trans hx366_2
                    replace hx366_3 := (HB.out.cell (World.block_lt_of_cell? w _ hx366_3)).trans hx366_3
                    replace hx366_4 := (HB.out.cell (World.block_lt_of_cell? w _ hx366_4)).trans hx366_4
                    replace hx366_5 := (HB.out.cell (World.block_lt_of_cell? w _ hx366_5)).trans hx366_5
                    replace p366 := eq_true p366
                    replace q366 := eq_true q366
                    go_wp2
                    go_roundg k5
                    case measure => have := HJ1.out; have := HK2.out; have := HK3.out; have := HJ16.out; have := HK5.out; omega
                    case rel => exact ⟨(wrap64 (x5_5 + 1)), rfl, H', ⟨by have := HJ1.out; have := HK2.out; have := HK3.out; have := HJ16.out; have := HK5.out; omega⟩, ⟨by exact BK360.out⟩, ⟨by with_reducible exact HB.out⟩⟩
                  ·
                   rw [if_neg c27] at H
                   exact absurd H (by simp)
                 ·
                  rw [if_neg c26] at H
                  have c26b0 : decide (x5_5 < (((rd_T41 l0_6 x4_3).f2).length : Int)) = false := decide_eq_false c26
                  clear c26
                  have H' := Aside0.mk H
                  clear H
                  have hcz31_0 : wr.cell? ⟨gb360, 0, none⟩ = some (.int .i64 a0_0) := (blk_cell BK360.out 0).trans rfl
                  have hcz31_1 : wr.cell? ⟨gb360, 1, none⟩ = some (.string a0_1) := (blk_cell BK360.out 1).trans rfl
                  have hcz31_2 : wr.cell? ⟨gb360, 2, none⟩ = some (.slice A0_2 l0_2.length c0_2) := (blk_cell BK360.out 2).trans rfl
                  have hcz31_3 : wr.cell? ⟨gb360, 3, none⟩ = some (.int .i64 a0_3) := (blk_cell BK360.out 3).trans rfl
                  have hcz31_4 : wr.cell? ⟨gb360, 4, none⟩ = some (.string a0_4) := (blk_cell BK360.out 4).trans rfl
                  have hcz31_5 : wr.cell? ⟨gb360, 5, none⟩ = some (.int .i64 a0_5) := (blk_cell BK360.out 5).trans rfl
                  have hcz31_6 : wr.cell? ⟨gb360, 6, none⟩ = some (.slice A0_6 l0_6.length c0_6) := (blk_cell BK360.out 6).trans rfl
                  have hfz31_0 := blk_frozen BK360.out 0
                  have hfz31_1 := blk_frozen BK360.out 1
                  have hfz31_2 := blk_frozen BK360.out 2
                  have hfz31_3 := blk_frozen BK360.out 3
                  have hfz31_4 := blk_frozen BK360.out 4
                  have hfz31_5 := blk_frozen BK360.out 5
                  have hfz31_6 := blk_frozen BK360.out 6
                  have p364 : 0 ≤ (x4_3 : Int) := of_decide_eq_true (by first | (with_reducible assumption) | assumption)
                  have q364 : x4_3 < (l0_6.length : Int) := of_decide_eq_true (by first | (with_reducible assumption) | assumption)
                  obtain ⟨ad364, A364_2, c364_2, e364, hx364_0, hx364_1, hx364_2, hx364_3, hl364_2, hi364_2⟩ := at_T41 HR0_6.out x4_3 p364 q364
                  cases e364
                  replace hx364_0 := (HB.out.cell (World.block_lt_of_cell? w _ hx364_0)).trans hx364_0
                  replace hx364_1 := (HB.out.cell (World.block_lt_of_cell? w _ hx364_1)).trans hx364_1
                  replace hx364_2 := (HB.out.cell (World.block_lt_of_cell? w _ hx364_2)).trans hx364_2
                  replace hx364_3 := (HB.out.cell (World.block_lt_of_cell? w _ hx364_3)).trans hx364_3
                  have HR364_2 := Aside0.mk hi364_2
                  have HC364_2 := Aside0.mk hl364_2
                  clear hi364_2 hl364_2
                  replace p364 := eq_true p364
                  replace q364 := eq_true q364
                  go_wp2
                  go_roundg k5
                  case measure => have := HJ1.out; have := HK2.out; have := HK3.out; have := HJ16.out; have := HK5.out; omega
                  case rel => exact ⟨(wrap64 (x4_3 + 1)), rfl, H', ⟨by have := HJ1.out; have := HK2.out; have := HK3.out; have := HJ16.out; have := HK5.out; omega⟩, ⟨by exact BK360.out⟩, ⟨by with_reducible exact HB.out⟩⟩
                ·
                 rw [if_neg c25] at H
                 exact absurd H (by simp)
               ·
                rw [if_neg c24] at H
                exact absurd H (by simp)
         ·
          rw [if_neg c16] at H
          have c16b0 : decide (x4_3 < (l0_6.length : Int)) = false := decide_eq_false c16
          clear c16
          obtain rfl := Option.some.inj H
          have hcz32_0 : wr.cell? ⟨gb360, 0, none⟩ = some (.int .i64 a0_0) := (blk_cell BK360.out 0).trans rfl
          have hcz32_1 : wr.cell? ⟨gb360, 1, none⟩ = some (.string a0_1) := (blk_cell BK360.out 1).trans rfl
          have hcz32_2 : wr.cell? ⟨gb360, 2, none⟩ = some (.slice A0_2 l0_2.length c0_2) := (blk_cell BK360.out 2).trans rfl
          have hcz32_3 : wr.cell? ⟨gb360, 3, none⟩ = some (.int .i64 a0_3) := (blk_cell BK360.out 3).trans rfl
          have hcz32_4 : wr.cell? ⟨gb360, 4, none⟩ = some (.string a0_4) := (blk_cell BK360.out 4).trans rfl
          have hcz32_5 : wr.cell? ⟨gb360, 5, none⟩ = some (.int .i64 a0_5) := (blk_cell BK360.out 5).trans rfl
          have hcz32_6 : wr.cell? ⟨gb360, 6, none⟩ = some (.slice A0_6 l0_6.length c0_6) := (blk_cell BK360.out 6).trans rfl
          have hfz32_0 := blk_frozen BK360.out 0
          have hfz32_1 := blk_frozen BK360.out 1
          have hfz32_2 := blk_frozen BK360.out 2
          have hfz32_3 := blk_frozen BK360.out 3
          have hfz32_4 := blk_frozen BK360.out 4
          have hfz32_5 := blk_frozen BK360.out 5
          have hfz32_6 := blk_frozen BK360.out 6
          go_wp2
          go_ret
          exact ⟨rfl, by with_reducible exact HB.out⟩
end Go.Proofs.Ytikikmkfeeljgaa.G
