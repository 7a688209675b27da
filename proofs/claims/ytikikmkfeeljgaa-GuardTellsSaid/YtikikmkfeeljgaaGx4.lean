-- Written by a program for this claim (my own print over the kit's words).
import Derived.Test.YtikikmkfeeljgaaGx0
import Derived.Test.YtikikmkfeeljgaaGx1
import Derived.Test.YtikikmkfeeljgaaGx2
import Derived.Test.YtikikmkfeeljgaaGx3
namespace Go.Proofs.Ytikikmkfeeljgaa.G
open Go.RowKit Go.Proofs.YtikikmkfeeljgaaW.PrintWords Go.Proofs.YtikikmkfeeljgaaW.PrintLast Go.Proofs.YtikikmkfeeljgaaW.PrintMore
attribute [local go_sem] max2_int min2_int max_two min_two max_three min_three max_four min_four   -- for this text's walks alone
set_option linter.unusedVariables false
set_option linter.unusedSimpArgs false
/-! ### verdererref01_Read: function 70 -/
mutual
def verdererref01_Read.j0 : Nat → ByteArray → Int → Bool → Bool → Int → Bool → Int → ByteArray → Option (Int × Bool × Int × ByteArray × Int)
 | 0, _, _, _, _, _, _, _, _ => none
 | k + 1, x0, x5, x6, x18, x125000, x125001, x125002, x125003 => if x18 = true then (if x0.toList = ([] : List UInt8) then (some (0, false, 0, (⟨#[]⟩ : ByteArray), 7)) else ((verdererref01_Show.f k 1 (x0.toList == ([116, 114, 117, 101] : List UInt8)) 0 (⟨#[]⟩ : ByteArray)).bind fun t127 => (if t127.toList = x0.toList then (some (1, (x0.toList == ([116, 114, 117, 101] : List UInt8)), 0, (⟨#[]⟩ : ByteArray), 0)) else (some (0, false, 0, (⟨#[]⟩ : ByteArray), 7))))) else (if x6 = true then (if x0.toList = ([] : List UInt8) then (some (0, false, 0, (⟨#[]⟩ : ByteArray), 7)) else ((verdererref01_Show.f k 2 false x5 (⟨#[]⟩ : ByteArray)).bind fun t128 => (if t128.toList = x0.toList then (some (2, false, x5, (⟨#[]⟩ : ByteArray), 0)) else (some (0, false, 0, (⟨#[]⟩ : ByteArray), 7))))) else (if (x0.size : Int) ≥ 2 then (if 0 < (x0.size : Int) then (if (bt x0 0) = 34 then (verdererref01_Read.j1 k x0 (decide ((x0.size : Int) ≤ 300)) x125000 x125001 x125002 x125003) else (verdererref01_Read.j1 k x0 false x125000 x125001 x125002 x125003)) else (none)) else (verdererref01_Read.j1 k x0 false x125000 x125001 x125002 x125003)))
def verdererref01_Read.j1 : Nat → ByteArray → Bool → Int → Bool → Int → ByteArray → Option (Int × Bool × Int × ByteArray × Int)
 | 0, _, _, _, _, _, _ => none
 | k + 1, x0, x37, x125000, x125001, x125002, x125003 => if x37 = true then ((verdererref01_unquoted.f k x0).bind fun t129 => (if x0.toList = ([] : List UInt8) then (some (0, false, 0, (⟨#[]⟩ : ByteArray), 7)) else ((verdererref01_Show.f k 3 false 0 t129).bind fun t130 => (if t130.toList = x0.toList then (some (3, false, 0, t129, 0)) else (some (0, false, 0, (⟨#[]⟩ : ByteArray), 7)))))) else (if x0.toList = ([] : List UInt8) then (some (0, false, 0, (⟨#[]⟩ : ByteArray), 7)) else ((verdererref01_Show.f k x125000 x125001 x125002 x125003).bind fun t131 => (if t131.toList = x0.toList then (some (x125000, x125001, x125002, x125003, 0)) else (some (0, false, 0, (⟨#[]⟩ : ByteArray), 7)))))
end
def verdererref01_Read.f (k : Nat) (a0 : ByteArray) : Option (Int × Bool × Int × ByteArray × Int) := (verdererref01_Number.f k a0).bind fun bt125 => (if a0.toList = ([116, 114, 117, 101] : List UInt8) then (verdererref01_Read.j0 k a0 bt125.1 bt125.2 true 0 false 0 (⟨#[]⟩ : ByteArray)) else (verdererref01_Read.j0 k a0 bt125.1 bt125.2 (a0.toList == ([102, 97, 108, 115, 101] : List UInt8)) 0 false 0 (⟨#[]⟩ : ByteArray)))
set_option maxHeartbeats 8000000 in
set_option maxRecDepth 100000 in
theorem verdererref01_Read.calls (k : Nat) (a0 : ByteArray) (r1 : Int) (r2 : Bool) (r3 : Int) (r4 : ByteArray) (r5 : Int) (w : World) (h : verdererref01_Read.f k a0 = some (r1, r2, r3, r4, r5)) :
  Calls Try.prog 70 #[.string a0] w fun e w' => e = .returned (.tuple #[.agg #[.int .i64 r1, .bool r2, .int .i64 r3, .string r4], .int .i64 r5]) ∧ Below w.heap.size w w' := by
 have hu36 := Try.underlying36
 have HB := Aside0.mk (Below.refl w.heap.size w)
 have H : ((verdererref01_Number.f k a0).bind fun bt125 => (if a0.toList = ([116, 114, 117, 101] : List UInt8) then (verdererref01_Read.j0 k a0 bt125.1 bt125.2 true 0 false 0 (⟨#[]⟩ : ByteArray)) else (verdererref01_Read.j0 k a0 bt125.1 bt125.2 (a0.toList == ([102, 97, 108, 115, 101] : List UInt8)) 0 false 0 (⟨#[]⟩ : ByteArray)))) = some (r1, r2, r3, r4, r5) := h
 clear h
 replace H := Option.bind_eq_some_iff.mp H
 obtain ⟨⟨t125, t126⟩, A20, H⟩ := H
 replace H : (if a0.toList = ([116, 114, 117, 101] : List UInt8) then (verdererref01_Read.j0 k a0 t125 t126 true 0 false 0 (⟨#[]⟩ : ByteArray)) else (verdererref01_Read.j0 k a0 t125 t126 (a0.toList == ([102, 97, 108, 115, 101] : List UInt8)) 0 false 0 (⟨#[]⟩ : ByteArray))) = some (r1, r2, r3, r4, r5) := H
 have A2 := Aside0.mk A20
 clear A20
 have HC3 := Aside0.mk H
 clear H
 go_enter Try.func70, Try.ntmps70
 go_upto_region 3 with (first | ((with_reducible refine gate_dst (N := 2) rfl ?_); (try (refine gate_guard (by rfl) ?_; dsimp only)); refine box_event ?hg (N := 2) ?hd (cs := #[.int .i64 0, .bool false, .int .i64 0, .string (⟨#[]⟩ : ByteArray)]) (t := 36) ?hr ?_; (case hd => rfl); (case hg => rfl); (case hr => first | (go_simp; done) | (go_simp; rfl)); intro gb123 hg w4 hbox hb; have n0_ := Aside0.mk (below_step (by with_reducible exact HB.out) hb); have n1_ := Aside0.mk (hbox); have n2_ := Aside0.mk ((by rw [hg]; exact (below_size (by with_reducible exact HB.out)) : w.heap.size ≤ gb123)); have n3_ := Aside0.mk ((by rw [hg]; exact (below_size (by with_reducible exact HB.out)) : w.heap.size ≤ gb123)); clear HB; have HB := n0_; have BK123 := n1_; have GW123 := n2_; have GE123 := n3_; clear n0_ n1_ n2_ n3_ hb hbox hg) | ((with_reducible refine gate_dst (N := 4) rfl ?_); (try (refine gate_guard (by rfl) ?_; dsimp only)); refine box_event ?hg (N := 4) ?hd (cs := #[.int .i64 0, .bool false, .int .i64 0, .string (⟨#[]⟩ : ByteArray)]) (t := 36) ?hr ?_; (case hd => rfl); (case hg => rfl); (case hr => first | (go_simp; done) | (go_simp; rfl)); intro gb124 hg w5 hbox hb; have n0_ := Aside0.mk (blk_below (g := gb123) (o := .cells #[.int .i64 0, .bool false, .int .i64 0, .string (⟨#[]⟩ : ByteArray)] 36 (0, 0)) (by exact BK123.out) hb); have n1_ := Aside0.mk (below_step (by with_reducible exact HB.out) hb); have n2_ := Aside0.mk (hbox); have n3_ := Aside0.mk ((by rw [hg]; exact (below_size (by with_reducible exact HB.out)) : w.heap.size ≤ gb124)); have n4_ := Aside0.mk ((by rw [hg]; exact (below_size (by with_reducible exact HB.out)) : w.heap.size ≤ gb124)); have n5_ := Aside0.mk ((by rw [hg]; exact Nat.ne_of_lt (blk_lt (g := gb123) (o := .cells #[.int .i64 0, .bool false, .int .i64 0, .string (⟨#[]⟩ : ByteArray)] 36 (0, 0)) (by exact BK123.out)) : gb123 ≠ gb124)); have n6_ := Aside0.mk ((by rw [hg]; exact Nat.ne_of_gt (blk_lt (g := gb123) (o := .cells #[.int .i64 0, .bool false, .int .i64 0, .string (⟨#[]⟩ : ByteArray)] 36 (0, 0)) (by exact BK123.out)) : gb124 ≠ gb123)); clear BK123 HB; have BK123 := n0_; have HB := n1_; have BK124 := n2_; have GW124 := n3_; have GE124 := n4_; have NB123_124 := n5_; have NB124_123 := n6_; clear n0_ n1_ n2_ n3_ n4_ n5_ n6_ hb hbox hg; have hnb6 := NB124_123.out; have hnc6 := NB123_124.out; have hcz7_0 : w5.cell? ⟨gb124, 0, none⟩ = some (.int .i64 0) := (blk_cell BK124.out 0).trans rfl; have hcz7_1 : w5.cell? ⟨gb124, 1, none⟩ = some (.bool false) := (blk_cell BK124.out 1).trans rfl; have hcz7_2 : w5.cell? ⟨gb124, 2, none⟩ = some (.int .i64 0) := (blk_cell BK124.out 2).trans rfl; have hcz7_3 : w5.cell? ⟨gb124, 3, none⟩ = some (.string (⟨#[]⟩ : ByteArray)) := (blk_cell BK124.out 3).trans rfl; have hfz7_0 := blk_frozen BK124.out 0; have hfz7_1 := blk_frozen BK124.out 1; have hfz7_2 := blk_frozen BK124.out 2; have hfz7_3 := blk_frozen BK124.out 3) | ((with_reducible refine gate_callee (f := 84) rfl ?_); refine goesL_ (some 10) rfl rfl Try.func84 (by kernel_rfl) rfl #[.string a0] rfl (by (try simp only [List.map_toArray, List.map_cons, List.map_nil]); first | done | rfl | (simp only [List.length_drop, List.length_take]; rfl)) ?_; (with_reducible refine (verdererref01_Number.calls k a0 t125 t126 _ A2.out).mono ?_); rintro e w' ⟨rfl, ⟨nd, rfl⟩⟩; refine ⟨_, rfl, ?_⟩))
 (try simp only [Act.put, List.setIfInBounds_toArray, List.set_cons_zero, List.set_cons_succ])
 go_cut [18] (fun v18 wc => ∃ (kq : Nat) (x18_2 : Bool), v18 = .bool x18_2 ∧ Aside0 (verdererref01_Read.j0 kq a0 t125 t126 x18_2 0 false 0 (⟨#[]⟩ : ByteArray) = some (r1, r2, r3, r4, r5)) ∧ Aside0 (kq ≤ k) ∧ Aside0 (wc.heap[gb123]? = some (.cells #[.int .i64 0, .bool false, .int .i64 0, .string (⟨#[]⟩ : ByteArray)] 36 (0, 0))) ∧ Aside0 (wc.heap[gb124]? = some (.cells #[.int .i64 0, .bool false, .int .i64 0, .string (⟨#[]⟩ : ByteArray)] 36 (0, 0))) ∧ Aside0 (Below w.heap.size w wc))
 case first =>
  have H := HC3.out
  clear HC3
  by_cases c8 : a0.toList = ([116, 114, 117, 101] : List UInt8)
  ·
   rw [if_pos c8] at H
   have c8b0 : (a0.toList == ([116, 114, 117, 101] : List UInt8)) = true := beq_iff_eq.mpr c8
   have c8b1 : (a0.toList != ([116, 114, 117, 101] : List UInt8)) = false := bne_eq_false_iff_eq.mpr c8
   clear c8
   (first | rw [c8b0] | (simp only [i64_w, i32_w]; rw [c8b0]) | skip)
   have H' := Aside0.mk H
   clear H
   go_wp2
   go_meet
   case rel => exact ⟨_, (true), rfl, H', ⟨by first | omega | exact Nat.le_refl _⟩, ⟨by (with_reducible repeat (first | refine blk_drewN ?_ _ | refine blk_drew ?_ | refine blk_alloc ?_ _)); refine blk_far ?_ NB123_124.out _; refine blk_far ?_ NB123_124.out _; refine blk_far ?_ NB123_124.out _; refine blk_far ?_ NB123_124.out _; exact BK123.out⟩, ⟨by (with_reducible repeat (first | refine blk_drewN ?_ _ | refine blk_drew ?_ | refine blk_alloc ?_ _)); refine blk_put (cs := #[.int .i64 0, .bool false, .int .i64 0, .string (⟨#[]⟩ : ByteArray)]) ?_ 3 _ rfl; refine blk_put (cs := #[.int .i64 0, .bool false, .int .i64 0, .string (⟨#[]⟩ : ByteArray)]) ?_ 2 _ rfl; refine blk_put (cs := #[.int .i64 0, .bool false, .int .i64 0, .string (⟨#[]⟩ : ByteArray)]) ?_ 1 _ rfl; refine blk_put (cs := #[.int .i64 0, .bool false, .int .i64 0, .string (⟨#[]⟩ : ByteArray)]) ?_ 0 _ rfl; exact BK124.out⟩, ⟨by repeat (first | (with_reducible first | exact HB.out | apply below_alloc | apply pw_below_drewN | apply below_drew1 | refine below_set ?_ GE123.out | refine below_set ?_ GE124.out) | exact HB.out)⟩⟩
  ·
   rw [if_neg c8] at H
   have c8b0 : (a0.toList == ([116, 114, 117, 101] : List UInt8)) = false := beq_eq_false_iff_ne.mpr c8
   have c8b1 : (a0.toList != ([116, 114, 117, 101] : List UInt8)) = true := bne_iff_ne.mpr c8
   (first | rw [c8b0] | (simp only [i64_w, i32_w]; rw [c8b0]) | skip)
   have H' := Aside0.mk H
   clear H
   go_wp2
   go_meet
   case rel => exact ⟨_, ((a0.toList == ([102, 97, 108, 115, 101] : List UInt8))), rfl, H', ⟨by first | omega | exact Nat.le_refl _⟩, ⟨by (with_reducible repeat (first | refine blk_drewN ?_ _ | refine blk_drew ?_ | refine blk_alloc ?_ _)); refine blk_far ?_ NB123_124.out _; refine blk_far ?_ NB123_124.out _; refine blk_far ?_ NB123_124.out _; refine blk_far ?_ NB123_124.out _; exact BK123.out⟩, ⟨by (with_reducible repeat (first | refine blk_drewN ?_ _ | refine blk_drew ?_ | refine blk_alloc ?_ _)); refine blk_put (cs := #[.int .i64 0, .bool false, .int .i64 0, .string (⟨#[]⟩ : ByteArray)]) ?_ 3 _ rfl; refine blk_put (cs := #[.int .i64 0, .bool false, .int .i64 0, .string (⟨#[]⟩ : ByteArray)]) ?_ 2 _ rfl; refine blk_put (cs := #[.int .i64 0, .bool false, .int .i64 0, .string (⟨#[]⟩ : ByteArray)]) ?_ 1 _ rfl; refine blk_put (cs := #[.int .i64 0, .bool false, .int .i64 0, .string (⟨#[]⟩ : ByteArray)]) ?_ 0 _ rfl; exact BK124.out⟩, ⟨by repeat (first | (with_reducible first | exact HB.out | apply below_alloc | apply pw_below_drewN | apply below_drew1 | refine below_set ?_ GE123.out | refine below_set ?_ GE124.out) | exact HB.out)⟩⟩
 case rest =>
  clear HC3
  clear hcz7_0 hcz7_1 hcz7_2 hcz7_3 hfz7_0 hfz7_1 hfz7_2 hfz7_3
  obtain ⟨kq, x18_2, rfl, HA, HJ2, BK123, BK124, HB⟩ := hcut
  cases kq with
  | zero => exact absurd HA.out (by simp [verdererref01_Read.j0])
  | succ kj2 =>
   have H := HA.out
   clear HA
   simp only [verdererref01_Read.j0] at H
   by_cases c9 : x18_2 = true
   ·
    subst c9
    have H1 : (if a0.toList = ([] : List UInt8) then (some (0, false, 0, (⟨#[]⟩ : ByteArray), 7)) else ((verdererref01_Show.f kj2 1 (a0.toList == ([116, 114, 117, 101] : List UInt8)) 0 (⟨#[]⟩ : ByteArray)).bind fun t127 => (if t127.toList = a0.toList then (some (1, (a0.toList == ([116, 114, 117, 101] : List UInt8)), 0, (⟨#[]⟩ : ByteArray), 0)) else (some (0, false, 0, (⟨#[]⟩ : ByteArray), 7))))) = some (r1, r2, r3, r4, r5) := by rw [if_pos rfl] at H; exact H
    clear H
    have H := H1
    clear H1
    by_cases c10 : a0.toList = ([] : List UInt8)
    ·
     rw [if_pos c10] at H
     have c10b0 : (a0.toList == ([] : List UInt8)) = true := beq_iff_eq.mpr c10
     have c10b1 : (a0.toList != ([] : List UInt8)) = false := bne_eq_false_iff_eq.mpr c10
     clear c10
     simp only [Option.some.injEq, Prod.mk.injEq] at H
     obtain ⟨rfl, rfl, rfl, rfl, rfl⟩ := H
     have hnb11 := NB124_123.out
     have hnc11 := NB123_124.out
     have hcz12_0 : wc.cell? ⟨gb124, 0, none⟩ = some (.int .i64 0) := (blk_cell BK124.out 0).trans rfl
     have hcz12_1 : wc.cell? ⟨gb124, 1, none⟩ = some (.bool false) := (blk_cell BK124.out 1).trans rfl
     have hcz12_2 : wc.cell? ⟨gb124, 2, none⟩ = some (.int .i64 0) := (blk_cell BK124.out 2).trans rfl
     have hcz12_3 : wc.cell? ⟨gb124, 3, none⟩ = some (.string (⟨#[]⟩ : ByteArray)) := (blk_cell BK124.out 3).trans rfl
     have hfz12_0 := blk_frozen BK124.out 0
     have hfz12_1 := blk_frozen BK124.out 1
     have hfz12_2 := blk_frozen BK124.out 2
     have hfz12_3 := blk_frozen BK124.out 3
     have hcz13_0 : wc.cell? ⟨gb123, 0, none⟩ = some (.int .i64 0) := (blk_cell BK123.out 0).trans rfl
     have hcz13_1 : wc.cell? ⟨gb123, 1, none⟩ = some (.bool false) := (blk_cell BK123.out 1).trans rfl
     have hcz13_2 : wc.cell? ⟨gb123, 2, none⟩ = some (.int .i64 0) := (blk_cell BK123.out 2).trans rfl
     have hcz13_3 : wc.cell? ⟨gb123, 3, none⟩ = some (.string (⟨#[]⟩ : ByteArray)) := (blk_cell BK123.out 3).trans rfl
     have hfz13_0 := blk_frozen BK123.out 0
     have hfz13_1 := blk_frozen BK123.out 1
     have hfz13_2 := blk_frozen BK123.out 2
     have hfz13_3 := blk_frozen BK123.out 3
     go_wp2
     refine bodyPost_ret (results_ct rfl _ _ gb123 36 #[.int .i64 0, .bool false, .int .i64 0, .string (⟨#[]⟩ : ByteArray)] (0, 0) _ rfl (by refine blk_put (cs := #[.int .i64 0, .bool false, .int .i64 0, .string (⟨#[]⟩ : ByteArray)]) ?_ 3 _ rfl; refine blk_put (cs := #[.int .i64 0, .bool false, .int .i64 0, .string (⟨#[]⟩ : ByteArray)]) ?_ 2 _ rfl; refine blk_put (cs := #[.int .i64 0, .bool false, .int .i64 0, .string (⟨#[]⟩ : ByteArray)]) ?_ 1 _ rfl; refine blk_put (cs := #[.int .i64 0, .bool false, .int .i64 0, .string (⟨#[]⟩ : ByteArray)]) ?_ 0 _ rfl; refine blk_far ?_ NB123_124.out _; refine blk_far ?_ NB123_124.out _; refine blk_far ?_ NB123_124.out _; refine blk_far ?_ NB123_124.out _; exact BK123.out) Try.underlying36 rfl (by kernel_rfl)) rfl ?_
     exact ⟨rfl, by repeat (first | (with_reducible first | exact HB.out | apply below_alloc | apply pw_below_drewN | apply below_drew1 | refine below_set ?_ GE123.out | refine below_set ?_ GE124.out) | exact HB.out)⟩
    ·
     rw [if_neg c10] at H
     have c10b0 : (a0.toList == ([] : List UInt8)) = false := beq_eq_false_iff_ne.mpr c10
     have c10b1 : (a0.toList != ([] : List UInt8)) = true := bne_iff_ne.mpr c10
     replace H := Option.bind_eq_some_iff.mp H
     obtain ⟨t127, A140, H⟩ := H
     replace H : (if t127.toList = a0.toList then (some (1, (a0.toList == ([116, 114, 117, 101] : List UInt8)), 0, (⟨#[]⟩ : ByteArray), 0)) else (some (0, false, 0, (⟨#[]⟩ : ByteArray), 7))) = some (r1, r2, r3, r4, r5) := H
     have A14 := Aside0.mk A140
     clear A140
     by_cases c15 : t127.toList = a0.toList
     ·
      rw [if_pos c15] at H
      have c15b0 : (t127.toList == a0.toList) = true := beq_iff_eq.mpr c15
      have c15b1 : (t127.toList != a0.toList) = false := bne_eq_false_iff_eq.mpr c15
      clear c15
      simp only [Option.some.injEq, Prod.mk.injEq] at H
      obtain ⟨rfl, rfl, rfl, rfl, rfl⟩ := H
      have hnb16 := NB124_123.out
      have hnc16 := NB123_124.out
      have hcz17_0 : wc.cell? ⟨gb124, 0, none⟩ = some (.int .i64 0) := (blk_cell BK124.out 0).trans rfl
      have hcz17_1 : wc.cell? ⟨gb124, 1, none⟩ = some (.bool false) := (blk_cell BK124.out 1).trans rfl
      have hcz17_2 : wc.cell? ⟨gb124, 2, none⟩ = some (.int .i64 0) := (blk_cell BK124.out 2).trans rfl
      have hcz17_3 : wc.cell? ⟨gb124, 3, none⟩ = some (.string (⟨#[]⟩ : ByteArray)) := (blk_cell BK124.out 3).trans rfl
      have hfz17_0 := blk_frozen BK124.out 0
      have hfz17_1 := blk_frozen BK124.out 1
      have hfz17_2 := blk_frozen BK124.out 2
      have hfz17_3 := blk_frozen BK124.out 3
      go_wp2_with (first | (go_at_call 86; (with_reducible refine (verdererref01_Show.calls kj2 1 (a0.toList == ([116, 114, 117, 101] : List UInt8)) 0 (⟨#[]⟩ : ByteArray) t127 _ A14.out).mono ?_); rintro e w18 ⟨rfl, hb⟩; have n0_ := Aside0.mk (blk_below (g := gb123) (o := .cells #[.int .i64 0, .bool false, .int .i64 0, .string (⟨#[]⟩ : ByteArray)] 36 (0, 0)) (by refine blk_far ?_ NB123_124.out _; refine blk_far ?_ NB123_124.out _; refine blk_far ?_ NB123_124.out _; refine blk_far ?_ NB123_124.out _; exact BK123.out) hb); have n1_ := Aside0.mk (blk_below (g := gb124) (o := .cells #[.int .i64 1, .bool (a0.toList == ([116, 114, 117, 101] : List UInt8)), .int .i64 0, .string (⟨#[]⟩ : ByteArray)] 36 (0, 0)) (by refine blk_put (cs := #[.int .i64 1, .bool (a0.toList == ([116, 114, 117, 101] : List UInt8)), .int .i64 0, .string (⟨#[]⟩ : ByteArray)]) ?_ 3 _ rfl; refine blk_put (cs := #[.int .i64 1, .bool (a0.toList == ([116, 114, 117, 101] : List UInt8)), .int .i64 0, .string (⟨#[]⟩ : ByteArray)]) ?_ 2 _ rfl; refine blk_put (cs := #[.int .i64 1, .bool false, .int .i64 0, .string (⟨#[]⟩ : ByteArray)]) ?_ 1 _ rfl; refine blk_put (cs := #[.int .i64 0, .bool false, .int .i64 0, .string (⟨#[]⟩ : ByteArray)]) ?_ 0 _ rfl; exact BK124.out) hb); have n2_ := Aside0.mk (below_step (by repeat (first | (with_reducible first | exact HB.out | apply below_alloc | apply pw_below_drewN | apply below_drew1 | refine below_set ?_ GE123.out | refine below_set ?_ GE124.out) | exact HB.out)) hb); clear BK123 BK124 HB; have BK123 := n0_; have BK124 := n1_; have HB := n2_; clear n0_ n1_ n2_ hb; have hcz19_0 : w18.cell? ⟨gb124, 0, none⟩ = some (.int .i64 1) := (blk_cell BK124.out 0).trans rfl; have hcz19_1 : w18.cell? ⟨gb124, 1, none⟩ = some (.bool (a0.toList == ([116, 114, 117, 101] : List UInt8))) := (blk_cell BK124.out 1).trans rfl; have hcz19_2 : w18.cell? ⟨gb124, 2, none⟩ = some (.int .i64 0) := (blk_cell BK124.out 2).trans rfl; have hcz19_3 : w18.cell? ⟨gb124, 3, none⟩ = some (.string (⟨#[]⟩ : ByteArray)) := (blk_cell BK124.out 3).trans rfl; have hfz19_0 := blk_frozen BK124.out 0; have hfz19_1 := blk_frozen BK124.out 1; have hfz19_2 := blk_frozen BK124.out 2; have hfz19_3 := blk_frozen BK124.out 3; have hcz20_0 : w18.cell? ⟨gb123, 0, none⟩ = some (.int .i64 0) := (blk_cell BK123.out 0).trans rfl; have hcz20_1 : w18.cell? ⟨gb123, 1, none⟩ = some (.bool false) := (blk_cell BK123.out 1).trans rfl; have hcz20_2 : w18.cell? ⟨gb123, 2, none⟩ = some (.int .i64 0) := (blk_cell BK123.out 2).trans rfl; have hcz20_3 : w18.cell? ⟨gb123, 3, none⟩ = some (.string (⟨#[]⟩ : ByteArray)) := (blk_cell BK123.out 3).trans rfl; have hfz20_0 := blk_frozen BK123.out 0; have hfz20_1 := blk_frozen BK123.out 1; have hfz20_2 := blk_frozen BK123.out 2; have hfz20_3 := blk_frozen BK123.out 3))
      refine bodyPost_ret (results_ct rfl _ _ gb123 36 #[.int .i64 1, .bool (a0.toList == ([116, 114, 117, 101] : List UInt8)), .int .i64 0, .string (⟨#[]⟩ : ByteArray)] (0, 0) _ rfl (by refine blk_put (cs := #[.int .i64 1, .bool (a0.toList == ([116, 114, 117, 101] : List UInt8)), .int .i64 0, .string (⟨#[]⟩ : ByteArray)]) ?_ 3 _ rfl; refine blk_put (cs := #[.int .i64 1, .bool (a0.toList == ([116, 114, 117, 101] : List UInt8)), .int .i64 0, .string (⟨#[]⟩ : ByteArray)]) ?_ 2 _ rfl; refine blk_put (cs := #[.int .i64 1, .bool false, .int .i64 0, .string (⟨#[]⟩ : ByteArray)]) ?_ 1 _ rfl; refine blk_put (cs := #[.int .i64 0, .bool false, .int .i64 0, .string (⟨#[]⟩ : ByteArray)]) ?_ 0 _ rfl; exact BK123.out) Try.underlying36 rfl (by kernel_rfl)) rfl ?_
      exact ⟨rfl, by repeat (first | (with_reducible first | exact HB.out | apply below_alloc | apply pw_below_drewN | apply below_drew1 | refine below_set ?_ GE123.out | refine below_set ?_ GE124.out) | exact HB.out)⟩
     ·
      rw [if_neg c15] at H
      have c15b0 : (t127.toList == a0.toList) = false := beq_eq_false_iff_ne.mpr c15
      have c15b1 : (t127.toList != a0.toList) = true := bne_iff_ne.mpr c15
      simp only [Option.some.injEq, Prod.mk.injEq] at H
      obtain ⟨rfl, rfl, rfl, rfl, rfl⟩ := H
      have hnb21 := NB124_123.out
      have hnc21 := NB123_124.out
      have hcz22_0 : wc.cell? ⟨gb124, 0, none⟩ = some (.int .i64 0) := (blk_cell BK124.out 0).trans rfl
      have hcz22_1 : wc.cell? ⟨gb124, 1, none⟩ = some (.bool false) := (blk_cell BK124.out 1).trans rfl
      have hcz22_2 : wc.cell? ⟨gb124, 2, none⟩ = some (.int .i64 0) := (blk_cell BK124.out 2).trans rfl
      have hcz22_3 : wc.cell? ⟨gb124, 3, none⟩ = some (.string (⟨#[]⟩ : ByteArray)) := (blk_cell BK124.out 3).trans rfl
      have hfz22_0 := blk_frozen BK124.out 0
      have hfz22_1 := blk_frozen BK124.out 1
      have hfz22_2 := blk_frozen BK124.out 2
      have hfz22_3 := blk_frozen BK124.out 3
      go_wp2_with (first | (go_at_call 86; (with_reducible refine (verdererref01_Show.calls kj2 1 (a0.toList == ([116, 114, 117, 101] : List UInt8)) 0 (⟨#[]⟩ : ByteArray) t127 _ A14.out).mono ?_); rintro e w23 ⟨rfl, hb⟩; have n0_ := Aside0.mk (blk_below (g := gb123) (o := .cells #[.int .i64 0, .bool false, .int .i64 0, .string (⟨#[]⟩ : ByteArray)] 36 (0, 0)) (by refine blk_far ?_ NB123_124.out _; refine blk_far ?_ NB123_124.out _; refine blk_far ?_ NB123_124.out _; refine blk_far ?_ NB123_124.out _; exact BK123.out) hb); have n1_ := Aside0.mk (blk_below (g := gb124) (o := .cells #[.int .i64 1, .bool (a0.toList == ([116, 114, 117, 101] : List UInt8)), .int .i64 0, .string (⟨#[]⟩ : ByteArray)] 36 (0, 0)) (by refine blk_put (cs := #[.int .i64 1, .bool (a0.toList == ([116, 114, 117, 101] : List UInt8)), .int .i64 0, .string (⟨#[]⟩ : ByteArray)]) ?_ 3 _ rfl; refine blk_put (cs := #[.int .i64 1, .bool (a0.toList == ([116, 114, 117, 101] : List UInt8)), .int .i64 0, .string (⟨#[]⟩ : ByteArray)]) ?_ 2 _ rfl; refine blk_put (cs := #[.int .i64 1, .bool false, .int .i64 0, .string (⟨#[]⟩ : ByteArray)]) ?_ 1 _ rfl; refine blk_put (cs := #[.int .i64 0, .bool false, .int .i64 0, .string (⟨#[]⟩ : ByteArray)]) ?_ 0 _ rfl; exact BK124.out) hb); have n2_ := Aside0.mk (below_step (by repeat (first | (with_reducible first | exact HB.out | apply below_alloc | apply pw_below_drewN | apply below_drew1 | refine below_set ?_ GE123.out | refine below_set ?_ GE124.out) | exact HB.out)) hb); clear BK123 BK124 HB; have BK123 := n0_; have BK124 := n1_; have HB := n2_; clear n0_ n1_ n2_ hb; have hcz24_0 : w23.cell? ⟨gb123, 0, none⟩ = some (.int .i64 0) := (blk_cell BK123.out 0).trans rfl; have hcz24_1 : w23.cell? ⟨gb123, 1, none⟩ = some (.bool false) := (blk_cell BK123.out 1).trans rfl; have hcz24_2 : w23.cell? ⟨gb123, 2, none⟩ = some (.int .i64 0) := (blk_cell BK123.out 2).trans rfl; have hcz24_3 : w23.cell? ⟨gb123, 3, none⟩ = some (.string (⟨#[]⟩ : ByteArray)) := (blk_cell BK123.out 3).trans rfl; have hfz24_0 := blk_frozen BK123.out 0; have hfz24_1 := blk_frozen BK123.out 1; have hfz24_2 := blk_frozen BK123.out 2; have hfz24_3 := blk_frozen BK123.out 3))
      refine bodyPost_ret (results_ct rfl _ _ gb123 36 #[.int .i64 0, .bool false, .int .i64 0, .string (⟨#[]⟩ : ByteArray)] (0, 0) _ rfl (by refine blk_put (cs := #[.int .i64 0, .bool false, .int .i64 0, .string (⟨#[]⟩ : ByteArray)]) ?_ 3 _ rfl; refine blk_put (cs := #[.int .i64 0, .bool false, .int .i64 0, .string (⟨#[]⟩ : ByteArray)]) ?_ 2 _ rfl; refine blk_put (cs := #[.int .i64 0, .bool false, .int .i64 0, .string (⟨#[]⟩ : ByteArray)]) ?_ 1 _ rfl; refine blk_put (cs := #[.int .i64 0, .bool false, .int .i64 0, .string (⟨#[]⟩ : ByteArray)]) ?_ 0 _ rfl; exact BK123.out) Try.underlying36 rfl (by kernel_rfl)) rfl ?_
      exact ⟨rfl, by repeat (first | (with_reducible first | exact HB.out | apply below_alloc | apply pw_below_drewN | apply below_drew1 | refine below_set ?_ GE123.out | refine below_set ?_ GE124.out) | exact HB.out)⟩
   ·
    replace c9 := Bool.eq_false_iff.mpr c9
    subst c9
    have H1 : (if t126 = true then (if a0.toList = ([] : List UInt8) then (some (0, false, 0, (⟨#[]⟩ : ByteArray), 7)) else ((verdererref01_Show.f kj2 2 false t125 (⟨#[]⟩ : ByteArray)).bind fun t128 => (if t128.toList = a0.toList then (some (2, false, t125, (⟨#[]⟩ : ByteArray), 0)) else (some (0, false, 0, (⟨#[]⟩ : ByteArray), 7))))) else (if (a0.size : Int) ≥ 2 then (if 0 < (a0.size : Int) then (if (bt a0 0) = 34 then (verdererref01_Read.j1 kj2 a0 (decide ((a0.size : Int) ≤ 300)) 0 false 0 (⟨#[]⟩ : ByteArray)) else (verdererref01_Read.j1 kj2 a0 false 0 false 0 (⟨#[]⟩ : ByteArray))) else (none)) else (verdererref01_Read.j1 kj2 a0 false 0 false 0 (⟨#[]⟩ : ByteArray)))) = some (r1, r2, r3, r4, r5) := by rw [if_neg (show ¬ (false = true) by decide)] at H; exact H
    clear H
    have H := H1
    clear H1
    by_cases c25 : t126 = true
    ·
     subst c25
     have H1 : (if a0.toList = ([] : List UInt8) then (some (0, false, 0, (⟨#[]⟩ : ByteArray), 7)) else ((verdererref01_Show.f kj2 2 false t125 (⟨#[]⟩ : ByteArray)).bind fun t128 => (if t128.toList = a0.toList then (some (2, false, t125, (⟨#[]⟩ : ByteArray), 0)) else (some (0, false, 0, (⟨#[]⟩ : ByteArray), 7))))) = some (r1, r2, r3, r4, r5) := by rw [if_pos rfl] at H; exact H
     clear H
     have H := H1
     clear H1
     by_cases c26 : a0.toList = ([] : List UInt8)
     ·
      rw [if_pos c26] at H
      have c26b0 : (a0.toList == ([] : List UInt8)) = true := beq_iff_eq.mpr c26
      have c26b1 : (a0.toList != ([] : List UInt8)) = false := bne_eq_false_iff_eq.mpr c26
      clear c26
      simp only [Option.some.injEq, Prod.mk.injEq] at H
      obtain ⟨rfl, rfl, rfl, rfl, rfl⟩ := H
      have hnb27 := NB124_123.out
      have hnc27 := NB123_124.out
      have hcz28_0 : wc.cell? ⟨gb124, 0, none⟩ = some (.int .i64 0) := (blk_cell BK124.out 0).trans rfl
      have hcz28_1 : wc.cell? ⟨gb124, 1, none⟩ = some (.bool false) := (blk_cell BK124.out 1).trans rfl
      have hcz28_2 : wc.cell? ⟨gb124, 2, none⟩ = some (.int .i64 0) := (blk_cell BK124.out 2).trans rfl
      have hcz28_3 : wc.cell? ⟨gb124, 3, none⟩ = some (.string (⟨#[]⟩ : ByteArray)) := (blk_cell BK124.out 3).trans rfl
      have hfz28_0 := blk_frozen BK124.out 0
      have hfz28_1 := blk_frozen BK124.out 1
      have hfz28_2 := blk_frozen BK124.out 2
      have hfz28_3 := blk_frozen BK124.out 3
      have hcz29_0 : wc.cell? ⟨gb123, 0, none⟩ = some (.int .i64 0) := (blk_cell BK123.out 0).trans rfl
      have hcz29_1 : wc.cell? ⟨gb123, 1, none⟩ = some (.bool false) := (blk_cell BK123.out 1).trans rfl
      have hcz29_2 : wc.cell? ⟨gb123, 2, none⟩ = some (.int .i64 0) := (blk_cell BK123.out 2).trans rfl
      have hcz29_3 : wc.cell? ⟨gb123, 3, none⟩ = some (.string (⟨#[]⟩ : ByteArray)) := (blk_cell BK123.out 3).trans rfl
      have hfz29_0 := blk_frozen BK123.out 0
      have hfz29_1 := blk_frozen BK123.out 1
      have hfz29_2 := blk_frozen BK123.out 2
      have hfz29_3 := blk_frozen BK123.out 3
      go_wp2
      refine bodyPost_ret (results_ct rfl _ _ gb123 36 #[.int .i64 0, .bool false, .int .i64 0, .string (⟨#[]⟩ : ByteArray)] (0, 0) _ rfl (by refine blk_put (cs := #[.int .i64 0, .bool false, .int .i64 0, .string (⟨#[]⟩ : ByteArray)]) ?_ 3 _ rfl; refine blk_put (cs := #[.int .i64 0, .bool false, .int .i64 0, .string (⟨#[]⟩ : ByteArray)]) ?_ 2 _ rfl; refine blk_put (cs := #[.int .i64 0, .bool false, .int .i64 0, .string (⟨#[]⟩ : ByteArray)]) ?_ 1 _ rfl; refine blk_put (cs := #[.int .i64 0, .bool false, .int .i64 0, .string (⟨#[]⟩ : ByteArray)]) ?_ 0 _ rfl; refine blk_far ?_ NB123_124.out _; refine blk_far ?_ NB123_124.out _; refine blk_far ?_ NB123_124.out _; refine blk_far ?_ NB123_124.out _; exact BK123.out) Try.underlying36 rfl (by kernel_rfl)) rfl ?_
      exact ⟨rfl, by repeat (first | (with_reducible first | exact HB.out | apply below_alloc | apply pw_below_drewN | apply below_drew1 | refine below_set ?_ GE123.out | refine below_set ?_ GE124.out) | exact HB.out)⟩
     ·
      rw [if_neg c26] at H
      have c26b0 : (a0.toList == ([] : List UInt8)) = false := beq_eq_false_iff_ne.mpr c26
      have c26b1 : (a0.toList != ([] : List UInt8)) = true := bne_iff_ne.mpr c26
      replace H := Option.bind_eq_some_iff.mp H
      obtain ⟨t128, A300, H⟩ := H
      replace H : (if t128.toList = a0.toList then (some (2, false, t125, (⟨#[]⟩ : ByteArray), 0)) else (some (0, false, 0, (⟨#[]⟩ : ByteArray), 7))) = some (r1, r2, r3, r4, r5) := H
      have A30 := Aside0.mk A300
      clear A300
      by_cases c31 : t128.toList = a0.toList
      ·
       rw [if_pos c31] at H
       have c31b0 : (t128.toList == a0.toList) = true := beq_iff_eq.mpr c31
       have c31b1 : (t128.toList != a0.toList) = false := bne_eq_false_iff_eq.mpr c31
       clear c31
       simp only [Option.some.injEq, Prod.mk.injEq] at H
       obtain ⟨rfl, rfl, rfl, rfl, rfl⟩ := H
       have hnb32 := NB124_123.out
       have hnc32 := NB123_124.out
       have hcz33_0 : wc.cell? ⟨gb124, 0, none⟩ = some (.int .i64 0) := (blk_cell BK124.out 0).trans rfl
       have hcz33_1 : wc.cell? ⟨gb124, 1, none⟩ = some (.bool false) := (blk_cell BK124.out 1).trans rfl
       have hcz33_2 : wc.cell? ⟨gb124, 2, none⟩ = some (.int .i64 0) := (blk_cell BK124.out 2).trans rfl
       have hcz33_3 : wc.cell? ⟨gb124, 3, none⟩ = some (.string (⟨#[]⟩ : ByteArray)) := (blk_cell BK124.out 3).trans rfl
       have hfz33_0 := blk_frozen BK124.out 0
       have hfz33_1 := blk_frozen BK124.out 1
       have hfz33_2 := blk_frozen BK124.out 2
       have hfz33_3 := blk_frozen BK124.out 3
       go_wp2_with (first | (go_at_call 86; (with_reducible refine (verdererref01_Show.calls kj2 2 false t125 (⟨#[]⟩ : ByteArray) t128 _ A30.out).mono ?_); rintro e w34 ⟨rfl, hb⟩; have n0_ := Aside0.mk (blk_below (g := gb123) (o := .cells #[.int .i64 0, .bool false, .int .i64 0, .string (⟨#[]⟩ : ByteArray)] 36 (0, 0)) (by refine blk_far ?_ NB123_124.out _; refine blk_far ?_ NB123_124.out _; refine blk_far ?_ NB123_124.out _; refine blk_far ?_ NB123_124.out _; exact BK123.out) hb); have n1_ := Aside0.mk (blk_below (g := gb124) (o := .cells #[.int .i64 2, .bool false, .int .i64 t125, .string (⟨#[]⟩ : ByteArray)] 36 (0, 0)) (by refine blk_put (cs := #[.int .i64 2, .bool false, .int .i64 t125, .string (⟨#[]⟩ : ByteArray)]) ?_ 3 _ rfl; refine blk_put (cs := #[.int .i64 2, .bool false, .int .i64 0, .string (⟨#[]⟩ : ByteArray)]) ?_ 2 _ rfl; refine blk_put (cs := #[.int .i64 2, .bool false, .int .i64 0, .string (⟨#[]⟩ : ByteArray)]) ?_ 1 _ rfl; refine blk_put (cs := #[.int .i64 0, .bool false, .int .i64 0, .string (⟨#[]⟩ : ByteArray)]) ?_ 0 _ rfl; exact BK124.out) hb); have n2_ := Aside0.mk (below_step (by repeat (first | (with_reducible first | exact HB.out | apply below_alloc | apply pw_below_drewN | apply below_drew1 | refine below_set ?_ GE123.out | refine below_set ?_ GE124.out) | exact HB.out)) hb); clear BK123 BK124 HB; have BK123 := n0_; have BK124 := n1_; have HB := n2_; clear n0_ n1_ n2_ hb; have hcz35_0 : w34.cell? ⟨gb124, 0, none⟩ = some (.int .i64 2) := (blk_cell BK124.out 0).trans rfl; have hcz35_1 : w34.cell? ⟨gb124, 1, none⟩ = some (.bool false) := (blk_cell BK124.out 1).trans rfl; have hcz35_2 : w34.cell? ⟨gb124, 2, none⟩ = some (.int .i64 t125) := (blk_cell BK124.out 2).trans rfl; have hcz35_3 : w34.cell? ⟨gb124, 3, none⟩ = some (.string (⟨#[]⟩ : ByteArray)) := (blk_cell BK124.out 3).trans rfl; have hfz35_0 := blk_frozen BK124.out 0; have hfz35_1 := blk_frozen BK124.out 1; have hfz35_2 := blk_frozen BK124.out 2; have hfz35_3 := blk_frozen BK124.out 3; have hcz36_0 : w34.cell? ⟨gb123, 0, none⟩ = some (.int .i64 0) := (blk_cell BK123.out 0).trans rfl; have hcz36_1 : w34.cell? ⟨gb123, 1, none⟩ = some (.bool false) := (blk_cell BK123.out 1).trans rfl; have hcz36_2 : w34.cell? ⟨gb123, 2, none⟩ = some (.int .i64 0) := (blk_cell BK123.out 2).trans rfl; have hcz36_3 : w34.cell? ⟨gb123, 3, none⟩ = some (.string (⟨#[]⟩ : ByteArray)) := (blk_cell BK123.out 3).trans rfl; have hfz36_0 := blk_frozen BK123.out 0; have hfz36_1 := blk_frozen BK123.out 1; have hfz36_2 := blk_frozen BK123.out 2; have hfz36_3 := blk_frozen BK123.out 3))
       refine bodyPost_ret (results_ct rfl _ _ gb123 36 #[.int .i64 2, .bool false, .int .i64 t125, .string (⟨#[]⟩ : ByteArray)] (0, 0) _ rfl (by refine blk_put (cs := #[.int .i64 2, .bool false, .int .i64 t125, .string (⟨#[]⟩ : ByteArray)]) ?_ 3 _ rfl; refine blk_put (cs := #[.int .i64 2, .bool false, .int .i64 0, .string (⟨#[]⟩ : ByteArray)]) ?_ 2 _ rfl; refine blk_put (cs := #[.int .i64 2, .bool false, .int .i64 0, .string (⟨#[]⟩ : ByteArray)]) ?_ 1 _ rfl; refine blk_put (cs := #[.int .i64 0, .bool false, .int .i64 0, .string (⟨#[]⟩ : ByteArray)]) ?_ 0 _ rfl; exact BK123.out) Try.underlying36 rfl (by kernel_rfl)) rfl ?_
       exact ⟨rfl, by repeat (first | (with_reducible first | exact HB.out | apply below_alloc | apply pw_below_drewN | apply below_drew1 | refine below_set ?_ GE123.out | refine below_set ?_ GE124.out) | exact HB.out)⟩
      ·
       rw [if_neg c31] at H
       have c31b0 : (t128.toList == a0.toList) = false := beq_eq_false_iff_ne.mpr c31
       have c31b1 : (t128.toList != a0.toList) = true := bne_iff_ne.mpr c31
       simp only [Option.some.injEq, Prod.mk.injEq] at H
       obtain ⟨rfl, rfl, rfl, rfl, rfl⟩ := H
       have hnb37 := NB124_123.out
       have hnc37 := NB123_124.out
       have hcz38_0 : wc.cell? ⟨gb124, 0, none⟩ = some (.int .i64 0) := (blk_cell BK124.out 0).trans rfl
       have hcz38_1 : wc.cell? ⟨gb124, 1, none⟩ = some (.bool false) := (blk_cell BK124.out 1).trans rfl
       have hcz38_2 : wc.cell? ⟨gb124, 2, none⟩ = some (.int .i64 0) := (blk_cell BK124.out 2).trans rfl
       have hcz38_3 : wc.cell? ⟨gb124, 3, none⟩ = some (.string (⟨#[]⟩ : ByteArray)) := (blk_cell BK124.out 3).trans rfl
       have hfz38_0 := blk_frozen BK124.out 0
       have hfz38_1 := blk_frozen BK124.out 1
       have hfz38_2 := blk_frozen BK124.out 2
       have hfz38_3 := blk_frozen BK124.out 3
       go_wp2_with (first | (go_at_call 86; (with_reducible refine (verdererref01_Show.calls kj2 2 false t125 (⟨#[]⟩ : ByteArray) t128 _ A30.out).mono ?_); rintro e w39 ⟨rfl, hb⟩; have n0_ := Aside0.mk (blk_below (g := gb123) (o := .cells #[.int .i64 0, .bool false, .int .i64 0, .string (⟨#[]⟩ : ByteArray)] 36 (0, 0)) (by refine blk_far ?_ NB123_124.out _; refine blk_far ?_ NB123_124.out _; refine blk_far ?_ NB123_124.out _; refine blk_far ?_ NB123_124.out _; exact BK123.out) hb); have n1_ := Aside0.mk (blk_below (g := gb124) (o := .cells #[.int .i64 2, .bool false, .int .i64 t125, .string (⟨#[]⟩ : ByteArray)] 36 (0, 0)) (by refine blk_put (cs := #[.int .i64 2, .bool false, .int .i64 t125, .string (⟨#[]⟩ : ByteArray)]) ?_ 3 _ rfl; refine blk_put (cs := #[.int .i64 2, .bool false, .int .i64 0, .string (⟨#[]⟩ : ByteArray)]) ?_ 2 _ rfl; refine blk_put (cs := #[.int .i64 2, .bool false, .int .i64 0, .string (⟨#[]⟩ : ByteArray)]) ?_ 1 _ rfl; refine blk_put (cs := #[.int .i64 0, .bool false, .int .i64 0, .string (⟨#[]⟩ : ByteArray)]) ?_ 0 _ rfl; exact BK124.out) hb); have n2_ := Aside0.mk (below_step (by repeat (first | (with_reducible first | exact HB.out | apply below_alloc | apply pw_below_drewN | apply below_drew1 | refine below_set ?_ GE123.out | refine below_set ?_ GE124.out) | exact HB.out)) hb); clear BK123 BK124 HB; have BK123 := n0_; have BK124 := n1_; have HB := n2_; clear n0_ n1_ n2_ hb; have hcz40_0 : w39.cell? ⟨gb123, 0, none⟩ = some (.int .i64 0) := (blk_cell BK123.out 0).trans rfl; have hcz40_1 : w39.cell? ⟨gb123, 1, none⟩ = some (.bool false) := (blk_cell BK123.out 1).trans rfl; have hcz40_2 : w39.cell? ⟨gb123, 2, none⟩ = some (.int .i64 0) := (blk_cell BK123.out 2).trans rfl; have hcz40_3 : w39.cell? ⟨gb123, 3, none⟩ = some (.string (⟨#[]⟩ : ByteArray)) := (blk_cell BK123.out 3).trans rfl; have hfz40_0 := blk_frozen BK123.out 0; have hfz40_1 := blk_frozen BK123.out 1; have hfz40_2 := blk_frozen BK123.out 2; have hfz40_3 := blk_frozen BK123.out 3))
       refine bodyPost_ret (results_ct rfl _ _ gb123 36 #[.int .i64 0, .bool false, .int .i64 0, .string (⟨#[]⟩ : ByteArray)] (0, 0) _ rfl (by refine blk_put (cs := #[.int .i64 0, .bool false, .int .i64 0, .string (⟨#[]⟩ : ByteArray)]) ?_ 3 _ rfl; refine blk_put (cs := #[.int .i64 0, .bool false, .int .i64 0, .string (⟨#[]⟩ : ByteArray)]) ?_ 2 _ rfl; refine blk_put (cs := #[.int .i64 0, .bool false, .int .i64 0, .string (⟨#[]⟩ : ByteArray)]) ?_ 1 _ rfl; refine blk_put (cs := #[.int .i64 0, .bool false, .int .i64 0, .string (⟨#[]⟩ : ByteArray)]) ?_ 0 _ rfl; exact BK123.out) Try.underlying36 rfl (by kernel_rfl)) rfl ?_
       exact ⟨rfl, by repeat (first | (with_reducible first | exact HB.out | apply below_alloc | apply pw_below_drewN | apply below_drew1 | refine below_set ?_ GE123.out | refine below_set ?_ GE124.out) | exact HB.out)⟩
    ·
     replace c25 := Bool.eq_false_iff.mpr c25
     subst c25
     have H1 : (if (a0.size : Int) ≥ 2 then (if 0 < (a0.size : Int) then (if (bt a0 0) = 34 then (verdererref01_Read.j1 kj2 a0 (decide ((a0.size : Int) ≤ 300)) 0 false 0 (⟨#[]⟩ : ByteArray)) else (verdererref01_Read.j1 kj2 a0 false 0 false 0 (⟨#[]⟩ : ByteArray))) else (none)) else (verdererref01_Read.j1 kj2 a0 false 0 false 0 (⟨#[]⟩ : ByteArray))) = some (r1, r2, r3, r4, r5) := by rw [if_neg (show ¬ (false = true) by decide)] at H; exact H
     clear H
     have H := H1
     clear H1
     have HC41 := Aside0.mk H
     clear H
     go_upto_region 7 with (fail)
     go_cut [37] (fun v37 wc => ∃ (kq : Nat) (x37_40 : Bool), v37 = .bool x37_40 ∧ Aside0 (verdererref01_Read.j1 kq a0 x37_40 0 false 0 (⟨#[]⟩ : ByteArray) = some (r1, r2, r3, r4, r5)) ∧ Aside0 (kq ≤ kj2) ∧ Aside0 (wc.heap[gb123]? = some (.cells #[.int .i64 0, .bool false, .int .i64 0, .string (⟨#[]⟩ : ByteArray)] 36 (0, 0))) ∧ Aside0 (wc.heap[gb124]? = some (.cells #[.int .i64 0, .bool false, .int .i64 0, .string (⟨#[]⟩ : ByteArray)] 36 (0, 0))) ∧ Aside0 (Below w.heap.size w wc))
     case first =>
      have H := HC41.out
      clear HC41
      by_cases c42 : (a0.size : Int) ≥ 2
      ·
       rw [if_pos c42] at H
       have c42b0 : decide (2 ≤ (a0.size : Int)) = true := decide_eq_true c42
       have c42b1 : decide (2 ≤ a0.size) = true := decide_eq_true (by omega)
       clear c42
       (first | rw [c42b0] | (simp only [i64_w, i32_w]; rw [c42b0]) | skip)
       by_cases c43 : 0 < (a0.size : Int)
       ·
        rw [if_pos c43] at H
        have c43b0 : decide (0 < (a0.size : Int)) = true := decide_eq_true c43
        have c43b1 : decide (0 < a0.size) = true := decide_eq_true (by omega)
        clear c43
        by_cases c45 : (bt a0 0) = 34
        ·
         rw [if_pos c45] at H
         have c45b0 : ((bt a0 0) == 34) = true := beq_iff_eq.mpr c45
         have c45b1 : ((bt a0 0) != 34) = false := bne_eq_false_iff_eq.mpr c45
         clear c45
         have H' := Aside0.mk H
         clear H
         have p44 : 0 ≤ (0 : Int) := (by omega)
         have q44 : 0 < a0.size := (by have : (0 : Int) < (a0.size : Int) := of_decide_eq_true (by first | (with_reducible assumption) | assumption); omega)
         have hx44 : ∀ h : 0 < a0.size, ((a0[0]'h).toNat : Int) = bt a0 0 := bt_at a0 0
         clear p44
         have qi44 : (0 < (a0.size : Int)) = True := eq_true (of_decide_eq_true (by first | (with_reducible assumption) | assumption))
         replace q44 := eq_true q44
         go_wp2
         go_meet
         case rel => exact ⟨_, (decide ((a0.size : Int) ≤ 300)), rfl, H', ⟨by have := HJ2.out; first | omega | exact Nat.le_refl _⟩, ⟨by exact BK123.out⟩, ⟨by exact BK124.out⟩, ⟨by with_reducible exact HB.out⟩⟩
        ·
         rw [if_neg c45] at H
         have c45b0 : ((bt a0 0) == 34) = false := beq_eq_false_iff_ne.mpr c45
         have c45b1 : ((bt a0 0) != 34) = true := bne_iff_ne.mpr c45
         have H' := Aside0.mk H
         clear H
         have p44 : 0 ≤ (0 : Int) := (by omega)
         have q44 : 0 < a0.size := (by have : (0 : Int) < (a0.size : Int) := of_decide_eq_true (by first | (with_reducible assumption) | assumption); omega)
         have hx44 : ∀ h : 0 < a0.size, ((a0[0]'h).toNat : Int) = bt a0 0 := bt_at a0 0
         clear p44
         have qi44 : (0 < (a0.size : Int)) = True := eq_true (of_decide_eq_true (by first | (with_reducible assumption) | assumption))
         replace q44 := eq_true q44
         go_wp2
         go_meet
         case rel => exact ⟨_, (false), rfl, H', ⟨by have := HJ2.out; first | omega | exact Nat.le_refl _⟩, ⟨by exact BK123.out⟩, ⟨by exact BK124.out⟩, ⟨by with_reducible exact HB.out⟩⟩
       ·
        rw [if_neg c43] at H
        exact absurd H (by simp)
      ·
       rw [if_neg c42] at H
       have c42b0 : decide (2 ≤ (a0.size : Int)) = false := decide_eq_false c42
       have c42b1 : decide (2 ≤ a0.size) = false := decide_eq_false (by omega)
       clear c42
       (first | rw [c42b0] | (simp only [i64_w, i32_w]; rw [c42b0]) | skip)
       have H' := Aside0.mk H
       clear H
       go_wp2
       go_meet
       case rel => exact ⟨_, (false), rfl, H', ⟨by have := HJ2.out; first | omega | exact Nat.le_refl _⟩, ⟨by exact BK123.out⟩, ⟨by exact BK124.out⟩, ⟨by with_reducible exact HB.out⟩⟩
     case rest =>
      clear HC41
      
      obtain ⟨kq, x37_40, rfl, HA, HJ40, BK123, BK124, HB⟩ := hcut
      cases kq with
      | zero => exact absurd HA.out (by simp [verdererref01_Read.j1])
      | succ kj40 =>
       have H := HA.out
       clear HA
       simp only [verdererref01_Read.j1] at H
       by_cases c46 : x37_40 = true
       ·
        subst c46
        have H1 : ((verdererref01_unquoted.f kj40 a0).bind fun t129 => (if a0.toList = ([] : List UInt8) then (some (0, false, 0, (⟨#[]⟩ : ByteArray), 7)) else ((verdererref01_Show.f kj40 3 false 0 t129).bind fun t130 => (if t130.toList = a0.toList then (some (3, false, 0, t129, 0)) else (some (0, false, 0, (⟨#[]⟩ : ByteArray), 7)))))) = some (r1, r2, r3, r4, r5) := by rw [if_pos rfl] at H; exact H
        clear H
        have H := H1
        clear H1
        replace H := Option.bind_eq_some_iff.mp H
        obtain ⟨t129, A470, H⟩ := H
        replace H : (if a0.toList = ([] : List UInt8) then (some (0, false, 0, (⟨#[]⟩ : ByteArray), 7)) else ((verdererref01_Show.f kj40 3 false 0 t129).bind fun t130 => (if t130.toList = a0.toList then (some (3, false, 0, t129, 0)) else (some (0, false, 0, (⟨#[]⟩ : ByteArray), 7))))) = some (r1, r2, r3, r4, r5) := H
        have A47 := Aside0.mk A470
        clear A470
        by_cases c48 : a0.toList = ([] : List UInt8)
        ·
         rw [if_pos c48] at H
         have c48b0 : (a0.toList == ([] : List UInt8)) = true := beq_iff_eq.mpr c48
         have c48b1 : (a0.toList != ([] : List UInt8)) = false := bne_eq_false_iff_eq.mpr c48
         clear c48
         simp only [Option.some.injEq, Prod.mk.injEq] at H
         obtain ⟨rfl, rfl, rfl, rfl, rfl⟩ := H
         go_wp2_with (first | ((with_reducible refine gate_callee (f := 85) rfl ?_); refine goesL_ (some 39) rfl rfl Try.func85 (by kernel_rfl) rfl #[.string a0] rfl (by (try simp only [List.map_toArray, List.map_cons, List.map_nil]); first | done | rfl | (simp only [List.length_drop, List.length_take]; rfl)) ?_; (with_reducible refine (verdererref01_unquoted.calls kj40 a0 t129 _ A47.out).mono ?_); rintro e w49 ⟨rfl, hb⟩; refine ⟨_, rfl, ?_⟩; have n0_ := Aside0.mk (blk_below (g := gb123) (o := .cells #[.int .i64 0, .bool false, .int .i64 0, .string (⟨#[]⟩ : ByteArray)] 36 (0, 0)) (by exact BK123.out) hb); have n1_ := Aside0.mk (blk_below (g := gb124) (o := .cells #[.int .i64 0, .bool false, .int .i64 0, .string (⟨#[]⟩ : ByteArray)] 36 (0, 0)) (by exact BK124.out) hb); have n2_ := Aside0.mk (below_step (by with_reducible exact HB.out) hb); clear BK123 BK124 HB; have BK123 := n0_; have BK124 := n1_; have HB := n2_; clear n0_ n1_ n2_ hb; have hnb50 := NB124_123.out; have hnc50 := NB123_124.out; have hcz51_0 : w49.cell? ⟨gb124, 0, none⟩ = some (.int .i64 0) := (blk_cell BK124.out 0).trans rfl; have hcz51_1 : w49.cell? ⟨gb124, 1, none⟩ = some (.bool false) := (blk_cell BK124.out 1).trans rfl; have hcz51_2 : w49.cell? ⟨gb124, 2, none⟩ = some (.int .i64 0) := (blk_cell BK124.out 2).trans rfl; have hcz51_3 : w49.cell? ⟨gb124, 3, none⟩ = some (.string (⟨#[]⟩ : ByteArray)) := (blk_cell BK124.out 3).trans rfl; have hfz51_0 := blk_frozen BK124.out 0; have hfz51_1 := blk_frozen BK124.out 1; have hfz51_2 := blk_frozen BK124.out 2; have hfz51_3 := blk_frozen BK124.out 3; have hcz52_0 : w49.cell? ⟨gb123, 0, none⟩ = some (.int .i64 0) := (blk_cell BK123.out 0).trans rfl; have hcz52_1 : w49.cell? ⟨gb123, 1, none⟩ = some (.bool false) := (blk_cell BK123.out 1).trans rfl; have hcz52_2 : w49.cell? ⟨gb123, 2, none⟩ = some (.int .i64 0) := (blk_cell BK123.out 2).trans rfl; have hcz52_3 : w49.cell? ⟨gb123, 3, none⟩ = some (.string (⟨#[]⟩ : ByteArray)) := (blk_cell BK123.out 3).trans rfl; have hfz52_0 := blk_frozen BK123.out 0; have hfz52_1 := blk_frozen BK123.out 1; have hfz52_2 := blk_frozen BK123.out 2; have hfz52_3 := blk_frozen BK123.out 3))
         refine bodyPost_ret (results_ct rfl _ _ gb123 36 #[.int .i64 0, .bool false, .int .i64 0, .string (⟨#[]⟩ : ByteArray)] (0, 0) _ rfl (by refine blk_put (cs := #[.int .i64 0, .bool false, .int .i64 0, .string (⟨#[]⟩ : ByteArray)]) ?_ 3 _ rfl; refine blk_put (cs := #[.int .i64 0, .bool false, .int .i64 0, .string (⟨#[]⟩ : ByteArray)]) ?_ 2 _ rfl; refine blk_put (cs := #[.int .i64 0, .bool false, .int .i64 0, .string (⟨#[]⟩ : ByteArray)]) ?_ 1 _ rfl; refine blk_put (cs := #[.int .i64 0, .bool false, .int .i64 0, .string (⟨#[]⟩ : ByteArray)]) ?_ 0 _ rfl; refine blk_far ?_ NB123_124.out _; refine blk_far ?_ NB123_124.out _; refine blk_far ?_ NB123_124.out _; refine blk_far ?_ NB123_124.out _; exact BK123.out) Try.underlying36 rfl (by kernel_rfl)) rfl ?_
         exact ⟨rfl, by repeat (first | (with_reducible first | exact HB.out | apply below_alloc | apply pw_below_drewN | apply below_drew1 | refine below_set ?_ GE123.out | refine below_set ?_ GE124.out) | exact HB.out)⟩
        ·
         rw [if_neg c48] at H
         have c48b0 : (a0.toList == ([] : List UInt8)) = false := beq_eq_false_iff_ne.mpr c48
         have c48b1 : (a0.toList != ([] : List UInt8)) = true := bne_iff_ne.mpr c48
         replace H := Option.bind_eq_some_iff.mp H
         obtain ⟨t130, A530, H⟩ := H
         replace H : (if t130.toList = a0.toList then (some (3, false, 0, t129, 0)) else (some (0, false, 0, (⟨#[]⟩ : ByteArray), 7))) = some (r1, r2, r3, r4, r5) := H
         have A53 := Aside0.mk A530
         clear A530
         by_cases c54 : t130.toList = a0.toList
         ·
          rw [if_pos c54] at H
          have c54b0 : (t130.toList == a0.toList) = true := beq_iff_eq.mpr c54
          have c54b1 : (t130.toList != a0.toList) = false := bne_eq_false_iff_eq.mpr c54
          clear c54
          simp only [Option.some.injEq, Prod.mk.injEq] at H
          obtain ⟨rfl, rfl, rfl, rfl, rfl⟩ := H
          go_wp2_with (first | ((with_reducible refine gate_callee (f := 85) rfl ?_); refine goesL_ (some 39) rfl rfl Try.func85 (by kernel_rfl) rfl #[.string a0] rfl (by (try simp only [List.map_toArray, List.map_cons, List.map_nil]); first | done | rfl | (simp only [List.length_drop, List.length_take]; rfl)) ?_; (with_reducible refine (verdererref01_unquoted.calls kj40 a0 t129 _ A47.out).mono ?_); rintro e w55 ⟨rfl, hb⟩; refine ⟨_, rfl, ?_⟩; have n0_ := Aside0.mk (blk_below (g := gb123) (o := .cells #[.int .i64 0, .bool false, .int .i64 0, .string (⟨#[]⟩ : ByteArray)] 36 (0, 0)) (by exact BK123.out) hb); have n1_ := Aside0.mk (blk_below (g := gb124) (o := .cells #[.int .i64 0, .bool false, .int .i64 0, .string (⟨#[]⟩ : ByteArray)] 36 (0, 0)) (by exact BK124.out) hb); have n2_ := Aside0.mk (below_step (by with_reducible exact HB.out) hb); clear BK123 BK124 HB; have BK123 := n0_; have BK124 := n1_; have HB := n2_; clear n0_ n1_ n2_ hb; have hnb56 := NB124_123.out; have hnc56 := NB123_124.out; have hcz57_0 : w55.cell? ⟨gb124, 0, none⟩ = some (.int .i64 0) := (blk_cell BK124.out 0).trans rfl; have hcz57_1 : w55.cell? ⟨gb124, 1, none⟩ = some (.bool false) := (blk_cell BK124.out 1).trans rfl; have hcz57_2 : w55.cell? ⟨gb124, 2, none⟩ = some (.int .i64 0) := (blk_cell BK124.out 2).trans rfl; have hcz57_3 : w55.cell? ⟨gb124, 3, none⟩ = some (.string (⟨#[]⟩ : ByteArray)) := (blk_cell BK124.out 3).trans rfl; have hfz57_0 := blk_frozen BK124.out 0; have hfz57_1 := blk_frozen BK124.out 1; have hfz57_2 := blk_frozen BK124.out 2; have hfz57_3 := blk_frozen BK124.out 3) | (go_at_call 86; (with_reducible refine (verdererref01_Show.calls kj40 3 false 0 t129 t130 _ A53.out).mono ?_); rintro e w58 ⟨rfl, hb⟩; have n0_ := Aside0.mk (blk_below (g := gb123) (o := .cells #[.int .i64 0, .bool false, .int .i64 0, .string (⟨#[]⟩ : ByteArray)] 36 (0, 0)) (by refine blk_far ?_ NB123_124.out _; refine blk_far ?_ NB123_124.out _; refine blk_far ?_ NB123_124.out _; refine blk_far ?_ NB123_124.out _; exact BK123.out) hb); have n1_ := Aside0.mk (blk_below (g := gb124) (o := .cells #[.int .i64 3, .bool false, .int .i64 0, .string t129] 36 (0, 0)) (by refine blk_put (cs := #[.int .i64 3, .bool false, .int .i64 0, .string (⟨#[]⟩ : ByteArray)]) ?_ 3 _ rfl; refine blk_put (cs := #[.int .i64 3, .bool false, .int .i64 0, .string (⟨#[]⟩ : ByteArray)]) ?_ 2 _ rfl; refine blk_put (cs := #[.int .i64 3, .bool false, .int .i64 0, .string (⟨#[]⟩ : ByteArray)]) ?_ 1 _ rfl; refine blk_put (cs := #[.int .i64 0, .bool false, .int .i64 0, .string (⟨#[]⟩ : ByteArray)]) ?_ 0 _ rfl; exact BK124.out) hb); have n2_ := Aside0.mk (below_step (by repeat (first | (with_reducible first | exact HB.out | apply below_alloc | apply pw_below_drewN | apply below_drew1 | refine below_set ?_ GE123.out | refine below_set ?_ GE124.out) | exact HB.out)) hb); clear BK123 BK124 HB; have BK123 := n0_; have BK124 := n1_; have HB := n2_; clear n0_ n1_ n2_ hb; have hcz59_0 : w58.cell? ⟨gb124, 0, none⟩ = some (.int .i64 3) := (blk_cell BK124.out 0).trans rfl; have hcz59_1 : w58.cell? ⟨gb124, 1, none⟩ = some (.bool false) := (blk_cell BK124.out 1).trans rfl; have hcz59_2 : w58.cell? ⟨gb124, 2, none⟩ = some (.int .i64 0) := (blk_cell BK124.out 2).trans rfl; have hcz59_3 : w58.cell? ⟨gb124, 3, none⟩ = some (.string t129) := (blk_cell BK124.out 3).trans rfl; have hfz59_0 := blk_frozen BK124.out 0; have hfz59_1 := blk_frozen BK124.out 1; have hfz59_2 := blk_frozen BK124.out 2; have hfz59_3 := blk_frozen BK124.out 3; have hcz60_0 : w58.cell? ⟨gb123, 0, none⟩ = some (.int .i64 0) := (blk_cell BK123.out 0).trans rfl; have hcz60_1 : w58.cell? ⟨gb123, 1, none⟩ = some (.bool false) := (blk_cell BK123.out 1).trans rfl; have hcz60_2 : w58.cell? ⟨gb123, 2, none⟩ = some (.int .i64 0) := (blk_cell BK123.out 2).trans rfl; have hcz60_3 : w58.cell? ⟨gb123, 3, none⟩ = some (.string (⟨#[]⟩ : ByteArray)) := (blk_cell BK123.out 3).trans rfl; have hfz60_0 := blk_frozen BK123.out 0; have hfz60_1 := blk_frozen BK123.out 1; have hfz60_2 := blk_frozen BK123.out 2; have hfz60_3 := blk_frozen BK123.out 3))
          refine bodyPost_ret (results_ct rfl _ _ gb123 36 #[.int .i64 3, .bool false, .int .i64 0, .string t129] (0, 0) _ rfl (by refine blk_put (cs := #[.int .i64 3, .bool false, .int .i64 0, .string (⟨#[]⟩ : ByteArray)]) ?_ 3 _ rfl; refine blk_put (cs := #[.int .i64 3, .bool false, .int .i64 0, .string (⟨#[]⟩ : ByteArray)]) ?_ 2 _ rfl; refine blk_put (cs := #[.int .i64 3, .bool false, .int .i64 0, .string (⟨#[]⟩ : ByteArray)]) ?_ 1 _ rfl; refine blk_put (cs := #[.int .i64 0, .bool false, .int .i64 0, .string (⟨#[]⟩ : ByteArray)]) ?_ 0 _ rfl; exact BK123.out) Try.underlying36 rfl (by kernel_rfl)) rfl ?_
          exact ⟨rfl, by repeat (first | (with_reducible first | exact HB.out | apply below_alloc | apply pw_below_drewN | apply below_drew1 | refine below_set ?_ GE123.out | refine below_set ?_ GE124.out) | exact HB.out)⟩
         ·
          rw [if_neg c54] at H
          have c54b0 : (t130.toList == a0.toList) = false := beq_eq_false_iff_ne.mpr c54
          have c54b1 : (t130.toList != a0.toList) = true := bne_iff_ne.mpr c54
          simp only [Option.some.injEq, Prod.mk.injEq] at H
          obtain ⟨rfl, rfl, rfl, rfl, rfl⟩ := H
          go_wp2_with (first | ((with_reducible refine gate_callee (f := 85) rfl ?_); refine goesL_ (some 39) rfl rfl Try.func85 (by kernel_rfl) rfl #[.string a0] rfl (by (try simp only [List.map_toArray, List.map_cons, List.map_nil]); first | done | rfl | (simp only [List.length_drop, List.length_take]; rfl)) ?_; (with_reducible refine (verdererref01_unquoted.calls kj40 a0 t129 _ A47.out).mono ?_); rintro e w61 ⟨rfl, hb⟩; refine ⟨_, rfl, ?_⟩; have n0_ := Aside0.mk (blk_below (g := gb123) (o := .cells #[.int .i64 0, .bool false, .int .i64 0, .string (⟨#[]⟩ : ByteArray)] 36 (0, 0)) (by exact BK123.out) hb); have n1_ := Aside0.mk (blk_below (g := gb124) (o := .cells #[.int .i64 0, .bool false, .int .i64 0, .string (⟨#[]⟩ : ByteArray)] 36 (0, 0)) (by exact BK124.out) hb); have n2_ := Aside0.mk (below_step (by with_reducible exact HB.out) hb); clear BK123 BK124 HB; have BK123 := n0_; have BK124 := n1_; have HB := n2_; clear n0_ n1_ n2_ hb; have hnb62 := NB124_123.out; have hnc62 := NB123_124.out; have hcz63_0 : w61.cell? ⟨gb124, 0, none⟩ = some (.int .i64 0) := (blk_cell BK124.out 0).trans rfl; have hcz63_1 : w61.cell? ⟨gb124, 1, none⟩ = some (.bool false) := (blk_cell BK124.out 1).trans rfl; have hcz63_2 : w61.cell? ⟨gb124, 2, none⟩ = some (.int .i64 0) := (blk_cell BK124.out 2).trans rfl; have hcz63_3 : w61.cell? ⟨gb124, 3, none⟩ = some (.string (⟨#[]⟩ : ByteArray)) := (blk_cell BK124.out 3).trans rfl; have hfz63_0 := blk_frozen BK124.out 0; have hfz63_1 := blk_frozen BK124.out 1; have hfz63_2 := blk_frozen BK124.out 2; have hfz63_3 := blk_frozen BK124.out 3) | (go_at_call 86; (with_reducible refine (verdererref01_Show.calls kj40 3 false 0 t129 t130 _ A53.out).mono ?_); rintro e w64 ⟨rfl, hb⟩; have n0_ := Aside0.mk (blk_below (g := gb123) (o := .cells #[.int .i64 0, .bool false, .int .i64 0, .string (⟨#[]⟩ : ByteArray)] 36 (0, 0)) (by refine blk_far ?_ NB123_124.out _; refine blk_far ?_ NB123_124.out _; refine blk_far ?_ NB123_124.out _; refine blk_far ?_ NB123_124.out _; exact BK123.out) hb); have n1_ := Aside0.mk (blk_below (g := gb124) (o := .cells #[.int .i64 3, .bool false, .int .i64 0, .string t129] 36 (0, 0)) (by refine blk_put (cs := #[.int .i64 3, .bool false, .int .i64 0, .string (⟨#[]⟩ : ByteArray)]) ?_ 3 _ rfl; refine blk_put (cs := #[.int .i64 3, .bool false, .int .i64 0, .string (⟨#[]⟩ : ByteArray)]) ?_ 2 _ rfl; refine blk_put (cs := #[.int .i64 3, .bool false, .int .i64 0, .string (⟨#[]⟩ : ByteArray)]) ?_ 1 _ rfl; refine blk_put (cs := #[.int .i64 0, .bool false, .int .i64 0, .string (⟨#[]⟩ : ByteArray)]) ?_ 0 _ rfl; exact BK124.out) hb); have n2_ := Aside0.mk (below_step (by repeat (first | (with_reducible first | exact HB.out | apply below_alloc | apply pw_below_drewN | apply below_drew1 | refine below_set ?_ GE123.out | refine below_set ?_ GE124.out) | exact HB.out)) hb); clear BK123 BK124 HB; have BK123 := n0_; have BK124 := n1_; have HB := n2_; clear n0_ n1_ n2_ hb; have hcz65_0 : w64.cell? ⟨gb123, 0, none⟩ = some (.int .i64 0) := (blk_cell BK123.out 0).trans rfl; have hcz65_1 : w64.cell? ⟨gb123, 1, none⟩ = some (.bool false) := (blk_cell BK123.out 1).trans rfl; have hcz65_2 : w64.cell? ⟨gb123, 2, none⟩ = some (.int .i64 0) := (blk_cell BK123.out 2).trans rfl; have hcz65_3 : w64.cell? ⟨gb123, 3, none⟩ = some (.string (⟨#[]⟩ : ByteArray)) := (blk_cell BK123.out 3).trans rfl; have hfz65_0 := blk_frozen BK123.out 0; have hfz65_1 := blk_frozen BK123.out 1; have hfz65_2 := blk_frozen BK123.out 2; have hfz65_3 := blk_frozen BK123.out 3))
          refine bodyPost_ret (results_ct rfl _ _ gb123 36 #[.int .i64 0, .bool false, .int .i64 0, .string (⟨#[]⟩ : ByteArray)] (0, 0) _ rfl (by refine blk_put (cs := #[.int .i64 0, .bool false, .int .i64 0, .string (⟨#[]⟩ : ByteArray)]) ?_ 3 _ rfl; refine blk_put (cs := #[.int .i64 0, .bool false, .int .i64 0, .string (⟨#[]⟩ : ByteArray)]) ?_ 2 _ rfl; refine blk_put (cs := #[.int .i64 0, .bool false, .int .i64 0, .string (⟨#[]⟩ : ByteArray)]) ?_ 1 _ rfl; refine blk_put (cs := #[.int .i64 0, .bool false, .int .i64 0, .string (⟨#[]⟩ : ByteArray)]) ?_ 0 _ rfl; exact BK123.out) Try.underlying36 rfl (by kernel_rfl)) rfl ?_
          exact ⟨rfl, by repeat (first | (with_reducible first | exact HB.out | apply below_alloc | apply pw_below_drewN | apply below_drew1 | refine below_set ?_ GE123.out | refine below_set ?_ GE124.out) | exact HB.out)⟩
       ·
        replace c46 := Bool.eq_false_iff.mpr c46
        subst c46
        have H1 : (if a0.toList = ([] : List UInt8) then (some (0, false, 0, (⟨#[]⟩ : ByteArray), 7)) else ((verdererref01_Show.f kj40 0 false 0 (⟨#[]⟩ : ByteArray)).bind fun t131 => (if t131.toList = a0.toList then (some (0, false, 0, (⟨#[]⟩ : ByteArray), 0)) else (some (0, false, 0, (⟨#[]⟩ : ByteArray), 7))))) = some (r1, r2, r3, r4, r5) := by rw [if_neg (show ¬ (false = true) by decide)] at H; exact H
        clear H
        have H := H1
        clear H1
        by_cases c66 : a0.toList = ([] : List UInt8)
        ·
         rw [if_pos c66] at H
         have c66b0 : (a0.toList == ([] : List UInt8)) = true := beq_iff_eq.mpr c66
         have c66b1 : (a0.toList != ([] : List UInt8)) = false := bne_eq_false_iff_eq.mpr c66
         clear c66
         simp only [Option.some.injEq, Prod.mk.injEq] at H
         obtain ⟨rfl, rfl, rfl, rfl, rfl⟩ := H
         have hnb67 := NB123_124.out
         have hnc67 := NB124_123.out
         have hcz68_0 : wc.cell? ⟨gb123, 0, none⟩ = some (.int .i64 0) := (blk_cell BK123.out 0).trans rfl
         have hcz68_1 : wc.cell? ⟨gb123, 1, none⟩ = some (.bool false) := (blk_cell BK123.out 1).trans rfl
         have hcz68_2 : wc.cell? ⟨gb123, 2, none⟩ = some (.int .i64 0) := (blk_cell BK123.out 2).trans rfl
         have hcz68_3 : wc.cell? ⟨gb123, 3, none⟩ = some (.string (⟨#[]⟩ : ByteArray)) := (blk_cell BK123.out 3).trans rfl
         have hfz68_0 := blk_frozen BK123.out 0
         have hfz68_1 := blk_frozen BK123.out 1
         have hfz68_2 := blk_frozen BK123.out 2
         have hfz68_3 := blk_frozen BK123.out 3
         go_wp2
         refine bodyPost_ret (results_ct rfl _ _ gb123 36 #[.int .i64 0, .bool false, .int .i64 0, .string (⟨#[]⟩ : ByteArray)] (0, 0) _ rfl (by refine blk_put (cs := #[.int .i64 0, .bool false, .int .i64 0, .string (⟨#[]⟩ : ByteArray)]) ?_ 3 _ rfl; refine blk_put (cs := #[.int .i64 0, .bool false, .int .i64 0, .string (⟨#[]⟩ : ByteArray)]) ?_ 2 _ rfl; refine blk_put (cs := #[.int .i64 0, .bool false, .int .i64 0, .string (⟨#[]⟩ : ByteArray)]) ?_ 1 _ rfl; refine blk_put (cs := #[.int .i64 0, .bool false, .int .i64 0, .string (⟨#[]⟩ : ByteArray)]) ?_ 0 _ rfl; exact BK123.out) Try.underlying36 rfl (by kernel_rfl)) rfl ?_
         exact ⟨rfl, by repeat (first | (with_reducible first | exact HB.out | apply below_alloc | apply pw_below_drewN | apply below_drew1 | refine below_set ?_ GE123.out | refine below_set ?_ GE124.out) | exact HB.out)⟩
        ·
         rw [if_neg c66] at H
         have c66b0 : (a0.toList == ([] : List UInt8)) = false := beq_eq_false_iff_ne.mpr c66
         have c66b1 : (a0.toList != ([] : List UInt8)) = true := bne_iff_ne.mpr c66
         replace H := Option.bind_eq_some_iff.mp H
         obtain ⟨t131, A690, H⟩ := H
         replace H : (if t131.toList = a0.toList then (some (0, false, 0, (⟨#[]⟩ : ByteArray), 0)) else (some (0, false, 0, (⟨#[]⟩ : ByteArray), 7))) = some (r1, r2, r3, r4, r5) := H
         have A69 := Aside0.mk A690
         clear A690
         by_cases c70 : t131.toList = a0.toList
         ·
          rw [if_pos c70] at H
          have c70b0 : (t131.toList == a0.toList) = true := beq_iff_eq.mpr c70
          have c70b1 : (t131.toList != a0.toList) = false := bne_eq_false_iff_eq.mpr c70
          clear c70
          simp only [Option.some.injEq, Prod.mk.injEq] at H
          obtain ⟨rfl, rfl, rfl, rfl, rfl⟩ := H
          have hnb71 := NB124_123.out
          have hnc71 := NB123_124.out
          have hcz72_0 : wc.cell? ⟨gb124, 0, none⟩ = some (.int .i64 0) := (blk_cell BK124.out 0).trans rfl
          have hcz72_1 : wc.cell? ⟨gb124, 1, none⟩ = some (.bool false) := (blk_cell BK124.out 1).trans rfl
          have hcz72_2 : wc.cell? ⟨gb124, 2, none⟩ = some (.int .i64 0) := (blk_cell BK124.out 2).trans rfl
          have hcz72_3 : wc.cell? ⟨gb124, 3, none⟩ = some (.string (⟨#[]⟩ : ByteArray)) := (blk_cell BK124.out 3).trans rfl
          have hfz72_0 := blk_frozen BK124.out 0
          have hfz72_1 := blk_frozen BK124.out 1
          have hfz72_2 := blk_frozen BK124.out 2
          have hfz72_3 := blk_frozen BK124.out 3
          go_wp2_with (first | (go_at_call 86; (with_reducible refine (verdererref01_Show.calls kj40 0 false 0 (⟨#[]⟩ : ByteArray) t131 _ A69.out).mono ?_); rintro e w73 ⟨rfl, hb⟩; have n0_ := Aside0.mk (blk_below (g := gb123) (o := .cells #[.int .i64 0, .bool false, .int .i64 0, .string (⟨#[]⟩ : ByteArray)] 36 (0, 0)) (by exact BK123.out) hb); have n1_ := Aside0.mk (blk_below (g := gb124) (o := .cells #[.int .i64 0, .bool false, .int .i64 0, .string (⟨#[]⟩ : ByteArray)] 36 (0, 0)) (by exact BK124.out) hb); have n2_ := Aside0.mk (below_step (by with_reducible exact HB.out) hb); clear BK123 BK124 HB; have BK123 := n0_; have BK124 := n1_; have HB := n2_; clear n0_ n1_ n2_ hb; have hcz74_0 : w73.cell? ⟨gb124, 0, none⟩ = some (.int .i64 0) := (blk_cell BK124.out 0).trans rfl; have hcz74_1 : w73.cell? ⟨gb124, 1, none⟩ = some (.bool false) := (blk_cell BK124.out 1).trans rfl; have hcz74_2 : w73.cell? ⟨gb124, 2, none⟩ = some (.int .i64 0) := (blk_cell BK124.out 2).trans rfl; have hcz74_3 : w73.cell? ⟨gb124, 3, none⟩ = some (.string (⟨#[]⟩ : ByteArray)) := (blk_cell BK124.out 3).trans rfl; have hfz74_0 := blk_frozen BK124.out 0; have hfz74_1 := blk_frozen BK124.out 1; have hfz74_2 := blk_frozen BK124.out 2; have hfz74_3 := blk_frozen BK124.out 3; have hcz75_0 : w73.cell? ⟨gb123, 0, none⟩ = some (.int .i64 0) := (blk_cell BK123.out 0).trans rfl; have hcz75_1 : w73.cell? ⟨gb123, 1, none⟩ = some (.bool false) := (blk_cell BK123.out 1).trans rfl; have hcz75_2 : w73.cell? ⟨gb123, 2, none⟩ = some (.int .i64 0) := (blk_cell BK123.out 2).trans rfl; have hcz75_3 : w73.cell? ⟨gb123, 3, none⟩ = some (.string (⟨#[]⟩ : ByteArray)) := (blk_cell BK123.out 3).trans rfl; have hfz75_0 := blk_frozen BK123.out 0; have hfz75_1 := blk_frozen BK123.out 1; have hfz75_2 := blk_frozen BK123.out 2; have hfz75_3 := blk_frozen BK123.out 3))
          refine bodyPost_ret (results_ct rfl _ _ gb123 36 #[.int .i64 0, .bool false, .int .i64 0, .string (⟨#[]⟩ : ByteArray)] (0, 0) _ rfl (by refine blk_put (cs := #[.int .i64 0, .bool false, .int .i64 0, .string (⟨#[]⟩ : ByteArray)]) ?_ 3 _ rfl; refine blk_put (cs := #[.int .i64 0, .bool false, .int .i64 0, .string (⟨#[]⟩ : ByteArray)]) ?_ 2 _ rfl; refine blk_put (cs := #[.int .i64 0, .bool false, .int .i64 0, .string (⟨#[]⟩ : ByteArray)]) ?_ 1 _ rfl; refine blk_put (cs := #[.int .i64 0, .bool false, .int .i64 0, .string (⟨#[]⟩ : ByteArray)]) ?_ 0 _ rfl; exact BK123.out) Try.underlying36 rfl (by kernel_rfl)) rfl ?_
          exact ⟨rfl, by repeat (first | (with_reducible first | exact HB.out | apply below_alloc | apply pw_below_drewN | apply below_drew1 | refine below_set ?_ GE123.out | refine below_set ?_ GE124.out) | exact HB.out)⟩
         ·
          rw [if_neg c70] at H
          have c70b0 : (t131.toList == a0.toList) = false := beq_eq_false_iff_ne.mpr c70
          have c70b1 : (t131.toList != a0.toList) = true := bne_iff_ne.mpr c70
          simp only [Option.some.injEq, Prod.mk.injEq] at H
          obtain ⟨rfl, rfl, rfl, rfl, rfl⟩ := H
          have hnb76 := NB124_123.out
          have hnc76 := NB123_124.out
          have hcz77_0 : wc.cell? ⟨gb124, 0, none⟩ = some (.int .i64 0) := (blk_cell BK124.out 0).trans rfl
          have hcz77_1 : wc.cell? ⟨gb124, 1, none⟩ = some (.bool false) := (blk_cell BK124.out 1).trans rfl
          have hcz77_2 : wc.cell? ⟨gb124, 2, none⟩ = some (.int .i64 0) := (blk_cell BK124.out 2).trans rfl
          have hcz77_3 : wc.cell? ⟨gb124, 3, none⟩ = some (.string (⟨#[]⟩ : ByteArray)) := (blk_cell BK124.out 3).trans rfl
          have hfz77_0 := blk_frozen BK124.out 0
          have hfz77_1 := blk_frozen BK124.out 1
          have hfz77_2 := blk_frozen BK124.out 2
          have hfz77_3 := blk_frozen BK124.out 3
          go_wp2_with (first | (go_at_call 86; (with_reducible refine (verdererref01_Show.calls kj40 0 false 0 (⟨#[]⟩ : ByteArray) t131 _ A69.out).mono ?_); rintro e w78 ⟨rfl, hb⟩; have n0_ := Aside0.mk (blk_below (g := gb123) (o := .cells #[.int .i64 0, .bool false, .int .i64 0, .string (⟨#[]⟩ : ByteArray)] 36 (0, 0)) (by exact BK123.out) hb); have n1_ := Aside0.mk (blk_below (g := gb124) (o := .cells #[.int .i64 0, .bool false, .int .i64 0, .string (⟨#[]⟩ : ByteArray)] 36 (0, 0)) (by exact BK124.out) hb); have n2_ := Aside0.mk (below_step (by with_reducible exact HB.out) hb); clear BK123 BK124 HB; have BK123 := n0_; have BK124 := n1_; have HB := n2_; clear n0_ n1_ n2_ hb; have hcz79_0 : w78.cell? ⟨gb123, 0, none⟩ = some (.int .i64 0) := (blk_cell BK123.out 0).trans rfl; have hcz79_1 : w78.cell? ⟨gb123, 1, none⟩ = some (.bool false) := (blk_cell BK123.out 1).trans rfl; have hcz79_2 : w78.cell? ⟨gb123, 2, none⟩ = some (.int .i64 0) := (blk_cell BK123.out 2).trans rfl; have hcz79_3 : w78.cell? ⟨gb123, 3, none⟩ = some (.string (⟨#[]⟩ : ByteArray)) := (blk_cell BK123.out 3).trans rfl; have hfz79_0 := blk_frozen BK123.out 0; have hfz79_1 := blk_frozen BK123.out 1; have hfz79_2 := blk_frozen BK123.out 2; have hfz79_3 := blk_frozen BK123.out 3))
          refine bodyPost_ret (results_ct rfl _ _ gb123 36 #[.int .i64 0, .bool false, .int .i64 0, .string (⟨#[]⟩ : ByteArray)] (0, 0) _ rfl (by refine blk_put (cs := #[.int .i64 0, .bool false, .int .i64 0, .string (⟨#[]⟩ : ByteArray)]) ?_ 3 _ rfl; refine blk_put (cs := #[.int .i64 0, .bool false, .int .i64 0, .string (⟨#[]⟩ : ByteArray)]) ?_ 2 _ rfl; refine blk_put (cs := #[.int .i64 0, .bool false, .int .i64 0, .string (⟨#[]⟩ : ByteArray)]) ?_ 1 _ rfl; refine blk_put (cs := #[.int .i64 0, .bool false, .int .i64 0, .string (⟨#[]⟩ : ByteArray)]) ?_ 0 _ rfl; exact BK123.out) Try.underlying36 rfl (by kernel_rfl)) rfl ?_
          exact ⟨rfl, by repeat (first | (with_reducible first | exact HB.out | apply below_alloc | apply pw_below_drewN | apply below_drew1 | refine below_set ?_ GE123.out | refine below_set ?_ GE124.out) | exact HB.out)⟩
end Go.Proofs.Ytikikmkfeeljgaa.G
