-- Written by a program for this claim (my own print over the kit's words).
import Derived.Test.YtikikmkfeeljgaaGx0
import Derived.Test.YtikikmkfeeljgaaGx7
import Derived.Test.YtikikmkfeeljgaaGx8
import Derived.Test.YtikikmkfeeljgaaGx10
import Derived.Test.YtikikmkfeeljgaaGx11
namespace Go.Proofs.Ytikikmkfeeljgaa.G
open Go.RowKit Go.Proofs.YtikikmkfeeljgaaW.PrintWords Go.Proofs.YtikikmkfeeljgaaW.PrintLast Go.Proofs.YtikikmkfeeljgaaW.PrintMore
attribute [local go_sem] max2_int min2_int max_two min_two max_three min_three max_four min_four   -- for this text's walks alone
set_option linter.unusedVariables false
set_option linter.unusedSimpArgs false
/-! ### verdererref12_reader_lone: function 59 -/
def verdererref12_reader_lone.j0 : Nat → Int → Bool → List (S73) → Int → Int → Int → Option (Int × Int × Int)
 | 0, _, _, _, _, _, _ => none
 | k + 1, x1, x17, x1000, x1001, x1002, x1003 => if x17 = true then ((verdererref12_reader_fail.f x1000 x1001 x1002 x1003 9 x1).bind fun bt306 => ((verdererref12_reader_fail.f x1000 bt306.1 bt306.2.1 bt306.2.2 7 x1).bind fun bt309 => (some (bt309.1, bt309.2.1, bt309.2.2)))) else ((verdererref12_reader_fail.f x1000 x1001 x1002 x1003 7 x1).bind fun bt312 => (some (bt312.1, bt312.2.1, bt312.2.2)))
def verdererref12_reader_lone.f (k : Nat) (s0_0 : List (S73)) (s0_1 : Int) (s0_2 : Int) (s0_3 : Int) (a1 : Int) : Option (Int × Int × Int) := (verdererref12_reader_now.f s0_0 s0_1 s0_2 s0_3).bind fun bt287 => ((verdererref12_reader_is.f s0_0 bt287.2.2.2.2.2.2.2.1 bt287.2.2.2.2.2.2.2.2.1 bt287.2.2.2.2.2.2.2.2.2 (⟨#[110, 111, 116]⟩ : ByteArray)).bind fun bt298 => (if bt298.1 = true then (verdererref12_reader_lone.j0 k a1 true s0_0 bt298.2.1 bt298.2.2.1 bt298.2.2.2) else ((verdererref12_reader_named.f k s0_0 bt298.2.1 bt298.2.2.1 bt298.2.2.2).bind fun bt302 => (if bt302.1 = true then (verdererref12_reader_lone.j0 k a1 true s0_0 bt302.2.1 bt302.2.2.1 bt302.2.2.2) else (verdererref12_reader_lone.j0 k a1 (bt287.1 == 2) s0_0 bt302.2.1 bt302.2.2.1 bt302.2.2.2)))))
set_option maxHeartbeats 8000000 in
set_option maxRecDepth 100000 in
theorem verdererref12_reader_lone.calls (k : Nat) (g : Nat) (s0_0 : List (S73)) (s0_1 : Int) (s0_2 : Int) (s0_3 : Int) (a1 : Int) (r1 : Int) (r2 : Int) (r3 : Int) (w0 w : World) (hI : IsS69 w0 w g s0_0 s0_1 s0_2 s0_3) (hB : Below w0.heap.size w0 w) (h : verdererref12_reader_lone.f k s0_0 s0_1 s0_2 s0_3 a1 = some (r1, r2, r3)) :
  Calls Try.prog 59 #[.pointer (some ⟨g, 0, none⟩), .int .i64 a1] w fun e w' => e = .returned (.tuple #[]) ∧ IsS69 w0 w' g s0_0 r1 r2 r3 ∧ Below w0.heap.size w0 w' ∧ KeepBut w w' g none := by
 have hu73 := Try.underlying73
 have HI0 := Aside0.mk hI
 have HK := Aside0.mk (KeepBut.refl w g none)
 have HL := Aside0.mk hB.size
 clear hI
 have HW0 := Aside0.mk hB.size
 have HB := Aside0.mk hB
 clear hB
 have H : ((verdererref12_reader_now.f s0_0 s0_1 s0_2 s0_3).bind fun bt287 => ((verdererref12_reader_is.f s0_0 bt287.2.2.2.2.2.2.2.1 bt287.2.2.2.2.2.2.2.2.1 bt287.2.2.2.2.2.2.2.2.2 (⟨#[110, 111, 116]⟩ : ByteArray)).bind fun bt298 => (if bt298.1 = true then (verdererref12_reader_lone.j0 k a1 true s0_0 bt298.2.1 bt298.2.2.1 bt298.2.2.2) else ((verdererref12_reader_named.f k s0_0 bt298.2.1 bt298.2.2.1 bt298.2.2.2).bind fun bt302 => (if bt302.1 = true then (verdererref12_reader_lone.j0 k a1 true s0_0 bt302.2.1 bt302.2.2.1 bt302.2.2.2) else (verdererref12_reader_lone.j0 k a1 (bt287.1 == 2) s0_0 bt302.2.1 bt302.2.2.1 bt302.2.2.2)))))) = some (r1, r2, r3) := h
 clear h
 replace H := Option.bind_eq_some_iff.mp H
 obtain ⟨⟨t287, t288, t289, t290, t291, t292, t293, t294, t295, t296⟩, A30, H⟩ := H
 replace H : ((verdererref12_reader_is.f s0_0 t294 t295 t296 (⟨#[110, 111, 116]⟩ : ByteArray)).bind fun bt298 => (if bt298.1 = true then (verdererref12_reader_lone.j0 k a1 true s0_0 bt298.2.1 bt298.2.2.1 bt298.2.2.2) else ((verdererref12_reader_named.f k s0_0 bt298.2.1 bt298.2.2.1 bt298.2.2.2).bind fun bt302 => (if bt302.1 = true then (verdererref12_reader_lone.j0 k a1 true s0_0 bt302.2.1 bt302.2.2.1 bt302.2.2.2) else (verdererref12_reader_lone.j0 k a1 (t287 == 2) s0_0 bt302.2.1 bt302.2.2.1 bt302.2.2.2))))) = some (r1, r2, r3) := H
 have A3 := Aside0.mk A30
 clear A30
 have HC4 := Aside0.mk H
 clear H
 go_enter Try.func59, Try.ntmps59
 go_upto_region 1 with (first | ((with_reducible refine gate_callee (f := 37) rfl ?_); refine goesL_ (some 6) rfl rfl Try.func37 (by kernel_rfl) rfl #[.pointer (some ⟨g, 0, none⟩)] rfl (by (try simp only [List.map_toArray, List.map_cons, List.map_nil]); first | done | rfl | (simp only [List.length_drop, List.length_take]; rfl)) ?_; (with_reducible refine (verdererref12_reader_now.calls g s0_0 s0_1 s0_2 s0_3 t287 t288 t289 t290 t291 t292 t293 t294 t295 t296 w0 _ ?side1 ?side2 A3.out).mono ?_); (case side1 => repeat (first | (with_reducible first | exact HI0.out | apply IsS69.alloc | apply IsS69.drewN | apply IsS69.drew | apply IsS69.set_1 | apply IsS69.set_2 | apply IsS69.set_3) | exact HI0.out)); (case side2 => repeat (first | (with_reducible first | exact HB.out | apply below_alloc | apply pw_below_drewN | apply below_drew1 | refine below_set ?_ (IsS69.ge HI0.out)) | exact HB.out)); rintro e w5 ⟨rfl, hi, hb, hk⟩; refine ⟨_, rfl, ?_⟩; have n0_ := Aside0.mk (KeepBut.trans (by repeat (first | (with_reducible first | exact HK.out | apply KeepBut.set_ | apply keep_drewN | apply keep_drew | apply keep_alloc) | exact HK.out)) hk (.inl rfl)); have n1_ := Aside0.mk (hb); have n2_ := Aside0.mk (hi); clear HK HB HI0; have HK := n0_; have HB := n1_; have HI0 := n2_; clear n0_ n1_ n2_ hb hk hi) | ((with_reducible refine gate_dst (N := 4) rfl ?_); refine box_event ?hg (N := 4) ?hd (cs := #[.int .i64 0, .string (⟨#[]⟩ : ByteArray), .int .i64 0, .bool false, .int .i64 0, .string (⟨#[]⟩ : ByteArray), .int .i64 0]) (t := 73) ?hr ?_; (case hd => rfl); (case hg => rfl); (case hr => first | (go_simp; done) | (go_simp; rfl)); intro gb297 hg w6 hbox hb; have n0_ := Aside0.mk (IsS69.below (by repeat (first | (with_reducible first | exact HI0.out | apply IsS69.alloc | apply IsS69.drewN | apply IsS69.drew | apply IsS69.set_1 | apply IsS69.set_2 | apply IsS69.set_3) | exact HI0.out)) hb); have n1_ := Aside0.mk (KeepBut.trans (by repeat (first | (with_reducible first | exact HK.out | apply KeepBut.set_ | apply keep_drewN | apply keep_drew | apply keep_alloc) | exact HK.out)) (KeepBut.of_below hb g none) (.inl rfl)); have n2_ := Aside0.mk (below_step (by repeat (first | (with_reducible first | exact HB.out | apply below_alloc | apply pw_below_drewN | apply below_drew1 | refine below_set ?_ (IsS69.ge HI0.out)) | exact HB.out)) hb); have n3_ := Aside0.mk (hbox); have n4_ := Aside0.mk ((by rw [hg]; exact (keep_size (w := w) (g := g) (row := none) (by repeat (first | (with_reducible first | exact HK.out | apply KeepBut.set_ | apply keep_drewN | apply keep_drew | apply keep_alloc) | exact HK.out))) : w.heap.size ≤ gb297)); have n5_ := Aside0.mk ((Nat.le_trans HW0.out (by rw [hg]; exact (keep_size (w := w) (g := g) (row := none) (by repeat (first | (with_reducible first | exact HK.out | apply KeepBut.set_ | apply keep_drewN | apply keep_drew | apply keep_alloc) | exact HK.out))) : w.heap.size ≤ gb297) : w0.heap.size ≤ gb297)); have n6_ := Aside0.mk ((by rw [hg]; exact Nat.ne_of_lt (IsS69.lt (show IsS69 w0 _ g s0_0 t294 t295 t296 from by repeat (first | (with_reducible first | exact HI0.out | apply IsS69.alloc | apply IsS69.drewN | apply IsS69.drew | apply IsS69.set_1 | apply IsS69.set_2 | apply IsS69.set_3) | exact HI0.out))) : g ≠ gb297)); have n7_ := Aside0.mk ((by rw [hg]; exact Nat.ne_of_gt (IsS69.lt (show IsS69 w0 _ g s0_0 t294 t295 t296 from by repeat (first | (with_reducible first | exact HI0.out | apply IsS69.alloc | apply IsS69.drewN | apply IsS69.drew | apply IsS69.set_1 | apply IsS69.set_2 | apply IsS69.set_3) | exact HI0.out))) : gb297 ≠ g)); clear HI0 HK HB; have HI0 := n0_; have HK := n1_; have HB := n2_; have BK297 := n3_; have GW297 := n4_; have GE297 := n5_; have NB0_297 := n6_; have NB297_0 := n7_; clear n0_ n1_ n2_ n3_ n4_ n5_ n6_ n7_ hb hbox hg; have hnb7 := NB297_0.out; have hnc7 := NB0_297.out; have hcz8_0 : w6.cell? ⟨gb297, 0, none⟩ = some (.int .i64 0) := (blk_cell BK297.out 0).trans rfl; have hcz8_1 : w6.cell? ⟨gb297, 1, none⟩ = some (.string (⟨#[]⟩ : ByteArray)) := (blk_cell BK297.out 1).trans rfl; have hcz8_2 : w6.cell? ⟨gb297, 2, none⟩ = some (.int .i64 0) := (blk_cell BK297.out 2).trans rfl; have hcz8_3 : w6.cell? ⟨gb297, 3, none⟩ = some (.bool false) := (blk_cell BK297.out 3).trans rfl; have hcz8_4 : w6.cell? ⟨gb297, 4, none⟩ = some (.int .i64 0) := (blk_cell BK297.out 4).trans rfl; have hcz8_5 : w6.cell? ⟨gb297, 5, none⟩ = some (.string (⟨#[]⟩ : ByteArray)) := (blk_cell BK297.out 5).trans rfl; have hcz8_6 : w6.cell? ⟨gb297, 6, none⟩ = some (.int .i64 0) := (blk_cell BK297.out 6).trans rfl; have hfz8_0 := blk_frozen BK297.out 0; have hfz8_1 := blk_frozen BK297.out 1; have hfz8_2 := blk_frozen BK297.out 2; have hfz8_3 := blk_frozen BK297.out 3; have hfz8_4 := blk_frozen BK297.out 4; have hfz8_5 := blk_frozen BK297.out 5; have hfz8_6 := blk_frozen BK297.out 6))
 (try simp only [Act.put, List.setIfInBounds_toArray, List.set_cons_zero, List.set_cons_succ])
 go_cut [17] (fun v17 wc => ∃ (kq : Nat) (x17_3 : Bool) (x1001_3 : Int) (x1002_3 : Int) (x1003_3 : Int), v17 = .bool x17_3 ∧ Aside0 (verdererref12_reader_lone.j0 kq a1 x17_3 s0_0 x1001_3 x1002_3 x1003_3 = some (r1, r2, r3)) ∧ Aside0 (kq ≤ k) ∧ Aside0 (wc.heap[gb297]? = some (.cells #[.int .i64 t287, .string t288, .int .i64 t289, .bool t290, .int .i64 t291, .string t292, .int .i64 t293] 73 (0, 0))) ∧ Aside0 (IsS69 w0 wc g s0_0 x1001_3 x1002_3 x1003_3) ∧ Aside0 (KeepBut w wc g none) ∧ Aside0 (Below w0.heap.size w0 wc))
 case first =>
  have H := HC4.out
  clear HC4
  replace H := Option.bind_eq_some_iff.mp H
  obtain ⟨⟨t298, t299, t300, t301⟩, A90, H⟩ := H
  replace H : (if t298 = true then (verdererref12_reader_lone.j0 k a1 true s0_0 t299 t300 t301) else ((verdererref12_reader_named.f k s0_0 t299 t300 t301).bind fun bt302 => (if bt302.1 = true then (verdererref12_reader_lone.j0 k a1 true s0_0 bt302.2.1 bt302.2.2.1 bt302.2.2.2) else (verdererref12_reader_lone.j0 k a1 (t287 == 2) s0_0 bt302.2.1 bt302.2.2.1 bt302.2.2.2)))) = some (r1, r2, r3) := H
  have A9 := Aside0.mk A90
  clear A90
  by_cases c10 : t298 = true
  ·
   subst c10
   have H1 : (verdererref12_reader_lone.j0 k a1 true s0_0 t299 t300 t301) = some (r1, r2, r3) := by rw [if_pos rfl] at H; exact H
   clear H
   have H := H1
   clear H1
   have H' := Aside0.mk H
   clear H
   go_wp2_with (first | ((with_reducible refine gate_callee (f := 56) rfl ?_); refine goesL_ (some 8) rfl rfl Try.func56 (by kernel_rfl) rfl #[.pointer (some ⟨g, 0, none⟩), .string (⟨#[110, 111, 116]⟩ : ByteArray)] rfl (by (try simp only [List.map_toArray, List.map_cons, List.map_nil]); first | done | rfl | (simp only [List.length_drop, List.length_take]; rfl)) ?_; (with_reducible refine (verdererref12_reader_is.calls g s0_0 t294 t295 t296 (⟨#[110, 111, 116]⟩ : ByteArray) true t299 t300 t301 w0 _ ?side1 ?side2 A9.out).mono ?_); (case side1 => repeat (first | (with_reducible first | exact HI0.out | apply IsS69.alloc | apply IsS69.drewN | apply IsS69.drew | apply IsS69.set_1 | apply IsS69.set_2 | apply IsS69.set_3 | refine IsS69.far ?_ NB0_297.out _) | exact HI0.out)); (case side2 => repeat (first | (with_reducible first | exact HB.out | apply below_alloc | apply pw_below_drewN | apply below_drew1 | refine below_set ?_ (IsS69.ge HI0.out) | refine below_set ?_ GE297.out) | exact HB.out)); rintro e w11 ⟨rfl, hi, hb, hk⟩; refine ⟨_, rfl, ?_⟩; have n0_ := Aside0.mk (KeepBut.blk hk (g' := gb297) (o := .cells #[.int .i64 t287, .string t288, .int .i64 t289, .bool t290, .int .i64 t291, .string t292, .int .i64 t293] 73 (0, 0)) (by refine blk_put (cs := #[.int .i64 t287, .string t288, .int .i64 t289, .bool t290, .int .i64 t291, .string t292, .int .i64 0]) ?_ 6 _ rfl; refine blk_put (cs := #[.int .i64 t287, .string t288, .int .i64 t289, .bool t290, .int .i64 t291, .string (⟨#[]⟩ : ByteArray), .int .i64 0]) ?_ 5 _ rfl; refine blk_put (cs := #[.int .i64 t287, .string t288, .int .i64 t289, .bool t290, .int .i64 0, .string (⟨#[]⟩ : ByteArray), .int .i64 0]) ?_ 4 _ rfl; refine blk_put (cs := #[.int .i64 t287, .string t288, .int .i64 t289, .bool false, .int .i64 0, .string (⟨#[]⟩ : ByteArray), .int .i64 0]) ?_ 3 _ rfl; refine blk_put (cs := #[.int .i64 t287, .string t288, .int .i64 0, .bool false, .int .i64 0, .string (⟨#[]⟩ : ByteArray), .int .i64 0]) ?_ 2 _ rfl; refine blk_put (cs := #[.int .i64 t287, .string (⟨#[]⟩ : ByteArray), .int .i64 0, .bool false, .int .i64 0, .string (⟨#[]⟩ : ByteArray), .int .i64 0]) ?_ 1 _ rfl; refine blk_put (cs := #[.int .i64 0, .string (⟨#[]⟩ : ByteArray), .int .i64 0, .bool false, .int .i64 0, .string (⟨#[]⟩ : ByteArray), .int .i64 0]) ?_ 0 _ rfl; exact BK297.out) NB297_0.out (by simp)); have n1_ := Aside0.mk (KeepBut.trans (by repeat (first | (with_reducible first | exact HK.out | apply KeepBut.set_ | apply keep_drewN | apply keep_drew | apply keep_alloc | refine keep_far ?_ GW297.out _) | exact HK.out)) hk (.inl rfl)); have n2_ := Aside0.mk (hb); have n3_ := Aside0.mk (hi); clear BK297 HK HB HI0; have BK297 := n0_; have HK := n1_; have HB := n2_; have HI0 := n3_; clear n0_ n1_ n2_ n3_ hb hk hi))
   go_meet
   case rel => exact ⟨_, (true), (t299), (t300), (t301), rfl, H', ⟨by first | omega | exact Nat.le_refl _⟩, ⟨by exact BK297.out⟩, ⟨by repeat (first | (with_reducible first | exact HI0.out | apply IsS69.alloc | apply IsS69.drewN | apply IsS69.drew | apply IsS69.set_1 | apply IsS69.set_2 | apply IsS69.set_3 | refine IsS69.far ?_ NB0_297.out _) | exact HI0.out)⟩, ⟨by repeat (first | (with_reducible first | exact HK.out | apply KeepBut.set_ | apply keep_drewN | apply keep_drew | apply keep_alloc | refine keep_far ?_ GW297.out _) | exact HK.out)⟩, ⟨by repeat (first | (with_reducible first | exact HB.out | apply below_alloc | apply pw_below_drewN | apply below_drew1 | refine below_set ?_ (IsS69.ge HI0.out) | refine below_set ?_ GE297.out) | exact HB.out)⟩⟩
  ·
   replace c10 := Bool.eq_false_iff.mpr c10
   subst c10
   have H1 : ((verdererref12_reader_named.f k s0_0 t299 t300 t301).bind fun bt302 => (if bt302.1 = true then (verdererref12_reader_lone.j0 k a1 true s0_0 bt302.2.1 bt302.2.2.1 bt302.2.2.2) else (verdererref12_reader_lone.j0 k a1 (t287 == 2) s0_0 bt302.2.1 bt302.2.2.1 bt302.2.2.2))) = some (r1, r2, r3) := by rw [if_neg (show ¬ (false = true) by decide)] at H; exact H
   clear H
   have H := H1
   clear H1
   replace H := Option.bind_eq_some_iff.mp H
   obtain ⟨⟨t302, t303, t304, t305⟩, A120, H⟩ := H
   replace H : (if t302 = true then (verdererref12_reader_lone.j0 k a1 true s0_0 t303 t304 t305) else (verdererref12_reader_lone.j0 k a1 (t287 == 2) s0_0 t303 t304 t305)) = some (r1, r2, r3) := H
   have A12 := Aside0.mk A120
   clear A120
   by_cases c13 : t302 = true
   ·
    subst c13
    have H1 : (verdererref12_reader_lone.j0 k a1 true s0_0 t303 t304 t305) = some (r1, r2, r3) := by rw [if_pos rfl] at H; exact H
    clear H
    have H := H1
    clear H1
    have H' := Aside0.mk H
    clear H
    go_wp2_with (first | ((with_reducible refine gate_callee (f := 56) rfl ?_); refine goesL_ (some 8) rfl rfl Try.func56 (by kernel_rfl) rfl #[.pointer (some ⟨g, 0, none⟩), .string (⟨#[110, 111, 116]⟩ : ByteArray)] rfl (by (try simp only [List.map_toArray, List.map_cons, List.map_nil]); first | done | rfl | (simp only [List.length_drop, List.length_take]; rfl)) ?_; (with_reducible refine (verdererref12_reader_is.calls g s0_0 t294 t295 t296 (⟨#[110, 111, 116]⟩ : ByteArray) false t299 t300 t301 w0 _ ?side1 ?side2 A9.out).mono ?_); (case side1 => repeat (first | (with_reducible first | exact HI0.out | apply IsS69.alloc | apply IsS69.drewN | apply IsS69.drew | apply IsS69.set_1 | apply IsS69.set_2 | apply IsS69.set_3 | refine IsS69.far ?_ NB0_297.out _) | exact HI0.out)); (case side2 => repeat (first | (with_reducible first | exact HB.out | apply below_alloc | apply pw_below_drewN | apply below_drew1 | refine below_set ?_ (IsS69.ge HI0.out) | refine below_set ?_ GE297.out) | exact HB.out)); rintro e w14 ⟨rfl, hi, hb, hk⟩; refine ⟨_, rfl, ?_⟩; have n0_ := Aside0.mk (KeepBut.blk hk (g' := gb297) (o := .cells #[.int .i64 t287, .string t288, .int .i64 t289, .bool t290, .int .i64 t291, .string t292, .int .i64 t293] 73 (0, 0)) (by refine blk_put (cs := #[.int .i64 t287, .string t288, .int .i64 t289, .bool t290, .int .i64 t291, .string t292, .int .i64 0]) ?_ 6 _ rfl; refine blk_put (cs := #[.int .i64 t287, .string t288, .int .i64 t289, .bool t290, .int .i64 t291, .string (⟨#[]⟩ : ByteArray), .int .i64 0]) ?_ 5 _ rfl; refine blk_put (cs := #[.int .i64 t287, .string t288, .int .i64 t289, .bool t290, .int .i64 0, .string (⟨#[]⟩ : ByteArray), .int .i64 0]) ?_ 4 _ rfl; refine blk_put (cs := #[.int .i64 t287, .string t288, .int .i64 t289, .bool false, .int .i64 0, .string (⟨#[]⟩ : ByteArray), .int .i64 0]) ?_ 3 _ rfl; refine blk_put (cs := #[.int .i64 t287, .string t288, .int .i64 0, .bool false, .int .i64 0, .string (⟨#[]⟩ : ByteArray), .int .i64 0]) ?_ 2 _ rfl; refine blk_put (cs := #[.int .i64 t287, .string (⟨#[]⟩ : ByteArray), .int .i64 0, .bool false, .int .i64 0, .string (⟨#[]⟩ : ByteArray), .int .i64 0]) ?_ 1 _ rfl; refine blk_put (cs := #[.int .i64 0, .string (⟨#[]⟩ : ByteArray), .int .i64 0, .bool false, .int .i64 0, .string (⟨#[]⟩ : ByteArray), .int .i64 0]) ?_ 0 _ rfl; exact BK297.out) NB297_0.out (by simp)); have n1_ := Aside0.mk (KeepBut.trans (by repeat (first | (with_reducible first | exact HK.out | apply KeepBut.set_ | apply keep_drewN | apply keep_drew | apply keep_alloc | refine keep_far ?_ GW297.out _) | exact HK.out)) hk (.inl rfl)); have n2_ := Aside0.mk (hb); have n3_ := Aside0.mk (hi); clear BK297 HK HB HI0; have BK297 := n0_; have HK := n1_; have HB := n2_; have HI0 := n3_; clear n0_ n1_ n2_ n3_ hb hk hi) | (go_at_call 57; (with_reducible refine (verdererref12_reader_named.calls k g s0_0 t299 t300 t301 true t303 t304 t305 w0 _ ?side1 ?side2 A12.out).mono ?_); (case side1 => repeat (first | (with_reducible first | exact HI0.out | apply IsS69.alloc | apply IsS69.drewN | apply IsS69.drew | apply IsS69.set_1 | apply IsS69.set_2 | apply IsS69.set_3 | refine IsS69.far ?_ NB0_297.out _) | exact HI0.out)); (case side2 => repeat (first | (with_reducible first | exact HB.out | apply below_alloc | apply pw_below_drewN | apply below_drew1 | refine below_set ?_ (IsS69.ge HI0.out) | refine below_set ?_ GE297.out) | exact HB.out)); rintro e w15 ⟨rfl, hi, hb, hk⟩; have n0_ := Aside0.mk (KeepBut.blk hk (g' := gb297) (o := .cells #[.int .i64 t287, .string t288, .int .i64 t289, .bool t290, .int .i64 t291, .string t292, .int .i64 t293] 73 (0, 0)) (by exact BK297.out) NB297_0.out (by simp)); have n1_ := Aside0.mk (KeepBut.trans (by repeat (first | (with_reducible first | exact HK.out | apply KeepBut.set_ | apply keep_drewN | apply keep_drew | apply keep_alloc | refine keep_far ?_ GW297.out _) | exact HK.out)) hk (.inl rfl)); have n2_ := Aside0.mk (hb); have n3_ := Aside0.mk (hi); clear BK297 HK HB HI0; have BK297 := n0_; have HK := n1_; have HB := n2_; have HI0 := n3_; clear n0_ n1_ n2_ n3_ hb hk hi))
    go_meet
    case rel => exact ⟨_, (true), (t303), (t304), (t305), rfl, H', ⟨by first | omega | exact Nat.le_refl _⟩, ⟨by exact BK297.out⟩, ⟨by repeat (first | (with_reducible first | exact HI0.out | apply IsS69.alloc | apply IsS69.drewN | apply IsS69.drew | apply IsS69.set_1 | apply IsS69.set_2 | apply IsS69.set_3 | refine IsS69.far ?_ NB0_297.out _) | exact HI0.out)⟩, ⟨by repeat (first | (with_reducible first | exact HK.out | apply KeepBut.set_ | apply keep_drewN | apply keep_drew | apply keep_alloc | refine keep_far ?_ GW297.out _) | exact HK.out)⟩, ⟨by repeat (first | (with_reducible first | exact HB.out | apply below_alloc | apply pw_below_drewN | apply below_drew1 | refine below_set ?_ (IsS69.ge HI0.out) | refine below_set ?_ GE297.out) | exact HB.out)⟩⟩
   ·
    replace c13 := Bool.eq_false_iff.mpr c13
    subst c13
    have H1 : (verdererref12_reader_lone.j0 k a1 (t287 == 2) s0_0 t303 t304 t305) = some (r1, r2, r3) := by rw [if_neg (show ¬ (false = true) by decide)] at H; exact H
    clear H
    have H := H1
    clear H1
    have H' := Aside0.mk H
    clear H
    go_wp2_with (first | ((with_reducible refine gate_callee (f := 56) rfl ?_); refine goesL_ (some 8) rfl rfl Try.func56 (by kernel_rfl) rfl #[.pointer (some ⟨g, 0, none⟩), .string (⟨#[110, 111, 116]⟩ : ByteArray)] rfl (by (try simp only [List.map_toArray, List.map_cons, List.map_nil]); first | done | rfl | (simp only [List.length_drop, List.length_take]; rfl)) ?_; (with_reducible refine (verdererref12_reader_is.calls g s0_0 t294 t295 t296 (⟨#[110, 111, 116]⟩ : ByteArray) false t299 t300 t301 w0 _ ?side1 ?side2 A9.out).mono ?_); (case side1 => repeat (first | (with_reducible first | exact HI0.out | apply IsS69.alloc | apply IsS69.drewN | apply IsS69.drew | apply IsS69.set_1 | apply IsS69.set_2 | apply IsS69.set_3 | refine IsS69.far ?_ NB0_297.out _) | exact HI0.out)); (case side2 => repeat (first | (with_reducible first | exact HB.out | apply below_alloc | apply pw_below_drewN | apply below_drew1 | refine below_set ?_ (IsS69.ge HI0.out) | refine below_set ?_ GE297.out) | exact HB.out)); rintro e w16 ⟨rfl, hi, hb, hk⟩; refine ⟨_, rfl, ?_⟩; have n0_ := Aside0.mk (KeepBut.blk hk (g' := gb297) (o := .cells #[.int .i64 t287, .string t288, .int .i64 t289, .bool t290, .int .i64 t291, .string t292, .int .i64 t293] 73 (0, 0)) (by refine blk_put (cs := #[.int .i64 t287, .string t288, .int .i64 t289, .bool t290, .int .i64 t291, .string t292, .int .i64 0]) ?_ 6 _ rfl; refine blk_put (cs := #[.int .i64 t287, .string t288, .int .i64 t289, .bool t290, .int .i64 t291, .string (⟨#[]⟩ : ByteArray), .int .i64 0]) ?_ 5 _ rfl; refine blk_put (cs := #[.int .i64 t287, .string t288, .int .i64 t289, .bool t290, .int .i64 0, .string (⟨#[]⟩ : ByteArray), .int .i64 0]) ?_ 4 _ rfl; refine blk_put (cs := #[.int .i64 t287, .string t288, .int .i64 t289, .bool false, .int .i64 0, .string (⟨#[]⟩ : ByteArray), .int .i64 0]) ?_ 3 _ rfl; refine blk_put (cs := #[.int .i64 t287, .string t288, .int .i64 0, .bool false, .int .i64 0, .string (⟨#[]⟩ : ByteArray), .int .i64 0]) ?_ 2 _ rfl; refine blk_put (cs := #[.int .i64 t287, .string (⟨#[]⟩ : ByteArray), .int .i64 0, .bool false, .int .i64 0, .string (⟨#[]⟩ : ByteArray), .int .i64 0]) ?_ 1 _ rfl; refine blk_put (cs := #[.int .i64 0, .string (⟨#[]⟩ : ByteArray), .int .i64 0, .bool false, .int .i64 0, .string (⟨#[]⟩ : ByteArray), .int .i64 0]) ?_ 0 _ rfl; exact BK297.out) NB297_0.out (by simp)); have n1_ := Aside0.mk (KeepBut.trans (by repeat (first | (with_reducible first | exact HK.out | apply KeepBut.set_ | apply keep_drewN | apply keep_drew | apply keep_alloc | refine keep_far ?_ GW297.out _) | exact HK.out)) hk (.inl rfl)); have n2_ := Aside0.mk (hb); have n3_ := Aside0.mk (hi); clear BK297 HK HB HI0; have BK297 := n0_; have HK := n1_; have HB := n2_; have HI0 := n3_; clear n0_ n1_ n2_ n3_ hb hk hi) | (go_at_call 57; (with_reducible refine (verdererref12_reader_named.calls k g s0_0 t299 t300 t301 false t303 t304 t305 w0 _ ?side1 ?side2 A12.out).mono ?_); (case side1 => repeat (first | (with_reducible first | exact HI0.out | apply IsS69.alloc | apply IsS69.drewN | apply IsS69.drew | apply IsS69.set_1 | apply IsS69.set_2 | apply IsS69.set_3 | refine IsS69.far ?_ NB0_297.out _) | exact HI0.out)); (case side2 => repeat (first | (with_reducible first | exact HB.out | apply below_alloc | apply pw_below_drewN | apply below_drew1 | refine below_set ?_ (IsS69.ge HI0.out) | refine below_set ?_ GE297.out) | exact HB.out)); rintro e w17 ⟨rfl, hi, hb, hk⟩; have n0_ := Aside0.mk (KeepBut.blk hk (g' := gb297) (o := .cells #[.int .i64 t287, .string t288, .int .i64 t289, .bool t290, .int .i64 t291, .string t292, .int .i64 t293] 73 (0, 0)) (by exact BK297.out) NB297_0.out (by simp)); have n1_ := Aside0.mk (KeepBut.trans (by repeat (first | (with_reducible first | exact HK.out | apply KeepBut.set_ | apply keep_drewN | apply keep_drew | apply keep_alloc | refine keep_far ?_ GW297.out _) | exact HK.out)) hk (.inl rfl)); have n2_ := Aside0.mk (hb); have n3_ := Aside0.mk (hi); clear BK297 HK HB HI0; have BK297 := n0_; have HK := n1_; have HB := n2_; have HI0 := n3_; clear n0_ n1_ n2_ n3_ hb hk hi; have hnb18 := NB297_0.out; have hnc18 := NB0_297.out; have hcz19_0 : w17.cell? ⟨gb297, 0, none⟩ = some (.int .i64 t287) := (blk_cell BK297.out 0).trans rfl; have hcz19_1 : w17.cell? ⟨gb297, 1, none⟩ = some (.string t288) := (blk_cell BK297.out 1).trans rfl; have hcz19_2 : w17.cell? ⟨gb297, 2, none⟩ = some (.int .i64 t289) := (blk_cell BK297.out 2).trans rfl; have hcz19_3 : w17.cell? ⟨gb297, 3, none⟩ = some (.bool t290) := (blk_cell BK297.out 3).trans rfl; have hcz19_4 : w17.cell? ⟨gb297, 4, none⟩ = some (.int .i64 t291) := (blk_cell BK297.out 4).trans rfl; have hcz19_5 : w17.cell? ⟨gb297, 5, none⟩ = some (.string t292) := (blk_cell BK297.out 5).trans rfl; have hcz19_6 : w17.cell? ⟨gb297, 6, none⟩ = some (.int .i64 t293) := (blk_cell BK297.out 6).trans rfl; have hfz19_0 := blk_frozen BK297.out 0; have hfz19_1 := blk_frozen BK297.out 1; have hfz19_2 := blk_frozen BK297.out 2; have hfz19_3 := blk_frozen BK297.out 3; have hfz19_4 := blk_frozen BK297.out 4; have hfz19_5 := blk_frozen BK297.out 5; have hfz19_6 := blk_frozen BK297.out 6))
    go_meet
    case rel => exact ⟨_, ((t287 == 2)), (t303), (t304), (t305), rfl, H', ⟨by first | omega | exact Nat.le_refl _⟩, ⟨by exact BK297.out⟩, ⟨by repeat (first | (with_reducible first | exact HI0.out | apply IsS69.alloc | apply IsS69.drewN | apply IsS69.drew | apply IsS69.set_1 | apply IsS69.set_2 | apply IsS69.set_3 | refine IsS69.far ?_ NB0_297.out _) | exact HI0.out)⟩, ⟨by repeat (first | (with_reducible first | exact HK.out | apply KeepBut.set_ | apply keep_drewN | apply keep_drew | apply keep_alloc | refine keep_far ?_ GW297.out _) | exact HK.out)⟩, ⟨by repeat (first | (with_reducible first | exact HB.out | apply below_alloc | apply pw_below_drewN | apply below_drew1 | refine below_set ?_ (IsS69.ge HI0.out) | refine below_set ?_ GE297.out) | exact HB.out)⟩⟩
 case rest =>
  clear HC4
  clear hcz8_0 hcz8_1 hcz8_2 hcz8_3 hcz8_4 hcz8_5 hcz8_6 hfz8_0 hfz8_1 hfz8_2 hfz8_3 hfz8_4 hfz8_5 hfz8_6
  obtain ⟨kq, x17_3, x1001_3, x1002_3, x1003_3, rfl, HA, HJ3, BK297, HI0, HK, HB⟩ := hcut
  cases kq with
  | zero => exact absurd HA.out (by simp [verdererref12_reader_lone.j0])
  | succ kj3 =>
   have H := HA.out
   clear HA
   simp only [verdererref12_reader_lone.j0] at H
   by_cases c20 : x17_3 = true
   ·
    subst c20
    have H1 : ((verdererref12_reader_fail.f s0_0 x1001_3 x1002_3 x1003_3 9 a1).bind fun bt306 => ((verdererref12_reader_fail.f s0_0 bt306.1 bt306.2.1 bt306.2.2 7 a1).bind fun bt309 => (some (bt309.1, bt309.2.1, bt309.2.2)))) = some (r1, r2, r3) := by rw [if_pos rfl] at H; exact H
    clear H
    have H := H1
    clear H1
    replace H := Option.bind_eq_some_iff.mp H
    obtain ⟨⟨t306, t307, t308⟩, A210, H⟩ := H
    replace H : ((verdererref12_reader_fail.f s0_0 t306 t307 t308 7 a1).bind fun bt309 => (some (bt309.1, bt309.2.1, bt309.2.2))) = some (r1, r2, r3) := H
    have A21 := Aside0.mk A210
    clear A210
    replace H := Option.bind_eq_some_iff.mp H
    obtain ⟨⟨t309, t310, t311⟩, A220, H⟩ := H
    replace H : (some (t309, t310, t311)) = some (r1, r2, r3) := H
    have A22 := Aside0.mk A220
    clear A220
    simp only [Option.some.injEq, Prod.mk.injEq] at H
    obtain ⟨rfl, rfl, rfl⟩ := H
    go_wp2_with (first | ((with_reducible refine gate_callee (f := 36) rfl ?_); refine goesL_ (some 20) rfl rfl Try.func36 (by kernel_rfl) rfl #[.pointer (some ⟨g, 0, none⟩), .int .i64 9, .int .i64 a1] rfl (by (try simp only [List.map_toArray, List.map_cons, List.map_nil]); first | done | rfl | (simp only [List.length_drop, List.length_take]; rfl)) ?_; (with_reducible refine (verdererref12_reader_fail.calls g s0_0 x1001_3 x1002_3 x1003_3 9 a1 t306 t307 t308 w0 _ ?side1 ?side2 A21.out).mono ?_); (case side1 => repeat (first | (with_reducible first | exact HI0.out | apply IsS69.alloc | apply IsS69.drewN | apply IsS69.drew | apply IsS69.set_1 | apply IsS69.set_2 | apply IsS69.set_3 | refine IsS69.far ?_ NB0_297.out _) | exact HI0.out)); (case side2 => repeat (first | (with_reducible first | exact HB.out | apply below_alloc | apply pw_below_drewN | apply below_drew1 | refine below_set ?_ (IsS69.ge HI0.out) | refine below_set ?_ GE297.out) | exact HB.out)); rintro e w23 ⟨rfl, hi, hb, hk⟩; refine ⟨_, rfl, ?_⟩; have n0_ := Aside0.mk (KeepBut.blk hk (g' := gb297) (o := .cells #[.int .i64 t287, .string t288, .int .i64 t289, .bool t290, .int .i64 t291, .string t292, .int .i64 t293] 73 (0, 0)) (by exact BK297.out) NB297_0.out (by simp)); have n1_ := Aside0.mk (KeepBut.trans (by repeat (first | (with_reducible first | exact HK.out | apply KeepBut.set_ | apply keep_drewN | apply keep_drew | apply keep_alloc | refine keep_far ?_ GW297.out _) | exact HK.out)) hk (.inl rfl)); have n2_ := Aside0.mk (hb); have n3_ := Aside0.mk (hi); clear BK297 HK HB HI0; have BK297 := n0_; have HK := n1_; have HB := n2_; have HI0 := n3_; clear n0_ n1_ n2_ n3_ hb hk hi) | ((with_reducible refine gate_callee (f := 36) rfl ?_); refine goesL_ (some 23) rfl rfl Try.func36 (by kernel_rfl) rfl #[.pointer (some ⟨g, 0, none⟩), .int .i64 7, .int .i64 a1] rfl (by (try simp only [List.map_toArray, List.map_cons, List.map_nil]); first | done | rfl | (simp only [List.length_drop, List.length_take]; rfl)) ?_; (with_reducible refine (verdererref12_reader_fail.calls g s0_0 t306 t307 t308 7 a1 t309 t310 t311 w0 _ ?side1 ?side2 A22.out).mono ?_); (case side1 => repeat (first | (with_reducible first | exact HI0.out | apply IsS69.alloc | apply IsS69.drewN | apply IsS69.drew | apply IsS69.set_1 | apply IsS69.set_2 | apply IsS69.set_3 | refine IsS69.far ?_ NB0_297.out _) | exact HI0.out)); (case side2 => repeat (first | (with_reducible first | exact HB.out | apply below_alloc | apply pw_below_drewN | apply below_drew1 | refine below_set ?_ (IsS69.ge HI0.out) | refine below_set ?_ GE297.out) | exact HB.out)); rintro e w24 ⟨rfl, hi, hb, hk⟩; refine ⟨_, rfl, ?_⟩; have n0_ := Aside0.mk (KeepBut.blk hk (g' := gb297) (o := .cells #[.int .i64 t287, .string t288, .int .i64 t289, .bool t290, .int .i64 t291, .string t292, .int .i64 t293] 73 (0, 0)) (by exact BK297.out) NB297_0.out (by simp)); have n1_ := Aside0.mk (KeepBut.trans (by repeat (first | (with_reducible first | exact HK.out | apply KeepBut.set_ | apply keep_drewN | apply keep_drew | apply keep_alloc | refine keep_far ?_ GW297.out _) | exact HK.out)) hk (.inl rfl)); have n2_ := Aside0.mk (hb); have n3_ := Aside0.mk (hi); clear BK297 HK HB HI0; have BK297 := n0_; have HK := n1_; have HB := n2_; have HI0 := n3_; clear n0_ n1_ n2_ n3_ hb hk hi))
    first | go_end0 | ((try simp only [Exit.inBlock, Exit.then]); refine bodyPost_ret (results_none rfl _ _ _) rfl ?_)
    exact ⟨rfl, by repeat (first | (with_reducible first | exact HI0.out | apply IsS69.alloc | apply IsS69.drewN | apply IsS69.drew | apply IsS69.set_1 | apply IsS69.set_2 | apply IsS69.set_3 | refine IsS69.far ?_ NB0_297.out _) | exact HI0.out), by repeat (first | (with_reducible first | exact HB.out | apply below_alloc | apply pw_below_drewN | apply below_drew1 | refine below_set ?_ (IsS69.ge HI0.out) | refine below_set ?_ GE297.out) | exact HB.out), by repeat (first | (with_reducible first | exact HK.out | apply KeepBut.set_ | apply keep_drewN | apply keep_drew | apply keep_alloc | refine keep_far ?_ GW297.out _) | exact HK.out)⟩
   ·
    replace c20 := Bool.eq_false_iff.mpr c20
    subst c20
    have H1 : ((verdererref12_reader_fail.f s0_0 x1001_3 x1002_3 x1003_3 7 a1).bind fun bt312 => (some (bt312.1, bt312.2.1, bt312.2.2))) = some (r1, r2, r3) := by rw [if_neg (show ¬ (false = true) by decide)] at H; exact H
    clear H
    have H := H1
    clear H1
    replace H := Option.bind_eq_some_iff.mp H
    obtain ⟨⟨t312, t313, t314⟩, A250, H⟩ := H
    replace H : (some (t312, t313, t314)) = some (r1, r2, r3) := H
    have A25 := Aside0.mk A250
    clear A250
    simp only [Option.some.injEq, Prod.mk.injEq] at H
    obtain ⟨rfl, rfl, rfl⟩ := H
    go_wp2_with (first | ((with_reducible refine gate_callee (f := 36) rfl ?_); refine goesL_ (some 23) rfl rfl Try.func36 (by kernel_rfl) rfl #[.pointer (some ⟨g, 0, none⟩), .int .i64 7, .int .i64 a1] rfl (by (try simp only [List.map_toArray, List.map_cons, List.map_nil]); first | done | rfl | (simp only [List.length_drop, List.length_take]; rfl)) ?_; (with_reducible refine (verdererref12_reader_fail.calls g s0_0 x1001_3 x1002_3 x1003_3 7 a1 t312 t313 t314 w0 _ ?side1 ?side2 A25.out).mono ?_); (case side1 => repeat (first | (with_reducible first | exact HI0.out | apply IsS69.alloc | apply IsS69.drewN | apply IsS69.drew | apply IsS69.set_1 | apply IsS69.set_2 | apply IsS69.set_3 | refine IsS69.far ?_ NB0_297.out _) | exact HI0.out)); (case side2 => repeat (first | (with_reducible first | exact HB.out | apply below_alloc | apply pw_below_drewN | apply below_drew1 | refine below_set ?_ (IsS69.ge HI0.out) | refine below_set ?_ GE297.out) | exact HB.out)); rintro e w26 ⟨rfl, hi, hb, hk⟩; refine ⟨_, rfl, ?_⟩; have n0_ := Aside0.mk (KeepBut.blk hk (g' := gb297) (o := .cells #[.int .i64 t287, .string t288, .int .i64 t289, .bool t290, .int .i64 t291, .string t292, .int .i64 t293] 73 (0, 0)) (by exact BK297.out) NB297_0.out (by simp)); have n1_ := Aside0.mk (KeepBut.trans (by repeat (first | (with_reducible first | exact HK.out | apply KeepBut.set_ | apply keep_drewN | apply keep_drew | apply keep_alloc | refine keep_far ?_ GW297.out _) | exact HK.out)) hk (.inl rfl)); have n2_ := Aside0.mk (hb); have n3_ := Aside0.mk (hi); clear BK297 HK HB HI0; have BK297 := n0_; have HK := n1_; have HB := n2_; have HI0 := n3_; clear n0_ n1_ n2_ n3_ hb hk hi))
    first | go_end0 | ((try simp only [Exit.inBlock, Exit.then]); refine bodyPost_ret (results_none rfl _ _ _) rfl ?_)
    exact ⟨rfl, by repeat (first | (with_reducible first | exact HI0.out | apply IsS69.alloc | apply IsS69.drewN | apply IsS69.drew | apply IsS69.set_1 | apply IsS69.set_2 | apply IsS69.set_3 | refine IsS69.far ?_ NB0_297.out _) | exact HI0.out), by repeat (first | (with_reducible first | exact HB.out | apply below_alloc | apply pw_below_drewN | apply below_drew1 | refine below_set ?_ (IsS69.ge HI0.out) | refine below_set ?_ GE297.out) | exact HB.out), by repeat (first | (with_reducible first | exact HK.out | apply KeepBut.set_ | apply keep_drewN | apply keep_drew | apply keep_alloc | refine keep_far ?_ GW297.out _) | exact HK.out)⟩
/-! ### verdererref12_reader_body: function 42 -/
section
variable {w w0 W W1 W2 : World} {base gx g : Nat} {kd : Int} {nm : ByteArray} {hd hd' : List ByteArray} {ag : Int} {og : ByteArray} {lim : Int} {bd bd' : List (S41)} {v1 v2 v6 : Value}
theorem rule_blk6 (BX : W.heap[gx]? = some (.cells #[.int .i64 kd, .string nm, v2, .int .i64 ag, .string og, .int .i64 lim, v6] 25 (0, 0))) (R6 : Kd.R k41 41 W base (fun _ => True) v6 bd) (hg : W.grownBy W1 v6.ownBlock) : W1.heap[gx]? = some (.cells #[.int .i64 kd, .string nm, v2, .int .i64 ag, .string og, .int .i64 lim, v6] 25 (0, 0)) :=
 (hg.block gx (blk_lt BX) (Kd.R_ne R6 BX (by decide))).trans BX
theorem rule_put6 (BX : W.heap[gx]? = some (.cells #[.int .i64 kd, .string nm, v2, .int .i64 ag, .string og, .int .i64 lim, v6] 25 (0, 0))) (hb : base ≤ gx) (R2 : Kd.R Kd.string 9 W base (fun _ => True) v2 hd) (R6 : Kd.R k41 41 W base (fun _ => True) v6 bd) (R1 : Kd.R k41 41 W1 base (fun _ => True) v1 bd') (hg : W.grownBy W1 v6.ownBlock) : RuleAt (W1.setCell ⟨gx, 6, none⟩ v1) base gx kd nm hd ag og lim bd' := by
 have BX1 := rule_blk6 BX R6 hg
 exact ⟨v2, v1, blk_put BX1 6 _ rfl, hb, Kd.R_set (Kd.R_over R2 R6 (by decide) hg) BX1 (by decide) 6 _, Kd.R_set R1 BX1 (by decide) 6 _⟩
theorem lit_M {ok : Nat → Prop} {v : Value} {x0 : Bool} {x1 : ByteArray} {x2 : List (S38)} {x3 : Int} (h : Kd.R k38 38 W base ok v x2) : Kd.M k41 W base ok (⟨x0, x1, x2, x3⟩ : S41) [.bool x0, .string x1, v, .int .i64 x3] := ⟨_, _, rfl, rfl, ⟨_, _, rfl, rfl, ⟨_, _, rfl, ⟨v, rfl, h⟩, rfl⟩⟩⟩
end
def bodyL (k : Nat) (l : List (S73)) : Nat → Int → List (S41) → Int → Int → Int → Option (List (S41) × Int × Int × Int)
 | 0, _, bd, p, q, r => some (bd, p, q, r)
 | n + 1, a, bd, p, q, r => if q = 0 then (verdererref12_reader_now.f l p q r).bind fun u => (if 10 ≤ (bd.length : Int) then verdererref12_reader_lone.f k l p q r u.2.2.2.2.2.2.1 else some (p, q, r)).bind fun s => (verdererref12_reader_lit.f k l s.1 s.2.1 s.2.2 a).bind fun x =>
   (if bd.length < 100000 then (verdererref12_reader_take.f l x.2.2.2.2.1 x.2.2.2.2.2.1 x.2.2.2.2.2.2 ⟨#[44]⟩).bind fun c => (if c.1 = true then bodyL k l n (if x.2.2.2.1 = 0 ∧ x.1 = false then wrap64 (a + 1) else a) (bd ++ [⟨x.1, x.2.1, x.2.2.1, x.2.2.2.1⟩]) c.2.1 c.2.2.1 c.2.2.2 else some (bd ++ [⟨x.1, x.2.1, x.2.2.1, x.2.2.2.1⟩], c.2.1, c.2.2.1, c.2.2.2)) else none) else some (bd, p, q, r)
def verdererref12_reader_body.f (k : Nat) (l : List (S73)) (p q r : Int) (bd : List (S41)) : Option (List (S41) × Int × Int × Int) := bodyL k l 400 0 bd p q r
set_option maxHeartbeats 4000000 in
set_option maxRecDepth 100000 in
theorem verdererref12_reader_body.calls (k : Nat) (g gx base : Nat) (l : List (S73)) (p q r : Int) (kd ag : Int) (og : ByteArray) (nm : ByteArray) (hd : List ByteArray) (lim : Int) (bd : List (S41)) (bd' : List (S41)) (p' q' r' : Int) (w0 w : World) (hI : IsS69 w0 w g l p q r) (hB : Below w0.heap.size w0 w) (hX : RuleAt w base gx kd nm hd ag og lim bd) (h0 : w0.heap.size ≤ base) (h : verdererref12_reader_body.f k l p q r bd = some (bd', p', q', r')) :
  Calls Try.prog 42 #[.pointer (some ⟨g, 0, none⟩), .pointer (some ⟨gx, 0, none⟩)] w fun e w' => e = .returned (.tuple #[]) ∧ IsS69 w0 w' g l p' q' r' ∧ Below w0.heap.size w0 w' ∧ RuleAt w' base gx kd nm hd ag og lim bd' ∧ KB w w' base g := by
 unfold verdererref12_reader_body.f at h
 have hne := hX.neI hI
 have hgx := hX.gx_ge
 have H := Aside0.mk h
 clear h
 go_enter Try.func42, Try.ntmps42
 go_wp2
 go_loopw [4, 5] (fun va v wr => ∃ n m : Nat, ∃ a1 : Int, ∃ bd1 : List (S41), ∃ p1 q1 r1 : Int, n + m = 400 ∧ va = .int .i64 a1 ∧ v = .int .i64 n ∧ IsS69 w0 wr g l p1 q1 r1 ∧ Below w0.heap.size w0 wr ∧ RuleAt wr base gx kd nm hd ag og lim bd1 ∧ KB w wr base g ∧ Aside0 (bodyL k l m a1 bd1 p1 q1 r1 = some (bd', p', q', r'))) (fun _ v _ => 400 - (intOf v).toNat)
 case atStart => exact ⟨0, 400, 0, bd, p, q, r, rfl, rfl, rfl, hI, hB, hX, KB.refl w base g, H⟩
 case round =>
  obtain ⟨n, m, a1, bd1, p1, q1, r1, hnm, rfl, rfl, hI1, hB1, hX1, hK1, H1⟩ := hrel
  clear hI hB hX H
  by_cases hlt : n < 400
  ·
   obtain ⟨m, rfl⟩ : ∃ j, m = j + 1 := ⟨m - 1, by omega⟩
   have hlt' : (n : Int) < 400 := by omega
   have h := H1.out
   clear H1
   unfold bodyL at h
   obtain ⟨A0, c0, hgb, _, _⟩ := id hI1
   have z2 : wr.cell? ⟨g, 2, none⟩ = some (.int .i64 q1) := (blk_cell hgb 2).trans rfl
   clear hgb
   by_cases hq : q1 = 0
   ·
    rw [if_pos hq] at h
    have hqb : (q1 == 0) = true := by simp [hq]
    clear hq
    obtain ⟨⟨u1, u2, u3, u4, u5, u6, u7, u8, u9, u10⟩, hu, h⟩ := Option.bind_eq_some_iff.1 h
    obtain ⟨⟨s1, s2, s3⟩, hs, h⟩ := Option.bind_eq_some_iff.1 h
    obtain ⟨⟨x1, x2, x3, x4, x5, x6, x7⟩, hl, h⟩ := Option.bind_eq_some_iff.1 h
    simp only at h hs
    split at h
    case isFalse => cases h
    rename_i hlen
    obtain ⟨⟨c, p5, q5, r5⟩, hc, h⟩ := Option.bind_eq_some_iff.1 h
    simp only at h
    have HU := Aside0.mk hu
    have HS := Aside0.mk hs
    have HL := Aside0.mk hl
    have HC := Aside0.mk hc
    have HH := Aside0.mk h
    clear hu hs hl hc h
    have F3 : ∀ (x0 : Int) (x1 : ByteArray) (x2 : Int) (x3 : Bool) (x4 : Int) (x5 : ByteArray) (x6 : Int) (w : World), Sem.run Try.prog (Instr.field 73 (.agg #[.int .i64 x0, .string x1, .int .i64 x2, .bool x3, .int .i64 x4, .string x5, .int .i64 x6]) 3) w = .ok (.int .i64 x6) w := by intros; kernel_rfl
    go_wp2_with fail
    refine (verdererref12_reader_now.callsB g l _ _ _ u1 u2 u3 u4 u5 u6 u7 u8 u9 u10 w0 _ hI1 hB1 HU.out).mono ?_
    rintro e w4 ⟨rfl, hb4⟩
    have hI4 := hI1.below hb4
    have hB4 := hB1.trans (hb4.mono hB1.size)
    have hX4 := hX1.below hb4
    have hK4 := hK1.below hb4 hX1.ge
    clear hI1 hB1 hX1 hK1 hb4 z2 hqb
    obtain ⟨v2, v6, BX, _, _, R6⟩ := id hX4
    obtain ⟨A5, c5, rfl⟩ := Kd.R_slice R6
    have z6 : w4.cell? ⟨gx, 6, none⟩ = some (.slice A5 bd1.length c5) := (blk_cell BX 6).trans rfl
    clear BX R6
    have hnn : (0 : Int) ≤ (bd1.length : Int) := by omega
    go_upto_if 27 with (fail)
    go_cut [] (fun wc => IsS69 w0 wc g l s1 s2 s3 ∧ Below w0.heap.size w0 wc ∧ RuleAt wc base gx kd nm hd ag og lim bd1 ∧ KB w wc base g)
    case first =>
     have hs := HS.out
     by_cases h40 : 10 ≤ (bd1.length : Int)
     ·
      have h40b : decide ((10 : Int) ≤ (bd1.length : Int)) = true := decide_eq_true h40
      rw [if_pos h40] at hs
      have HS2 := Aside0.mk hs
      clear HS hs h40
      rw [h40b]
      go_wp2_with fail
      refine (verdererref12_reader_lone.calls k g l _ _ _ u7 s1 s2 s3 w0 _ hI4 hB4 HS2.out).mono ?_
      rintro e w5 ⟨rfl, hI5, hB5, hk5⟩
      go_wp2
      go_meet
      exact ⟨hI5, hB5, hX4.keepI hI4 hk5, hK4.keep hk5 hX4.ge⟩
     ·
      have h40b : decide ((10 : Int) ≤ (bd1.length : Int)) = false := decide_eq_false h40
      rw [if_neg h40] at hs
      simp only [Option.some.injEq, Prod.mk.injEq] at hs
      obtain ⟨rfl, rfl, rfl⟩ := hs
      rw [h40b]
      go_wp2
      go_meet
      exact ⟨hI4, hB4, hX4, hK4⟩
    case rest =>
     obtain ⟨w5, rfl⟩ : ∃ z : World, z = wc := ⟨wc, rfl⟩
     obtain ⟨hI5, hB5, hX5, hK5⟩ := hcut
     clear hI4 hB4 hX4 hK4 z6 F3 HS
     obtain ⟨v2, v6, BX, _, R2, R6⟩ := id hX5
     have BXo := Aside0.mk BX
     have R2o := Aside0.mk R2
     obtain ⟨A6, c6, rfl⟩ := Kd.R_slice R6
     have R6o := Aside0.mk R6
     clear BX R2 R6
     have hbs5 := hX5.ge
     go_wp2_with fail
     refine (verdererref12_reader_lit.calls k g l _ _ _ a1 x1 x2 x3 x4 x5 x6 x7 w0 _ hI5 hB5 HL.out).mono ?_
     rintro e w6 ⟨v8, rfl, R8_, hI6, hB6, hk6⟩
     obtain ⟨A8, c8, rfl⟩ := Kd.R_slice R8_
     have hbs6 : base ≤ w6.heap.size := Nat.le_trans hbs5 hk6.1
     have R86 := Aside0.mk (Kd.R_lower (Kd.R_newR R8_ R6o.out) hbs5)
     have BX6 := Aside0.mk (hk6.blk BXo.out hne (by simp))
     have R26 := Aside0.mk (Kd.R_mono (Kd.R_keep (hI5.apart R2o.out (by decide)) hk6 (fun _ h => h.2)) (fun _ _ => trivial))
     have R66 := Aside0.mk (Kd.R_mono (Kd.R_keep (hI5.apart R6o.out (by decide)) hk6 (fun _ h => h.2)) (fun _ _ => trivial))
     have hK6 := hK5.keep hk6 hbs5
     clear hI5 hB5 hX5 hK5 hk6 BXo R2o R6o R8_
     go_upto_region 8 with (fail)
     have BY8 := Aside0.mk (show (w6.alloc (.cells #[.bool x1, .string x2, .slice A8 x3.length c8, .int .i64 x4] 41)).heap[w6.heap.size]? = some (.cells #[.bool x1, .string x2, .slice A8 x3.length c8, .int .i64 x4] 41 (0, 0)) by simpa using heap_alloc_new w6 _)
     have BX8 := Aside0.mk (blk_alloc BX6.out (.cells #[.bool x1, .string x2, .slice A8 x3.length c8, .int .i64 x4] 41))
     have R28 := Aside0.mk (Kd.R_alloc R26.out (.cells #[.bool x1, .string x2, .slice A8 x3.length c8, .int .i64 x4] 41))
     have R68 := Aside0.mk (Kd.R_alloc R66.out (.cells #[.bool x1, .string x2, .slice A8 x3.length c8, .int .i64 x4] 41))
     have R8 := Aside0.mk (Kd.R_alloc R86.out (.cells #[.bool x1, .string x2, .slice A8 x3.length c8, .int .i64 x4] 41))
     have hI8 := hI6.alloc (.cells #[.bool x1, .string x2, .slice A8 x3.length c8, .int .i64 x4] 41)
     have hB8 := below_alloc hB6 (.cells #[.bool x1, .string x2, .slice A8 x3.length c8, .int .i64 x4] 41)
     have hK8 := hK6.below (below_alloc (Below.refl _ _) (.cells #[.bool x1, .string x2, .slice A8 x3.length c8, .int .i64 x4] 41)) hbs6
     have hbs8 : base ≤ (w6.alloc (.cells #[.bool x1, .string x2, .slice A8 x3.length c8, .int .i64 x4] 41)).heap.size := Nat.le_trans hbs6 (by simp)
     have hty9 : some w6.heap.size ≠ (Value.slice A6 bd1.length c6).ownBlock := fun he => Nat.lt_irrefl _ (Kd.R_lt R66.out _ he.symm)
     generalize w6.alloc (.cells #[.bool x1, .string x2, .slice A8 x3.length c8, .int .i64 x4] 41) = w8 at BY8 BX8 R28 R68 R8 hI8 hB8 hK8 hbs8 ⊢
     generalize w6.heap.size = y at BY8 hty9 ⊢
     clear BX6 R26 R66 R86 hI6 hB6 hK6
     have f3 : w8.cell? ⟨y, 3, none⟩ = some (.int .i64 x4) := (blk_cell BY8.out 3).trans rfl
     have f0 : w8.cell? ⟨y, 0, none⟩ = some (.bool x1) := (blk_cell BY8.out 0).trans rfl
     have hat : ∃ a2 : Int, a2 = (if x4 = 0 ∧ x1 = false then wrap64 (a1 + 1) else a1) := ⟨_, rfl⟩
     obtain ⟨a2, ha2⟩ := hat
     have HA2 := Aside0.mk ha2
     clear ha2
     obtain ⟨m41, hm41⟩ : ∃ b : Bool, b = (decide (x4 = 0) && !x1) := ⟨_, rfl⟩
     have HM41 := Aside0.mk hm41
     clear hm41
     go_cut [41] (fun v wc => v = .bool m41 ∧ wc = w8)
     case first =>
      have hm := HM41.out
      by_cases hx4 : x4 = 0
      ·
       have hx4b : (x4 == 0) = true := by simp [hx4]
       have hm2 : m41 = !x1 := by rw [hm, decide_eq_true hx4, Bool.true_and]
       clear hx4 hm HM41
       subst hm2
       cases x1 with
       | true =>
        go_wp2
        go_meet
        exact ⟨rfl, rfl⟩
       | false =>
        go_wp2
        go_meet
        exact ⟨rfl, rfl⟩
      ·
       have hx4b : (x4 == 0) = false := by simp [hx4]
       have hm2 : m41 = false := by rw [hm, decide_eq_false hx4, Bool.false_and]
       clear hx4 hm HM41
       subst hm2
       go_wp2
       go_meet
       exact ⟨rfl, rfl⟩
     case rest =>
      obtain ⟨rfl, rfl⟩ := hcut
      go_upto_if 41 with (fail)
      go_cut [4] (fun v w9 => v = .int .i64 a2 ∧ w9 = wc)
      case first =>
       have ha2 := HA2.out
       have hm := HM41.out
       by_cases hx4 : x4 = 0 ∧ x1 = false
       ·
        rw [if_pos hx4] at ha2
        have hm2 : m41 = true := by rw [hm]; simp [hx4.1, hx4.2]
        clear hx4 hm HA2 HM41 f0 f3
        subst hm2
        have HA3 := Aside0.mk ha2
        clear ha2
        go_wp2
        go_meet
        exact ⟨by rw [HA3.out], rfl⟩
       ·
        rw [if_neg hx4] at ha2
        have hm2 : m41 = false := by
         rw [hm]
         by_cases h3 : x4 = 0
         ·
          cases x1
          · exact absurd ⟨h3, rfl⟩ hx4
          · simp
         · simp [h3]
        clear hx4 hm HA2 HM41 f0 f3
        subst hm2
        have HA3 := Aside0.mk ha2
        clear ha2
        go_wp2
        go_meet
        exact ⟨by rw [HA3.out], rfl⟩
      case rest =>
       obtain ⟨rfl, hw⟩ := hcut
       subst hw
       obtain ⟨w8, rfl⟩ : ∃ z : World, z = wc := ⟨wc, rfl⟩
       go_upto_region 10 with (fail)
       refine start_ (n := 11) (S := fun w' => w'.cell? ⟨gx, 6, none⟩ = some (.slice A6 bd1.length c6) ∧ w'.cell? ⟨y, 0, none⟩ = some (.bool x1) ∧ w'.cell? ⟨y, 1, none⟩ = some (.string x2) ∧ w'.cell? ⟨y, 2, none⟩ = some (.slice A8 x3.length c8) ∧ w'.cell? ⟨y, 3, none⟩ = some (.int .i64 x4)) (ds := [10]) #[false, false, false, false, false, false, false, false, false, false, false] (by kernel_rfl) rfl rfl ⟨(blk_cell BX8.out 6).trans rfl, (blk_cell BY8.out 0).trans rfl, (blk_cell BY8.out 1).trans rfl, (blk_cell BY8.out 2).trans rfl, (blk_cell BY8.out 3).trans rfl⟩ (fun hHeld => ?_)
       refine pure_ (i := 0) (N := some 44) (v := ?_) (a' := ?_) #[true, false, false, false, false, false, false, false, false, false, false] rfl rfl (by kernel_rfl) (fun _ _ _ h => h) (Or.inl ⟨by rfl, ?_⟩) ?_ ?_
       rotate_left
       ·
        intro w'
        go_simp
        with_reducible rfl
       rotate_left
       ·
        simp only [Act.put, List.setIfInBounds_toArray, List.set_cons_zero, List.set_cons_succ, i64_w, i32_w]
        rfl
       refine pure_ (i := 1) (N := some 45) (v := ?_) (a' := ?_) #[true, true, false, false, false, false, false, false, false, false, false] rfl rfl (by kernel_rfl) (fun _ _ _ h => h) (Or.inl ⟨by rfl, ?_⟩) ?_ ?_
       rotate_left
       ·
        intro w'
        go_simp
        with_reducible rfl
       rotate_left
       ·
        simp only [Act.put, List.setIfInBounds_toArray, List.set_cons_zero, List.set_cons_succ, i64_w, i32_w]
        rfl
       refine pure_ (i := 2) (N := some 46) (v := ?_) (a' := ?_) #[true, true, true, false, false, false, false, false, false, false, false] rfl rfl (by kernel_rfl) (fun _ _ _ h => h) (Or.inl ⟨by rfl, ?_⟩) ?_ ?_
       rotate_left
       ·
        intro w'
        go_simp
        with_reducible rfl
       rotate_left
       ·
        simp only [Act.put, List.setIfInBounds_toArray, List.set_cons_zero, List.set_cons_succ, i64_w, i32_w]
        rfl
       refine pure_ (i := 3) (N := some 47) (v := ?_) (a' := ?_) #[true, true, true, true, false, false, false, false, false, false, false] rfl rfl (by kernel_rfl) (fun _ _ _ h => h) (Or.inl ⟨by rfl, ?_⟩) ?_ ?_
       rotate_left
       ·
        intro w'
        go_simp
        with_reducible rfl
       rotate_left
       ·
        simp only [Act.put, List.setIfInBounds_toArray, List.set_cons_zero, List.set_cons_succ, i64_w, i32_w]
        rfl
       refine take_ (i := 4) (N := some 48) (v := ?_) (a' := ?_) #[true, true, true, true, true, false, false, false, false, false, false] rfl rfl (by kernel_rfl) (fun _ _ _ h => h) (Or.inl ⟨by rfl, ?_⟩) hHeld ?_ ?_
       rotate_left
       ·
        rintro w' ⟨e0, e1, e2, e3, e4⟩
        go_simp
        with_reducible rfl
       rotate_left
       ·
        simp only [Act.put, List.setIfInBounds_toArray, List.set_cons_zero, List.set_cons_succ, i64_w, i32_w]
        rfl
       refine take_ (i := 5) (N := some 49) (v := ?_) (a' := ?_) #[true, true, true, true, true, true, false, false, false, false, false] rfl rfl (by kernel_rfl) (fun _ _ _ h => h) (Or.inl ⟨by rfl, ?_⟩) hHeld ?_ ?_
       rotate_left
       ·
        rintro w' ⟨e0, e1, e2, e3, e4⟩
        go_simp
        with_reducible rfl
       rotate_left
       ·
        simp only [Act.put, List.setIfInBounds_toArray, List.set_cons_zero, List.set_cons_succ, i64_w, i32_w]
        rfl
       refine one_ (i := 6) (N := some 50) #[true, true, true, true, true, true, true, false, false, false, false] rfl rfl (by kernel_rfl) (by decide) (fun K hK => ?_)
       refine value_ (w1 := w8.drew.alloc (.cells #[.bool x1, .string x2, .slice A8 x3.length c8, .int .i64 x4] 41)) (v := .slice (some ⟨w8.drew.heap.size, 0, none⟩) 1 1) (by rfl) rfl ?_ ?_
       · go_simp
       refine hK.out _ _ ⟨(blk_cell (blk_alloc (blk_drew BX8.out) _) 6).trans rfl, (blk_cell (blk_alloc (blk_drew BY8.out) _) 0).trans rfl, (blk_cell (blk_alloc (blk_drew BY8.out) _) 1).trans rfl, (blk_cell (blk_alloc (blk_drew BY8.out) _) 2).trans rfl, (blk_cell (blk_alloc (blk_drew BY8.out) _) 3).trans rfl⟩ (fun hHeld => ?_)
       clear hK K
       refine norm_ (a' := ?_) ?_ ?_
       rotate_left
       ·
        show Act.put _ (some 50) _ = _
        simp only [Act.put, List.setIfInBounds_toArray, List.set_cons_zero, List.set_cons_succ, i64_w, i32_w]
        rfl
       refine one_ (i := 7) (N := some 51) #[true, true, true, true, true, true, true, true, false, false, false] rfl rfl (by kernel_rfl) (by decide) (fun K hK => ?_)
       refine Kd.R_append_step k41 (w0 := w8.drew) base (by rfl) (.tmp 48) (.tmp 50) 23 41 (.agg #[.bool false, .string ⟨#[]⟩, .slice none 0 0, .int .i64 0]) 56 rfl Try.underlying23 (by kernel_rfl) rfl (by decide) (by omega) (.slice A6 bd1.length c6) bd1 ⟨x1, x2, x3, x4⟩ [.bool x1, .string x2, .slice A8 x3.length c8, .int .i64 x4] (fun _ => True) (fun k => True ∧ some k ≠ (Value.slice A6 bd1.length c6).ownBlock) rfl rfl (lit_M (Kd.R_drew R8.out)) (fun _ hk => hk) (fun _ _ => trivial) (Kd.R_drew R68.out) (Below.refl _ _) hbs8 (by omega) ?_
       intro v1 w9 ho hb9 hg9 hat9
       obtain ⟨A9, c9, hv9⟩ := Kd.R_slice ho
       simp only [List.length_append, List.length_cons, List.length_nil, Nat.zero_add] at hv9
       subst hv9
       have BX9 := Aside0.mk (rule_blk6 (blk_drew BX8.out) (Kd.R_drew R68.out) hg9)
       have BY9 := Aside0.mk ((hg9.block y (blk_lt BY8.out) (hty9)).trans BY8.out)
       refine hK.out _ _ ⟨(blk_cell BX9.out 6).trans rfl, (blk_cell BY9.out 0).trans rfl, (blk_cell BY9.out 1).trans rfl, (blk_cell BY9.out 2).trans rfl, (blk_cell BY9.out 3).trans rfl⟩ (fun hHeld => ?_)
       clear hK K
       refine norm_ (a' := ?_) ?_ ?_
       rotate_left
       ·
        show Act.put _ (some 51) _ = _
        simp only [Act.put, List.setIfInBounds_toArray, List.set_cons_zero, List.set_cons_succ, i64_w, i32_w]
        rfl
       refine pure_ (i := 8) (N := some 52) (v := ?_) (a' := ?_) #[true, true, true, true, true, true, true, true, true, false, false] rfl rfl (by kernel_rfl) (fun _ _ _ h => h) (Or.inl ⟨by rfl, ?_⟩) ?_ ?_
       rotate_left
       ·
        intro w'
        go_simp
        with_reducible rfl
       rotate_left
       ·
        simp only [Act.put, List.setIfInBounds_toArray, List.set_cons_zero, List.set_cons_succ, i64_w, i32_w]
        rfl
       refine pure_ (i := 9) (N := some 53) (v := ?_) (a' := ?_) #[true, true, true, true, true, true, true, true, true, true, false] rfl rfl (by kernel_rfl) (fun _ _ _ h => h) (Or.inl ⟨by rfl, ?_⟩) ?_ ?_
       rotate_left
       ·
        intro w'
        go_simp
        with_reducible rfl
       rotate_left
       ·
        simp only [Act.put, List.setIfInBounds_toArray, List.set_cons_zero, List.set_cons_succ, i64_w, i32_w]
        rfl
       refine last_ (i := 10) (N := none) #[true, true, true, true, true, true, true, true, true, true, true] rfl rfl (by kernel_rfl) (by decide) (fun K hK => ?_)
       have z6 : w9.cell? ⟨gx, 6, none⟩ = some (.slice A6 bd1.length c6) := (blk_cell BX9.out 6).trans rfl
       have zf6 := blk_frozen BX9.out 6
       have hX10 := rule_put6 (blk_drew BX8.out) hgx (Kd.R_drew R28.out) (Kd.R_drew R68.out) ho hg9
       have hI9 := hI8.drew.grown hg9 (hI8.own_ne R68.out (by decide))
       have hB9 := pw_below_grown (below_drew1 hB8) _ (Nat.le_trans h0 hbs8) hg9 (fun k hk => Nat.le_trans h0 (Kd.R_base R68.out k hk))
       have hK9 := (hK8.below (below_drew (Below.refl _ _)) hbs8).grown hg9 (Kd.R_base R68.out) hbs8
       have hI10 := hI9.far (p := ⟨gx, 6, none⟩) (Ne.symm hne) (.slice A9 (bd1.length + 1) c9)
       have hB10 := hB9.setCell (p := ⟨gx, 6, none⟩) (Nat.le_trans h0 hgx) (.slice A9 (bd1.length + 1) c9)
       have hK10 := hK9.set (p := ⟨gx, 6, none⟩) hgx (.slice A9 (bd1.length + 1) c9)
       refine skip_ (w1 := w9.setCell ⟨gx, 6, none⟩ (.slice A9 (bd1.length + 1) c9)) (by rfl) rfl ?_ ?_
       · go_simp
       refine hK.out _ _ (done_ (by kernel_rfl) ?_)
       clear hK K hHeld
       generalize w9.setCell ⟨gx, 6, none⟩ (.slice A9 (bd1.length + 1) c9) = w10 at hX10 hI10 hB10 hK10 ⊢
       clear hI8 hB8 hK8 hI9 hB9 hK9 BX8 BY8 R28 R68 R8 BX9 BY9 ho hb9 hg9 hat9 z6 zf6 f3 hty9
       go_wp2_with fail
       refine (verdererref12_reader_take.calls g l _ _ _ ⟨#[44]⟩ c p5 q5 r5 w0 _ hI10 hB10 HC.out).mono ?_
       rintro e w11 ⟨rfl, hI11, hB11, hk11⟩
       have hX11 := hX10.keepI hI10 hk11
       have hK11 := hK10.keep hk11 hX10.ge
       clear hI10 hB10 hX10 hK10 hk11
       have h := HH.out
       rw [← HA2.out] at h
       cases c with
       | true =>
        rw [if_pos rfl] at h
        go_wp2_with fail
        go_roundw
        case rel => exact ⟨n + 1, m, _, _, _, _, _, by omega, rfl, by go_num, hI11, hB11, hX11, hK11, ⟨h⟩⟩
        case measure => simp [intOf]; omega
       | false =>
        rw [if_neg (by decide)] at h
        simp only [Option.some.injEq, Prod.mk.injEq] at h
        obtain ⟨rfl, rfl, rfl, rfl⟩ := h
        go_wp2
        first | go_end0 | ((try simp only [Exit.inBlock, Exit.then]); refine bodyPost_ret (results_none rfl _ _ _) rfl ?_)
        exact ⟨rfl, hI11, hB11, hX11, hK11⟩
   ·
    rw [if_neg hq] at h
    have hqb : (q1 == 0) = false := by simp [hq]
    clear hq
    simp only [Option.some.injEq, Prod.mk.injEq] at h
    obtain ⟨rfl, rfl, rfl, rfl⟩ := h
    go_wp2
    first | go_end0 | ((try simp only [Exit.inBlock, Exit.then]); refine bodyPost_ret (results_none rfl _ _ _) rfl ?_)
    exact ⟨rfl, hI1, hB1, hX1, hK1⟩
  ·
   obtain rfl : n = 400 := by omega
   obtain rfl : m = 0 := by omega
   have h := H1.out
   clear H1
   simp only [bodyL, Option.some.injEq, Prod.mk.injEq] at h
   obtain ⟨rfl, rfl, rfl, rfl⟩ := h
   go_wp2
   first | go_end0 | ((try simp only [Exit.inBlock, Exit.then]); refine bodyPost_ret (results_none rfl _ _ _) rfl ?_)
   exact ⟨rfl, hI1, hB1, hX1, hK1⟩
end Go.Proofs.Ytikikmkfeeljgaa.G
