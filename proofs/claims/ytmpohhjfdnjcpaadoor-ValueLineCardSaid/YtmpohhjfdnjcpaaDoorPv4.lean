/- The plain law of values: one order of all. -/
import Derived.Test.YtmpohhjfdnjcpaaDoorPv2
import Derived.Test.YtmpohhjfdnjcpaaDoorGx9
namespace Go.Proofs.YtmpohhjfdnjcpaaDoor.Pure
open Go.RowKit Go.Proofs.YtmpohhjfdnjcpaaDoor.G Go.Proofs.YtmpohhjfdnjcpaaDoorW.PrintWords Go.Proofs.YtmpohhjfdnjcpaaDoorW.PrintLast Go.Proofs.YtmpohhjfdnjcpaaDoorW.PrintMore
set_option linter.unusedVariables false
set_option linter.unusedSimpArgs false

theorem line (a0_0 : Int) (a0_1 : Bool) (a0_2 : Int) (a0_3 : ByteArray) (a1_0 : Int) (a1_1 : Bool) (a1_2 : Int) (a1_3 : ByteArray) (a2_0 : Int) (a2_1 : Bool) (a2_2 : Int) (a2_3 : ByteArray) :
    ∃ k, verdererlaw01_ValueLine.f k a0_0 a0_1 a0_2 a0_3 a1_0 a1_1 a1_2 a1_3 a2_0 a2_1 a2_2 a2_3 = some true := by
  refine ⟨2, ?_⟩
  have hj : ∀ x, x = cmpV (a0_0, a0_1, a0_2, a0_3) (a1_0, a1_1, a1_2, a1_3) → verdererlaw01_ValueLine.j0 2 x false a0_0 a0_1 a0_2 a0_3 a1_0 a1_1 a1_2 a1_3 = some true := by
    intro x hx
    simp only [verdererlaw01_ValueLine.j0, right_ref, Option.bind_some, verdererlaw01_known.f, Bool.false_eq_true, if_false]
    by_cases hr : right a0_0 a0_1 a0_2 a0_3 = true
    · by_cases hr' : right a1_0 a1_1 a1_2 a1_3 = true
      · have hc := cmpV_right _ _ _ _ _ _ _ _ hr hr'
        rw [← hx] at hc
        rw [if_pos hr, if_pos hr', if_pos]
        by_cases hz : x = 0
        · obtain ⟨e1, e2, e3, e4⟩ := hc.1 hz
          subst e1 e2 e3 e4
          simp [hz]
        · have : ¬ (a0_0 = a1_0 ∧ a0_1 = a1_1 ∧ a0_2 = a1_2 ∧ a0_3 = a1_3) := fun h => hz (hc.2 h)
          have h2 : (x == 0) = false := by simpa using hz
          rw [h2]
          simp only [beq_iff_eq]
          symm
          rw [Bool.eq_false_iff]
          intro h
          simp only [Bool.and_eq_true, beq_iff_eq] at h
          exact this ⟨h.1, h.2.1, h.2.2.1, ba_eq (by rw [← tl, ← tl]; exact h.2.2.2)⟩
      · simp [hr, hr']
    · simp [hr]
  unfold verdererlaw01_ValueLine.f
  simp only [compare_value, Option.bind_some]
  have hv := cmpV_val (a0_0, a0_1, a0_2, a0_3) (a1_0, a1_1, a1_2, a1_3)
  have ha := cmpV_anti (a0_0, a0_1, a0_2, a0_3) (a1_0, a1_1, a1_2, a1_3)
  have ht := cmpV_trans (a0_0, a0_1, a0_2, a0_3) (a1_0, a1_1, a1_2, a1_3) (a2_0, a2_1, a2_2, a2_3)
  have hz := cmpV_zero_trans (a0_0, a0_1, a0_2, a0_3) (a1_0, a1_1, a1_2, a1_3) (a2_0, a2_1, a2_2, a2_3)
  rw [ha]
  have hj := hj _ rfl
  generalize cmpV (a0_0, a0_1, a0_2, a0_3) (a1_0, a1_1, a1_2, a1_3) = x at *
  generalize cmpV (a1_0, a1_1, a1_2, a1_3) (a2_0, a2_1, a2_2, a2_3) = y at *
  generalize cmpV (a0_0, a0_1, a0_2, a0_3) (a2_0, a2_1, a2_2, a2_3) = z at *
  have e : -x = wrap64 (-x) := by unfold wrap64; omega
  rw [if_pos e]
  by_cases hx : x ≤ 0
  · by_cases hy : y ≤ 0
    · have hzz : ¬ z > 0 := by have := ht hx hy; omega
      by_cases h0 : x = 0
      · by_cases h1 : y = 0
        · have := hz h0 h1
          simp only [hx, hy, hzz, h0, h1, this, if_true, if_false]
          simpa [h0] using hj
        · simp only [hx, hy, hzz, if_true, if_false, h1, h0]
          simpa [h0] using hj
      · simp only [hx, hy, hzz, if_true, if_false, h0, hj]
    · by_cases h0 : x = 0
      · by_cases h1 : y = 0
        · omega
        · simp only [hx, hy, if_true, if_false, h1, h0]
          simpa [h0] using hj
      · simp only [hx, hy, if_true, if_false, h0, hj]
  · have h0 : ¬ x = 0 := by omega
    simp only [hx, if_false, h0, hj]
end Go.Proofs.YtmpohhjfdnjcpaaDoor.Pure
