/- The plain law of values: any value as a word. -/
import Derived.Test.YtmpohhjfdnjcpaaDoorPv7
import Derived.Test.YtmpohhjfdnjcpaaDoorGx8
namespace Go.Proofs.YtmpohhjfdnjcpaaDoor.Pure
open Go.RowKit Go.Proofs.YtmpohhjfdnjcpaaDoor.G Go.Proofs.YtmpohhjfdnjcpaaDoorW.PrintWords Go.Proofs.YtmpohhjfdnjcpaaDoorW.PrintLast Go.Proofs.YtmpohhjfdnjcpaaDoorW.PrintMore
set_option linter.unusedVariables false
set_option linter.unusedSimpArgs false
theorem wf_inr {n : Int} (h : (Lit.int .i64 n).wf = true) : inr n := by
  have h' : (decide (IntKind.i64.min ≤ n) && decide (n ≤ IntKind.i64.max)) = true := h
  rw [Bool.and_eq_true, decide_eq_true_eq, decide_eq_true_eq] at h'
  exact h'
theorem shows (a0_0 : Int) (a0_1 : Bool) (a0_2 : Int) (a0_3 : ByteArray) (h : inr a0_2) : ∃ k, verdererlaw01_ValueShows.f k a0_0 a0_1 a0_2 a0_3 = some true := by
  refine ⟨1000, ?_⟩
  unfold verdererlaw01_ValueShows.f
  rw [show_value _ _ _ _ h, show_ref _ _ _ _ h 1000 (by omega), right_ref]
  simp only [Option.bind_some, verdererlaw01_known.f]
  by_cases hr : right a0_0 a0_1 a0_2 a0_3 = true
  · have hs : a0_3.size ≤ 60 := by
      rcases right_cases hr with ⟨e, _, _, e4⟩ | ⟨e, _, e4⟩ | ⟨e, _, e4⟩ | ⟨_, _, _, e4⟩
      · subst e4; decide
      · subst e4; decide
      · subst e4; decide
      · exact e4
    rw [if_neg (by omega), if_true, if_pos hr, value_read_show _ _ _ _ hr h 1000 (by omega)]
    simp
  · have he : (showV a0_0 a0_1 a0_2 a0_3).toList = [] := by
      unfold showV
      rw [if_neg hr, tl]
    simp [he, hr]
end Go.Proofs.YtmpohhjfdnjcpaaDoor.Pure
