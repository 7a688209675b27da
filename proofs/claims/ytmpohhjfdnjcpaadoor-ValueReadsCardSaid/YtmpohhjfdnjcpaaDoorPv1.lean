/- The plain law of values, first part: right values and how they are shown. -/
import Derived.Test.YtmpohhjfdnjcpaaDoorGx4
import Derived.WideShapes
namespace Go.Proofs.YtmpohhjfdnjcpaaDoor.Pure
open Go.RowKit Go.Proofs.YtmpohhjfdnjcpaaDoor.G Go.Proofs.YtmpohhjfdnjcpaaDoorW.PrintWords Go.Proofs.YtmpohhjfdnjcpaaDoorW.PrintLast Go.Proofs.YtmpohhjfdnjcpaaDoorW.PrintMore
set_option linter.unusedVariables false
set_option linter.unusedSimpArgs false

theorem tl (s : ByteArray) : s.toList = s.data.toList := ByteArray.toList_eq s
theorem size_tl (s : ByteArray) : s.size = s.data.toList.length := by simp
theorem ba_eq {s t : ByteArray} (h : s.data.toList = t.data.toList) : s = t := by
  apply ByteArray.ext
  exact Array.toList_inj.1 h
theorem nil_iff (s : ByteArray) : s.toList = [] ↔ s.size = 0 := by
  rw [tl, size_tl, List.length_eq_zero_iff]
theorem bt_at_nat (s : ByteArray) (i : Nat) (h : i < s.data.toList.length) : bt s (i : Int) = ((s.data.toList[i]).toNat : Int) := by
  have h' : i < s.size := by rw [size_tl]; exact h
  unfold bt
  simp only [Int.toNat_natCast]
  rw [dif_pos h']
  rfl

/-- can a value be? -/
def right (k : Int) (b : Bool) (n : Int) (t : ByteArray) : Bool :=
  decide ((k = 0 ∧ b = false ∧ n = 0 ∧ t.size = 0) ∨ (k = 1 ∧ n = 0 ∧ t.size = 0) ∨ (k = 2 ∧ b = false ∧ t.size = 0) ∨ (k = 3 ∧ b = false ∧ n = 0 ∧ t.size ≤ 60))
theorem nil_beq (t : ByteArray) : (t.toList == (⟨#[]⟩ : ByteArray).toList) = decide (t.size = 0) := by
  have h := nil_iff t
  have e : (⟨#[]⟩ : ByteArray).toList = [] := by rw [tl]
  rw [e, Bool.eq_iff_iff, beq_iff_eq, decide_eq_true_eq, h]
theorem int_beq (a b : Int) : (a == b) = decide (a = b) := by
  rw [Bool.eq_iff_iff, beq_iff_eq, decide_eq_true_eq]
theorem right_value (k : Int) (b : Bool) (n : Int) (t : ByteArray) : value_Right.f k b n t = some (right k b n t) := by
  have hn := nil_iff t
  unfold value_Right.f right value_Null.f value_Bool.f value_Int.f value_Text.f
  simp only [Option.bind_some, nil_beq, int_beq, beq_self_eq_true, Bool.true_and, hn]
  generalize hz : t.size = z
  by_cases h0 : k = 0
  · subst h0; cases b <;> simp
  · by_cases h1 : k = 1
    · subst h1; cases b <;> simp
    · by_cases h2 : k = 2
      · subst h2; cases b <;> simp
      · by_cases h3 : k = 3
        · subst h3
          by_cases hn : n = 0 <;> by_cases hs : z ≤ 60 <;> cases b <;> simp [hn, hs] <;> omega
        · simp [h0, h1, h2, h3]
theorem right_ref (k : Int) (b : Bool) (n : Int) (t : ByteArray) : verdererref01_Right.f k b n t = some (right k b n t) := by
  have hn := nil_iff t
  unfold verdererref01_Right.f right
  simp only [hn]
  generalize hz : t.size = z
  have hz0 : (0 : Int) ≤ z := by omega
  by_cases h0 : k = 0
  · subst h0; by_cases hs : z = 0 <;> by_cases hn : n = 0 <;> cases b <;> simp [hs, hn]
  · by_cases h1 : k = 1
    · subst h1; by_cases hs : z = 0 <;> by_cases hn : n = 0 <;> cases b <;> simp [hs, hn]
    · by_cases h2 : k = 2
      · subst h2; by_cases hs : z = 0 <;> cases b <;> simp [hs]
      · by_cases h3 : k = 3
        · subst h3
          by_cases hn : n = 0 <;> by_cases hs : z ≤ 60 <;> cases b <;> simp [hs, hn] <;> omega
        · by_cases hl : k < 0
          · simp [hl, h0, h1, h2, h3]
          · have hg : 3 < k := by omega
            simp [hl, hg, h0, h1, h2, h3]
end Go.Proofs.YtmpohhjfdnjcpaaDoor.Pure
