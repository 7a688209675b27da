/- The plain law of values: two values. -/
import Derived.Test.YtmpohhjfdnjcpaaDoorPv2
import Derived.Test.YtmpohhjfdnjcpaaDoorGx11
namespace Go.Proofs.YtmpohhjfdnjcpaaDoor.Pure
open Go.RowKit Go.Proofs.YtmpohhjfdnjcpaaDoor.G Go.Proofs.YtmpohhjfdnjcpaaDoorW.PrintWords Go.Proofs.YtmpohhjfdnjcpaaDoorW.PrintLast Go.Proofs.YtmpohhjfdnjcpaaDoorW.PrintMore
set_option linter.unusedVariables false
set_option linter.unusedSimpArgs false

theorem cmp_step (a b : List UInt8) (i : Nat) (ha : i < a.length) (hb : i < b.length) :
    Lib.compareBytes (a.drop i) (b.drop i) = if (a[i]).toNat < (b[i]).toNat then -1 else if (b[i]).toNat < (a[i]).toNat then 1 else Lib.compareBytes (a.drop (i+1)) (b.drop (i+1)) := by
  rw [List.drop_eq_getElem_cons ha, List.drop_eq_getElem_cons hb, Lib.compareBytes]
  simp only [UInt8.lt_iff_toNat_lt]
theorem cmp_nil_l (b : List UInt8) : Lib.compareBytes [] b = if b = [] then 0 else -1 := by
  cases b <;> simp [Lib.compareBytes]
theorem cmp_nil_r (a : List UInt8) : Lib.compareBytes a [] = if a = [] then 0 else 1 := by
  cases a <;> simp [Lib.compareBytes]
theorem text_l0 (s t : ByteArray) (hs : s.size ≤ 9223372036854775807) (ht : t.size ≤ 9223372036854775807) : ∀ (m i k : Nat), m = s.size - i → i ≤ s.size → i ≤ t.size →
    verdererref01_Text.l0 (2 * m + 2 + k) s t (i : Int) = some (Lib.compareBytes (s.data.toList.drop i) (t.data.toList.drop i)) := by
  intro m
  induction m with
  | zero =>
    intro i k hm hi hj
    have h0 : i = s.size := by omega
    have e1 : s.data.toList.drop i = [] := by rw [h0, size_tl]; simp
    rw [e1, cmp_nil_l]
    have hd : (t.data.toList.drop i = []) ↔ ¬ ((s.size : Int) < t.size) := by
      rw [List.drop_eq_nil_iff, ← size_tl]; omega
    rw [show 2 * 0 + 2 + k = k + 1 + 1 by omega]
    simp only [verdererref01_Text.l0, verdererref01_Text.j1]
    have h1 : ¬ ((i : Int) < (s.size : Int)) := by omega
    have h2 : ¬ ((s.size : Int) > (t.size : Int)) := by omega
    simp only [h1, h2, if_false, Bool.false_eq_true, hd]
    by_cases h3 : (s.size : Int) < t.size <;> simp [h3]
  | succ m ih =>
    intro i k hm hi hj
    rw [show 2 * (m + 1) + 2 + k = (2 * m + 2 + k) + 1 + 1 by omega]
    simp only [verdererref01_Text.l0, verdererref01_Text.j1]
    have h1 : ((i : Int) < (s.size : Int)) := by omega
    rw [if_pos h1]
    by_cases h2 : (i : Int) < (t.size : Int)
    · have hls : i < s.data.toList.length := by rw [← size_tl]; omega
      have hlt : i < t.data.toList.length := by rw [← size_tl]; omega
      have e : wrap64 ((i : Int) + 1) = ((i + 1 : Nat) : Int) := by unfold wrap64; omega
      simp only [h1, h2, decide_true, if_true, show (0 : Int) ≤ (i : Int) by omega, bt_at_nat s i hls, bt_at_nat t i hlt, gt_iff_lt, Int.ofNat_lt, e]
      rw [ih (i + 1) k (by omega) (by omega) (by omega), cmp_step _ _ i hls hlt]
      by_cases h3 : (s.data.toList[i]).toNat < (t.data.toList[i]).toNat
      · rw [if_pos h3, if_pos h3]
      · rw [if_neg h3, if_neg h3]
        by_cases h4 : (t.data.toList[i]).toNat < (s.data.toList[i]).toNat
        · rw [if_pos h4, if_pos h4]
        · rw [if_neg h4, if_neg h4]
    · have e1 : t.data.toList.drop i = [] := by rw [List.drop_eq_nil_iff, ← size_tl]; omega
      rw [e1, cmp_nil_r]
      have hd : ¬ (s.data.toList.drop i = []) := by
        rw [List.drop_eq_nil_iff, ← size_tl]; omega
      have h3 : ¬ ((s.size : Int) < (t.size : Int)) := by omega
      have h4 : ((s.size : Int) > (t.size : Int)) := by omega
      simp only [h2, h3, h4, decide_false, Bool.false_eq_true, if_false, if_true, hd]
theorem text_eq (s t : ByteArray) (hs : s.size ≤ 9223372036854775807) (ht : t.size ≤ 9223372036854775807) (k : Nat) :
    verdererref01_Text.f (2 * s.size + 2 + k) s t = some (cmpT s t) := by
  have := text_l0 s t hs ht s.size 0 k (by omega) (by omega) (by omega)
  simpa [verdererref01_Text.f, cmpT] using this
theorem compare_ref (k : Int) (b : Bool) (n : Int) (t : ByteArray) (k' : Int) (b' : Bool) (n' : Int) (t' : ByteArray)
    (hs : t.size ≤ 9223372036854775807) (ht : t'.size ≤ 9223372036854775807) (j : Nat) :
    verdererref01_Compare.f (2 * t.size + 2 + j) k b n t k' b' n' t' = some (cmpV (k, b, n, t) (k', b', n', t')) := by
  unfold verdererref01_Compare.f cmpV
  simp only [text_eq t t' hs ht, Option.bind_some, gt_iff_lt]
  by_cases h : k = k'
  · have h1 : ¬ (k < k') := by omega
    have h2 : ¬ (k' < k) := by omega
    simp only [h1, h2, if_false, h, if_true]
    by_cases h1 : k' = 1
    · cases b <;> cases b' <;> simp [h1, bI, cI]
    · by_cases h2 : k' = 2
      · by_cases h4 : n < n' <;> by_cases h5 : n' < n <;> simp [h1, h2, h4, h5, cI]
      · by_cases h3 : k' = 3 <;> simp [h1, h2, h3]
  · by_cases h1 : k < k'
    · simp [h, h1, cI]
    · have h2 : k' < k := by omega
      simp [h, h1, h2, cI]
theorem orders (a0_0 : Int) (a0_1 : Bool) (a0_2 : Int) (a0_3 : ByteArray) (a1_0 : Int) (a1_1 : Bool) (a1_2 : Int) (a1_3 : ByteArray) (a2 : Int)
    (h0 : a0_3.size ≤ 9223372036854775807) (h1 : a1_3.size ≤ 9223372036854775807) : ∃ k, verdererlaw01_ValueOrders.f k a0_0 a0_1 a0_2 a0_3 a1_0 a1_1 a1_2 a1_3 a2 = some true := by
  refine ⟨2 * a0_3.size + 2 + 0, ?_⟩
  have e : value_Test.f a2 a0_0 a0_1 a0_2 a0_3 a1_0 a1_1 a1_2 a1_3 = verdererref01_Test.f (2 * a0_3.size + 2 + 0) a2 a0_0 a0_1 a0_2 a0_3 a1_0 a1_1 a1_2 a1_3 := by
    unfold value_Test.f verdererref01_Test.f
    rw [compare_value, compare_ref _ _ _ _ _ _ _ _ h0 h1 0]
    simp only [Option.bind_some]
    have hv := cmpV_val (a0_0, a0_1, a0_2, a0_3) (a1_0, a1_1, a1_2, a1_3)
    generalize cmpV (a0_0, a0_1, a0_2, a0_3) (a1_0, a1_1, a1_2, a1_3) = c at hv
    by_cases e1 : a2 = 1
    · simp [e1]
    · by_cases e2 : a2 = 2
      · simp [e2]
      · by_cases e3 : a2 = 3
        · rcases hv with rfl | rfl | rfl <;> simp [e3]
        · by_cases e4 : a2 = 4
          · rcases hv with rfl | rfl | rfl <;> simp [e4]
          · by_cases e5 : a2 = 5
            · rcases hv with rfl | rfl | rfl <;> simp [e5]
            · by_cases e6 : a2 = 6
              · rcases hv with rfl | rfl | rfl <;> simp [e6]
              · simp [e1, e2, e3, e4, e5, e6]
  have ⟨r, hr⟩ : ∃ r, value_Test.f a2 a0_0 a0_1 a0_2 a0_3 a1_0 a1_1 a1_2 a1_3 = some r := by
    unfold value_Test.f
    rw [compare_value]
    simp only [Option.bind_some]
    repeat' (first | exact ⟨_, rfl⟩ | split)
  unfold verdererlaw01_ValueOrders.f
  rw [compare_value, compare_ref _ _ _ _ _ _ _ _ h0 h1 0, right_value, right_ref, ← e, hr]
  simp [verdererlaw01_known.f]

end Go.Proofs.YtmpohhjfdnjcpaaDoor.Pure
