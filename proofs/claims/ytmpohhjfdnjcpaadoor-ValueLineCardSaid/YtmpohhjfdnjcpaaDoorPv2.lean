/- The plain law of values, second part: the order. -/
import Derived.Test.YtmpohhjfdnjcpaaDoorPv1
import Derived.Test.YtmpohhjfdnjcpaaDoorGx8
namespace Go.Proofs.YtmpohhjfdnjcpaaDoor.Pure
open Go.RowKit Go.Proofs.YtmpohhjfdnjcpaaDoor.G Go.Proofs.YtmpohhjfdnjcpaaDoorW.PrintWords Go.Proofs.YtmpohhjfdnjcpaaDoorW.PrintLast Go.Proofs.YtmpohhjfdnjcpaaDoorW.PrintMore
set_option linter.unusedVariables false
set_option linter.unusedSimpArgs false

def cI (a b : Int) : Int := if a < b then -1 else if b < a then 1 else 0
def bI (b : Bool) : Int := if b then 1 else 0
abbrev V := Int × Bool × Int × ByteArray
def cmpT (s t : ByteArray) : Int := Lib.compareBytes s.data.toList t.data.toList
def cmpV (a b : V) : Int :=
  if a.1 = b.1 then (if a.1 = 1 then cI (bI a.2.1) (bI b.2.1) else if a.1 = 2 then cI a.2.2.1 b.2.2.1 else if a.1 = 3 then cmpT a.2.2.2 b.2.2.2 else 0) else cI a.1 b.1

theorem cmp_int (a b : Int) : cmp_Compare_int.f a b = some (cI a b) := by
  unfold cmp_Compare_int.f cmp_isNaN_int.f cI
  simp only [Option.bind_some, bne_self_eq_false, Bool.false_eq_true, if_false, gt_iff_lt]
  by_cases h : a < b
  · simp [h]
  · by_cases h2 : b < a <;> simp [h, h2]
theorem cmp_int64 (a b : Int) : cmp_Compare_int64.f a b = some (cI a b) := by
  unfold cmp_Compare_int64.f cmp_isNaN_int64.f cI
  simp only [Option.bind_some, bne_self_eq_false, Bool.false_eq_true, if_false, gt_iff_lt]
  by_cases h : a < b
  · simp [h]
  · by_cases h2 : b < a <;> simp [h, h2]
theorem truth_eq (b : Bool) : value_truth.f b = some (bI b) := by cases b <;> rfl
theorem compare_value (k : Int) (b : Bool) (n : Int) (t : ByteArray) (k' : Int) (b' : Bool) (n' : Int) (t' : ByteArray) :
    value_Compare.f k b n t k' b' n' t' = some (cmpV (k, b, n, t) (k', b', n', t')) := by
  unfold value_Compare.f cmpV
  simp only [cmp_int, cmp_int64, truth_eq, strings_Compare.f, Option.bind_some, cmpT]
  by_cases h : k = k'
  · by_cases h1 : k = 1
    · simp [h, h1]; simp [← h, h1]
    · by_cases h2 : k = 2
      · simp [← h, h1, h2]
      · by_cases h3 : k = 3 <;> simp [← h, h1, h2, h3]
  · simp [h]

theorem cI_val (a b : Int) : cI a b = -1 ∨ cI a b = 0 ∨ cI a b = 1 := by by_cases h : a < b <;> by_cases h2 : b < a <;> simp [cI, h, h2]
theorem cB_val : ∀ (a b : List UInt8), Lib.compareBytes a b = -1 ∨ Lib.compareBytes a b = 0 ∨ Lib.compareBytes a b = 1
  | [], [] => by simp [Lib.compareBytes]
  | [], _ :: _ => by simp [Lib.compareBytes]
  | _ :: _, [] => by simp [Lib.compareBytes]
  | a :: as', b :: bs => by
    simp only [Lib.compareBytes]
    have := cB_val as' bs
    by_cases h : a < b <;> by_cases h2 : b < a <;> simp [h, h2, this]
theorem cmpV_val (a b : V) : cmpV a b = -1 ∨ cmpV a b = 0 ∨ cmpV a b = 1 := by
  unfold cmpV cmpT
  have h1 := cI_val (bI a.2.1) (bI b.2.1)
  have h2 := cI_val a.2.2.1 b.2.2.1
  have h3 := cI_val a.1 b.1
  have h4 := cB_val a.2.2.2.data.toList b.2.2.2.data.toList
  split
  · split
    · exact h1
    · split
      · exact h2
      · split
        · exact h4
        · simp
  · exact h3
theorem cI_anti (a b : Int) : cI b a = - cI a b := by
  unfold cI; by_cases h : a < b <;> by_cases h2 : b < a <;> simp [h, h2]; omega
theorem cB_anti : ∀ (a b : List UInt8), Lib.compareBytes b a = - Lib.compareBytes a b
  | [], [] => by simp [Lib.compareBytes]
  | [], _ :: _ => by simp [Lib.compareBytes]
  | _ :: _, [] => by simp [Lib.compareBytes]
  | a :: as', b :: bs => by
    simp only [Lib.compareBytes, UInt8.lt_iff_toNat_lt]
    have := cB_anti as' bs
    by_cases h : a.toNat < b.toNat
    · have : ¬ b.toNat < a.toNat := by omega
      simp [h, this]
    · by_cases h2 : b.toNat < a.toNat <;> simp [h, h2, this]
theorem cmpV_anti (a b : V) : cmpV b a = - cmpV a b := by
  unfold cmpV cmpT
  by_cases h : a.1 = b.1
  · rw [if_pos h, if_pos h.symm, h]
    rw [cI_anti (bI a.2.1), cI_anti a.2.2.1, cB_anti a.2.2.2.data.toList]
    split
    · rfl
    · split
      · rfl
      · split <;> simp
  · rw [if_neg h, if_neg (fun h' => h h'.symm), cI_anti]
theorem cI_le (a b : Int) : cI a b ≤ 0 ↔ a ≤ b := by
  unfold cI; by_cases h : a < b <;> by_cases h2 : b < a <;> simp [h, h2] <;> omega
theorem cI_zero (a b : Int) : cI a b = 0 ↔ a = b := by
  unfold cI; by_cases h : a < b <;> by_cases h2 : b < a <;> simp [h, h2] <;> omega
theorem cB_zero : ∀ (a b : List UInt8), Lib.compareBytes a b = 0 ↔ a = b
  | [], [] => by simp [Lib.compareBytes]
  | [], _ :: _ => by simp [Lib.compareBytes]
  | _ :: _, [] => by simp [Lib.compareBytes]
  | a :: as', b :: bs => by
    simp only [Lib.compareBytes, UInt8.lt_iff_toNat_lt]
    have := cB_zero as' bs
    by_cases h : a.toNat < b.toNat
    · have : a ≠ b := by intro e; subst e; omega
      simp [h, this]
    · by_cases h2 : b.toNat < a.toNat
      · have : a ≠ b := by intro e; subst e; omega
        simp [h, h2, this]
      · have : a = b := UInt8.toNat_inj.1 (by omega)
        simp [h, h2, cB_zero as' bs, this]
theorem cB_trans : ∀ (a b c : List UInt8), Lib.compareBytes a b ≤ 0 → Lib.compareBytes b c ≤ 0 → Lib.compareBytes a c ≤ 0
  | [], _, [] => by simp [Lib.compareBytes]
  | [], _, _ :: _ => by simp [Lib.compareBytes]
  | _ :: _, [], _ => by simp [Lib.compareBytes]
  | _ :: _, _ :: _, [] => by simp [Lib.compareBytes]
  | a :: as', b :: bs, c :: cs => by
    simp only [Lib.compareBytes, UInt8.lt_iff_toNat_lt]
    have := cB_trans as' bs cs
    intro h1 h2
    by_cases ha : a.toNat < b.toNat
    · by_cases hb : c.toNat < b.toNat
      · have : ¬ b.toNat < c.toNat := by omega
        simp [hb, this] at h2
      · have : a.toNat < c.toNat := by omega
        simp [this]
    · by_cases ha' : b.toNat < a.toNat
      · simp [ha, ha'] at h1
      · by_cases hb : c.toNat < b.toNat
        · have : ¬ b.toNat < c.toNat := by omega
          simp [hb, this] at h2
        · by_cases hb' : b.toNat < c.toNat
          · have : a.toNat < c.toNat := by omega
            simp [this]
          · simp only [ha, ha', if_false] at h1
            simp only [hb, hb', if_false] at h2
            have h3 : ¬ a.toNat < c.toNat := by omega
            have h4 : ¬ c.toNat < a.toNat := by omega
            simp only [h3, h4, if_false]
            exact this h1 h2
theorem cmpV_trans (a b c : V) (h1 : cmpV a b ≤ 0) (h2 : cmpV b c ≤ 0) : cmpV a c ≤ 0 := by
  unfold cmpV cmpT at *
  by_cases ha : a.1 = b.1
  · by_cases hb : b.1 = c.1
    · rw [if_pos ha] at h1; rw [if_pos hb] at h2; rw [if_pos (ha.trans hb)]
      rw [← ha] at h2
      by_cases e1 : a.1 = 1
      · rw [if_pos e1] at *; rw [cI_le] at *; omega
      · rw [if_neg e1] at *
        by_cases e2 : a.1 = 2
        · rw [if_pos e2] at *; rw [cI_le] at *; omega
        · rw [if_neg e2] at *
          by_cases e3 : a.1 = 3
          · rw [if_pos e3] at *; exact cB_trans _ _ _ h1 h2
          · rw [if_neg e3] at *; omega
    · rw [if_neg hb, cI_le] at h2
      rw [if_neg (by omega), cI_le]; omega
  · rw [if_neg ha, cI_le] at h1
    by_cases hb : b.1 = c.1
    · rw [if_neg (by omega), cI_le]; omega
    · rw [if_neg hb, cI_le] at h2
      rw [if_neg (by omega), cI_le]; omega
theorem cmpV_zero_trans (a b c : V) (h1 : cmpV a b = 0) (h2 : cmpV b c = 0) : cmpV a c = 0 := by
  have e1 := cmpV_trans a b c (by omega) (by omega)
  have e2 := cmpV_trans c b a (by rw [cmpV_anti]; omega) (by rw [cmpV_anti]; omega)
  rw [cmpV_anti a c] at e2; omega
theorem cmpV_right (k : Int) (b : Bool) (n : Int) (t : ByteArray) (k' : Int) (b' : Bool) (n' : Int) (t' : ByteArray) (hr : right k b n t = true) (hr' : right k' b' n' t' = true) :
    cmpV (k, b, n, t) (k', b', n', t') = 0 ↔ k = k' ∧ b = b' ∧ n = n' ∧ t = t' := by
  have hz : ∀ (s : ByteArray), s.size = 0 → s = ⟨#[]⟩ := fun s h => ba_eq (List.length_eq_zero_iff.1 (by rw [size_tl] at h; exact h))
  unfold right at hr hr'
  simp only [decide_eq_true_eq] at hr hr'
  unfold cmpV
  by_cases h : k = k'
  · subst h
    simp only [if_true, true_and]
    rcases hr with ⟨rfl, h2, h3, h4⟩ | ⟨rfl, h3, h4⟩ | ⟨rfl, h2, h4⟩ | ⟨rfl, h2, h3, h4⟩
    · have hr' : b' = false ∧ n' = 0 ∧ t'.size = 0 := by rcases hr' with h | h | h | h <;> first | exact absurd h.1 (by decide) | exact h.2
      obtain ⟨g2, g3, g4⟩ := hr'
      simp [h2, h3, hz _ h4, g2, g3, hz _ g4]
    · have hr' : n' = 0 ∧ t'.size = 0 := by rcases hr' with h | h | h | h <;> first | exact absurd h.1 (by decide) | exact h.2
      obtain ⟨g3, g4⟩ := hr'
      simp only [if_true, h3, hz _ h4, g3, hz _ g4, cI_zero]
      cases b <;> cases b' <;> simp [bI]
    · have hr' : b' = false ∧ t'.size = 0 := by rcases hr' with h | h | h | h <;> first | exact absurd h.1 (by decide) | exact h.2
      obtain ⟨g2, g4⟩ := hr'
      simp [h2, hz _ h4, g2, hz _ g4, cI_zero]
    · have hr' : b' = false ∧ n' = 0 ∧ t'.size ≤ 60 := by rcases hr' with h | h | h | h <;> first | exact absurd h.1 (by decide) | exact h.2
      obtain ⟨g2, g3, g4⟩ := hr'
      simp only [h2, h3, g2, g3, cmpT, show ¬ ((3 : Int) = 1) by decide, show ¬ ((3 : Int) = 2) by decide, if_false, if_true, cB_zero]
      constructor
      · intro h; exact ⟨trivial, trivial, ba_eq h⟩
      · intro h; rw [h.2.2]
  · simp [h, cI_zero]

end Go.Proofs.YtmpohhjfdnjcpaaDoor.Pure
