/- A text of the proof that the law ParseSame returns true: nothing is assumed in it. -/
import Derived.Test.YtnnbinmomendnaaGreatDoorMParseSame5
import Derived.RangeFuncKeeps
import Derived.RangeFuncLeaves
import Derived.Shelf.Abstract
import Derived.WalkKit
import Derived.OwnWalkIn
import Derived.TacticsInMore
import Derived.LoopNIn
import Derived.LoopIn
import Derived.Test.YtnnbinmomendnaaGreatDoorMParseSame4
import Derived.RangeFuncNested
import Derived.Maps.OwnIn
import Derived.Test.YtnnbinmomendnaaGreatDoorProg
import Derived.KernelRfl
set_option linter.unusedVariables false
set_option linter.unusedSimpArgs false
set_option linter.unusedSectionVars false
namespace Go.Proofs.YtnnbinmomendnaaGreatDoor.E
open Go.RowKit
variable {R : Type}
/-! tokens, by the document -/
def scanN (p : Nat → Bool) : Nat → Nat → Nat
  | 0, i => i
  | f + 1, i => if p i = true then scanN p f (i + 1) else i
theorem scanN_le (p : Nat → Bool) : ∀ f i, i ≤ scanN p f i ∧ scanN p f i ≤ i + f
  | 0, i => ⟨Nat.le_refl _, Nat.le_refl _⟩
  | f + 1, i => by
    unfold scanN
    split
    · have := scanN_le p f (i + 1); omega
    · omega
theorem runC_span {α β R : Type} {step : α → (α → Option R) → β → Option R} (k : β) (p : Nat → Bool) (st : Nat → α) (m : Nat) (E : Nat → Option R)
    (hs : ∀ i, i < m → ∀ k1, step (st i) k1 k = if p i = true then k1 (st (i + 1)) else E i) (he : ∀ k1, step (st m) k1 k = E m) {n i : Nat} (hi : i ≤ m) (hn : m - i < n) : runC step n (st i) k = E (scanN p (m - i) i) := by
  have go : ∀ (d i n : Nat), i + d = m → d < n → runC step n (st i) k = E (scanN p d i) := by
    intro d
    induction d with
    | zero =>
      intro i n hi hn
      obtain ⟨n, rfl⟩ : ∃ q, n = q + 1 := ⟨n - 1, by omega⟩
      have : i = m := by omega
      subst this
      exact he _
    | succ d ih =>
      intro i n hi hn
      obtain ⟨n, rfl⟩ : ∃ q, n = q + 1 := ⟨n - 1, by omega⟩
      refine Eq.trans (show _ = step (st i) (fun b => runC step n b k) k from rfl) ((hs i (by omega) _).trans ?_)
      unfold scanN
      split
      · exact ih (i + 1) n (by omega) (by omega)
      · rfl
  exact go (m - i) i n (by omega) hn
/-- a byte of a text, as a number -/
def bt (s : ByteArray) (i : Nat) : Nat := (s.data.toList.getD i 0).toNat
theorem byteAt_bt (s : ByteArray) (i : Nat) : byteAt s (i : Int) = (bt s i : Int) := by unfold byteAt bt; rw [Int.toNat_natCast]
theorem byteAt_0 (s : ByteArray) : byteAt s 0 = (bt s 0 : Int) := byteAt_bt s 0
theorem byteAt_1 (s : ByteArray) : byteAt s 1 = (bt s 1 : Int) := byteAt_bt s 1
def letN (c : Nat) : Bool := decide (97 ≤ c) && decide (c ≤ 122)
def digN (c : Nat) : Bool := decide (48 ≤ c) && decide (c ≤ 57)
def wchN (s : ByteArray) (i : Nat) : Bool := letN (bt s i) || (decide (0 < i) && (digN (bt s i) || decide (bt s i = 95)))
def wordN (s : ByteArray) : Nat := scanN (wchN s) s.size 0
def numN (s : ByteArray) : Nat := scanN (fun i => digN (bt s i)) (s.size - (if bt s 0 = 45 then 1 else 0)) (if bt s 0 = 45 then 1 else 0)
def textN (s : ByteArray) : Nat → Nat → Nat
  | 0, _ => 0
  | f + 1, i => if i < s.size then (if bt s i = 92 then textN s f (i + 2) else if bt s i = 34 then i + 1 else textN s f (i + 1)) else 0
def signN (s : ByteArray) : Nat :=
  if 2 ≤ s.size ∧ bt s 1 = 61 ∧ (bt s 0 = 61 ∨ bt s 0 = 33 ∨ bt s 0 = 60 ∨ bt s 0 = 62) then 2
  else if bt s 0 = 40 ∨ bt s 0 = 41 ∨ bt s 0 = 44 ∨ bt s 0 = 95 ∨ bt s 0 = 60 ∨ bt s 0 = 62 then 1 else 0
theorem letF (n : Nat) (c : Nat) (k : Bool → Option R) : verdererref11_letter_F n (c : Int) k = k (letN c) := by
  rw [verdererref11_letter_e]
  unfold verdererref11_letter_Fi letN
  by_cases h : 97 ≤ c
  · have : (c : Int) ≥ 97 := by omega
    have e : ((c : Int) ≤ 122) ↔ c ≤ 122 := by omega
    simp [h, this, e]
  · have : ¬ (c : Int) ≥ 97 := by omega
    rw [if_neg (by simpa using this)]
    simp [h]
theorem digF (n : Nat) (c : Nat) (k : Bool → Option R) : verdererref11_digit_F n (c : Int) k = k (digN c) := by
  rw [verdererref11_digit_e]
  unfold verdererref11_digit_Fi digN
  by_cases h : 48 ≤ c
  · have : (c : Int) ≥ 48 := by omega
    have e : ((c : Int) ≤ 57) ↔ c ≤ 57 := by omega
    simp [h, this, e]
  · have : ¬ (c : Int) ≥ 48 := by omega
    rw [if_neg (by simpa using this)]
    simp [h]
theorem beq_nat (a b : Nat) : ((a : Int) == (b : Int)) = decide (a = b) := by
  rw [Bool.eq_iff_iff, beq_iff_eq, decide_eq_true_eq]; omega
theorem refWord_F (n : Nat) (s : ByteArray) (hs : s.size ≤ 1000) (hn : s.size < n) (k : Int → Option R) : verdererref11_word_F n s k = k (wordN s : Int) := by
  rw [verdererref11_word_e]
  unfold verdererref11_word_Fi
  refine (runC_span (R := R) (step := verdererref11_word_l2 n) (fun b3 => k b3.1, ()) (wchN s) (fun i => (s, (i : Int), ())) s.size (fun i => k (i : Int)) (fun i hi k1 => ?_) (fun k1 => ?_) (i := 0) (Nat.zero_le _) (by omega)).trans rfl
  · have c1 : (i : Int) < (s.size : Int) := by omega
    have c0 : (0 : Int) ≤ (i : Int) := by omega
    have e95 : ((bt s i : Int) == 95) = decide (bt s i = 95) := beq_nat _ 95
    have e0 : ((i : Int) > 0) ↔ 0 < i := by omega
    simp only [verdererref11_word_l2, verdererref11_word_s2, c1, c0, decide_true, if_true, byteAt_bt, letF, digF, wrap_succ i (by omega), e95, e0, wchN]
    by_cases h1 : letN (bt s i) = true
    · simp only [h1, if_true, Bool.true_or]
    · by_cases hi0 : 0 < i
      · by_cases h2 : digN (bt s i) = true
        · simp [h1, hi0, h2]
        · by_cases h95 : bt s i = 95 <;> simp [h1, hi0, h2, h95]
      · simp [h1, hi0]
  · simp [verdererref11_word_l2, verdererref11_word_s2]
theorem refNum_F (n : Nat) (s : ByteArray) (hs : s.size ≤ 1000) (h0 : 0 < s.size) (hn : s.size < n) (k : Int → Option R) : verdererref11_number_F n s k = k (numN s : Int) := by
  rw [verdererref11_number_e]
  unfold verdererref11_number_Fi numN
  have e45 : (byteAt s 0 == 45) = decide (bt s 0 = 45) := by rw [byteAt_0]; exact beq_nat _ 45
  have go : ∀ f, f ≤ s.size → runC (verdererref11_number_l4 n) n (s, (f : Int), ()) (fun b2 => k b2.1, ()) = k ((scanN (fun i => digN (bt s i)) (s.size - f) f : Nat) : Int) := by
    intro f hf
    refine runC_span (R := R) (step := verdererref11_number_l4 n) (fun b2 => k b2.1, ()) (fun i => digN (bt s i)) (fun i => (s, (i : Int), ())) s.size (fun i => k (i : Int)) (fun i hi k1 => ?_) (fun k1 => ?_) (i := f) hf (by omega)
    · have c1 : (i : Int) < (s.size : Int) := by omega
      have c0 : (0 : Int) ≤ (i : Int) := by omega
      simp only [verdererref11_number_l4, verdererref11_number_s4, c1, c0, decide_true, if_true, byteAt_bt, digF, wrap_succ i (by omega)]
    · simp [verdererref11_number_l4, verdererref11_number_s4]
  rw [if_pos (decide_eq_true (by omega)), if_pos (Int.le_refl _), if_pos (by omega), e45]
  by_cases h : bt s 0 = 45
  · rw [if_pos (decide_eq_true h), if_pos h]; exact go 1 (by omega)
  · rw [if_neg (by simpa using h), if_neg h]; exact go 0 (by omega)
theorem refText_F (n : Nat) (s : ByteArray) (hs : s.size ≤ 1000) (hn : s.size + 2 < n) (k : Int → Option R) : verdererref11_text_F n s k = k (textN s (s.size + 1) 1 : Int) := by
  rw [verdererref11_text_e]
  unfold verdererref11_text_Fi
  have go : ∀ (f i m : Nat), s.size ≤ i + f → f < m → i ≤ s.size + 2 → runC (verdererref11_text_l2 n) m (s, (i : Int), ()) (fun b1 => k b1.1, fun b1 => k 0, ()) = k (textN s (f + 1) i : Int) := by
    intro f
    induction f with
    | zero =>
      intro i m hi hm hi2
      obtain ⟨m, rfl⟩ : ∃ q, m = q + 1 := ⟨m - 1, by omega⟩
      show verdererref11_text_l2 n (s, (i : Int), ()) _ _ = _
      have : ¬ i < s.size := by omega
      have c : ¬ (i : Int) < (s.size : Int) := by omega
      simp only [verdererref11_text_l2, verdererref11_text_s2, textN, this, if_false]
      rw [if_neg (by simpa using c)]
      rfl
    | succ f ih =>
      intro i m hi hm hi2
      obtain ⟨m, rfl⟩ : ∃ q, m = q + 1 := ⟨m - 1, by omega⟩
      show verdererref11_text_l2 n (s, (i : Int), ()) _ _ = _
      by_cases h : i < s.size
      · have c1 : (i : Int) < (s.size : Int) := by omega
        have c0 : (0 : Int) ≤ (i : Int) := by omega
        have e92 : ((bt s i : Int) == 92) = decide (bt s i = 92) := beq_nat _ 92
        have e34 : ((bt s i : Int) == 34) = decide (bt s i = 34) := beq_nat _ 34
        rw [textN, if_pos h]
        simp only [verdererref11_text_l2, verdererref11_text_s2, c1, c0, decide_true, if_true, byteAt_bt, e92, e34, wrap_succ i (by omega), wrap_succ (i + 1) (by omega)]
        by_cases h92 : bt s i = 92
        · rw [if_pos (decide_eq_true h92), if_pos h92]
          exact ih (i + 2) m (by omega) (by omega) (by omega)
        · rw [if_neg (by simpa using h92), if_neg h92]
          by_cases h34 : bt s i = 34
          · rw [if_pos (decide_eq_true h34), if_pos h34]
          · rw [if_neg (by simpa using h34), if_neg h34]
            exact ih (i + 1) m (by omega) (by omega) (by omega)
      · have c : ¬ (i : Int) < (s.size : Int) := by omega
        rw [textN, if_neg h]
        simp only [verdererref11_text_l2, verdererref11_text_s2]
        rw [if_neg (by simpa using c)]
        rfl
  exact go s.size 1 n (by omega) (by omega) (by omega)
theorem refSign_F (n : Nat) (s : ByteArray) (h0 : 0 < s.size) (k : Int → Option R) : verdererref11_sign_F n s k = k (signN s : Int) := by
  rw [verdererref11_sign_e]
  unfold verdererref11_sign_Fi signN
  have b : ∀ (a : Nat) (b : Nat), ((a : Int) == (b : Int)) = decide (a = b) := beq_nat
  have e : ∀ j : Nat, ((bt s j : Int) == 61) = decide (bt s j = 61) ∧ ((bt s j : Int) == 33) = decide (bt s j = 33) ∧ ((bt s j : Int) == 60) = decide (bt s j = 60) ∧ ((bt s j : Int) == 62) = decide (bt s j = 62) ∧ ((bt s j : Int) == 40) = decide (bt s j = 40) ∧ ((bt s j : Int) == 41) = decide (bt s j = 41) ∧ ((bt s j : Int) == 44) = decide (bt s j = 44) ∧ ((bt s j : Int) == 95) = decide (bt s j = 95) := fun j => ⟨b _ 61, b _ 33, b _ 60, b _ 62, b _ 40, b _ 41, b _ 44, b _ 95⟩
  have c0 : (0 : Int) < (s.size : Int) := by omega
  have t1 : (0 : Int) ≤ 1 := by decide
  simp only [byteAt_0, byteAt_1, e, c0, Int.le_refl, if_true, t1]
  generalize bt s 0 = x
  generalize bt s 1 = y
  have tail : (if decide (x = 40) = true then k 1 else if decide (x = 41) = true then k 1 else if decide (x = 44) = true then k 1 else if decide (x = 95) = true then k 1 else if decide (x = 60) = true then k 1 else if decide (x = 62) = true then k 1 else k 0) = k ((if x = 40 ∨ x = 41 ∨ x = 44 ∨ x = 95 ∨ x = 60 ∨ x = 62 then 1 else 0 : Nat) : Int) := by
    by_cases h1 : x = 40 <;> by_cases h2 : x = 41 <;> by_cases h3 : x = 44 <;> by_cases h4 : x = 95 <;> by_cases h5 : x = 60 <;> by_cases h6 : x = 62 <;> simp [h1, h2, h3, h4, h5, h6]
  by_cases h2 : 2 ≤ s.size
  · have g2 : (s.size : Int) ≥ 2 := by omega
    have g1 : (1 : Int) < (s.size : Int) := by omega
    simp only [g2, g1, decide_true, if_true, h2, true_and]
    by_cases hy : y = 61
    · simp only [hy, decide_true, if_true, true_and]
      by_cases x1 : x = 61
      · simp [x1]
      · by_cases x2 : x = 33
        · simp [x1, x2]
        · by_cases x3 : x = 60
          · simp [x1, x2, x3]
          · by_cases x4 : x = 62
            · simp [x1, x2, x3, x4]
            · have hno : ¬ (x = 61 ∨ x = 33 ∨ x = 60 ∨ x = 62) := by omega
              rw [if_neg (by simpa using x1), if_neg (by simpa using x2), if_neg (by simpa using x3), if_neg (by simpa using x4), if_neg hno]
              exact tail
    · simp only [hy, decide_false, Bool.false_eq_true, if_false, false_and]
      exact tail
  · have g2 : ¬ (s.size : Int) ≥ 2 := by omega
    simp only [g2, decide_false, Bool.false_eq_true, if_false, h2, false_and]
    exact tail
end Go.Proofs.YtnnbinmomendnaaGreatDoor.E
namespace Go.Proofs.YtnnbinmomendnaaGreatDoor.E
open Go.RowKit
variable {R : Type}
noncomputable def constS (s : ByteArray) (m : Nat) : Option ty60.D := if (readV (s.extract 0 m)).2 = 0 then some (2, s.extract 0 m, (readV (s.extract 0 m)).1, 0, ()) else none
/-- the token with which a text goes on -/
noncomputable def oneS (s : ByteArray) : Option ty60.D :=
  if letN (bt s 0) = true then (if (readV (s.extract 0 (wordN s))).2 = 0 then some (2, s.extract 0 (wordN s), (readV (s.extract 0 (wordN s))).1, 0, ()) else some (1, s.extract 0 (wordN s), zV, 0, ()))
  else if digN (bt s 0) = true ∨ bt s 0 = 45 then (if numN s < s.size ∧ (letN (bt s (numN s)) = true ∨ bt s (numN s) = 95) then none else constS s (numN s))
  else if bt s 0 = 34 then (if 0 < textN s (s.size + 1) 1 then constS s (textN s (s.size + 1) 1) else none)
  else if 0 < signN s then some (3, s.extract 0 (signN s), zV, 0, ()) else none
theorem textN_le (s : ByteArray) : ∀ f i, textN s f i ≤ s.size
  | 0, i => Nat.zero_le _
  | f + 1, i => by
    unfold textN
    split
    · split
      · exact textN_le s f (i + 2)
      · split
        · omega
        · exact textN_le s f (i + 1)
    · exact Nat.zero_le _
theorem signN_le (s : ByteArray) (h : 0 < s.size) : signN s ≤ s.size := by
  unfold signN
  split
  · omega
  · split <;> omega
theorem numN_rng (s : ByteArray) (h : 0 < s.size) (h0 : digN (bt s 0) = true ∨ bt s 0 = 45) : 1 ≤ numN s ∧ numN s ≤ s.size := by
  unfold numN
  by_cases h1 : bt s 0 = 45
  · rw [if_pos h1]
    have := scanN_le (fun i => digN (bt s i)) (s.size - 1) 1
    omega
  · rw [if_neg h1]
    have hd := h0.resolve_right h1
    obtain ⟨m, hm⟩ : ∃ m, s.size - 0 = m + 1 := ⟨s.size - 1, by omega⟩
    rw [hm]
    unfold scanN
    rw [if_pos hd]
    have := scanN_le (fun i => digN (bt s i)) m (0 + 1)
    omega
theorem wordN_rng (s : ByteArray) (h : 0 < s.size) (h0 : letN (bt s 0) = true) : 1 ≤ wordN s ∧ wordN s ≤ s.size := by
  unfold wordN
  obtain ⟨m, hm⟩ : ∃ m, s.size = m + 1 := ⟨s.size - 1, by omega⟩
  rw [hm]
  unfold scanN
  rw [if_pos (by unfold wchN; rw [h0]; rfl)]
  have := scanN_le (wchN s) m (0 + 1)
  omega
theorem ext_size (s : ByteArray) (m : Nat) (h : m ≤ s.size) : (s.extract 0 m).size = m := by rw [ByteArray.size_extract]; omega
theorem readV_nullB : readV ⟨#[110, 117, 108, 108]⟩ = (zV, 0) := by
  have := readV_back zV (by unfold rightV; rfl) inR0
  rw [show_null] at this
  exact this
theorem refOne_F (n : Nat) (s : ByteArray) (hs : s.size ≤ 1000) (h0 : 0 < s.size) (hn : 2000 < n) : ∃ z : ty60.D, ∀ k : ty60.D → Bool → Option R, verdererref11_one_F n s k = match oneS s with
    | some t => k t true
    | none => k z false := by
  rw [verdererref11_one_e]
  unfold verdererref11_one_Fi
  have c0 : (0 : Int) < (s.size : Int) := by omega
  have b : ∀ (a : Nat) (b : Nat), ((a : Int) == (b : Int)) = decide (a = b) := beq_nat
  have e45 : ∀ j, ((bt s j : Int) == 45) = decide (bt s j = 45) := fun j => b _ 45
  have e34 : ∀ j, ((bt s j : Int) == 34) = decide (bt s j = 34) := fun j => b _ 34
  have e95 : ∀ j, ((bt s j : Int) == 95) = decide (bt s j = 95) := fun j => b _ 95
  have esz : ∀ m, m ≤ s.size → (s.extract 0 m).size ≤ 1000 := fun m hm => by rw [ext_size s m hm]; omega
  -- behind the number of bytes
  have join : ∀ m : Nat, m ≤ s.size → (m = 0 → bt s 0 = 34 ∨ (letN (bt s 0) = false ∧ digN (bt s 0) = false ∧ bt s 0 ≠ 45)) → ∃ z : ty60.D, ∀ k : exK R (verdererref11_one_dx 1000015), verdererref11_one_l1000015 n (s, (m : Int), (0 : Int), (⟨#[]⟩ : ByteArray), (0 : Int), false, (0 : Int), (⟨#[]⟩ : ByteArray), (0 : Int), ()) k = match (if 0 < m then constS s m else if bt s 0 = 34 then none else if 0 < signN s then some (3, s.extract 0 (signN s), zV, 0, ()) else none) with
      | some t => k.1 (true, t.1, t.2.1, t.2.2.1.1, t.2.2.1.2.1, t.2.2.1.2.2.1, t.2.2.1.2.2.2.1, t.2.2.2.1, ())
      | none => k.1 (false, z.1, z.2.1, z.2.2.1.1, z.2.2.1.2.1, z.2.2.1.2.2.1, z.2.2.1.2.2.2.1, z.2.2.2.1, ()) := by
    intro m hm hm0
    rw [verdererref11_one_e1000015]
    unfold verdererref11_one_li1000015 verdererref11_one_s1000015
    by_cases hp : 0 < m
    · refine ⟨(2, s.extract 0 m, (readV (s.extract 0 m)).1, 0, ()), fun k => ?_⟩
      have r1 : (0 : Int) ≤ (m : Int) ∧ (m : Int) ≤ (s.size : Int) := by omega
      have g : (m : Int) > 0 := by omega
      simp only [g, decide_true, if_true, r1, and_self, Int.toNat_natCast, hp]
      rw [refReadV_F n _ (esz m hm) hn]
      unfold constS
      by_cases hr : (readV (s.extract 0 m)).2 = 0
      · rw [if_pos hr]
        have : ((readV (s.extract 0 m)).2 == 0) = true := by simp [hr]
        simp only [this]
      · rw [if_neg hr]
        have : ((readV (s.extract 0 m)).2 == 0) = false := by simp [hr]
        simp only [this]
    · have hz : m = 0 := by omega
      subst hz
      have g : ¬ (((0 : Nat) : Int) > 0) := by omega
      simp only [g, decide_false, Bool.false_eq_true, if_false, Nat.lt_irrefl, Int.le_refl, if_true, c0, byteAt_0, e34]
      by_cases h34 : bt s 0 = 34
      · refine ⟨(0, (⟨#[]⟩ : ByteArray), zV, 0, ()), fun k => ?_⟩
        simp only [h34, decide_true, if_true]
        rfl
      · have hsg := signN_le s h0
        have r1 : (0 : Int) ≤ (signN s : Int) ∧ (signN s : Int) ≤ (s.size : Int) := by omega
        refine ⟨(3, s.extract 0 (signN s), zV, 0, ()), fun k => ?_⟩
        simp only [h34, decide_false, Bool.false_eq_true, if_false]
        rw [refSign_F n s h0, if_pos r1, Int.toNat_natCast]
        by_cases hp2 : 0 < signN s
        · have : (signN s : Int) > 0 := by omega
          rw [if_pos hp2, decide_eq_true this]
          rfl
        · have : ¬ (signN s : Int) > 0 := by omega
          rw [if_neg hp2, decide_eq_false this]
          rfl
  simp only [Int.le_refl, if_true, c0, byteAt_0, e45, e34]
  simp only [letF n (bt s 0), digF n (bt s 0)]
  unfold oneS
  by_cases hl : letN (bt s 0) = true
  · obtain ⟨w1, w2⟩ := wordN_rng s h0 hl
    refine ⟨(0, (⟨#[]⟩ : ByteArray), zV, 0, ()), fun k => ?_⟩
    rw [if_pos hl, if_pos hl, refWord_F n s hs (by omega)]
    have r1 : (0 : Int) ≤ (wordN s : Int) ∧ (wordN s : Int) ≤ (s.size : Int) := by omega
    rw [if_pos r1, Int.toNat_natCast, refReadV_F n _ (esz _ w2) hn, beqB]
    by_cases hr : (readV (s.extract 0 (wordN s))).2 = 0
    · have : ((readV (s.extract 0 (wordN s))).2 == 0) = true := by simp [hr]
      rw [if_pos hr, this, if_pos rfl]
      split <;> rfl
    · have : ((readV (s.extract 0 (wordN s))).2 == 0) = false := by simp [hr]
      rw [if_neg hr, this]
      rw [if_neg (fun e => hr (by rw [of_decide_eq_true e]; exact congrArg Prod.snd readV_nullB))]
      rfl
  rw [if_neg hl]
  have number : (digN (bt s 0) = true ∨ bt s 0 = 45) → ∃ z : ty60.D, ∀ k : ty60.D → Bool → Option R, verdererref11_number_F n s (fun y6 => if (decide (y6 < (s.size : Int))) = true then (if (0 : Int) ≤ y6 then if y6 < (s.size : Int) then (verdererref11_letter_F n (byteAt s y6) (fun y7 => if y7 = true then (k (0, (⟨#[]⟩ : ByteArray), (0, false, 0, (⟨#[]⟩ : ByteArray), ()), 0, ()) false) else (if (0 : Int) ≤ y6 then if y6 < (s.size : Int) then (if ((byteAt s y6) == 95) = true then (k (0, (⟨#[]⟩ : ByteArray), (0, false, 0, (⟨#[]⟩ : ByteArray), ()), 0, ()) false) else (verdererref11_one_l1000015 n (s, y6, 0, (⟨#[]⟩ : ByteArray), 0, false, 0, (⟨#[]⟩ : ByteArray), 0, ()) (fun b18 => k (b18.2.1, b18.2.2.1, (b18.2.2.2.1, b18.2.2.2.2.1, b18.2.2.2.2.2.1, b18.2.2.2.2.2.2.1, ()), b18.2.2.2.2.2.2.2.1, ()) b18.1, ()))) else none else none))) else none else none) else (verdererref11_one_l1000015 n (s, y6, 0, (⟨#[]⟩ : ByteArray), 0, false, 0, (⟨#[]⟩ : ByteArray), 0, ()) (fun b26 => k (b26.2.1, b26.2.2.1, (b26.2.2.2.1, b26.2.2.2.2.1, b26.2.2.2.2.2.1, b26.2.2.2.2.2.2.1, ()), b26.2.2.2.2.2.2.2.1, ()) b26.1, ()))) = match (if numN s < s.size ∧ (letN (bt s (numN s)) = true ∨ bt s (numN s) = 95) then none else constS s (numN s)) with
      | some t => k t true
      | none => k z false := by
    intro hd
    obtain ⟨n1, n2⟩ := numN_rng s h0 hd
    obtain ⟨z, hz⟩ := join (numN s) n2 (fun e => by omega)
    by_cases hlt : numN s < s.size
    · have d1 : (numN s : Int) < (s.size : Int) := by omega
      have d0 : (0 : Int) ≤ (numN s : Int) := by omega
      by_cases hbad : letN (bt s (numN s)) = true ∨ bt s (numN s) = 95
      · refine ⟨(0, (⟨#[]⟩ : ByteArray), zV, 0, ()), fun k => ?_⟩
        rw [refNum_F n s hs h0 (by omega)]
        simp only [d1, d0, decide_true, if_true, byteAt_bt, letF, e95]
        rw [show (if numN s < s.size ∧ (letN (bt s (numN s)) = true ∨ bt s (numN s) = 95) then none else constS s (numN s)) = none from if_pos ⟨hlt, hbad⟩]
        by_cases h1 : letN (bt s (numN s)) = true
        · rw [if_pos h1]; rfl
        · rw [if_neg h1, if_pos (decide_eq_true (hbad.resolve_left h1))]; rfl
      · refine ⟨z, fun k => ?_⟩
        rw [refNum_F n s hs h0 (by omega)]
        simp only [d1, d0, decide_true, if_true, byteAt_bt, letF, e95]
        rw [show (if numN s < s.size ∧ (letN (bt s (numN s)) = true ∨ bt s (numN s) = 95) then none else constS s (numN s)) = constS s (numN s) from if_neg (fun h => hbad h.2), if_neg (fun h => hbad (.inl h)), if_neg (fun h => hbad (.inr (of_decide_eq_true h)))]
        refine (hz _).trans ?_
        rw [if_pos (by omega)] <;> (cases constS s (numN s) <;> rfl)
    · refine ⟨z, fun k => ?_⟩
      rw [refNum_F n s hs h0 (by omega)]
      have d1 : ¬ (numN s : Int) < (s.size : Int) := by omega
      rw [show (if numN s < s.size ∧ (letN (bt s (numN s)) = true ∨ bt s (numN s) = 95) then none else constS s (numN s)) = constS s (numN s) from if_neg (fun h => hlt h.1), if_neg (by simpa using d1)]
      refine (hz _).trans ?_
      rw [if_pos (by omega)] <;> (cases constS s (numN s) <;> rfl)
  by_cases hd : digN (bt s 0) = true
  · obtain ⟨z, hz⟩ := number (.inl hd)
    refine ⟨z, fun k => ?_⟩
    rw [if_neg hl, if_pos hd, if_pos (Or.inl hd)]
    exact hz k
  by_cases h45 : bt s 0 = 45
  · obtain ⟨z, hz⟩ := number (.inr h45)
    refine ⟨z, fun k => ?_⟩
    rw [if_neg hl, if_neg hd, if_pos (decide_eq_true h45), if_pos (Or.inr h45)]
    exact hz k
  have hno : ¬ (digN (bt s 0) = true ∨ bt s 0 = 45) := fun h => h.elim hd h45
  have hl' : letN (bt s 0) = false := by simpa using hl
  have hd' : digN (bt s 0) = false := by simpa using hd
  by_cases h34 : bt s 0 = 34
  · obtain ⟨z, hz⟩ := join (textN s (s.size + 1) 1) (textN_le s _ _) (fun _ => .inl h34)
    refine ⟨z, fun k => ?_⟩
    rw [if_neg hl, if_neg hd, if_neg (by simpa using h45), if_pos (decide_eq_true h34), if_neg hno, if_pos h34, refText_F n s hs (by omega)]
    refine (hz _).trans ?_
    rw [if_pos h34] <;> cases (if 0 < textN s (s.size + 1) 1 then constS s (textN s (s.size + 1) 1) else none) <;> rfl
  · obtain ⟨z, hz⟩ := join 0 (Nat.zero_le _) (fun _ => .inr ⟨hl', hd', h45⟩)
    refine ⟨z, fun k => ?_⟩
    rw [if_neg hl, if_neg hd, if_neg (by simpa using h45), if_neg (by simpa using h34), if_neg hno, if_neg h34]
    refine (hz _).trans ?_
    rw [if_neg (Nat.lt_irrefl 0), if_neg h34] <;> cases (if 0 < signN s then some ((3, s.extract 0 (signN s), zV, 0, ()) : ty60.D) else none) <;> rfl
theorem constS_size {s : ByteArray} {m : Nat} (hm : m ≤ s.size) {t : ty60.D} (h : constS s m = some t) : t.2.1.size = m := by
  unfold constS at h
  split at h
  · injection h with h; rw [← h]; exact ext_size s m hm
  · cases h
theorem oneS_size {s : ByteArray} (h0 : 0 < s.size) {t : ty60.D} (h : oneS s = some t) : 1 ≤ t.2.1.size ∧ t.2.1.size ≤ s.size := by
  unfold oneS at h
  split at h
  · rename_i hl
    have := wordN_rng s h0 hl
    split at h <;> (injection h with h; rw [← h]; show _ ≤ (s.extract 0 (wordN s)).size ∧ (s.extract 0 (wordN s)).size ≤ _; rw [ext_size s _ this.2]; exact this)
  · split at h
    · rename_i hd
      have := numN_rng s h0 hd
      split at h
      · cases h
      · rw [constS_size this.2 h]; exact this
    · split at h
      · split at h
        · rw [constS_size (textN_le s _ _) h]; exact ⟨by omega, textN_le s _ _⟩
        · cases h
      · split at h
        · have := signN_le s h0
          injection h with h; rw [← h]; show _ ≤ (s.extract 0 (signN s)).size ∧ (s.extract 0 (signN s)).size ≤ _; rw [ext_size s _ this]; omega
        · cases h
end Go.Proofs.YtnnbinmomendnaaGreatDoor.E
namespace Go.Proofs.YtnnbinmomendnaaGreatDoor.E
open Go.RowKit
variable {R : Type}
abbrev Toks := List ty60.D
/-- the tokens of a text from a place on; or where it is wrong -/
noncomputable def lexL (s : ByteArray) : Nat → Nat → Toks → Nat ⊕ Toks
  | 0, _, l => .inr l
  | f + 1, i, l => if i < s.size then (if bt s i = 32 ∨ bt s i = 10 then lexL s f (i + 1) l else match oneS (s.extract i s.size) with
      | none => .inl i
      | some t => lexL s f (i + t.2.1.size) (l ++ [(t.1, t.2.1, t.2.2.1, (i : Int), ())])) else .inr l
def endT (s : ByteArray) : ty60.D := (4, (⟨#[]⟩ : ByteArray), zV, (s.size : Int), ())
noncomputable def lexS (s : ByteArray) : Int × Int × Toks := if 300 < s.size then (0, 9, []) else match lexL s (s.size + 1) 0 [] with
  | .inl i => ((i : Int), 7, [])
  | .inr l => (0, 0, l ++ [endT s])
theorem refLex_l (n : Nat) (s : ByteArray) (hs : s.size ≤ 300) (hn : 2000 < n) (k2 : exK R (verdererref11_Read_dx 5)) : ∀ (f i m : Nat) (l : Toks), s.size ≤ i + f → f < m → i ≤ s.size → l.length ≤ i →
    runC (verdererref11_Read_l5 n) m (s, (i : Int), l, ()) k2 = match lexL s (f + 1) i l with
      | .inl j => k2.1 ((j : Int), 7, [], ())
      | .inr l' => k2.2.1 (s, l', ())
  | f, i, m, l, hf, hm, hi, hl => by
    obtain ⟨m, rfl⟩ : ∃ q, m = q + 1 := ⟨m - 1, by omega⟩
    show verdererref11_Read_l5 n (s, (i : Int), l, ()) (fun b => runC (verdererref11_Read_l5 n) m b k2) k2 = _
    by_cases h : i < s.size
    · obtain ⟨f, rfl⟩ : ∃ q, f = q + 1 := ⟨f - 1, by omega⟩
      have c1 : (i : Int) < (s.size : Int) := by omega
      have c0 : (0 : Int) ≤ (i : Int) := by omega
      have e32 : ((bt s i : Int) == 32) = decide (bt s i = 32) := beq_nat _ 32
      have e10 : ((bt s i : Int) == 10) = decide (bt s i = 10) := beq_nat _ 10
      have r1 : (0 : Int) ≤ (i : Int) ∧ (i : Int) ≤ (s.size : Int) := by omega
      rw [lexL, if_pos h]
      simp only [verdererref11_Read_l5, verdererref11_Read_s5, c1, c0, decide_true, if_true, byteAt_bt, e32, e10, wrap_succ i (by omega), r1, and_self, Int.toNat_natCast]
      have go := refLex_l n s hs hn k2 f (i + 1) m l (by omega) (by omega) (by omega) (by omega)
      by_cases h32 : bt s i = 32
      · rw [if_pos (decide_eq_true h32), if_pos (Or.inl h32)]
        exact go
      · by_cases h10 : bt s i = 10
        · rw [if_neg (by simpa using h32), if_pos (decide_eq_true h10), if_pos (Or.inr h10)]
          exact go
        · rw [if_neg (by simpa using h32), if_neg (by simpa using h10), if_neg (fun h => h.elim h32 h10)]
          have hz : (s.extract i s.size).size = s.size - i := by rw [ByteArray.size_extract]; omega
          obtain ⟨z, ho⟩ := refOne_F (R := R) n (s.extract i s.size) (by omega) (by omega) hn
          rw [ho]
          cases he : oneS (s.extract i s.size) with
          | none => rfl
          | some t =>
            obtain ⟨t1, t2⟩ := oneS_size (by omega) he
            have hw : IntKind.i64.wrap ((i : Int) + (t.2.1.size : Int)) = ((i + t.2.1.size : Nat) : Int) := by rw [wrap_i64 (by omega) (by omega)]; omega
            simp only [Bool.not_true, Bool.false_eq_true, if_false, hw, List.length_cons, List.length_nil]
            rw [if_pos (by omega)]
            exact refLex_l n s hs hn k2 f (i + t.2.1.size) m _ (by omega) (by omega) (by omega) (by simp; omega)
    · have c : ¬ (i : Int) < (s.size : Int) := by omega
      rw [lexL, if_neg h]
      simp only [verdererref11_Read_l5, verdererref11_Read_s5]
      rw [if_neg (by simpa using c)]
theorem lexL_len (s : ByteArray) : ∀ (f i : Nat) (l l' : Toks), i ≤ s.size → l.length ≤ i → lexL s f i l = .inr l' → l'.length ≤ s.size
  | 0, i, l, l', hi, hl, h => by injection h with h; rw [← h]; omega
  | f + 1, i, l, l', hi, hl, h => by
    unfold lexL at h
    split at h
    · rename_i hlt
      split at h
      · exact lexL_len s f (i + 1) l l' (by omega) (by omega) h
      · split at h
        · cases h
        · rename_i t he
          have hz : (s.extract i s.size).size = s.size - i := by rw [ByteArray.size_extract]; omega
          obtain ⟨t1, t2⟩ := oneS_size (by omega) he
          exact lexL_len s f (i + t.2.1.size) _ l' (by omega) (by simp; omega) h
    · injection h with h; rw [← h]; omega
theorem refLex_F (n : Nat) (s : ByteArray) (hn : 2000 < n) (k : Int → Int → Toks → Option R) : verdererref11_Read_F n s k = k (lexS s).1 (lexS s).2.1 (lexS s).2.2 := by
  rw [verdererref11_Read_e]
  unfold verdererref11_Read_Fi lexS
  by_cases h : 300 < s.size
  · have : (s.size : Int) > 300 := by omega
    rw [if_pos (decide_eq_true this), if_pos h]
  · have : ¬ (s.size : Int) > 300 := by omega
    rw [if_neg (by simpa using this), if_neg h]
    refine (refLex_l (R := R) n s (by omega) hn _ s.size 0 n [] (by omega) (by omega) (by omega) (by simp)).trans ?_
    cases he : lexL s (s.size + 1) 0 [] with
    | inl j => rfl
    | inr l =>
      have := lexL_len s _ _ _ _ (Nat.zero_le _) (by simp) he
      simp only [List.length_cons, List.length_nil]
      rw [if_pos (by omega)]
      rfl
/-- the tokens of a text that has some: at least the end; few -/
theorem lexS_rng (s : ByteArray) (h : (lexS s).2.1 = 0) : ∃ l, (lexS s).2.2 = l ++ [endT s] ∧ l.length ≤ 300 := by
  unfold lexS at h ⊢
  split
  · rename_i h1; rw [if_pos h1] at h; cases h
  · rename_i h1
    rw [if_neg h1] at h
    cases he : lexL s (s.size + 1) 0 [] with
    | inl j => rw [he] at h; cases h
    | inr l => exact ⟨l, rfl, by have := lexL_len s _ _ _ _ (Nat.zero_le _) (by simp) he; omega⟩
end Go.Proofs.YtnnbinmomendnaaGreatDoor.E
namespace Go.Proofs.YtnnbinmomendnaaGreatDoor.E
open Go.RowKit
variable {R : Type}
/-! the program's tokens, by the document's words -/
theorem scanN_congr (p q : Nat → Bool) : ∀ f i, (∀ j, i ≤ j → p j = q j) → scanN p f i = scanN q f i
  | 0, _, _ => rfl
  | f + 1, i, h => by
    unfold scanN
    rw [h i (Nat.le_refl _), scanN_congr p q f (i + 1) (fun j hj => h j (by omega))]
theorem scanN_one (p : Nat → Bool) (m : Nat) (h : p 0 = true) : scanN p (m + 1) 0 = scanN p m 1 := by
  rw [scanN, if_pos h]
theorem letP_F (n : Nat) (c : Nat) (k : Bool → Option R) : lex_letter_F n (c : Int) k = k (letN c) := by
  rw [lex_letter_e]
  unfold lex_letter_Fi letN
  by_cases h : 97 ≤ c
  · have : (c : Int) ≥ 97 := by omega
    have e : ((c : Int) ≤ 122) ↔ c ≤ 122 := by omega
    simp [h, this, e]
  · have : ¬ (c : Int) ≥ 97 := by omega
    simp [h, this]
theorem digP_F (n : Nat) (c : Nat) (k : Bool → Option R) : lex_digit_F n (c : Int) k = k (digN c) := by
  rw [lex_digit_e]
  unfold lex_digit_Fi digN
  by_cases h : 48 ≤ c
  · have : (c : Int) ≥ 48 := by omega
    have e : ((c : Int) ≤ 57) ↔ c ≤ 57 := by omega
    simp [h, this, e]
  · have : ¬ (c : Int) ≥ 48 := by omega
    simp [h, this]
def wcN (c : Nat) : Bool := letN c || (digN c || decide (c = 95))
theorem wcP_F (n : Nat) (c : Nat) (k : Bool → Option R) : lex_word_1_F n (c : Int) k = k (wcN c) := by
  rw [lex_word_1_e]
  unfold lex_word_1_Fi wcN
  rw [letP_F]
  have e95 : ((c : Int) == 95) = decide (c = 95) := beq_nat _ 95
  cases letN c with
  | true => rfl
  | false =>
    simp only [Bool.false_eq_true, if_false, Bool.false_or]
    rw [digP_F]
    cases digN c with
    | true => rfl
    | false => simp only [Bool.false_eq_true, if_false, Bool.false_or, e95]
def blN (c : Nat) : Bool := decide (c = 32) || decide (c = 10)
theorem blP_F (n : Nat) (c : Nat) (k : Bool → Option R) : lex_blank_F n (c : Int) k = k (blN c) := by
  rw [lex_blank_e]
  unfold lex_blank_Fi blN
  have e32 : ((c : Int) == 32) = decide (c = 32) := beq_nat _ 32
  have e10 : ((c : Int) == 10) = decide (c = 10) := beq_nat _ 10
  rw [e32, e10]
  by_cases h : c = 32 <;> simp [h]
theorem runW_F (n : Nat) (s : ByteArray) (i : Nat) (hs : s.size ≤ 1000) (hi : i ≤ s.size) (hn : 2000 < n) (k : Int → Option R) : lex_run_F n s (i : Int) k = k ((scanN (fun j => wcN (bt s j)) (s.size - i) i : Nat) : Int) := by
  rw [lex_run_e]
  unfold lex_run_Fi
  refine (runC_span (R := R) (step := lex_run_l1 n) (fun b2 => k b2.1, ()) (fun j => wcN (bt s j)) (fun i => (s, (i : Int), ())) s.size (fun i => k (i : Int)) (fun i hi k1 => ?_) (fun k1 => ?_) (i := i) hi (by omega)).trans rfl
  · have c1 : (i : Int) < (s.size : Int) := by omega
    have c0 : (0 : Int) ≤ (i : Int) := by omega
    simp only [lex_run_l1, lex_run_s1, c1, c0, decide_true, if_true, byteAt_bt, wcP_F, wrap_succ i (by omega)]
  · simp [lex_run_l1, lex_run_s1]
theorem runD_F (n : Nat) (s : ByteArray) (i : Nat) (hs : s.size ≤ 1000) (hi : i ≤ s.size) (hn : 2000 < n) (k : Int → Option R) : lex_run_v1_F n s (i : Int) k = k ((scanN (fun j => digN (bt s j)) (s.size - i) i : Nat) : Int) := by
  rw [lex_run_v1_e]
  unfold lex_run_v1_Fi
  refine (runC_span (R := R) (step := lex_run_v1_l1 n) (fun b2 => k b2.1, ()) (fun j => digN (bt s j)) (fun i => (s, (i : Int), ())) s.size (fun i => k (i : Int)) (fun i hi k1 => ?_) (fun k1 => ?_) (i := i) hi (by omega)).trans rfl
  · have c1 : (i : Int) < (s.size : Int) := by omega
    have c0 : (0 : Int) ≤ (i : Int) := by omega
    simp only [lex_run_v1_l1, lex_run_v1_s1, c1, c0, decide_true, if_true, byteAt_bt, digP_F, wrap_succ i (by omega)]
  · simp [lex_run_v1_l1, lex_run_v1_s1]
/-- where blanks end -/
def skN (s : ByteArray) (i : Nat) : Nat := scanN (fun j => blN (bt s j)) (s.size - i) i
theorem runB_F (n : Nat) (s : ByteArray) (i : Nat) (hs : s.size ≤ 1000) (hi : i ≤ s.size) (hn : 2000 < n) (k : Int → Option R) : lex_run_v2_F n s (i : Int) k = k ((skN s i : Nat) : Int) := by
  rw [lex_run_v2_e]
  unfold lex_run_v2_Fi skN
  refine (runC_span (R := R) (step := lex_run_v2_l1 n) (fun b2 => k b2.1, ()) (fun j => blN (bt s j)) (fun i => (s, (i : Int), ())) s.size (fun i => k (i : Int)) (fun i hi k1 => ?_) (fun k1 => ?_) (i := i) hi (by omega)).trans rfl
  · have c1 : (i : Int) < (s.size : Int) := by omega
    have c0 : (0 : Int) ≤ (i : Int) := by omega
    simp only [lex_run_v2_l1, lex_run_v2_s1, c1, c0, decide_true, if_true, byteAt_bt, blP_F, wrap_succ i (by omega)]
  · simp [lex_run_v2_l1, lex_run_v2_s1]
theorem skN_rng (s : ByteArray) (i : Nat) (h : i ≤ s.size) : i ≤ skN s i ∧ skN s i ≤ s.size := by
  have := scanN_le (fun j => blN (bt s j)) (s.size - i) i
  unfold skN
  omega
theorem wordN_eq (s : ByteArray) (h0 : 0 < s.size) (h : letN (bt s 0) = true) : scanN (fun j => wcN (bt s j)) (s.size - 1) 1 = wordN s := by
  obtain ⟨m, hm⟩ : ∃ m, s.size = m + 1 := ⟨s.size - 1, by omega⟩
  unfold wordN
  rw [hm, Nat.add_sub_cancel, scanN_one _ _ (by unfold wchN; rw [h]; rfl)]
  exact scanN_congr _ _ _ _ fun j hj => by unfold wcN wchN; rw [decide_eq_true (show 0 < j by omega), Bool.true_and]
theorem numN_eq (s : ByteArray) (h0 : 0 < s.size) (h : digN (bt s 0) = true ∨ bt s 0 = 45) : scanN (fun j => digN (bt s j)) (s.size - 1) 1 = numN s := by
  unfold numN
  by_cases h4 : bt s 0 = 45
  · rw [if_pos h4]
  · rw [if_neg h4]
    obtain ⟨m, hm⟩ : ∃ m, s.size = m + 1 := ⟨s.size - 1, by omega⟩
    rw [hm, Nat.add_sub_cancel, Nat.sub_zero, scanN_one _ _ (h.resolve_right h4)]
theorem constP_F (n : Nat) (s : ByteArray) (m : Nat) (hm : m ≤ s.size) (hs : s.size ≤ 1000) (hn : 2000 < n) (k : ty78.D → Bool → Option R) : lex_constant_F n s (m : Int) k = k (2, s.extract 0 m, (readV (s.extract 0 m)).1, 0, ()) ((readV (s.extract 0 m)).2 == 0) := by
  rw [lex_constant_e]
  unfold lex_constant_Fi
  have c : (0 : Int) ≤ (m : Int) ∧ (m : Int) ≤ (s.size : Int) := by omega
  rw [if_pos c, Int.toNat_natCast, readP_F n _ (by rw [ByteArray.size_extract]; omega) hn, if_pos c]
theorem constP_ex (n : Nat) (s : ByteArray) (m : Nat) (hm : m ≤ s.size) (hs : s.size ≤ 1000) (hn : 2000 < n) : ∃ z : ty78.D, ∀ k : ty78.D → Bool → Option R, lex_constant_F n s (m : Int) k = match constS s m with
    | some t => k t true
    | none => k z false := by
  refine ⟨(2, s.extract 0 m, (readV (s.extract 0 m)).1, 0, ()), fun k => ?_⟩
  rw [constP_F n s m hm hs hn]
  unfold constS
  by_cases h : (readV (s.extract 0 m)).2 = 0
  · rw [if_pos h, h]; rfl
  · rw [if_neg h, show ((readV (s.extract 0 m)).2 == 0) = false from by simpa using h]
theorem wordP_F (n : Nat) (s : ByteArray) (h0 : 0 < s.size) (hl : letN (bt s 0) = true) (hs : s.size ≤ 1000) (hn : 2000 < n) (k : ty78.D → Option R) : lex_word_F n s k = k (if (readV (s.extract 0 (wordN s))).2 = 0 then (2, s.extract 0 (wordN s), (readV (s.extract 0 (wordN s))).1, 0, ()) else (1, s.extract 0 (wordN s), zV, 0, ())) := by
  rw [lex_word_e]
  unfold lex_word_Fi
  rw [show (1 : Int) = ((1 : Nat) : Int) from rfl, runW_F n s 1 hs h0 hn, wordN_eq s h0 hl]
  have hw := wordN_rng s h0 hl
  rw [if_pos (by omega), Int.toNat_natCast, readP_F n _ (by rw [ByteArray.size_extract]; omega) hn]
  by_cases h : (readV (s.extract 0 (wordN s))).2 = 0
  · rw [if_pos h, h]; rfl
  · rw [if_neg h, if_neg (by simpa using h)]; rfl
theorem numP_F (n : Nat) (s : ByteArray) (h0 : 0 < s.size) (hd : digN (bt s 0) = true ∨ bt s 0 = 45) (hs : s.size ≤ 1000) (hn : 2000 < n) : ∃ z : ty78.D, ∀ k : ty78.D → Bool → Option R, lex_number_F n s k = match (if numN s < s.size ∧ (letN (bt s (numN s)) = true ∨ bt s (numN s) = 95) then none else constS s (numN s)) with
    | some t => k t true
    | none => k z false := by
  have hr := numN_rng s h0 hd
  obtain ⟨z, hz⟩ := constP_ex (R := R) n s (numN s) hr.2 hs hn
  have e95 : ((bt s (numN s) : Int) == 95) = decide (bt s (numN s) = 95) := beq_nat _ 95
  have start : ∀ k : ty78.D → Bool → Option R, lex_number_F n s k = if (decide (((numN s : Nat) : Int) < (s.size : Int))) = true then (if (0 : Int) ≤ ((numN s : Nat) : Int) then if ((numN s : Nat) : Int) < (s.size : Int) then (lex_letter_F n (byteAt s ((numN s : Nat) : Int)) (fun y2 => if y2 = true then (k (0, (⟨#[]⟩ : ByteArray), (0, false, 0, (⟨#[]⟩ : ByteArray), ()), 0, ()) false) else (if (0 : Int) ≤ ((numN s : Nat) : Int) then if ((numN s : Nat) : Int) < (s.size : Int) then (if ((byteAt s ((numN s : Nat) : Int)) == 95) = true then (k (0, (⟨#[]⟩ : ByteArray), (0, false, 0, (⟨#[]⟩ : ByteArray), ()), 0, ()) false) else (lex_constant_F n s ((numN s : Nat) : Int) (fun y3 y4 => k y3 y4))) else none else none))) else none else none) else (lex_constant_F n s ((numN s : Nat) : Int) (fun y5 y6 => k y5 y6)) := by
    intro k
    rw [lex_number_e]
    unfold lex_number_Fi
    rw [show (1 : Int) = ((1 : Nat) : Int) from rfl, runD_F n s 1 hs h0 hn, numN_eq s h0 hd]
  by_cases hlt : numN s < s.size
  · have g1 : ((numN s : Nat) : Int) < (s.size : Int) := by omega
    have g0 : (0 : Int) ≤ ((numN s : Nat) : Int) := by omega
    by_cases hb : letN (bt s (numN s)) = true ∨ bt s (numN s) = 95
    · refine ⟨(0, (⟨#[]⟩ : ByteArray), zV, 0, ()), fun k => ?_⟩
      have e : (if numN s < s.size ∧ (letN (bt s (numN s)) = true ∨ bt s (numN s) = 95) then (none : Option ty78.D) else constS s (numN s)) = none := if_pos ⟨hlt, hb⟩
      refine Eq.trans ?_ (show k (0, (⟨#[]⟩ : ByteArray), zV, 0, ()) false = match (if numN s < s.size ∧ (letN (bt s (numN s)) = true ∨ bt s (numN s) = 95) then (none : Option ty78.D) else constS s (numN s)) with | some t => k t true | none => k (0, (⟨#[]⟩ : ByteArray), zV, 0, ()) false from by rw [e])
      rw [start]
      simp only [g1, g0, decide_true, if_true, byteAt_bt, letP_F, e95]
      by_cases hl : letN (bt s (numN s)) = true
      · simp only [hl, if_true]; rfl
      · have h95 := hb.resolve_left hl
        have hl' : letN (bt s (numN s)) = false := by simpa using hl
        simp only [hl', Bool.false_eq_true, if_false, decide_eq_true h95, if_true]; rfl
    · refine ⟨z, fun k => ?_⟩
      have hl : letN (bt s (numN s)) = false := by
        cases h : letN (bt s (numN s)) with
        | false => rfl
        | true => exact absurd (.inl h) hb
      have h95 : ¬ bt s (numN s) = 95 := fun h => hb (.inr h)
      have e : (if numN s < s.size ∧ (letN (bt s (numN s)) = true ∨ bt s (numN s) = 95) then (none : Option ty78.D) else constS s (numN s)) = constS s (numN s) := if_neg (fun h => hb h.2)
      refine Eq.trans ?_ ((hz k).trans (show (match constS s (numN s) with | some t => k t true | none => k z false) = match (if numN s < s.size ∧ (letN (bt s (numN s)) = true ∨ bt s (numN s) = 95) then (none : Option ty78.D) else constS s (numN s)) with | some t => k t true | none => k z false from by rw [e]; cases constS s (numN s) <;> rfl))
      rw [start]
      simp only [g1, g0, decide_true, if_true, byteAt_bt, letP_F, e95, hl, Bool.false_eq_true, if_false, h95, decide_false]
  · refine ⟨z, fun k => ?_⟩
    have g1 : ¬ ((numN s : Nat) : Int) < (s.size : Int) := by omega
    have e : (if numN s < s.size ∧ (letN (bt s (numN s)) = true ∨ bt s (numN s) = 95) then (none : Option ty78.D) else constS s (numN s)) = constS s (numN s) := if_neg (fun h => hlt h.1)
    refine Eq.trans ?_ ((hz k).trans (show (match constS s (numN s) with | some t => k t true | none => k z false) = match (if numN s < s.size ∧ (letN (bt s (numN s)) = true ∨ bt s (numN s) = 95) then (none : Option ty78.D) else constS s (numN s)) with | some t => k t true | none => k z false from by rw [e]; cases constS s (numN s) <;> rfl))
    rw [start]
    simp only [g1, decide_false, Bool.false_eq_true, if_false]
/-- where a quoted text ends -/
theorem quoP_l (n : Nat) (s : ByteArray) (hs : s.size ≤ 1000) (hn : 2000 < n) (k2 : exK R (lex_quoted_dx 2)) : ∀ (f m i : Nat), s.size ≤ i + f → f + 2 < m → i ≤ s.size + 2 →
    runC (lex_quoted_l2 n) m (s, (i : Int), 0, (⟨#[]⟩ : ByteArray), 0, false, 0, (⟨#[]⟩ : ByteArray), 0, ()) k2 = if 0 < textN s (f + 1) i then lex_constant_F n s ((textN s (f + 1) i : Nat) : Int) (fun y1 y2 => k2.1 (y2, y1.1, y1.2.1, y1.2.2.1.1, y1.2.2.1.2.1, y1.2.2.1.2.2.1, y1.2.2.1.2.2.2.1, y1.2.2.2.1, ())) else k2.2.1 (0, (⟨#[]⟩ : ByteArray), 0, false, 0, (⟨#[]⟩ : ByteArray), 0, ())
  | f, m, i, hf, hm, hi => by
    obtain ⟨m, rfl⟩ : ∃ q, m = q + 1 := ⟨m - 1, by omega⟩
    show lex_quoted_l2 n (s, (i : Int), 0, (⟨#[]⟩ : ByteArray), 0, false, 0, (⟨#[]⟩ : ByteArray), 0, ()) (fun b => runC (lex_quoted_l2 n) m b k2) k2 = _
    simp only [lex_quoted_l2, lex_quoted_s2]
    by_cases hlt : i < s.size
    · obtain ⟨f, rfl⟩ : ∃ q, f = q + 1 := ⟨f - 1, by omega⟩
      have c1 : (i : Int) < (s.size : Int) := by omega
      have c0 : (0 : Int) ≤ (i : Int) := by omega
      have e34 : ((bt s i : Int) == 34) = decide (bt s i = 34) := beq_nat _ 34
      have e92 : ((bt s i : Int) == 92) = decide (bt s i = 92) := beq_nat _ 92
      have w1' : IntKind.i64.wrap (((i + 1 : Nat) : Int) + 1) = ((i + 2 : Nat) : Int) := wrap_succ (i + 1) (by omega)
      simp only [c1, c0, decide_true, if_true, byteAt_bt, e34, e92, wrap_succ i (by omega), w1']
      by_cases h34 : bt s i = 34
      · have h92 : ¬ bt s i = 92 := by omega
        have et : textN s (f + 1 + 1) i = i + 1 := by rw [textN, if_pos hlt, if_neg h92, if_pos h34]
        rw [et, if_pos (decide_eq_true h34), if_pos (by omega)]
      · by_cases h92 : bt s i = 92
        · have et : textN s (f + 1 + 1) i = textN s (f + 1) (i + 2) := by rw [textN, if_pos hlt, if_pos h92]
          rw [et, if_neg (by simpa using h34), if_pos (decide_eq_true h92)]
          exact quoP_l n s hs hn k2 f m (i + 2) (by omega) (by omega) (by omega)
        · have et : textN s (f + 1 + 1) i = textN s (f + 1) (i + 1) := by rw [textN, if_pos hlt, if_neg h92, if_neg h34]
          rw [et, if_neg (by simpa using h34), if_neg (by simpa using h92)]
          exact quoP_l n s hs hn k2 f m (i + 1) (by omega) (by omega) (by omega)
    · have c1 : ¬ (i : Int) < (s.size : Int) := by omega
      have et : textN s (f + 1) i = 0 := by rw [textN, if_neg hlt]
      rw [et, if_neg (by simpa using c1), if_neg (by omega)]
theorem quoP_F (n : Nat) (s : ByteArray) (h0 : 0 < s.size) (hs : s.size ≤ 1000) (hn : 2000 < n) : ∃ z : ty78.D, ∀ k : ty78.D → Bool → Option R, lex_quoted_F n s k = match (if 0 < textN s (s.size + 1) 1 then constS s (textN s (s.size + 1) 1) else none) with
    | some t => k t true
    | none => k z false := by
  obtain ⟨z, hz⟩ := constP_ex (R := R) n s (textN s (s.size + 1) 1) (textN_le s _ _) hs hn
  have start : ∀ k : ty78.D → Bool → Option R, lex_quoted_F n s k = if 0 < textN s (s.size + 1) 1 then lex_constant_F n s ((textN s (s.size + 1) 1 : Nat) : Int) k else k (0, (⟨#[]⟩ : ByteArray), zV, 0, ()) false := by
    intro k
    rw [lex_quoted_e]
    unfold lex_quoted_Fi
    refine (quoP_l n s hs hn _ s.size n 1 (by omega) (by omega) (by omega)).trans ?_
    rfl
  by_cases h : 0 < textN s (s.size + 1) 1
  · refine ⟨z, fun k => ?_⟩
    have e : (if 0 < textN s (s.size + 1) 1 then constS s (textN s (s.size + 1) 1) else none) = constS s (textN s (s.size + 1) 1) := if_pos h
    rw [e, start, if_pos h]
    exact hz k
  · refine ⟨(0, (⟨#[]⟩ : ByteArray), zV, 0, ()), fun k => ?_⟩
    have e : (if 0 < textN s (s.size + 1) 1 then constS s (textN s (s.size + 1) 1) else none) = none := if_neg h
    rw [e, start, if_neg h]
/-! signs -/
def hasP (s p : ByteArray) : Bool := decide (p.size ≤ s.size) && decide (s.extract 0 p.size = p)
theorem hasP_F (n : Nat) (s p : ByteArray) (k : Bool → Option R) : strings_HasPrefix_F n s p k = k (hasP s p) := by
  rw [strings_HasPrefix_e]
  unfold strings_HasPrefix_Fi
  rw [stringslite_HasPrefix_e]
  unfold stringslite_HasPrefix_Fi hasP
  by_cases h : p.size ≤ s.size
  · have g : (s.size : Int) ≥ (p.size : Int) := by omega
    have g2 : (0 : Int) ≤ (p.size : Int) ∧ (p.size : Int) ≤ (s.size : Int) := by omega
    rw [if_pos (decide_eq_true g), if_pos g2, Int.toNat_natCast, beqB, decide_eq_true h, Bool.true_and]
  · have g : ¬ (s.size : Int) ≥ (p.size : Int) := by omega
    rw [if_neg (by simpa using g), decide_eq_false h, Bool.false_and]
def sgnL : List ByteArray := [(⟨#[61, 61]⟩ : ByteArray), (⟨#[33, 61]⟩ : ByteArray), (⟨#[60, 61]⟩ : ByteArray), (⟨#[62, 61]⟩ : ByteArray), (⟨#[60]⟩ : ByteArray), (⟨#[62]⟩ : ByteArray), (⟨#[40]⟩ : ByteArray), (⟨#[41]⟩ : ByteArray), (⟨#[44]⟩ : ByteArray), (⟨#[95]⟩ : ByteArray)]
theorem sgnP_l (n : Nat) (s : ByteArray) (k2 : exK R (lex_sign_dx 2)) : ∀ (l : List ByteArray) (i m : Nat), i + l.length = 10 → sgnL.drop i = l → l.length < m →
    runC (lex_sign_l2 n) m (s, ((10 : Nat) : Int), (i : Int), 0, (⟨#[]⟩ : ByteArray), 0, false, 0, (⟨#[]⟩ : ByteArray), 0, sgnL, ()) k2 = match l.find? (hasP s) with
      | some w => k2.1 (true, 3, w, 0, false, 0, (⟨#[]⟩ : ByteArray), 0, ())
      | none => k2.2.1 (0, (⟨#[]⟩ : ByteArray), 0, false, 0, (⟨#[]⟩ : ByteArray), 0, ())
  | [], i, m, hi, hd, hm => by
    obtain ⟨m, rfl⟩ : ∃ q, m = q + 1 := ⟨m - 1, by omega⟩
    show lex_sign_l2 n (s, ((10 : Nat) : Int), (i : Int), 0, (⟨#[]⟩ : ByteArray), 0, false, 0, (⟨#[]⟩ : ByteArray), 0, sgnL, ()) (fun b => runC (lex_sign_l2 n) m b k2) k2 = _
    simp only [List.length_nil] at hi
    have c : ¬ (i : Int) < ((10 : Nat) : Int) := by omega
    simp only [lex_sign_l2, lex_sign_s2]
    rw [if_neg (by simpa using c)]
    rfl
  | w :: l, i, m, hi, hd, hm => by
    obtain ⟨m, rfl⟩ : ∃ q, m = q + 1 := ⟨m - 1, by omega⟩
    show lex_sign_l2 n (s, ((10 : Nat) : Int), (i : Int), 0, (⟨#[]⟩ : ByteArray), 0, false, 0, (⟨#[]⟩ : ByteArray), 0, sgnL, ()) (fun b => runC (lex_sign_l2 n) m b k2) k2 = _
    simp only [List.length_cons] at hi hm
    have c : (i : Int) < ((10 : Nat) : Int) := by omega
    have hsl : sgnL.length = 10 := rfl
    have c2 : (0 : Int) ≤ (i : Int) ∧ (i : Int) < (sgnL.length : Int) := by rw [hsl]; omega
    have c3 : Int.toNat (i : Int) < sgnL.length := by rw [hsl, Int.toNat_natCast]; omega
    have hw : sgnL.getD i (Ty.z .str) = w := by
      have := congrArg (fun l => l[0]?) hd
      simp only [List.getElem?_drop, Nat.add_zero, List.getElem?_cons_zero] at this
      rw [List.getD_eq_getElem?_getD, this]
      rfl
    simp only [lex_sign_l2, lex_sign_s2]
    rw [if_pos (decide_eq_true c), if_pos c2, if_pos c3, Int.toNat_natCast, hasP_F, hw, wrap_succ i (by omega), List.find?_cons]
    cases hh : hasP s w with
    | true => rfl
    | false =>
      simp only [Bool.false_eq_true, if_false]
      exact sgnP_l n s k2 l (i + 1) m (by omega) (by rw [← List.drop_drop, hd]; rfl) (by omega)
end Go.Proofs.YtnnbinmomendnaaGreatDoor.E
namespace Go.Proofs.YtnnbinmomendnaaGreatDoor.E
open Go.RowKit
variable {R : Type}
theorem ext0 (s : ByteArray) (k : Nat) : (s.extract 0 k).data.toList = s.data.toList.take k := by simp
theorem has1 (s : ByteArray) (h0 : 0 < s.size) (c : UInt8) : hasP s ⟨#[c]⟩ = decide (bt s 0 = c.toNat) := by
  unfold hasP bt
  rw [ba_size] at h0
  obtain ⟨x, r, hl⟩ : ∃ x r, s.data.toList = x :: r := by
    cases h : s.data.toList with
    | nil => rw [h] at h0; simp at h0
    | cons x r => exact ⟨x, r, rfl⟩
  have e1 : (⟨#[c]⟩ : ByteArray).size = 1 := rfl
  rw [e1, decide_eq_true (by rw [ba_size, hl]; simp), Bool.true_and, hl]
  simp only [List.getD_cons_zero]
  rw [decide_eq_decide]
  constructor
  · intro h
    have := congrArg (fun s : ByteArray => s.data.toList) h
    simp only [ext0, hl] at this
    injection this with h1 _
    rw [h1]
  · intro h
    apply ba_eq
    rw [ext0, hl, UInt8.toNat_inj.1 h]
    rfl
theorem has2 (s : ByteArray) (c d : UInt8) : hasP s ⟨#[c, d]⟩ = (decide (2 ≤ s.size) && (decide (bt s 0 = c.toNat) && decide (bt s 1 = d.toNat))) := by
  unfold hasP bt
  have e1 : (⟨#[c, d]⟩ : ByteArray).size = 2 := rfl
  rw [e1]
  by_cases h2 : 2 ≤ s.size
  · rw [decide_eq_true h2, Bool.true_and, Bool.true_and]
    rw [ba_size] at h2
    obtain ⟨x, y, r, hl⟩ : ∃ x y r, s.data.toList = x :: y :: r := by
      cases h : s.data.toList with
      | nil => rw [h] at h2; simp at h2
      | cons x r => cases r with
        | nil => rw [h] at h2; simp at h2
        | cons y r => exact ⟨x, y, r, rfl⟩
    rw [hl]
    simp only [List.getD_cons_zero, List.getD_cons_succ]
    rw [← Bool.decide_and, decide_eq_decide]
    constructor
    · intro h
      have := congrArg (fun s : ByteArray => s.data.toList) h
      simp only [ext0, hl] at this
      injection this with h1 h3
      injection h3 with h3 _
      exact ⟨by rw [h1], by rw [h3]⟩
    · intro h
      apply ba_eq
      rw [ext0, hl, UInt8.toNat_inj.1 h.1, UInt8.toNat_inj.1 h.2]
      rfl
  · rw [decide_eq_false h2, Bool.false_and, Bool.false_and]
theorem hasP_ext {s w : ByteArray} (h : hasP s w = true) : w = s.extract 0 w.size := by
  unfold hasP at h
  simp only [Bool.and_eq_true, decide_eq_true_eq] at h
  exact h.2.symm
theorem sgn_find (s : ByteArray) (h0 : 0 < s.size) : sgnL.find? (hasP s) = if 0 < signN s then some (s.extract 0 (signN s)) else none := by
  have two : ∀ (c d : UInt8), 2 ≤ s.size → bt s 0 = c.toNat → bt s 1 = d.toNat → s.extract 0 2 = ⟨#[c, d]⟩ := fun c d h1 h2 h3 => (hasP_ext (w := ⟨#[c, d]⟩) (by rw [has2, decide_eq_true h1, decide_eq_true h2, decide_eq_true h3]; rfl)).symm
  have one : ∀ (c : UInt8), bt s 0 = c.toNat → s.extract 0 1 = ⟨#[c]⟩ := fun c h2 => (hasP_ext (w := ⟨#[c]⟩) (by rw [has1 s h0, decide_eq_true h2])).symm
  unfold sgnL signN
  simp only [List.find?, has1 s h0, has2, show (61 : UInt8).toNat = 61 from rfl, show (33 : UInt8).toNat = 33 from rfl, show (60 : UInt8).toNat = 60 from rfl, show (62 : UInt8).toNat = 62 from rfl, show (40 : UInt8).toNat = 40 from rfl, show (41 : UInt8).toNat = 41 from rfl, show (44 : UInt8).toNat = 44 from rfl, show (95 : UInt8).toNat = 95 from rfl]
  have hc : bt s 0 = 61 ∨ bt s 0 = 33 ∨ bt s 0 = 60 ∨ bt s 0 = 62 ∨ bt s 0 = 40 ∨ bt s 0 = 41 ∨ bt s 0 = 44 ∨ bt s 0 = 95 ∨ (bt s 0 ≠ 61 ∧ bt s 0 ≠ 33 ∧ bt s 0 ≠ 60 ∧ bt s 0 ≠ 62 ∧ bt s 0 ≠ 40 ∧ bt s 0 ≠ 41 ∧ bt s 0 ≠ 44 ∧ bt s 0 ≠ 95) := by omega
  by_cases h2 : 2 ≤ s.size
  · by_cases hb : bt s 1 = 61
    · rcases hc with h | h | h | h | h | h | h | h | ⟨g1, g2, g3, g4, g5, g6, g7, g8⟩
      · simp [h, hb, h2, two 61 61 h2 h hb]
      · simp [h, hb, h2, two 33 61 h2 h hb]
      · simp [h, hb, h2, two 60 61 h2 h hb]
      · simp [h, hb, h2, two 62 61 h2 h hb]
      · simp [h, hb, h2, one 40 h]
      · simp [h, hb, h2, one 41 h]
      · simp [h, hb, h2, one 44 h]
      · simp [h, hb, h2, one 95 h]
      · simp [g1, g2, g3, g4, g5, g6, g7, g8, hb, h2]
    · rcases hc with h | h | h | h | h | h | h | h | ⟨g1, g2, g3, g4, g5, g6, g7, g8⟩
      · simp [h, hb, h2]
      · simp [h, hb, h2]
      · simp [h, hb, h2, one 60 h]
      · simp [h, hb, h2, one 62 h]
      · simp [h, hb, h2, one 40 h]
      · simp [h, hb, h2, one 41 h]
      · simp [h, hb, h2, one 44 h]
      · simp [h, hb, h2, one 95 h]
      · simp [g1, g2, g3, g4, g5, g6, g7, g8, hb, h2]
  · rcases hc with h | h | h | h | h | h | h | h | ⟨g1, g2, g3, g4, g5, g6, g7, g8⟩
    · simp [h, h2]
    · simp [h, h2]
    · simp [h, h2, one 60 h]
    · simp [h, h2, one 62 h]
    · simp [h, h2, one 40 h]
    · simp [h, h2, one 41 h]
    · simp [h, h2, one 44 h]
    · simp [h, h2, one 95 h]
    · simp [g1, g2, g3, g4, g5, g6, g7, g8, h2]
theorem sgnP_F (n : Nat) (s : ByteArray) (h0 : 0 < s.size) (hn : 2000 < n) (k : ty78.D → Bool → Option R) : lex_sign_F n s k = if 0 < signN s then k (3, s.extract 0 (signN s), zV, 0, ()) true else k (0, (⟨#[]⟩ : ByteArray), zV, 0, ()) false := by
  rw [lex_sign_e]
  unfold lex_sign_Fi
  refine (sgnP_l n s _ sgnL 0 n rfl rfl (by show 10 < n; omega)).trans ?_
  rw [sgn_find s h0]
  by_cases h : 0 < signN s
  · rw [if_pos h, if_pos h]; rfl
  · rw [if_neg h, if_neg h]; rfl
theorem firstP_F (n : Nat) (s : ByteArray) (h0 : 0 < s.size) (hs : s.size ≤ 1000) (hn : 2000 < n) : ∃ z : ty78.D, ∀ k : ty78.D → Bool → Option R, lex_first_F n s k = match oneS s with
    | some t => k t true
    | none => k z false := by
  have c1 : (0 : Int) < (s.size : Int) := by omega
  have e45 : ((bt s 0 : Int) == 45) = decide (bt s 0 = 45) := beq_nat _ 45
  have e34 : ((bt s 0 : Int) == 34) = decide (bt s 0 = 34) := beq_nat _ 34
  have start : ∀ k : ty78.D → Bool → Option R, lex_first_F n s k = if letN (bt s 0) = true then lex_word_F n s (fun y2 => k y2 true) else (if digN (bt s 0) = true ∨ bt s 0 = 45 then lex_number_F n s k else (if bt s 0 = 34 then lex_quoted_F n s k else lex_sign_F n s k)) := by
    intro k
    rw [lex_first_e]
    unfold lex_first_Fi
    simp only [Int.le_refl, if_true, c1, byteAt_0, letP_F, digP_F, e45, e34]
    by_cases hl : letN (bt s 0) = true
    · simp only [hl, if_true]
    · simp only [hl, Bool.false_eq_true, if_false]
      by_cases hd : digN (bt s 0) = true
      · simp only [hd, if_true, true_or]
      · by_cases h4 : bt s 0 = 45
        · rw [if_neg hd, if_pos (decide_eq_true h4), if_pos (.inr h4)]
        · simp only [hd, h4, decide_false, Bool.false_eq_true, if_false, or_self]
          by_cases h3 : bt s 0 = 34
          · simp only [h3, decide_true, if_true]
          · simp only [h3, decide_false, Bool.false_eq_true, if_false]
  unfold oneS
  by_cases hl : letN (bt s 0) = true
  · refine ⟨(0, (⟨#[]⟩ : ByteArray), zV, 0, ()), fun k => ?_⟩
    rw [start, if_pos hl, wordP_F n s h0 hl hs hn, if_pos hl]
    by_cases h : (readV (s.extract 0 (wordN s))).2 = 0
    · rw [if_pos h, if_pos h]
    · rw [if_neg h, if_neg h]
  · by_cases hd : digN (bt s 0) = true ∨ bt s 0 = 45
    · obtain ⟨z, hz⟩ := numP_F (R := R) n s h0 hd hs hn
      refine ⟨z, fun k => ?_⟩
      rw [start, if_neg hl, if_pos hd, if_neg hl, if_pos hd]
      exact hz k
    · by_cases h3 : bt s 0 = 34
      · obtain ⟨z, hz⟩ := quoP_F (R := R) n s h0 hs hn
        refine ⟨z, fun k => ?_⟩
        rw [start, if_neg hl, if_neg hd, if_pos h3, if_neg hl, if_neg hd, if_pos h3]
        exact hz k
      · refine ⟨(0, (⟨#[]⟩ : ByteArray), zV, 0, ()), fun k => ?_⟩
        rw [start, if_neg hl, if_neg hd, if_neg h3, if_neg hl, if_neg hd, if_neg h3, sgnP_F n s h0 hn]
        by_cases h : 0 < signN s
        · rw [if_pos h, if_pos h]
        · rw [if_neg h, if_neg h]
end Go.Proofs.YtnnbinmomendnaaGreatDoor.E
/- The iterator lex.tokens, walked by hand. -/
namespace Go.Proofs.YtnnbinmomendnaaGreatDoor
open Go.RowKit Go.Shelf
attribute [local go_sem] Oper.semAt_some
abbrev Tok := E.ty78.D
def tokC (t : Tok) : Array Value := #[.int .i64 t.1, .string t.2.1, .int .i64 t.2.2.1.1, .bool t.2.2.1.2.1, .int .i64 t.2.2.1.2.2.1, .string t.2.2.1.2.2.2.1, .int .i64 t.2.2.2.1]
def encX (x : Tok × Bool) : Array Value := #[.agg (tokC x.1), .bool x.2]
def setAt (t : Tok) (i : Int) : Tok := (t.1, t.2.1, t.2.2.1, i, ())
/-- the block of the row that a box's slice holds -/
def rowOf (b5 : Nat) (W : World) : Option Nat := (W.cell? ⟨b5, 0, none⟩).bind Value.ownBlock
def OKW (b5 m : Nat) (W : World) : Prop := ∀ r, rowOf b5 W = some r → m ≤ r ∧ r < W.heap.size
/-- what a round leaves alone -/
structure Kp (b5 m : Nat) (A B : World) : Prop where
  ok : OKW b5 m A → OKW b5 m B
  size : A.heap.size ≤ B.heap.size
  low : ∀ k, k < m → k ≠ b5 → B.heap[k]? = A.heap[k]?
  own : ∀ k o, A.heap[k]? = some o → o.isCells = true → k ≠ b5 → rowOf b5 A ≠ some k → B.heap[k]? = some o
  row : ∀ r, rowOf b5 B = some r → rowOf b5 A = some r ∨ A.heap.size ≤ r
theorem Kp.trans {b5 m : Nat} {A B C : World} (h : Kp b5 m A B) (k : Kp b5 m B C) : Kp b5 m A C := by
  refine ⟨fun o => k.ok (h.ok o), Nat.le_trans h.size k.size, fun j h1 h2 => (k.low j h1 h2).trans (h.low j h1 h2), fun j o h1 h2 h3 h4 => k.own j o (h.own j o h1 h2 h3 h4) h2 h3 (fun e => ?_), fun r hr => ?_⟩
  · rcases h.row j e with e | e
    · exact h4 e
    · have := (Array.getElem?_eq_some_iff.1 h1).1; omega
  · rcases k.row r hr with e | e
    · exact h.row r e
    · exact .inr (Nat.le_trans h.size e)
theorem rowOf_same {b5 : Nat} {A B : World} (h : B.heap[b5]? = A.heap[b5]?) : rowOf b5 B = rowOf b5 A := by
  unfold rowOf World.cell?
  rw [show (⟨b5, 0, none⟩ : Addr).block = b5 from rfl, h]
theorem OKW.grow {b5 m : Nat} {A B : World} (h : OKW b5 m A) (hb : B.heap[b5]? = A.heap[b5]?) (hs : A.heap.size ≤ B.heap.size) : OKW b5 m B := fun r hr => by
  rw [rowOf_same hb] at hr
  have := h r hr
  exact ⟨this.1, by omega⟩
theorem Kp.book {b5 m : Nat} {w : World} (hb : b5 < w.heap.size) (hm : m ≤ w.heap.size) (W : World) (l : Nat) (o o' : Obj) (hl : w.heap.size ≤ l) (h : W.heap[l]? = some o) (hc : o.isCells = false) (_ : o.isWalk = false) : Kp b5 m W (W.putObj l o') := by
  have hs : (W.putObj l o').heap.size = W.heap.size := by simp
  have e5 : (W.putObj l o').heap[b5]? = W.heap[b5]? := World.putObj_heap_other (by omega)
  refine ⟨fun ok => ok.grow e5 (by omega), by omega, fun k h1 h2 => World.putObj_heap_other (by omega), fun k o1 h1 h2 _ _ => (World.putObj_heap_other (fun e => ?_)).trans h1, fun r hr => .inl (by rw [rowOf_same e5] at hr; exact hr)⟩
  subst e
  rw [h] at h1
  injection h1 with h1
  subst h1
  rw [hc] at h2
  cases h2
section
variable (sk : ByteArray → Nat → Nat) (one : ByteArray → Option Tok)
/-- the tokens that came, and where the text goes on -/
inductive Pre (s : ByteArray) : Nat → List (Tok × Bool) → Prop
  | nil : Pre s (sk s 0) []
  | cons {i : Nat} {pre : List (Tok × Bool)} {t : Tok} : Pre s i pre → i < s.size → one (s.extract i s.size) = some t → Pre s (sk s (i + t.2.1.size)) (pre ++ [(setAt t i, true)])
def Whole (s : ByteArray) (xs : List (Tok × Bool)) : Prop :=
  Pre sk one s s.size xs ∨ ∃ i pre z, Pre sk one s i pre ∧ i < s.size ∧ one (s.extract i s.size) = none ∧ xs = pre ++ [(setAt z i, false)]
def Part (s : ByteArray) (xs : List (Tok × Bool)) : Prop :=
  ∃ i pre z ok, Pre sk one s i pre ∧ i < s.size ∧ (ok = true → one (s.extract i s.size) = some z) ∧ (ok = false → one (s.extract i s.size) = none) ∧ xs = pre ++ [(setAt z i, ok)]
/-- what is known of the two functions that the iterator calls -/
structure Calls2 : Prop where
  sk1 : ∀ s i, i ≤ s.size → i ≤ sk s i ∧ sk s i ≤ s.size
  one1 : ∀ s t, 0 < s.size → one s = some t → 1 ≤ t.2.1.size ∧ t.2.1.size ≤ s.size
  run : ∀ (s : ByteArray) (i : Nat) (w : World), s.size ≤ 300 → i ≤ s.size → E.LayC w → (∀ g ∈ E.layG, g < w.heap.size) → Calls Tryz.prog 56 #[.string s, .int .i64 i, .func (.func 57) #[] #[]] w fun e w' => e = .returned (.int .i64 (sk s i : Nat)) ∧ Below w.heap.size w w'
  first : ∀ (s : ByteArray) (w : World), 0 < s.size → s.size ≤ 300 → E.LayC w → (∀ g ∈ E.layG, g < w.heap.size) → Calls Tryz.prog 58 #[.string s] w fun e w' => (∃ t ok, (ok = true → one s = some t) ∧ (ok = false → one s = none) ∧ e = .returned (.tuple #[.agg (tokC t), .bool ok])) ∧ Below w.heap.size w w'
variable {sk one}
theorem Pre.len (C : Calls2 sk one) {s : ByteArray} {i : Nat} {pre : List (Tok × Bool)} (h : Pre sk one s i pre) : i ≤ s.size ∧ pre.length ≤ i := by
  induction h with
  | nil => exact ⟨(C.sk1 s 0 (Nat.zero_le _)).2, Nat.zero_le _⟩
  | @cons i pre t h1 h2 h3 ih =>
    have := C.one1 _ t (by rw [ByteArray.size_extract]; omega) h3
    rw [ByteArray.size_extract] at this
    have h4 := C.sk1 s (i + t.2.1.size) (by omega)
    exact ⟨h4.2, by rw [List.length_append, List.length_singleton]; omega⟩
theorem grownBy_below {W W' : World} (h : Below W.heap.size W W') : W.grownBy W' none := ⟨h.os, h.tape, h.output, h.size, fun k hk _ => h.block k hk⟩
set_option maxRecDepth 100000 in
set_option maxHeartbeats 2000000 in
theorem it_in (C : Calls2 sk one) (n : Nat) (hn : 1 ≤ n) (l Bs b5 m : Nat) (hBs : Bs < m) (hne : Bs ≠ b5) (h5 : b5 < m) (hlay : ∀ g ∈ E.layG, g < m ∧ g ≠ b5) (s : ByteArray) (hs : s.size ≤ 300) (J Jx : List (Tok × Bool) → World → Prop)
    (hY : ∀ pre x W, J pre W → pre.length < 301 → YieldAt Fence.wide (n - 1) Tryz.prog l (encX x) W fun e W' =>
      (e = .returned (.bool true) ∧ J (pre ++ [x]) W' ∧ Kp b5 m W W') ∨ (e = .returned (.bool false) ∧ Jx (pre ++ [x]) W'))
    (W : World) (hok : OKW b5 m W) (hm : m ≤ W.heap.size) (hc : E.LayC W) (hbox : W.heap[Bs]? = some (.cells #[.string s] 9 (0, 0))) (hJ : AbidesFrom W.heap.size J) (h0 : J [] W) :
    CallsIn Fence.wide n Tryz.prog 55 #[.func (.yield l) #[] #[], .pointer (some ⟨Bs, 0, none⟩)] W fun e W' => (∃ v, e = .returned v) ∧
      ((∃ xs, Whole sk one s xs ∧ J xs W') ∨ (∃ pre, Part sk one s pre ∧ Jx pre W')) := by
  have hcell : W.cell? ⟨Bs, 0, none⟩ = some (.string s) := by simp [World.cell?, hbox]
  have hl0 : ∀ g ∈ E.layG, g < W.heap.size := fun g hg => Nat.lt_of_lt_of_le (hlay g hg).1 hm
  refine callsIn_of_wp Tryz.func55 rfl trivial ?_ rfl
  simp only [Tryz.ntmps55, List.size_toArray, List.length_cons, List.length_nil, Nat.reduceAdd, Nat.reduceSub, Array.replicate_succ, Array.replicate_zero, List.push_toArray, List.append_toArray, List.nil_append, List.cons_append]
  gi_wp2
  refine ⟨trivial, (callsIn_wide.2 (C.run s 0 W hs (Nat.zero_le _) hc hl0)).mono ?_⟩
  rintro e W1 ⟨rfl, hb1⟩
  gi_wp2
  gi_loopw [3] (fun v wr => ∃ (i : Nat) (pre : List (Tok × Bool)), v = .int .i64 i ∧ i ≤ s.size ∧ Pre sk one s i pre ∧ J pre wr ∧ OKW b5 m wr ∧ W.heap.size ≤ wr.heap.size ∧ E.LayC wr ∧ wr.heap[Bs]? = some (.cells #[.string s] 9 (0, 0)))
    (fun v _ => s.size - (intOf v).toNat)
  case atStart =>
    have h5l : W1.heap[b5]? = W.heap[b5]? := hb1.block b5 (by omega)
    exact ⟨sk s 0, [], rfl, (C.sk1 s 0 (Nat.zero_le _)).2, .nil, hJ [] W W1 none h0 (grownBy_below hb1) (fun r e => by cases e), hok.grow h5l hb1.size, hb1.size, E.LayC.same (fun g hg => hb1.block g (hl0 g hg)) hc, (hb1.block Bs (by omega)).trans hbox⟩
  case round =>
    obtain ⟨i, pre, rfl, hi, hp, hJr, hokr, hsz, hcr, hbr⟩ := hrel
    have hcellr : wr.cell? ⟨Bs, 0, none⟩ = some (.string s) := by simp [World.cell?, hbr]
    have hl1 : ∀ g ∈ E.layG, g < wr.heap.size := fun g hg => Nat.lt_of_lt_of_le (hl0 g hg) hsz
    by_cases hlt : i < s.size
    · gi_wp2
      refine ⟨trivial, (callsIn_wide.2 (C.first (s.extract i s.size) wr (by rw [ByteArray.size_extract]; omega) (by rw [ByteArray.size_extract]; omega) hcr hl1)).mono ?_⟩
      rintro e W2 ⟨⟨⟨a1, a2, ⟨a3, a4, a5, a6, ⟨⟩⟩, a7, ⟨⟩⟩, ok, ht1, ht2, rfl⟩, hb2⟩
      simp only [tokC]
      obtain ⟨W3, hW3⟩ : ∃ W3, W2.alloc (.cells #[.int .i64 a1, .string a2, .int .i64 a3, .bool a4, .int .i64 a5, .string a6, .int .i64 i] 78) = W3 := ⟨_, rfl⟩
      have hb3 : Below wr.heap.size wr W3 := by rw [← hW3]; exact hb2.alloc hb2.size _
      have hs3 : W3.heap.size = W2.heap.size + 1 := by rw [← hW3]; simp
      have hs2 := hb2.size
      have hB3 : W3.heap[W2.heap.size]? = some (.cells #[.int .i64 a1, .string a2, .int .i64 a3, .bool a4, .int .i64 a5, .string a6, .int .i64 i] 78 (0, 0)) := by rw [← hW3]; exact World.alloc_heap_new W2 _
      have h5r : b5 < wr.heap.size := by omega
      have e53 : W3.heap[b5]? = wr.heap[b5]? := hb3.block b5 h5r
      have hJ3 : J pre W3 := hJ pre wr W3 none hJr (grownBy_below hb3) (fun r e => by cases e)
      have hok3 : OKW b5 m W3 := hokr.grow e53 hb3.size
      have hc3 : E.LayC W3 := E.LayC.same (fun g hg => hb3.block g (hl1 g hg)) hcr
      have hbx3 : W3.heap[Bs]? = some (.cells #[.string s] 9 (0, 0)) := (hb3.block Bs (by omega)).trans hbr
      have hplen : pre.length < 301 := by have := (hp.len C).2; omega
      obtain ⟨fn, tmps, assign, body, hy, hR⟩ := hY pre ((a1, a2, (a3, a4, a5, a6, ()), (i : Int), ()), ok) W3 hJ3 hplen
      dsimp only [encX, tokC] at hy
      rw [← hW3] at hy
      have HW := Lib.hid hW3
      clear hW3
      gi_wp2
      rw [HW.out]
      refine hR.mono ?_
      rintro e W4 (⟨rfl, hJ4, hk4⟩ | ⟨rfl, hx4⟩)
      · have hs4 := hk4.size
        have hr3 : rowOf b5 W3 ≠ some W2.heap.size := fun e => by
          rw [rowOf_same e53] at e
          have := (hokr _ e).2
          omega
        have hB4 := hk4.own _ _ hB3 rfl (by omega) hr3
        have hbx4 : W4.heap[Bs]? = some (.cells #[.string s] 9 (0, 0)) := (hk4.low Bs hBs hne).trans hbx3
        have hc4 : E.LayC W4 := E.LayC.same (fun g hg => hk4.low g (hlay g hg).1 (hlay g hg).2) hc3
        have hl4 : ∀ g ∈ E.layG, g < W4.heap.size := fun g hg => Nat.lt_of_lt_of_le (hl1 g hg) (by omega)
        have hok4 := hk4.ok hok3
        have hcell4 : W4.cell? ⟨Bs, 0, none⟩ = some (.string s) := by simp [World.cell?, hbx4]
        have hcA : W4.cell? ⟨W2.heap.size, 1, none⟩ = some (.string a2) := by simp [World.cell?, hB4]
        cases ok with
        | false =>
          gi_wp2
          refine bodyPost_ret (results_none rfl _ _ _) rfl ?_
          exact ⟨⟨_, rfl⟩, .inl ⟨pre ++ [((a1, a2, (a3, a4, a5, a6, ()), (i : Int), ()), false)], .inr ⟨i, pre, (a1, a2, (a3, a4, a5, a6, ()), a7, ()), hp, hlt, ht2 (by simp), rfl⟩, hJ4⟩⟩
        | true =>
          have ho := ht1 rfl
          have hsz1 := C.one1 _ _ (by rw [ByteArray.size_extract]; omega) ho
          rw [ByteArray.size_extract] at hsz1
          gi_wp2
          rw [show (i : Int) + (a2.size : Int) = ((i + a2.size : Nat) : Int) from by omega]
          refine ⟨trivial, (callsIn_wide.2 (C.run s (i + a2.size) W4 hs (by omega) hc4 hl4)).mono ?_⟩
          rintro e W5 ⟨rfl, hb5⟩
          gi_wp2
          go_roundw
          case rel => exact ⟨sk s (i + a2.size), pre ++ [((a1, a2, (a3, a4, a5, a6, ()), (i : Int), ()), true)], rfl, (C.sk1 s _ (by omega)).2, .cons hp hlt ho, hJ _ W4 W5 none hJ4 (grownBy_below hb5) (fun r e => by cases e), hok4.grow (hb5.block b5 (by omega)) hb5.size, by have := hb5.size; omega, E.LayC.same (fun g hg => hb5.block g (hl4 g hg)) hc4, (hb5.block Bs (by omega)).trans hbx4⟩
          case measure =>
            have := C.sk1 s (i + a2.size) (by omega)
            simp [intOf]
            omega
      · gi_wp2
        refine bodyPost_ret (results_none rfl _ _ _) rfl ?_
        exact ⟨⟨_, rfl⟩, .inr ⟨pre ++ [((a1, a2, (a3, a4, a5, a6, ()), (i : Int), ()), ok)], ⟨i, pre, (a1, a2, (a3, a4, a5, a6, ()), a7, ()), ok, hp, hlt, ht1, ht2, rfl⟩, hx4⟩⟩
    · gi_wp2
      go_end0
      have : i = s.size := by omega
      subst this
      exact ⟨⟨_, rfl⟩, .inl ⟨pre, .inl hp, hJr⟩⟩
end
end Go.Proofs.YtnnbinmomendnaaGreatDoor
/- lex.Read, walked by hand over its iterator. -/
namespace Go.Proofs.YtnnbinmomendnaaGreatDoor
open Go.RowKit Go.Shelf
attribute [local go_sem] Oper.semAt_some
section
variable {sk : ByteArray → Nat → Nat} {one : ByteArray → Option Tok}
theorem tokens_in (n : Nat) (s : ByteArray) (w : World) :
    CallsIn Fence.wide n Tryz.prog 35 #[.string s] w fun e w' => e = .returned (.func (.func 55) #[] #[.pointer (some ⟨w.heap.size, 0, none⟩)]) ∧ w' = w.alloc (.cells #[.string s] 9) := by
  refine callsIn_of_wp Tryz.func35 rfl trivial ?_ rfl
  simp only [Tryz.ntmps35, List.size_toArray, List.length_cons, List.length_nil, Nat.reduceAdd, Nat.reduceSub, Array.replicate_succ, Array.replicate_zero, List.push_toArray, List.append_toArray, List.nil_append, List.cons_append]
  gi_wp2
  go_ret
  exact ⟨rfl, rfl⟩
theorem it_stops (C : Calls2 sk one) (n : Nat) (hn : 1 ≤ n) (Bs b5 m : Nat) (hBs : Bs < m) (hne : Bs ≠ b5) (h5 : b5 < m) (hlay : ∀ g ∈ E.layG, g < m ∧ g ≠ b5) (s : ByteArray) (hs : s.size ≤ 300) (w : World) (hok : OKW b5 m w) (hm : m ≤ w.heap.size) (hc : E.LayC w)
    (hbox : w.heap[Bs]? = some (.cells #[.string s] 9 (0, 0))) :
    SeqStopsK Fence.wide n Tryz.prog 55 #[.pointer (some ⟨Bs, 0, none⟩)] encX (Kp b5 m) (Whole sk one s) (Part sk one s) 301 w := fun l J Jx W hW hJ _ hY h0 =>
  it_in C n hn l Bs b5 m hBs hne h5 hlay s hs J Jx hY W (hok.grow (hW.block b5 (by omega)) hW.size) (Nat.le_trans hm hW.size) (E.LayC.same (fun g hg => hW.block g (Nat.lt_of_lt_of_le (hlay g hg).1 hm)) hc) ((hW.block Bs (by omega)).trans hbox) hJ h0
def rowC (xs : List (Tok × Bool)) : List Value := xs.flatMap fun x => (tokC x.1).toList
def AllOk (xs : List (Tok × Bool)) : Prop := ∀ x ∈ xs, x.2 = true
/-- between two rounds -/
structure At (w : World) (xs : List (Tok × Bool)) (W : World) : Prop where
  ok : AllOk xs
  b2 : Boxed W w.heap.size 35 (.slice none 0 0)
  b3 : Boxed W (w.heap.size + 1) 3 (.int .i64 0)
  b4 : Boxed W (w.heap.size + 1 + 1) 26 (.int .i64 0)
  b5 : ∃ v, Boxed W (w.heap.size + 1 + 1 + 1) 35 v ∧ W.ownsRow (w.heap.size + 5) 78 7 v xs.length (rowC xs)
  below : Below w.heap.size w W
  sz : w.heap.size + 5 ≤ W.heap.size
theorem infoTok : (Tryz.prog.info? 78).map (fun i => (i.zero, i.size, i.bytes)) = some (some (.agg (tokC (0, ⟨#[]⟩, (0, false, 0, ⟨#[]⟩, ()), 0, ()))), 7, 72) := by kernel_rfl
theorem cells_new (w : World) (cs : Array Value) (t : TypeId) : ∀ j u, cs.toList[j]? = some u → (w.alloc (.cells cs t)).cell? ((⟨w.heap.size, 0, none⟩ : Addr).add j) = some u := by
  intro j u hj
  have e := World.alloc_heap_new w (.cells cs t)
  rw [Addr.add_mid]
  simp only [World.cell?, e]
  simpa using hj
theorem ownsRow_alloc' {W : World} {base : Nat} {e : TypeId} {size : Nat} {v : Value} {k : Nat} {xs : List Value} (h : W.ownsRow base e size v k xs) (o : Obj) : (W.alloc o).ownsRow base e size v k xs := h.alloc o
theorem ownsRow_base {W : World} {base base' : Nat} {e : TypeId} {size : Nat} {v : Value} {k : Nat} {xs : List Value} (h : W.ownsRow base e size v k xs) (hb : base' ≤ base) : W.ownsRow base' e size v k xs := by
  refine ⟨h.1, ?_⟩
  rcases h.2 with h0 | ⟨g, cap, cur, e1, hg, r⟩
  · exact .inl h0
  · exact .inr ⟨g, cap, cur, e1, by omega, r⟩
theorem boxed_from {β : Type} (B : Nat) (t : TypeId) (v : Value) {D : Nat} : OwnFrom D (fun (_ : β) W => Boxed W B t v) := Own.from (boxed_own B t fun _ => v) D
theorem At.own {w : World} {D : Nat} (hD : w.heap.size ≤ D) : OwnFrom D (fun pre W => At w pre W) := fun xs X Y row h hg hr => by
  obtain ⟨v, h5, h6⟩ := h.b5
  obtain ⟨v', h5', h6', _⟩ := (Own.from (holdsRow_own (w.heap.size + 5) (w.heap.size + 1 + 1 + 1) 35 78 7 (fun xs : List (Tok × Bool) => xs.length) rowC (fun _ _ => True)) D) xs X Y row ⟨v, h5, h6, trivial⟩ hg hr
  exact ⟨h.ok, boxed_from (β := Unit) _ _ _ () X Y row h.b2 hg hr, boxed_from (β := Unit) _ _ _ () X Y row h.b3 hg hr, boxed_from (β := Unit) _ _ _ () X Y row h.b4 hg hr, ⟨v', h5', h6'⟩, ownFrom_below (β := Unit) (Nat.le_refl _) hD () X Y row h.below hg hr, Nat.le_trans h.sz hg.size⟩
theorem At.alloc {w W : World} {pre : List (Tok × Bool)} (h : At w pre W) (o : Obj) : At w pre (W.alloc o) := At.own (Nat.le_refl _) pre W _ none h (World.grownBy_alloc W o none) (fun r e => by cases e)
theorem Kp.alloc {b5 m : Nat} {W : World} (h5 : b5 < W.heap.size) (hm : m ≤ W.heap.size) (o : Obj) : Kp b5 m W (W.alloc o) := by
  have e5 : (W.alloc o).heap[b5]? = W.heap[b5]? := Below.heap_alloc _ _ _ h5
  have hs : (W.alloc o).heap.size = W.heap.size + 1 := by simp
  refine ⟨fun ok => ok.grow e5 (by omega), by omega, fun k h1 _ => Below.heap_alloc _ _ _ (by omega), fun k o1 h1 _ _ _ => (Below.heap_alloc _ _ _ (Array.getElem?_eq_some_iff.1 h1).1).trans h1, fun r hr => .inl (by rw [rowOf_same e5] at hr; exact hr)⟩
theorem Stop.own {w : World} {D : Nat} (hD : w.heap.size ≤ D) (c : Code) : OwnFrom D (fun (pre : List (Tok × Bool)) W => c = .ret ∧ Below w.heap.size w W ∧ ∃ p z, pre = p ++ [(z, false)] ∧ AllOk p ∧ Boxed W w.heap.size 35 (.slice none 0 0) ∧ Boxed W (w.heap.size + 1) 3 (.int .i64 z.2.2.2.1) ∧ Boxed W (w.heap.size + 1 + 1) 26 (.int .i64 7)) := fun xs X Y row h hg hr => by
  obtain ⟨e, hB, p, z, h1, h2, h3, h4, h5⟩ := h
  exact ⟨e, ownFrom_below (β := Unit) (Nat.le_refl _) hD () X Y row hB hg hr, p, z, h1, h2, boxed_from (β := Unit) _ _ _ () X Y row h3 hg hr, boxed_from (β := Unit) _ _ _ () X Y row h4 hg hr, boxed_from (β := Unit) _ _ _ () X Y row h5 hg hr⟩
/-- a round that goes on: the token stands behind the others -/
theorem body_ok {w W w3 : World} {pre : List (Tok × Bool)} {v : Value} {g' cap' D : Nat} {o : Obj} {tok : Tok} {Ix : Code → List (Tok × Bool) → World → Prop} {a' : Act} (hA : At w pre W) (h5 : Boxed W (w.heap.size + 1 + 1 + 1) 35 v) (h6 : W.ownsRow (w.heap.size + 5) 78 7 v pre.length (rowC pre))
    (hown : w3.ownsRow (w.heap.size + 5) 78 7 (.slice (some ⟨g', 0, none⟩) (pre.length + 1) cap') (pre.length + 1) (rowC pre ++ (tokC tok).toList)) (hg : (W.alloc o).grownBy w3 v.ownBlock)
    (hat : (Value.slice (some ⟨g', 0, none⟩) (pre.length + 1) cap').ownBlock = v.ownBlock ∨ (Value.slice (some ⟨g', 0, none⟩) (pre.length + 1) cap').ownBlock = some (W.alloc o).heap.size) :
    ownPostG D (Kp (w.heap.size + 1 + 1 + 1) (w.heap.size + 5)) (fun pre W => At w pre W) Ix (pre ++ [(tok, true)]) W Exit.normal a' (w3.setCell ⟨w.heap.size + 1 + 1 + 1, 0, none⟩ (.slice (some ⟨g', 0, none⟩) (pre.length + 1) cap')) := by
  have hsz := hA.sz
  have h6' := ownsRow_alloc' h6 o
  have hs3 := hg.size
  have hsa : (W.alloc o).heap.size = W.heap.size + 1 := by simp
  obtain ⟨w4, hw4⟩ : ∃ w4, w3.setCell ⟨w.heap.size + 1 + 1 + 1, 0, none⟩ (.slice (some ⟨g', 0, none⟩) (pre.length + 1) cap') = w4 := ⟨_, rfl⟩
  have hg4 : w3.grownBy w4 (some (w.heap.size + 1 + 1 + 1)) := by rw [← hw4]; exact grownBy_setCell' _ _ _
  have hs4 := hg4.size
  have b53 : Boxed w3 (w.heap.size + 1 + 1 + 1) 35 v := (h5.alloc _).kept hg ((h5.alloc _).not_row (by decide) h6')
  have b54 : Boxed w4 (w.heap.size + 1 + 1 + 1) 35 (.slice (some ⟨g', 0, none⟩) (pre.length + 1) cap') := by rw [← hw4]; exact b53.set _
  have same : ∀ k, k < W.heap.size → k ≠ w.heap.size + 1 + 1 + 1 → v.ownBlock ≠ some k → w4.heap[k]? = W.heap[k]? := fun k h1 h2 h3 =>
    (hg4.block k (by omega) (fun e => h2 (by cases e; rfl))).trans ((hg.block k (by omega) (fun e => h3 e.symm)).trans (Below.heap_alloc _ _ k h1))
  have hown4 : w4.ownsRow (w.heap.size + 5) 78 7 (.slice (some ⟨g', 0, none⟩) (pre.length + 1) cap') (pre.length + 1) (rowC pre ++ (tokC tok).toList) := hown.kept hg4 (by
    have := b53.not_row (by decide) hown
    exact .inr fun e => this e.symm)
  have hrow : rowOf (w.heap.size + 1 + 1 + 1) W = v.ownBlock := by unfold rowOf; rw [h5.cell]; rfl
  have hrow4 : rowOf (w.heap.size + 1 + 1 + 1) w4 = some g' := by unfold rowOf; rw [b54.cell]; rfl
  have hlt4 := hown4.lt g' rfl
  rw [hw4]
  refine ⟨(((KeepsOthers.alloc _ _).trans (KeepsOthers.of_grownBy hg ?_)).trans (by rw [← hw4]; exact KeepsOthers.setCell _ _ _)).from _, ⟨fun _ r hr => ?_, by omega, fun k h1 h2 => same k (by omega) h2 (fun e => ?_), fun k o h1 _ h3 h4 => (same k (Array.getElem?_eq_some_iff.1 h1).1 h3 (by rw [← hrow]; exact h4)).trans h1, fun r hr => ?_⟩, ?_⟩
  · intro j o' hj ho
    rcases h6'.2 with ⟨rfl, _⟩ | ⟨g, cap, cur, rfl, _, hgb, _⟩
    · simp [Value.ownBlock] at hj
    · have : g = j := by simpa [Value.ownBlock] using hj
      subst this
      rw [hgb] at ho
      cases ho
      rfl
  · rw [hrow4] at hr
    cases hr
    exact hlt4
  · have := (h6.lt k e).1
    omega
  · rw [hrow4] at hr
    cases hr
    rcases hat with e | e
    · exact .inl (by rw [hrow, ← e]; rfl)
    · have : g' = (W.alloc o).heap.size := by simpa [Value.ownBlock] using e
      exact .inr (by omega)
  · have keepB : ∀ {b : Nat} {t : TypeId} {u : Value}, Boxed W b t u → t ≠ 78 → b ≠ w.heap.size + 1 + 1 + 1 → Boxed w4 b t u := fun hb ht hne =>
      (same _ hb.lt hne (fun e => (hb.not_row ht h6) e.symm)).trans hb
    refine ⟨fun x hx => ?_, keepB hA.b2 (by decide) (by omega), keepB hA.b3 (by decide) (by omega), keepB hA.b4 (by decide) (by omega), ⟨_, b54, ?_⟩, ?_, by omega⟩
    · rcases List.mem_append.1 hx with hx | hx
      · exact hA.ok x hx
      · simp at hx
        rw [hx]
    · rw [List.length_append, List.length_singleton, show rowC (pre ++ [(tok, true)]) = rowC pre ++ (tokC tok).toList from by simp [rowC]]
      exact hown4
    · exact ((hA.below.alloc (by omega) _).grown hg (by omega) (fun k e => by have := (h6.lt k e).1; omega)).grown hg4 (by omega) (fun k e => by cases e; omega)
set_option maxRecDepth 100000 in
set_option maxHeartbeats 2000000 in
theorem read_in (C : Calls2 sk one) (s : ByteArray) (hs : s.size ≤ 300) (w : World) (hc : E.LayC w) (hl : ∀ g ∈ E.layG, g < w.heap.size) :
    CallsIn Fence.wide 5 Tryz.prog 13 #[.string s] w fun e w' => Below w.heap.size w w' ∧ ∃ v : Value, ∃ xs : List (Tok × Bool), AllOk xs ∧
      ((Pre sk one s s.size xs ∧ e = .returned (.tuple #[v, .int .i64 0, .int .i64 0]) ∧ w'.ownsRow w.heap.size 78 7 v (xs.length + 1) (rowC xs ++ (tokC (4, ⟨#[]⟩, (0, false, 0, ⟨#[]⟩, ()), (s.size : Int), ())).toList)) ∨
       (∃ i, Pre sk one s i xs ∧ i < s.size ∧ one (s.extract i s.size) = none ∧ e = .returned (.tuple #[.slice none 0 0, .int .i64 i, .int .i64 7]))) := by
  have t22 := Tryz.underlying35
  have t36 := Tryz.underlying78
  refine callsIn_of_wp_marks Tryz.func13 rfl trivial ?_ rfl
  simp only [Tryz.ntmps13, List.size_toArray, List.length_cons, List.length_nil, Nat.reduceAdd, Nat.reduceSub, Array.replicate_succ, Array.replicate_zero, List.push_toArray, List.append_toArray, List.nil_append, List.cons_append]
  have hd : ¬ (300 : Int) < s.size := by omega
  gi_wp2
  refine ⟨trivial, (tokens_in 4 s _).mono ?_⟩
  rintro e w' ⟨rfl, rfl⟩
  gi_wp2
  obtain ⟨W0, hW0⟩ : ∃ W0, (((((w.alloc (.cells #[.slice none 0 0] 35)).alloc (.cells #[.int .i64 0] 3)).alloc (.cells #[.int .i64 0] 26)).alloc (.cells #[.slice none 0 0] 35)).alloc (.cells #[.string s] 9)) = W0 := ⟨_, rfl⟩
  have hs0 : W0.heap.size = w.heap.size + 5 := by rw [← hW0]; simp
  have hB0 : Below w.heap.size w W0 := by
    rw [← hW0]
    exact (((((Below.refl _ w).alloc (Nat.le_refl _) _).alloc (by simp) _).alloc (by simp; omega) _).alloc (by simp; omega) _).alloc (by simp; omega) _
  have c2 : Boxed W0 w.heap.size 35 (.slice none 0 0) := by rw [← hW0]; exact ((((Boxed.new w _ _).alloc _).alloc _).alloc _).alloc _
  have c3 : Boxed W0 (w.heap.size + 1) 3 (.int .i64 0) := by
    rw [← hW0]
    have := Boxed.new (w.alloc (.cells #[.slice none 0 0] 35)) 3 (.int .i64 0)
    rw [World.size_alloc] at this
    exact ((this.alloc _).alloc _).alloc _
  have c4 : Boxed W0 (w.heap.size + 1 + 1) 26 (.int .i64 0) := by
    rw [← hW0]
    have := Boxed.new ((w.alloc (.cells #[.slice none 0 0] 35)).alloc (.cells #[.int .i64 0] 3)) 26 (.int .i64 0)
    rw [World.size_alloc, World.size_alloc] at this
    exact (this.alloc _).alloc _
  have c5 : Boxed W0 (w.heap.size + 1 + 1 + 1) 35 (.slice none 0 0) := by
    rw [← hW0]
    have := Boxed.new (((w.alloc (.cells #[.slice none 0 0] 35)).alloc (.cells #[.int .i64 0] 3)).alloc (.cells #[.int .i64 0] 26)) 35 (.slice none 0 0)
    rw [World.size_alloc, World.size_alloc, World.size_alloc] at this
    exact this.alloc _
  have c6 : W0.heap[w.heap.size + 1 + 1 + 1 + 1]? = some (.cells #[.string s] 9 (0, 0)) := by
    rw [← hW0]
    have := Boxed.new ((((w.alloc (.cells #[.slice none 0 0] 35)).alloc (.cells #[.int .i64 0] 3)).alloc (.cells #[.int .i64 0] 26)).alloc (.cells #[.slice none 0 0] 35)) 9 (.string s)
    rw [World.size_alloc, World.size_alloc, World.size_alloc, World.size_alloc] at this
    exact this
  have hrow0 : rowOf (w.heap.size + 1 + 1 + 1) W0 = none := by unfold rowOf; rw [c5.cell]; rfl
  have hok0 : OKW (w.heap.size + 1 + 1 + 1) (w.heap.size + 5) W0 := fun r hr => by rw [hrow0] at hr; cases hr
  have hc0 : E.LayC W0 := E.LayC.same (fun g hg => hB0.block g (hl g hg)) hc
  have hlay : ∀ g ∈ E.layG, g < w.heap.size + 5 ∧ g ≠ w.heap.size + 1 + 1 + 1 := fun g hg => by have := hl g hg; omega
  rw [hW0]
  clear hW0
  refine wpIn_rangeFunc_ownH rfl (by omega) (gf := 55) (lb := #[.pointer (some ⟨w.heap.size + 1 + 1 + 1 + 1, 0, none⟩)]) rfl trivial (enters_of Tryz.func55 (by kernel_rfl) rfl)
    (it_stops C 4 (by omega) (w.heap.size + 1 + 1 + 1 + 1) (w.heap.size + 1 + 1 + 1) (w.heap.size + 5) (by omega) (by omega) (by omega) hlay s hs W0 hok0 (by omega) hc0 c6)
    Kp.trans (Kp.book (by omega) (by omega)) (Below.refl _ _) (fun _ => rfl)
    (fun pre W => At w pre W)
    (fun c pre W => c = .ret ∧ Below w.heap.size w W ∧ ∃ p z, pre = p ++ [(z, false)] ∧ AllOk p ∧ Boxed W w.heap.size 35 (.slice none 0 0) ∧ Boxed W (w.heap.size + 1) 3 (.int .i64 z.2.2.2.1) ∧ Boxed W (w.heap.size + 1 + 1) 26 (.int .i64 7))
    (At.own (by omega)) (Stop.own (by omega))
    ⟨(fun x hx => by cases hx), c2, c3, c4, ⟨_, c5, ⟨rfl, .inl ⟨rfl, rfl⟩⟩⟩, hB0, by omega⟩
    (fun x a' W => ∃ k v, w.heap.size + 5 ≤ k ∧ (Boxed W (w.heap.size + 1 + 1 + 1) 35 v ∧ v.ownBlock ≠ some k) ∧ W.heap[k]? = some (.cells (tokC x.1) 78 (0, 0)) ∧ a' = { tmps := #[.string s, undef, .pointer (some ⟨w.heap.size, 0, none⟩), .pointer (some ⟨w.heap.size + 1, 0, none⟩), .pointer (some ⟨w.heap.size + 1 + 1, 0, none⟩), .pointer (some ⟨w.heap.size + 1 + 1 + 1, 0, none⟩), .pointer (some ⟨k, 0, none⟩), .bool x.2, .string s, .int .i64 s.size, .bool false, .string s, .func (.func 55) #[] #[.pointer (some ⟨w.heap.size + 1 + 1 + 1 + 1, 0, none⟩)], .agg (tokC x.1), .bool x.2, undef, undef, undef, undef, undef, undef, undef, undef, undef, undef, undef, undef, undef, undef], defers := [] })
    (fun x a' _ X Y row hs hg hr => by
      obtain ⟨k, v, h1, ⟨h2, h2'⟩, h3, h4⟩ := hs
      refine ⟨k, v, h1, ⟨boxed_from (β := Unit) _ _ _ () X Y row h2 hg hr, h2'⟩, (hg.block k (Array.getElem?_eq_some_iff.1 h3).1 (fun e => ?_)).trans h3, h4⟩
      obtain ⟨_, o, ho, hno⟩ := hr k e.symm
      rw [h3] at ho
      cases ho
      cases hno)
    ?assign ?body ?done ?stop
  case assign =>
    rintro l pre ⟨⟨a1, a2, ⟨a3, a4, a5, a6, ⟨⟩⟩, a7, ⟨⟩⟩, ok⟩ W K hA hK
    simp only [encX, tokC]
    gi_wp2
    obtain ⟨v, h5, h6⟩ := hA.b5
    have hsz := hA.sz
    refine hK _ _ ((KeepsOthers.alloc _ _).from _) (Kp.alloc (by omega) hsz _) (hA.alloc _) ⟨W.heap.size, v, hsz, ⟨h5.alloc _, fun e => ?_⟩, World.alloc_heap_new W _, rfl⟩
    have := (h6.lt _ e).2
    omega
  case body =>
    rintro l pre ⟨⟨a1, a2, ⟨a3, a4, a5, a6, ⟨⟩⟩, a7, ⟨⟩⟩, ok⟩ a' W hl ⟨r, hr⟩ hA ⟨k, v, hk1, ⟨hk2, hk2'⟩, hk3, rfl⟩ hlt
    obtain ⟨v', h5, h6⟩ := hA.b5
    obtain rfl : v = v' := by
      have := (show W.heap[_]? = _ from h5).symm.trans hk2
      simp at this
      exact this.symm
    have d2 := hA.b2; have d3 := hA.b3; have d4 := hA.b4
    have f2 := d2.frozen; have f3 := d3.frozen; have f4 := d4.frozen; have f5 := h5.frozen; have e5 := h5.cell
    simp only [tokC] at hk3
    have k6 : W.cell? ⟨k, 6, none⟩ = some (.int .i64 a7) := by simp [World.cell?, hk3]
    simp only [tokC]
    cases ok with
    | false =>
      gi_wp2
      have e2 := d2.cell; have e3 := d3.cell; have e4 := d4.cell
      have n2 : k ≠ w.heap.size := by omega
      have n2' : w.heap.size ≠ k := by omega
      gi_region
      all_goals
        gi_wp2
        refine ⟨((((KeepsOthers.setCell _ _ _).trans (KeepsOthers.setCell _ _ _)).trans (KeepsOthers.setCell _ _ _)).trans (KeepsOthers.drew _)).from _, rfl, ?_, pre, (a1, a2, (a3, a4, a5, a6, ()), a7, ()), rfl, hA.ok, ?_, ?_, ?_⟩
        · exact (((hA.below.setCell (p := ⟨w.heap.size, 0, none⟩) (by simp) _).setCell (p := ⟨w.heap.size + 1, 0, none⟩) (by simp) _).setCell (p := ⟨w.heap.size + 1 + 1, 0, none⟩) (by simp; omega) _).drew
        · show Boxed (((W.setCell ⟨w.heap.size, 0, none⟩ (.slice none 0 0)).setCell ⟨w.heap.size + 1, 0, none⟩ (.int .i64 a7)).setCell ⟨w.heap.size + 1 + 1, 0, none⟩ (.int .i64 7)) _ _ _
          exact ((d2.set _).other (by omega) _).other (by omega) _
        · show Boxed (((W.setCell ⟨w.heap.size, 0, none⟩ (.slice none 0 0)).setCell ⟨w.heap.size + 1, 0, none⟩ (.int .i64 a7)).setCell ⟨w.heap.size + 1 + 1, 0, none⟩ (.int .i64 7)) _ _ _
          exact ((d3.other (by omega) _).set _).other (by omega) _
        · show Boxed (((W.setCell ⟨w.heap.size, 0, none⟩ (.slice none 0 0)).setCell ⟨w.heap.size + 1, 0, none⟩ (.int .i64 a7)).setCell ⟨w.heap.size + 1 + 1, 0, none⟩ (.int .i64 7)) _ _ _
          exact ((d4.other (by omega) _).other (by omega) _).set _
    | true =>
      obtain ⟨i0, hi, hz0, hz1, hz2⟩ := info_parts infoTok
      have q0 : W.cell? ⟨k, 0, none⟩ = some (.int .i64 a1) := by simp [World.cell?, hk3]
      have q1 : W.cell? ⟨k, 1, none⟩ = some (.string a2) := by simp [World.cell?, hk3]
      have q2 : W.cell? ⟨k, 2, none⟩ = some (.int .i64 a3) := by simp [World.cell?, hk3]
      have q3 : W.cell? ⟨k, 3, none⟩ = some (.bool a4) := by simp [World.cell?, hk3]
      have q4 : W.cell? ⟨k, 4, none⟩ = some (.int .i64 a5) := by simp [World.cell?, hk3]
      have q5 : W.cell? ⟨k, 5, none⟩ = some (.string a6) := by simp [World.cell?, hk3]
      have hsz := hA.sz
      gi_wp2_with (first
        | (gi_at_builtin
           refine wpListIn_append_own_at _ rfl _ _ 35 rfl (w.heap.size + 5) 78 i0 (.agg (tokC (0, ⟨#[]⟩, (0, false, 0, ⟨#[]⟩, ()), 0, ()))) 7 72 t22 hi hz0 hz1 hz2 rfl (by decide) _ _ _ rfl (ownsRow_alloc' h6 _) ⟨W.heap.size, 0, none⟩ 1 1 [.int .i64 a1, .string a2, .int .i64 a3, .bool a4, .int .i64 a5, .string a6, .int .i64 a7] rfl rfl (cells_new W #[.int .i64 a1, .string a2, .int .i64 a3, .bool a4, .int .i64 a5, .string a6, .int .i64 a7] 78) (by simp [Value.oneCell']) (by unfold maxLen; omega) (by omega) (by simp; omega) ?_
           intro v' w3 hown' hg3 hnil3 hat3
           obtain ⟨g', cap', rfl⟩ := ownsRow_succ hown'
           have b53 : Boxed w3 (w.heap.size + 1 + 1 + 1) 35 v := (h5.alloc _).kept hg3 (h5.not_row (by decide) h6)
           have e53 := b53.cell
           have f53 := b53.frozen
           go_frame)
        | gi_in)
      exact body_ok hA h5 h6 hown' hg3 hat3 (tok := (a1, a2, (a3, a4, a5, a6, ()), a7, ()))
  case done =>
    rintro D xs W hD hx hA hK
    have hpre : Pre sk one s s.size xs := by
      rcases hx with h | ⟨i, pre, z, _, _, _, rfl⟩
      · exact h
      · have := hA.ok (setAt z i, false) (by simp)
        cases this
    obtain ⟨v, h5, h6⟩ := hA.b5
    obtain ⟨i0, hi, hz0, hz1, hz2⟩ := info_parts infoTok
    have d2 := hA.b2; have d3 := hA.b3; have d4 := hA.b4
    have e5 := h5.cell
    have hlen := (hpre.len C).2
    have hsz := hA.sz
    gi_wp2_with (first
      | (gi_at_builtin
         refine wpListIn_append_own_at _ rfl _ _ 35 rfl (w.heap.size + 5) 78 i0 (.agg (tokC (0, ⟨#[]⟩, (0, false, 0, ⟨#[]⟩, ()), 0, ()))) 7 72 t22 hi hz0 hz1 hz2 rfl (by decide) _ _ _ rfl (ownsRow_alloc' h6 _) ⟨W.heap.size, 0, none⟩ 1 1 (tokC (4, ⟨#[]⟩, (0, false, 0, ⟨#[]⟩, ()), (s.size : Int), ())).toList rfl rfl (cells_new W (tokC (4, ⟨#[]⟩, (0, false, 0, ⟨#[]⟩, ()), (s.size : Int), ())) 78) (by simp [tokC, Value.oneCell']) (by unfold maxLen; omega) (by omega) (by simp; omega) ?_
         intro v' w3 hown' hg3 hnil3 hat3
         obtain ⟨g', cap', rfl⟩ := ownsRow_succ hown'
         have b2 : Boxed w3 w.heap.size 35 (.slice none 0 0) := (d2.alloc _).kept hg3 (d2.not_row (by decide) h6)
         have b3 : Boxed w3 (w.heap.size + 1) 3 (.int .i64 0) := (d3.alloc _).kept hg3 (d3.not_row (by decide) h6)
         have b4 : Boxed w3 (w.heap.size + 1 + 1) 26 (.int .i64 0) := (d4.alloc _).kept hg3 (d4.not_row (by decide) h6)
         have f2 := b2.frozen; have f3 := b3.frozen; have f4 := b4.frozen
         have e2 := b2.cell; have e3 := b3.cell; have e4 := b4.cell
         go_frame)
      | gi_in)
    have hcells : ∀ (j : Nat) (o : Obj), v.ownBlock = some j → (W.alloc (.cells (tokC (4, ⟨#[]⟩, (0, false, 0, ⟨#[]⟩, ()), (s.size : Int), ())) 78)).heap[j]? = some o → o.isCells = true := by
      intro j o' hj ho
      rcases (ownsRow_alloc' h6 (.cells (tokC (4, ⟨#[]⟩, (0, false, 0, ⟨#[]⟩, ()), (s.size : Int), ())) 78)).2 with ⟨rfl, _⟩ | ⟨g, cap, cur, rfl, _, hgb, _⟩
      · simp [Value.ownBlock] at hj
      · have : g = j := by simpa [Value.ownBlock] using hj
        subst this
        rw [hgb] at ho
        cases ho
        rfl
    have hkA : KeepsOthers W w3 := (KeepsOthers.alloc _ _).trans (KeepsOthers.of_grownBy hg3 hcells)
    have hsA : (W.alloc (.cells (tokC (4, ⟨#[]⟩, (0, false, 0, ⟨#[]⟩, ()), (s.size : Int), ())) 78)).heap.size = W.heap.size + 1 := by simp
    have hs3 : W.heap.size + 1 ≤ w3.heap.size := by have := hg3.size; rw [← hsA]; exact this
    have hbA : Below w.heap.size w w3 := (hA.below.alloc (by omega) _).grown hg3 (by simp; omega) (fun k e => by have := (h6.lt k e).1; omega)
    obtain ⟨w4, hw4⟩ : ∃ w4, w3.setCell ⟨w.heap.size, 0, none⟩ (.slice (some ⟨g', 0, none⟩) (xs.length + 1) cap') = w4 := ⟨_, rfl⟩
    have hg4 : w3.grownBy w4 (some w.heap.size) := by rw [← hw4]; exact grownBy_setCell' _ _ _
    have b24 : Boxed w4 w.heap.size 35 (.slice (some ⟨g', 0, none⟩) (xs.length + 1) cap') := by rw [← hw4]; exact b2.set _
    have b34 : Boxed w4 (w.heap.size + 1) 3 (.int .i64 0) := by rw [← hw4]; exact b3.other (by omega) _
    have b44 : Boxed w4 (w.heap.size + 1 + 1) 26 (.int .i64 0) := by rw [← hw4]; exact b4.other (by omega) _
    have hk4 : KeepsOthers W w4 := hkA.trans (by rw [← hw4]; exact KeepsOthers.setCell _ _ _)
    have hown4 := hown'.kept hg4 (.inr fun e => (b2.not_row (by decide) hown') e.symm)
    have hb4 : Below w.heap.size w w4 := hbA.grown hg4 (by omega) (fun k e => by cases e; omega)
    rw [hw4]
    obtain ⟨w5, hw5⟩ : ∃ w5, w4.setCell ⟨w.heap.size + 1, 0, none⟩ (.int .i64 0) = w5 := ⟨_, rfl⟩
    have hg5 : w4.grownBy w5 (some (w.heap.size + 1)) := by rw [← hw5]; exact grownBy_setCell' _ _ _
    have b25 : Boxed w5 w.heap.size 35 (.slice (some ⟨g', 0, none⟩) (xs.length + 1) cap') := by rw [← hw5]; exact b24.other (by omega) _
    have b35 : Boxed w5 (w.heap.size + 1) 3 (.int .i64 0) := by rw [← hw5]; exact b34.set _
    have b45 : Boxed w5 (w.heap.size + 1 + 1) 26 (.int .i64 0) := by rw [← hw5]; exact b44.other (by omega) _
    have hk5 : KeepsOthers W w5 := hk4.trans (by rw [← hw5]; exact KeepsOthers.setCell _ _ _)
    have hown5 := hown4.kept hg5 (.inr fun e => (b34.not_row (by decide) hown4) e.symm)
    have hb5 : Below w.heap.size w w5 := hb4.grown hg5 (by have := hg4.size; omega) (fun k e => by cases e; omega)
    rw [hw5]
    obtain ⟨w6, hw6⟩ : ∃ w6, w5.setCell ⟨w.heap.size + 1 + 1, 0, none⟩ (.int .i64 0) = w6 := ⟨_, rfl⟩
    have hg6 : w5.grownBy w6 (some (w.heap.size + 1 + 1)) := by rw [← hw6]; exact grownBy_setCell' _ _ _
    have b26 : Boxed w6 w.heap.size 35 (.slice (some ⟨g', 0, none⟩) (xs.length + 1) cap') := by rw [← hw6]; exact b25.other (by omega) _
    have b36 : Boxed w6 (w.heap.size + 1) 3 (.int .i64 0) := by rw [← hw6]; exact b35.other (by omega) _
    have b46 : Boxed w6 (w.heap.size + 1 + 1) 26 (.int .i64 0) := by rw [← hw6]; exact b45.set _
    have hk6 : KeepsOthers W w6 := hk5.trans (by rw [← hw6]; exact KeepsOthers.setCell _ _ _)
    have hown6 := hown5.kept hg6 (.inr fun e => (b45.not_row (by decide) hown5) e.symm)
    have hb6 : Below w.heap.size w w6 := hb5.grown hg6 (by have := hg4.size; have := hg5.size; omega) (fun k e => by cases e; omega)
    rw [hw6]
    have hK6 := hk6.same D _ hK rfl
    refine ⟨by simp, .inl ⟨_, _, rfl, run_takeDeferred hK6, ?_⟩⟩
    have c2 := cell_kept b26.cell (grownBy_putObj' _ D (.deferred none)) (fun r e => by cases e; exact ⟨_, hK6, rfl⟩)
    have c3 := cell_kept b36.cell (grownBy_putObj' _ D (.deferred none)) (fun r e => by cases e; exact ⟨_, hK6, rfl⟩)
    have c4 := cell_kept b46.cell (grownBy_putObj' _ D (.deferred none)) (fun r e => by cases e; exact ⟨_, hK6, rfl⟩)
    refine ⟨.tuple #[.slice (some ⟨g', 0, none⟩) (xs.length + 1) cap', .int .i64 0, .int .i64 0], ?_, hb6.grown (grownBy_putObj' _ _ _) hb6.size (fun k e => by cases e; omega), _, xs, hA.ok, .inl ⟨hpre, rfl, ownsRow_base (ownsRow_putObj hown6 (.deferred none) hK6 rfl) (by omega)⟩⟩
    simp [results, Tryz.f13, go_sem, c2, c3, c4]
  case stop =>
    rintro D c pre W hD hx ⟨rfl, hB, p, z, rfl, hp, d2, d3, d4⟩ hK
    obtain ⟨i, pre, z', ok, hp1, hlt, ho1, ho2, he⟩ := hx
    have hpe : p = pre ∧ ((z, false) : Tok × Bool) = (setAt z' i, ok) := by
      have := List.append_inj' he rfl
      exact ⟨this.1, by simpa using this.2⟩
    obtain ⟨rfl, hze⟩ := hpe
    have hz1 : z = setAt z' i := congrArg Prod.fst hze
    have hz2 : false = ok := congrArg Prod.snd hze
    subst hz2
    gi_wp2
    refine ⟨by simp, .inl ⟨_, _, rfl, run_takeDeferred hK, ?_⟩⟩
    have c2 := cell_kept d2.cell (grownBy_putObj' _ D (.deferred none)) (fun r e => by cases e; exact ⟨_, hK, rfl⟩)
    have c3 := cell_kept d3.cell (grownBy_putObj' _ D (.deferred none)) (fun r e => by cases e; exact ⟨_, hK, rfl⟩)
    have c4 := cell_kept d4.cell (grownBy_putObj' _ D (.deferred none)) (fun r e => by cases e; exact ⟨_, hK, rfl⟩)
    refine ⟨.tuple #[.slice none 0 0, .int .i64 i, .int .i64 7], ?_, hB.grown (grownBy_putObj' _ _ _) hB.size (fun k e => by cases e; omega), .slice none 0 0, p, hp, .inr ⟨i, hp1, hlt, ho2 (by simp), rfl⟩⟩
    rw [hz1] at c3
    simp [results, Tryz.f13, go_sem, c2, c3, c4, setAt]
end
end Go.Proofs.YtnnbinmomendnaaGreatDoor
namespace Go.Proofs.YtnnbinmomendnaaGreatDoor
open Go.RowKit Go.Shelf
attribute [local go_sem] Oper.semAt_some
/-- a text that is too long -/
theorem read_long (s : ByteArray) (hs : 300 < s.size) (w : World) : CallsIn Fence.wide 5 Tryz.prog 13 #[.string s] w fun e w' => Below w.heap.size w w' ∧ e = .returned (.tuple #[.slice none 0 0, .int .i64 0, .int .i64 9]) := by
  refine callsIn_of_wp Tryz.func13 rfl trivial ?_ rfl
  simp only [Tryz.ntmps13, List.size_toArray, List.length_cons, List.length_nil, Nat.reduceAdd, Nat.reduceSub, Array.replicate_succ, Array.replicate_zero, List.push_toArray, List.append_toArray, List.nil_append, List.cons_append]
  have hd : (300 : Int) < s.size := by omega
  gi_wp2
  refine bodyPost_ret (v := .tuple #[.slice none 0 0, .int .i64 0, .int .i64 9]) ?_ rfl ?_
  · simp [results, Tryz.f13, go_sem]
  · refine ⟨?_, rfl⟩
    exact (((Below.refl _ w).alloc (Nat.le_refl _) _).alloc (by simp) _).alloc (by simp; omega) _
namespace E
theorem skN_stop (s : ByteArray) (i : Nat) (hi : i ≤ s.size) (h : skN s i < s.size) : blN (bt s (skN s i)) = false := by
  have go : ∀ (f i : Nat), i + f = s.size → scanN (fun j => blN (bt s j)) f i < s.size → blN (bt s (scanN (fun j => blN (bt s j)) f i)) = false := by
    intro f
    induction f with
    | zero => intro i hi h; simp only [scanN] at h; omega
    | succ f ih =>
      intro i hi h
      rw [scanN] at h ⊢
      split at h
      · rename_i hb
        rw [if_pos hb]
        exact ih (i + 1) (by omega) h
      · rename_i hb
        rw [if_neg hb]
        simpa using hb
  exact go (s.size - i) i (by omega) h
theorem lexL_skip (s : ByteArray) (l : Toks) : ∀ (d i f : Nat), i + d = s.size → s.size + 1 ≤ i + f → ∃ f', s.size + 1 ≤ scanN (fun j => blN (bt s j)) d i + f' ∧ lexL s f i l = lexL s f' (scanN (fun j => blN (bt s j)) d i) l := by
  intro d
  induction d with
  | zero => intro i f hi hf; exact ⟨f, hf, rfl⟩
  | succ d ih =>
    intro i f hi hf
    rw [scanN]
    split
    · rename_i hb
      obtain ⟨f, rfl⟩ : ∃ q, f = q + 1 := ⟨f - 1, by omega⟩
      obtain ⟨f', h1, h2⟩ := ih (i + 1) f (by omega) (by omega)
      refine ⟨f', h1, ?_⟩
      rw [← h2, lexL, if_pos (by omega), if_pos]
      unfold blN at hb
      simpa using hb
    · exact ⟨f, hf, rfl⟩
theorem skip (s : ByteArray) (l : Toks) (i f : Nat) (hi : i ≤ s.size) (hf : s.size + 1 ≤ i + f) : ∃ f', s.size + 1 ≤ skN s i + f' ∧ lexL s f i l = lexL s f' (skN s i) l :=
  lexL_skip s l (s.size - i) i f (by omega) hf
theorem pre_lex {s : ByteArray} {i : Nat} {pre : List (Tok × Bool)} (h : Pre skN oneS s i pre) : (i ≤ s.size ∧ (i < s.size → blN (bt s i) = false)) ∧ ∃ f, s.size + 1 ≤ i + f ∧ lexL s (s.size + 1) 0 [] = lexL s f i (pre.map Prod.fst) := by
  induction h with
  | nil => exact ⟨⟨(skN_rng s 0 (Nat.zero_le _)).2, skN_stop s 0 (Nat.zero_le _)⟩, skip s [] 0 (s.size + 1) (Nat.zero_le _) (by omega)⟩
  | @cons i pre t h1 h2 h3 ih =>
    obtain ⟨⟨h4, h5⟩, f, h6, h7⟩ := ih
    have hb := h5 h2
    have hsz := oneS_size (s := s.extract i s.size) (by rw [ByteArray.size_extract]; omega) h3
    rw [ByteArray.size_extract] at hsz
    obtain ⟨f, rfl⟩ : ∃ q, f = q + 1 := ⟨f - 1, by omega⟩
    have hle : i + t.2.1.size ≤ s.size := by omega
    obtain ⟨f', g1, g2⟩ := skip s ((pre.map Prod.fst) ++ [(t.1, t.2.1, t.2.2.1, (i : Int), ())]) (i + t.2.1.size) f hle (by omega)
    refine ⟨⟨(skN_rng s _ hle).2, skN_stop s _ hle⟩, f', g1, ?_⟩
    rw [h7, lexL, if_pos h2, if_neg]
    · rw [h3]
      simp only [List.map_append, List.map_cons, List.map_nil]
      exact g2
    · unfold blN at hb
      simpa using hb
theorem lex_good {s : ByteArray} {xs : List (Tok × Bool)} (hs : s.size ≤ 300) (h : Pre skN oneS s s.size xs) : lexS s = (0, 0, xs.map Prod.fst ++ [endT s]) := by
  obtain ⟨_, f, h1, h2⟩ := pre_lex h
  obtain ⟨f, rfl⟩ : ∃ q, f = q + 1 := ⟨f - 1, by omega⟩
  unfold lexS
  rw [if_neg (by omega), h2, lexL, if_neg (by omega)]
theorem lex_bad {s : ByteArray} {i : Nat} {xs : List (Tok × Bool)} (hs : s.size ≤ 300) (h : Pre skN oneS s i xs) (hi : i < s.size) (ho : oneS (s.extract i s.size) = none) : lexS s = ((i : Int), 7, []) := by
  obtain ⟨⟨_, hb⟩, f, h1, h2⟩ := pre_lex h
  have hb := hb hi
  obtain ⟨f, rfl⟩ : ∃ q, f = q + 1 := ⟨f - 1, by omega⟩
  unfold lexS
  rw [if_neg (by omega), h2, lexL, if_pos hi, if_neg (by unfold blN at hb; simpa using hb), ho]
theorem calls2 : Calls2 skN oneS := by
  refine ⟨skN_rng, fun s t h0 h => oneS_size h0 h, fun s i w hs hi hc hl => ?_, fun s w h0 hs hc hl => ?_⟩
  · obtain ⟨n, hn⟩ : ∃ n : Nat, 2000 < n := ⟨3000, by omega⟩
    have ht : ∀ k : T → List Blk → Option (T × List Blk), lex_run_v2_g n [.c (.s s), .c (.i .i64 i), .c (.fn 57 [])] [] k = k (.a (.c (.i .i64 (skN s i : Nat)))) [] := fun k =>
      (show _ = lex_run_v2_F n s (i : Int) (fun y0 => k (.a (.c (.i .i64 y0))) []) from rfl).trans (runB_F n s i (by omega) hi hn _)
    have hg := Good.calls (lex_run_v2_ok n) Tryz.func56 (by kernel_rfl) rfl (args := [.c (.s s), .c (.i .i64 i), .c (.fn 57 [])]) (vs := [.string s, .int .i64 i, .func (.func 57) #[] #[]]) hc hl ⟨rfl, rfl, ⟨[], rfl, trivial⟩, trivial⟩ ht
    refine hg.mono ?_
    rintro e W' ⟨v, F', rfl, hr, hb, _⟩
    exact ⟨by rw [show v = _ from hr], hb⟩
  · obtain ⟨n, hn⟩ : ∃ n : Nat, 2000 < n := ⟨3000, by omega⟩
    obtain ⟨z, hz⟩ := firstP_F (R := T × List Blk) n s h0 (by omega) hn
    obtain ⟨t, ok, h1, h2, h3⟩ : ∃ (t : ty78.D) (ok : Bool), (ok = true → oneS s = some t) ∧ (ok = false → oneS s = none) ∧ ∀ k : ty78.D → Bool → Option (T × List Blk), lex_first_F n s k = k t ok := by
      cases h : oneS s with
      | none => exact ⟨z, false, by simp, by simp, fun k => by rw [hz k, h]⟩
      | some t => exact ⟨t, true, by simp, by simp, fun k => by rw [hz k, h]⟩
    have ht : ∀ k : T → List Blk → Option (T × List Blk), lex_first_g n [.c (.s s)] [] k = k (.tu [encA ty78 t, .c (.b ok)]) [] := fun k =>
      (show _ = lex_first_F n s (fun y0 y1 => k (.tu [encA ty78 y0, .c (.b y1)]) []) from rfl).trans (h3 _)
    have hg := Good.calls (lex_first_ok n) Tryz.func58 (by kernel_rfl) rfl (args := [.c (.s s)]) (vs := [.string s]) hc hl ⟨rfl, trivial⟩ ht
    refine hg.mono ?_
    rintro e W' ⟨v, F', rfl, ⟨vs, rfl, hr⟩, hb, _⟩
    refine ⟨⟨t, ok, h1, h2, ?_⟩, hb⟩
    obtain ⟨vl, hvl⟩ : ∃ vl, vs.toList = vl := ⟨_, rfl⟩
    rw [hvl] at hr
    match vl, hr with
    | [va, vb], hr =>
      obtain ⟨⟨cs, rfl, hcs⟩, hvb, _⟩ := hr
      have e1 : vs = #[.agg cs, vb] := by rw [← Array.toList_inj, hvl]
      rw [e1, show vb = .bool ok from hvb]
      obtain ⟨cl, hcl⟩ : ∃ cl, cs.toList = cl := ⟨_, rfl⟩
      rw [hcl] at hcs
      match cl, hcs with
      | [c1, c2, c3, c4, c5, c6, c7], hcs =>
        obtain ⟨g1, g2, g3, g4, g5, g6, g7, _⟩ := hcs
        have e2 : cs = tokC t := by
          rw [← Array.toList_inj, hcl]
          rw [show c1 = _ from g1, show c2 = _ from g2, show c3 = _ from g3, show c4 = _ from g4, show c5 = _ from g5, show c6 = _ from g6, show c7 = _ from g7]
          rfl
        rw [e2]
theorem tok_drep (w : World) (F : Nat → Prop) (t : ty78.D) : DRep w F ty78 t (tokC t).toList :=
  ⟨[.int .i64 t.1], _, rfl, rfl, [.string t.2.1], _, rfl, rfl, [.int .i64 t.2.2.1.1, .bool t.2.2.1.2.1, .int .i64 t.2.2.1.2.2.1, .string t.2.2.1.2.2.2.1], [.int .i64 t.2.2.2.1], rfl,
    ⟨[.int .i64 t.2.2.1.1], _, rfl, rfl, [.bool t.2.2.1.2.1], _, rfl, rfl, [.int .i64 t.2.2.1.2.2.1], _, rfl, rfl, [.string t.2.2.1.2.2.2.1], [], rfl, rfl, rfl⟩, [.int .i64 t.2.2.2.1], [], rfl, rfl, rfl⟩
theorem toks_dreps (w : World) (F : Nat → Prop) : ∀ l : Toks, DReps w F ty78 l (l.flatMap fun t => (tokC t).toList)
  | [] => rfl
  | t :: l => ⟨(tokC t).toList, l.flatMap fun t => (tokC t).toList, rfl, tok_drep w F t, toks_dreps w F l⟩
theorem row_drep {W : World} {F : Nat → Prop} {base e k : Nat} {v : Value} {xs : List Value} {l : Toks} (h : W.ownsRow base e 7 v k xs) (hk : l.length = k) (hd : DReps W F ty78 l xs) (hF : ∀ b, base ≤ b → b < W.heap.size → F b) : DRep W F (.sl ty78) l [v] := by
  rcases h.2 with ⟨rfl, h0⟩ | ⟨g, cap, cur, rfl, hg, hgb, hle, hmx, hsz, hcur⟩
  · have : l = [] := List.length_eq_zero_iff.1 (by omega)
    subst this
    exact ⟨none, 0, rfl, ⟨Nat.le_refl _, fun _ => rfl⟩, fun i hi => by simp at hi⟩
  · subst hk
    refine ⟨some ⟨g, 0, none⟩, cap, rfl, ⟨hle, fun h => by cases h⟩, fun i hi => ⟨g, 0, (xs.drop (i * 7)).take 7, rfl, hF g hg (Array.getElem?_eq_some_iff.1 hgb).1, fun j u hu => ?_, DReps.at hi hd⟩⟩
    have hj : j < 7 := by
      have := (List.getElem?_eq_some_iff.1 hu).1
      rw [List.length_take] at this
      omega
    rw [List.getElem?_take, if_pos hj, List.getElem?_drop, ← hcur, List.getElem?_take] at hu
    split at hu
    · rename_i hlt
      show W.cell? ⟨g, 0 + i * 7 + j, none⟩ = some u
      simp only [World.cell?, hgb, Nat.zero_add]
      simpa using hu
    · cases hu
theorem rowC_eq (xs : List (Tok × Bool)) : rowC xs = (xs.map Prod.fst).flatMap fun t => (tokC t).toList := by
  unfold rowC
  rw [List.flatMap_map]
theorem lex_back (s : ByteArray) (w : World) (hc : LayC w) (hl : ∀ g ∈ layG, g < w.heap.size) (_ : True) : Back Tryz.prog 13 #[valD .str s] w (.tu [.c (.fz ty78 (lexS s).2.2), .c (.i .i64 (lexS s).1), .c (.i .i64 (lexS s).2.1)]) := by
  have nil : ∀ W : World, DRep W (fun b => (w.heap.size ≤ b ∨ b ∈ layG) ∧ b < W.heap.size) (.sl ty78) [] [.slice none 0 0] := fun W => ⟨none, 0, rfl, ⟨Nat.le_refl _, fun _ => rfl⟩, fun i hi => by simp at hi⟩
  by_cases hs : s.size ≤ 300
  · refine (callsIn_wide.1 (read_in calls2 s hs w hc hl)).mono ?_
    rintro e W ⟨hb, v, xs, hok, ⟨hp, rfl, hr⟩ | ⟨i, hp, hi, ho, rfl⟩⟩
    · rw [lex_good hs hp]
      refine ⟨_, rfl, ⟨_, rfl, row_drep (k := xs.length + 1) hr (by simp) ?_ (fun b h1 h2 => ⟨.inl h1, h2⟩), rfl, rfl, trivial⟩, hb⟩
      rw [rowC_eq]
      have := toks_dreps W (fun b => (w.heap.size ≤ b ∨ b ∈ layG) ∧ b < W.heap.size) (xs.map Prod.fst ++ [endT s])
      rw [List.flatMap_append, show ([endT s].flatMap fun t => (tokC t).toList) = (tokC (endT s)).toList from by simp] at this
      exact this
    · rw [lex_bad hs hp hi ho]
      exact ⟨_, rfl, ⟨_, rfl, nil W, rfl, rfl, trivial⟩, hb⟩
  · refine (callsIn_wide.1 (read_long s (by omega) w)).mono ?_
    rintro e W ⟨hb, rfl⟩
    have : lexS s = (0, 9, []) := by unfold lexS; rw [if_pos (by omega)]
    rw [this]
    exact ⟨_, rfl, ⟨_, rfl, nil W, rfl, rfl, trivial⟩, hb⟩
end E
end Go.Proofs.YtnnbinmomendnaaGreatDoor
/- lex.Sgn, walked by hand. -/
namespace Go.Proofs.YtnnbinmomendnaaGreatDoor
open Go.RowKit Go.Shelf
def sgnP (op : Int) : ByteArray := if 0 ≤ op ∧ op < 7 then ([(⟨#[]⟩ : ByteArray), ⟨#[61, 61]⟩, ⟨#[33, 61]⟩, ⟨#[60]⟩, ⟨#[60, 61]⟩, ⟨#[62]⟩, ⟨#[62, 61]⟩] : List ByteArray).getD op.toNat ⟨#[]⟩ else ⟨#[]⟩
set_option maxHeartbeats 2000000 in
set_option maxRecDepth 100000 in
theorem sgn_calls (op : Int) (w : World) : Calls Tryz.prog 53 #[.int .i64 op] w fun e w' => e = .returned (.string (sgnP op)) ∧ Below w.heap.size w w' := by
  have bel : ∀ o : Obj, Below w.heap.size w (w.alloc o) := fun o => (Below.refl _ w).alloc (Nat.le_refl _) _
  by_cases h0 : op < 0
  · have e : sgnP op = ⟨#[]⟩ := by unfold sgnP; rw [if_neg (by omega)]
    rw [e]
    go_enter Tryz.func53, Tryz.ntmps53
    go_wp2
    go_ret
    exact ⟨rfl, bel _⟩
  · by_cases h7 : 7 ≤ op
    · have e : sgnP op = ⟨#[]⟩ := by unfold sgnP; rw [if_neg (by omega)]
      rw [e]
      go_enter Tryz.func53, Tryz.ntmps53
      go_wp2
      go_ret
      exact ⟨rfl, bel _⟩
    · have hc : op = 0 ∨ op = 1 ∨ op = 2 ∨ op = 3 ∨ op = 4 ∨ op = 5 ∨ op = 6 := by omega
      clear h0 h7
      rcases hc with rfl | rfl | rfl | rfl | rfl | rfl | rfl
      all_goals
        go_enter Tryz.func53, Tryz.ntmps53
        go_wp2
        go_ret
        exact ⟨rfl, bel _⟩
namespace E
theorem sgn_back (x : Int) (w : World) (_ : LayC w) (_ : ∀ g ∈ layG, g < w.heap.size) (_ : True) : Back Tryz.prog 53 #[valD (.int .i64) x] w (.a (.c (.s (sgnP x)))) := by
  refine (sgn_calls x w).mono ?_
  rintro e w' ⟨rfl, hb⟩
  exact ⟨_, rfl, rfl, hb⟩
end E
end Go.Proofs.YtnnbinmomendnaaGreatDoor
set_option linter.unusedVariables false
set_option maxRecDepth 100000
namespace Go.Proofs.YtnnbinmomendnaaGreatDoor.E
open Go.Proofs
noncomputable section
variable {R : Type}
/-! verderer/lex.Read: function 13 -/
@[reducible] def lex_Read_d : Desc := ⟨[(0, .d .str)], []⟩
end
end Go.Proofs.YtnnbinmomendnaaGreatDoor.E
set_option linter.unusedVariables false
set_option maxRecDepth 100000
namespace Go.Proofs.YtnnbinmomendnaaGreatDoor.E
open Go.Proofs
noncomputable section
variable {R : Type}
/-! slices.Index[[]string,string]: function 95 -/
def slices_Index_95_ds : Nat → Desc
  | 2 => ⟨[(0, .d (.sl .str)), (1, .d .str), (7, .d (.int .i64)), (8, .d (.int .i64))], []⟩
  | _ => ⟨[], []⟩
def slices_Index_95_dx : Nat → List (X × Desc)
  | 2 => [(.r, ⟨[(4, .d (.int .i64))], []⟩), (.e 0, ⟨[], []⟩)]
  | _ => []
def slices_Index_95_s2 (n : Nat) (x0 : (List ByteArray)) (x1 : ByteArray) (x2 : Int) (x3 : Int) (k1 : (List ByteArray) → ByteArray → Int → Int → Option R) (qr : Int → Option R) (qe0 : Option R) : Option R :=
  if (decide (x3 < x2)) = true then (if (0 : Int) ≤ x3 ∧ x3 < (x0.length : Int) then (if (x1.toList == (x0.getD (Int.toNat x3) (Ty.z .str)).toList) = true then (qr x3) else (k1 x0 x1 x2 (IntKind.i64.wrap (x3 + 1)))) else none) else qe0
def slices_Index_95_l2 (n : Nat) (a : (slices_Index_95_ds 2).D) (k1 : (slices_Index_95_ds 2).D → Option R) (k2 : exK R (slices_Index_95_dx 2)) : Option R :=
  slices_Index_95_s2 n a.1 a.2.1 a.2.2.1 a.2.2.2.1 (fun x0 x1 x2 x3 => k1 (x0, x1, x2, x3, ())) (fun x0 => k2.1 (x0, ())) (k2.2.1 (()))
@[reducible] def slices_Index_95_d : Desc := ⟨[(0, .d (.sl .str)), (1, .d .str)], []⟩
def slices_Index_95_Fi (n : Nat) (a0 : (List ByteArray)) (a1 : ByteArray) (k0 : Int → Option R) : Option R :=
  runC (slices_Index_95_l2 n) n (a0, a1, (a0.length : Int), 0, ()) (fun b1 => k0 b1.1, fun b1 => k0 (-1), ())
def slices_Index_95_F {R : Type} := lazyN (@slices_Index_95_Fi R)
theorem slices_Index_95_e : @slices_Index_95_F R = @slices_Index_95_Fi R := lazyN_eq _
def slices_Index_95_g (n : Nat) : Gx R := typed 2 slices_Index_95_d fun x k => slices_Index_95_F n x.1 x.2.1 (fun y0 => k (.a (.c (.i .i64 y0))) [])
def slices_Index_95_cs (R : Type) (n : Nat) : List (Nat × Gx R) := []
def slices_Index_95_lp (n : Nat) : (i : Nat) → (slices_Index_95_ds i).D → exK R (slices_Index_95_dx i) → Option R
  | 2, a, k => runC (slices_Index_95_l2 n) n a k
  | _, _, _ => none
def slices_Index_95_cx (R : Type) (n : Nat) : Cx R := ⟨Tryz.prog, Gof (slices_Index_95_cs R n), slices_Index_95_ds, slices_Index_95_dx, slices_Index_95_lp n, drawP Tryz.prog (Gof (slices_Index_95_cs R n)), false, noJn, noFz⟩
theorem slices_Index_95_ok [Esc R] (n : Nat) : Good Tryz.prog 95 (slices_Index_95_g (R := R) n) := by
  unfold slices_Index_95_g
  rw [slices_Index_95_e]
  exact Good.fn (cx := slices_Index_95_cx R n) (by kernel_rfl) (AllGood.nil) rfl Tryz.func95 (by kernel_rfl) rfl (by
    have e : fnLoops noJn Tryz.f95 = [((fnLoops noJn Tryz.f95)[0]?).getD (false, .skip)] := by kernel_rfl
    show LoopRuns _ _ (fnLoops noJn _)
    rw [e]
    exact ⟨LoopRun.loop (by kernel_rfl) (i := 2) (m := n) (step := slices_Index_95_l2 n) (by kernel_rfl) (fun a k1 k2 => by kernel_rfl) (fun _ _ => rfl), trivial⟩) 2 slices_Index_95_d (by kernel_rfl) (fun x k => by kernel_rfl)
end
end Go.Proofs.YtnnbinmomendnaaGreatDoor.E
set_option linter.unusedVariables false
set_option maxRecDepth 100000
namespace Go.Proofs.YtnnbinmomendnaaGreatDoor.E
open Go.Proofs
noncomputable section
variable {R : Type}
/-! slices.Contains[[]string,string]: function 121 -/
@[reducible] def slices_Contains_121_d : Desc := ⟨[(0, .d (.sl .str)), (1, .d .str)], []⟩
def slices_Contains_121_Fi (n : Nat) (a0 : (List ByteArray)) (a1 : ByteArray) (k0 : Bool → Option R) : Option R :=
  slices_Index_95_F n a0 a1 (fun y1 => k0 (decide (y1 ≥ 0)))
def slices_Contains_121_F {R : Type} := lazyN (@slices_Contains_121_Fi R)
theorem slices_Contains_121_e : @slices_Contains_121_F R = @slices_Contains_121_Fi R := lazyN_eq _
def slices_Contains_121_g (n : Nat) : Gx R := typed 2 slices_Contains_121_d fun x k => slices_Contains_121_F n x.1 x.2.1 (fun y0 => k (.a (.c (.b y0))) [])
def slices_Contains_121_cs (R : Type) (n : Nat) : List (Nat × Gx R) := [(95, slices_Index_95_g n)]
def slices_Contains_121_cx (R : Type) (n : Nat) : Cx R := ⟨Tryz.prog, Gof (slices_Contains_121_cs R n), noDs, noDx, noLp, drawP Tryz.prog (Gof (slices_Contains_121_cs R n)), false, noJn, noFz⟩
theorem slices_Contains_121_ok [Esc R] (n : Nat) : Good Tryz.prog 121 (slices_Contains_121_g (R := R) n) := by
  unfold slices_Contains_121_g
  rw [slices_Contains_121_e]
  exact Good.fn (cx := slices_Contains_121_cx R n) (by kernel_rfl) (AllGood.cons (slices_Index_95_ok n) (AllGood.nil)) rfl Tryz.func121 (by kernel_rfl) rfl trivial 2 slices_Contains_121_d (by kernel_rfl) (fun x k => by kernel_rfl)
end
end Go.Proofs.YtnnbinmomendnaaGreatDoor.E
set_option linter.unusedVariables false
set_option maxRecDepth 100000
namespace Go.Proofs.YtnnbinmomendnaaGreatDoor.E
open Go.Proofs
noncomputable section
variable {R : Type}
/-! verderer/lex.Reserved: function 94 -/
@[reducible] def lex_Reserved_d : Desc := ⟨[(0, .d .str)], []⟩
def lex_Reserved_Fi (n : Nat) (a0 : ByteArray) (k0 : Bool → Option R) : Option R :=
  slices_Contains_121_F n [(⟨#[100, 101, 110, 121]⟩ : ByteArray), (⟨#[118, 105, 101, 119]⟩ : ByteArray), (⟨#[113, 117, 111, 116, 97]⟩ : ByteArray), (⟨#[108, 105, 109, 105, 116]⟩ : ByteArray), (⟨#[105, 102]⟩ : ByteArray), (⟨#[110, 111, 116]⟩ : ByteArray), (⟨#[99, 111, 117, 110, 116]⟩ : ByteArray), (⟨#[115, 117, 109]⟩ : ByteArray), (⟨#[108, 101, 97, 115, 116]⟩ : ByteArray), (⟨#[109, 111, 115, 116]⟩ : ByteArray)] a0 (fun y1 => k0 y1)
def lex_Reserved_F {R : Type} := lazyN (@lex_Reserved_Fi R)
theorem lex_Reserved_e : @lex_Reserved_F R = @lex_Reserved_Fi R := lazyN_eq _
def lex_Reserved_g (n : Nat) : Gx R := typed 1 lex_Reserved_d fun x k => lex_Reserved_F n x.1 (fun y0 => k (.a (.c (.b y0))) [])
def lex_Reserved_cs (R : Type) (n : Nat) : List (Nat × Gx R) := [(121, slices_Contains_121_g n)]
def lex_Reserved_cx (R : Type) (n : Nat) : Cx R := ⟨Tryz.prog, Gof (lex_Reserved_cs R n), noDs, noDx, noLp, drawP Tryz.prog (Gof (lex_Reserved_cs R n)), false, noJn, noFz⟩
theorem lex_Reserved_ok [Esc R] (n : Nat) : Good Tryz.prog 94 (lex_Reserved_g (R := R) n) := by
  unfold lex_Reserved_g
  rw [lex_Reserved_e]
  exact Good.fn (cx := lex_Reserved_cx R n) (by kernel_rfl) (AllGood.cons (slices_Contains_121_ok n) (AllGood.nil)) rfl Tryz.func94 (by kernel_rfl) rfl trivial 1 lex_Reserved_d (by kernel_rfl) (fun x k => by kernel_rfl)
end
end Go.Proofs.YtnnbinmomendnaaGreatDoor.E
set_option linter.unusedVariables false
set_option maxRecDepth 100000
namespace Go.Proofs.YtnnbinmomendnaaGreatDoor.E
open Go.Proofs
noncomputable section
variable {R : Type}
/-! verderer/lex.Sgn: function 53 -/
@[reducible] def lex_Sgn_d : Desc := ⟨[(0, .d (.int .i64))], []⟩
def lex_Sgn_Fi (n : Nat) (a0 : Int) (k0 : ByteArray → Option R) : Option R :=
  if True then (k0 (sgnP a0)) else none
def lex_Sgn_F {R : Type} := lazyN (@lex_Sgn_Fi R)
theorem lex_Sgn_e : @lex_Sgn_F R = @lex_Sgn_Fi R := lazyN_eq _
def lex_Sgn_g (n : Nat) : Gx R := typed 1 lex_Sgn_d fun x k => lex_Sgn_F n x.1 (fun y0 => k (.a (.c (.s y0))) [])
theorem lex_Sgn_ok [Esc R] (n : Nat) : Good Tryz.prog 53 (lex_Sgn_g (R := R) n) := by
  unfold lex_Sgn_g
  rw [lex_Sgn_e]
  exact Good.hand1 Tryz.func53 (by kernel_rfl) rfl rfl sgn_back (fun x k => rfl)
end
end Go.Proofs.YtnnbinmomendnaaGreatDoor.E
set_option linter.unusedVariables false
set_option maxRecDepth 100000
namespace Go.Proofs.YtnnbinmomendnaaGreatDoor.E
open Go.Proofs
noncomputable section
variable {R : Type}
/-! verderer/lex.Op: function 98 -/
def lex_Op_ds : Nat → Desc
  | 2 => ⟨[(0, .d .str), (3, .d (.int .i64))], []⟩
  | _ => ⟨[], []⟩
def lex_Op_dx : Nat → List (X × Desc)
  | 2 => [(.r, ⟨[(2, .d (.int .i64))], []⟩), (.e 0, ⟨[], []⟩)]
  | _ => []
def lex_Op_s2 (n : Nat) (x0 : ByteArray) (x1 : Int) (k1 : ByteArray → Int → Option R) (qr : Int → Option R) (qe0 : Option R) : Option R :=
  if (decide (x1 ≤ 6)) = true then (lex_Sgn_F n x1 (fun y1 => if (y1.toList == x0.toList) = true then (qr x1) else (k1 x0 (IntKind.i64.wrap (x1 + 1))))) else qe0
def lex_Op_l2 (n : Nat) (a : (lex_Op_ds 2).D) (k1 : (lex_Op_ds 2).D → Option R) (k2 : exK R (lex_Op_dx 2)) : Option R :=
  lex_Op_s2 n a.1 a.2.1 (fun x0 x1 => k1 (x0, x1, ())) (fun x0 => k2.1 (x0, ())) (k2.2.1 (()))
@[reducible] def lex_Op_d : Desc := ⟨[(0, .d .str)], []⟩
def lex_Op_Fi (n : Nat) (a0 : ByteArray) (k0 : Int → Option R) : Option R :=
  runC (lex_Op_l2 n) n (a0, 1, ()) (fun b2 => k0 b2.1, fun b2 => k0 0, ())
def lex_Op_F {R : Type} := lazyN (@lex_Op_Fi R)
theorem lex_Op_e : @lex_Op_F R = @lex_Op_Fi R := lazyN_eq _
def lex_Op_g (n : Nat) : Gx R := typed 1 lex_Op_d fun x k => lex_Op_F n x.1 (fun y0 => k (.a (.c (.i .i64 y0))) [])
def lex_Op_cs (R : Type) (n : Nat) : List (Nat × Gx R) := [(53, lex_Sgn_g n)]
def lex_Op_lp (n : Nat) : (i : Nat) → (lex_Op_ds i).D → exK R (lex_Op_dx i) → Option R
  | 2, a, k => runC (lex_Op_l2 n) n a k
  | _, _, _ => none
def lex_Op_cx (R : Type) (n : Nat) : Cx R := ⟨Tryz.prog, Gof (lex_Op_cs R n), lex_Op_ds, lex_Op_dx, lex_Op_lp n, drawP Tryz.prog (Gof (lex_Op_cs R n)), false, noJn, noFz⟩
theorem lex_Op_ok [Esc R] (n : Nat) : Good Tryz.prog 98 (lex_Op_g (R := R) n) := by
  unfold lex_Op_g
  rw [lex_Op_e]
  exact Good.fn (cx := lex_Op_cx R n) (by kernel_rfl) (AllGood.cons (lex_Sgn_ok n) (AllGood.nil)) rfl Tryz.func98 (by kernel_rfl) rfl (by
    have e : fnLoops noJn Tryz.f98 = [((fnLoops noJn Tryz.f98)[0]?).getD (false, .skip)] := by kernel_rfl
    show LoopRuns _ _ (fnLoops noJn _)
    rw [e]
    exact ⟨LoopRun.loop (by kernel_rfl) (i := 2) (m := n) (step := lex_Op_l2 n) (by kernel_rfl) (fun a k1 k2 => by kernel_rfl) (fun _ _ => rfl), trivial⟩) 1 lex_Op_d (by kernel_rfl) (fun x k => by kernel_rfl)
end
end Go.Proofs.YtnnbinmomendnaaGreatDoor.E
set_option linter.unusedVariables false
set_option maxRecDepth 100000
namespace Go.Proofs.YtnnbinmomendnaaGreatDoor.E
open Go.Proofs
noncomputable section
variable {R : Type}
/-! verderer/verdererref07.Name: function 71 -/
def verdererref07_Name_ds : Nat → Desc
  | 4 => ⟨[(0, .d .str), (3, .d (.int .i64))], []⟩
  | _ => ⟨[], []⟩
def verdererref07_Name_dx : Nat → List (X × Desc)
  | 4 => [(.r, ⟨[(2, .d .bool)], []⟩), (.e 0, ⟨[], []⟩)]
  | _ => []
def verdererref07_Name_s4 (n : Nat) (x0 : ByteArray) (x1 : Int) (k1 : ByteArray → Int → Option R) (qr : Bool → Option R) (qe0 : Option R) : Option R :=
  if (decide (x1 < (x0.size : Int))) = true then (if (0 : Int) ≤ x1 then if x1 < (x0.size : Int) then (if (decide ((byteAt x0 x1) ≥ 97)) = true then (if (!(decide ((byteAt x0 x1) ≤ 122))) = true then (if (x1 == 0) = true then (qr false) else (if ((byteAt x0 x1) != 95) = true then (if (decide ((byteAt x0 x1) < 48)) = true then (qr false) else (if (decide ((byteAt x0 x1) > 57)) = true then (qr false) else (k1 x0 (IntKind.i64.wrap (x1 + 1))))) else (k1 x0 (IntKind.i64.wrap (x1 + 1))))) else (k1 x0 (IntKind.i64.wrap (x1 + 1)))) else (if (x1 == 0) = true then (qr false) else (if ((byteAt x0 x1) != 95) = true then (if (decide ((byteAt x0 x1) < 48)) = true then (qr false) else (if (decide ((byteAt x0 x1) > 57)) = true then (qr false) else (k1 x0 (IntKind.i64.wrap (x1 + 1))))) else (k1 x0 (IntKind.i64.wrap (x1 + 1)))))) else none else none) else qe0
def verdererref07_Name_l4 (n : Nat) (a : (verdererref07_Name_ds 4).D) (k1 : (verdererref07_Name_ds 4).D → Option R) (k2 : exK R (verdererref07_Name_dx 4)) : Option R :=
  verdererref07_Name_s4 n a.1 a.2.1 (fun x0 x1 => k1 (x0, x1, ())) (fun x0 => k2.1 (x0, ())) (k2.2.1 (()))
@[reducible] def verdererref07_Name_d : Desc := ⟨[(0, .d .str)], []⟩
def verdererref07_Name_Fi (n : Nat) (a0 : ByteArray) (k0 : Bool → Option R) : Option R :=
  if (decide ((a0.size : Int) < 1)) = true then (k0 false) else (if (decide ((a0.size : Int) > 16)) = true then (k0 false) else (runC (verdererref07_Name_l4 n) n (a0, 0, ()) (fun b1 => k0 b1.1, fun b1 => k0 true, ())))
def verdererref07_Name_F {R : Type} := lazyN (@verdererref07_Name_Fi R)
theorem verdererref07_Name_e : @verdererref07_Name_F R = @verdererref07_Name_Fi R := lazyN_eq _
def verdererref07_Name_g (n : Nat) : Gx R := typed 1 verdererref07_Name_d fun x k => verdererref07_Name_F n x.1 (fun y0 => k (.a (.c (.b y0))) [])
def verdererref07_Name_cs (R : Type) (n : Nat) : List (Nat × Gx R) := []
def verdererref07_Name_lp (n : Nat) : (i : Nat) → (verdererref07_Name_ds i).D → exK R (verdererref07_Name_dx i) → Option R
  | 4, a, k => runC (verdererref07_Name_l4 n) n a k
  | _, _, _ => none
def verdererref07_Name_cx (R : Type) (n : Nat) : Cx R := ⟨Tryz.prog, Gof (verdererref07_Name_cs R n), verdererref07_Name_ds, verdererref07_Name_dx, verdererref07_Name_lp n, drawP Tryz.prog (Gof (verdererref07_Name_cs R n)), false, noJn, noFz⟩
theorem verdererref07_Name_ok [Esc R] (n : Nat) : Good Tryz.prog 71 (verdererref07_Name_g (R := R) n) := by
  unfold verdererref07_Name_g
  rw [verdererref07_Name_e]
  exact Good.fn (cx := verdererref07_Name_cx R n) (by kernel_rfl) (AllGood.nil) rfl Tryz.func71 (by kernel_rfl) rfl (by
    have e : fnLoops noJn Tryz.f71 = [((fnLoops noJn Tryz.f71)[0]?).getD (false, .skip)] := by kernel_rfl
    show LoopRuns _ _ (fnLoops noJn _)
    rw [e]
    exact ⟨LoopRun.loop (by kernel_rfl) (i := 4) (m := n) (step := verdererref07_Name_l4 n) (by kernel_rfl) (fun a k1 k2 => by kernel_rfl) (fun _ _ => rfl), trivial⟩) 1 verdererref07_Name_d (by kernel_rfl) (fun x k => by kernel_rfl)
end
end Go.Proofs.YtnnbinmomendnaaGreatDoor.E
set_option linter.unusedVariables false
set_option maxRecDepth 100000
namespace Go.Proofs.YtnnbinmomendnaaGreatDoor.E
open Go.Proofs
noncomputable section
variable {R : Type}
/-! verderer/schema.letter: function 120 -/
@[reducible] def schema_letter_d : Desc := ⟨[(0, .d (.int .u8))], []⟩
def schema_letter_Fi (n : Nat) (a0 : Int) (k0 : Bool → Option R) : Option R :=
  if (decide (a0 ≥ 97)) = true then (k0 (decide (a0 ≤ 122))) else (k0 false)
def schema_letter_F {R : Type} := lazyN (@schema_letter_Fi R)
theorem schema_letter_e : @schema_letter_F R = @schema_letter_Fi R := lazyN_eq _
def schema_letter_g (n : Nat) : Gx R := typed 1 schema_letter_d fun x k => schema_letter_F n x.1 (fun y0 => k (.a (.c (.b y0))) [])
def schema_letter_cs (R : Type) (n : Nat) : List (Nat × Gx R) := []
def schema_letter_cx (R : Type) (n : Nat) : Cx R := ⟨Tryz.prog, Gof (schema_letter_cs R n), noDs, noDx, noLp, drawP Tryz.prog (Gof (schema_letter_cs R n)), false, noJn, noFz⟩
theorem schema_letter_ok [Esc R] (n : Nat) : Good Tryz.prog 120 (schema_letter_g (R := R) n) := by
  unfold schema_letter_g
  rw [schema_letter_e]
  exact Good.fn (cx := schema_letter_cx R n) (by kernel_rfl) (AllGood.nil) rfl Tryz.func120 (by kernel_rfl) rfl trivial 1 schema_letter_d (by kernel_rfl) (fun x k => by kernel_rfl)
end
end Go.Proofs.YtnnbinmomendnaaGreatDoor.E
set_option linter.unusedVariables false
set_option maxRecDepth 100000
namespace Go.Proofs.YtnnbinmomendnaaGreatDoor.E
open Go.Proofs
noncomputable section
variable {R : Type}
/-! verderer/schema.Name: function 93 -/
def schema_Name_ds : Nat → Desc
  | 4 => ⟨[(0, .d .str), (19, .d (.int .i64)), (20, .d (.int .i64))], []⟩
  | _ => ⟨[], []⟩
def schema_Name_dx : Nat → List (X × Desc)
  | 4 => [(.r, ⟨[(2, .d .bool)], []⟩), (.e 0, ⟨[], []⟩)]
  | _ => []
def schema_Name_s4 (n : Nat) (x0 : ByteArray) (x1 : Int) (x2 : Int) (k1 : ByteArray → Int → Int → Option R) (qr : Bool → Option R) (qe0 : Option R) : Option R :=
  if (decide (x2 < x1)) = true then (if (0 : Int) ≤ x2 then if x2 < (x0.size : Int) then (schema_letter_F n (byteAt x0 x2) (fun y2 => if (!y2) = true then (if (decide ((byteAt x0 x2) < 48)) = true then (if ((byteAt x0 x2) != 95) = true then (qr false) else (k1 x0 x1 (IntKind.i64.wrap (x2 + 1)))) else (if (decide ((byteAt x0 x2) > 57)) = true then (if ((byteAt x0 x2) != 95) = true then (qr false) else (k1 x0 x1 (IntKind.i64.wrap (x2 + 1)))) else (k1 x0 x1 (IntKind.i64.wrap (x2 + 1))))) else (k1 x0 x1 (IntKind.i64.wrap (x2 + 1))))) else none else none) else qe0
def schema_Name_l4 (n : Nat) (a : (schema_Name_ds 4).D) (k1 : (schema_Name_ds 4).D → Option R) (k2 : exK R (schema_Name_dx 4)) : Option R :=
  schema_Name_s4 n a.1 a.2.1 a.2.2.1 (fun x0 x1 x2 => k1 (x0, x1, x2, ())) (fun x0 => k2.1 (x0, ())) (k2.2.1 (()))
@[reducible] def schema_Name_d : Desc := ⟨[(0, .d .str)], []⟩
def schema_Name_Fi (n : Nat) (a0 : ByteArray) (k0 : Bool → Option R) : Option R :=
  if (a0.toList == (⟨#[]⟩ : ByteArray).toList) = true then (k0 false) else (if (decide ((a0.size : Int) > 16)) = true then (k0 false) else (if (0 : Int) ≤ 0 then if 0 < (a0.size : Int) then (schema_letter_F n (byteAt a0 0) (fun y1 => if (!y1) = true then (k0 false) else (runC (schema_Name_l4 n) n (a0, (a0.size : Int), 0, ()) (fun b3 => k0 b3.1, fun b3 => k0 true, ())))) else none else none))
def schema_Name_F {R : Type} := lazyN (@schema_Name_Fi R)
theorem schema_Name_e : @schema_Name_F R = @schema_Name_Fi R := lazyN_eq _
def schema_Name_g (n : Nat) : Gx R := typed 1 schema_Name_d fun x k => schema_Name_F n x.1 (fun y0 => k (.a (.c (.b y0))) [])
def schema_Name_cs (R : Type) (n : Nat) : List (Nat × Gx R) := [(120, schema_letter_g n)]
def schema_Name_lp (n : Nat) : (i : Nat) → (schema_Name_ds i).D → exK R (schema_Name_dx i) → Option R
  | 4, a, k => runC (schema_Name_l4 n) n a k
  | _, _, _ => none
def schema_Name_cx (R : Type) (n : Nat) : Cx R := ⟨Tryz.prog, Gof (schema_Name_cs R n), schema_Name_ds, schema_Name_dx, schema_Name_lp n, drawP Tryz.prog (Gof (schema_Name_cs R n)), false, noJn, noFz⟩
theorem schema_Name_ok [Esc R] (n : Nat) : Good Tryz.prog 93 (schema_Name_g (R := R) n) := by
  unfold schema_Name_g
  rw [schema_Name_e]
  exact Good.fn (cx := schema_Name_cx R n) (by kernel_rfl) (AllGood.cons (schema_letter_ok n) (AllGood.nil)) rfl Tryz.func93 (by kernel_rfl) rfl (by
    have e : fnLoops noJn Tryz.f93 = [((fnLoops noJn Tryz.f93)[0]?).getD (false, .skip)] := by kernel_rfl
    show LoopRuns _ _ (fnLoops noJn _)
    rw [e]
    exact ⟨LoopRun.loop (by kernel_rfl) (i := 4) (m := n) (step := schema_Name_l4 n) (by kernel_rfl) (fun a k1 k2 => by kernel_rfl) (fun _ _ => rfl), trivial⟩) 1 schema_Name_d (by kernel_rfl) (fun x k => by kernel_rfl)
end
end Go.Proofs.YtnnbinmomendnaaGreatDoor.E
set_option linter.unusedVariables false
set_option maxRecDepth 100000
namespace Go.Proofs.YtnnbinmomendnaaGreatDoor.E
open Go.Proofs
noncomputable section
variable {R : Type}
/-! (*verderer/verdererref12.reader).now: function 19 -/
@[reducible] def verdererref12_reader_now_d : Desc := ⟨[(0, .pt 0 0)], [.box true 57 [.ow 1, .d (.int .i64), .d (.int .i64), .d (.int .i64)], .arr 60 ty60]⟩
def verdererref12_reader_now_Fi (n : Nat) (a0 : Int) (a1 : Int) (a2 : Int) (a3 : (List ty60.D)) (k0 : ty60.D → Int → Int → Int → (List ty60.D) → Option R) : Option R :=
  if (0 : Int) ≤ a0 ∧ a0 < (a3.length : Int) then (if (Int.toNat a0) < a3.length then (k0 ((a3.getD (Int.toNat a0) (Ty.z ty60)).1, (a3.getD (Int.toNat a0) (Ty.z ty60)).2.1, ((a3.getD (Int.toNat a0) (Ty.z ty60)).2.2.1), (a3.getD (Int.toNat a0) (Ty.z ty60)).2.2.2.1, ()) a0 a1 a2 a3) else none) else none
def verdererref12_reader_now_F {R : Type} := lazyN (@verdererref12_reader_now_Fi R)
theorem verdererref12_reader_now_e : @verdererref12_reader_now_F R = @verdererref12_reader_now_Fi R := lazyN_eq _
def verdererref12_reader_now_g (n : Nat) : Gx R := typed 1 verdererref12_reader_now_d fun x k => verdererref12_reader_now_F n x.1 x.2.1 x.2.2.1 x.2.2.2.1 (fun y0 y1 y2 y3 y4 => k (.a (encA ty60 y0)) [(.box true 57 [(.ow 1), (.i .i64 y1), (.i .i64 y2), (.i .i64 y3)]), (.arr 60 ty60 y4)])
def verdererref12_reader_now_cs (R : Type) (n : Nat) : List (Nat × Gx R) := []
def verdererref12_reader_now_cx (R : Type) (n : Nat) : Cx R := ⟨Tryz.prog, Gof (verdererref12_reader_now_cs R n), noDs, noDx, noLp, drawP Tryz.prog (Gof (verdererref12_reader_now_cs R n)), false, noJn, noFz⟩
theorem verdererref12_reader_now_ok [Esc R] (n : Nat) : Good Tryz.prog 19 (verdererref12_reader_now_g (R := R) n) := by
  unfold verdererref12_reader_now_g
  rw [verdererref12_reader_now_e]
  exact Good.fn (cx := verdererref12_reader_now_cx R n) (by kernel_rfl) (AllGood.nil) rfl Tryz.func19 (by kernel_rfl) rfl trivial 1 verdererref12_reader_now_d (by kernel_rfl) (fun x k => by kernel_rfl)
end
end Go.Proofs.YtnnbinmomendnaaGreatDoor.E
set_option linter.unusedVariables false
set_option maxRecDepth 100000
namespace Go.Proofs.YtnnbinmomendnaaGreatDoor.E
open Go.Proofs
noncomputable section
variable {R : Type}
/-! (*verderer/verdererref12.reader).is: function 45 -/
@[reducible] def verdererref12_reader_is_d : Desc := ⟨[(0, .pt 0 0), (1, .d .str)], [.box true 57 [.ow 1, .d (.int .i64), .d (.int .i64), .d (.int .i64)], .arr 60 ty60]⟩
def verdererref12_reader_is_Fi (n : Nat) (a0 : ByteArray) (a1 : Int) (a2 : Int) (a3 : Int) (a4 : (List ty60.D)) (k0 : Bool → Int → Int → Int → (List ty60.D) → Option R) : Option R :=
  verdererref12_reader_now_F n a1 a2 a3 a4 (fun y1 y2 y3 y4 y5 => if (y3 == 0) = true then (if (y1.1 == 1) = true then (k0 (y1.2.1.toList == a0.toList) y2 y3 y4 y5) else (if (y1.1 == 3) = true then (k0 (y1.2.1.toList == a0.toList) y2 y3 y4 y5) else (k0 false y2 y3 y4 y5))) else (k0 false y2 y3 y4 y5))
def verdererref12_reader_is_F {R : Type} := lazyN (@verdererref12_reader_is_Fi R)
theorem verdererref12_reader_is_e : @verdererref12_reader_is_F R = @verdererref12_reader_is_Fi R := lazyN_eq _
def verdererref12_reader_is_g (n : Nat) : Gx R := typed 2 verdererref12_reader_is_d fun x k => verdererref12_reader_is_F n x.1 x.2.1 x.2.2.1 x.2.2.2.1 x.2.2.2.2.1 (fun y0 y1 y2 y3 y4 => k (.a (.c (.b y0))) [(.box true 57 [(.ow 1), (.i .i64 y1), (.i .i64 y2), (.i .i64 y3)]), (.arr 60 ty60 y4)])
def verdererref12_reader_is_cs (R : Type) (n : Nat) : List (Nat × Gx R) := [(19, verdererref12_reader_now_g n)]
def verdererref12_reader_is_cx (R : Type) (n : Nat) : Cx R := ⟨Tryz.prog, Gof (verdererref12_reader_is_cs R n), noDs, noDx, noLp, drawP Tryz.prog (Gof (verdererref12_reader_is_cs R n)), false, noJn, noFz⟩
theorem verdererref12_reader_is_ok [Esc R] (n : Nat) : Good Tryz.prog 45 (verdererref12_reader_is_g (R := R) n) := by
  unfold verdererref12_reader_is_g
  rw [verdererref12_reader_is_e]
  exact Good.fn (cx := verdererref12_reader_is_cx R n) (by kernel_rfl) (AllGood.cons (verdererref12_reader_now_ok n) (AllGood.nil)) rfl Tryz.func45 (by kernel_rfl) rfl trivial 2 verdererref12_reader_is_d (by kernel_rfl) (fun x k => by kernel_rfl)
end
end Go.Proofs.YtnnbinmomendnaaGreatDoor.E
set_option linter.unusedVariables false
set_option maxRecDepth 100000
namespace Go.Proofs.YtnnbinmomendnaaGreatDoor.E
open Go.Proofs
noncomputable section
variable {R : Type}
/-! (*verderer/verdererref12.reader).step: function 23 -/
@[reducible] def verdererref12_reader_step_d : Desc := ⟨[(0, .pt 0 0)], [.box true 57 [.ow 1, .d (.int .i64), .d (.int .i64), .d (.int .i64)], .arr 60 ty60]⟩
def verdererref12_reader_step_Fi (n : Nat) (a0 : Int) (a1 : Int) (a2 : Int) (a3 : (List ty60.D)) (k0 : Int → Int → Int → (List ty60.D) → Option R) : Option R :=
  if (decide ((IntKind.i64.wrap (a0 + 1)) < (a3.length : Int))) = true then (k0 (IntKind.i64.wrap (a0 + 1)) a1 a2 a3) else (k0 a0 a1 a2 a3)
def verdererref12_reader_step_F {R : Type} := lazyN (@verdererref12_reader_step_Fi R)
theorem verdererref12_reader_step_e : @verdererref12_reader_step_F R = @verdererref12_reader_step_Fi R := lazyN_eq _
def verdererref12_reader_step_g (n : Nat) : Gx R := typed 1 verdererref12_reader_step_d fun x k => verdererref12_reader_step_F n x.1 x.2.1 x.2.2.1 x.2.2.2.1 (fun y0 y1 y2 y3 => k (.tu []) [(.box true 57 [(.ow 1), (.i .i64 y0), (.i .i64 y1), (.i .i64 y2)]), (.arr 60 ty60 y3)])
def verdererref12_reader_step_cs (R : Type) (n : Nat) : List (Nat × Gx R) := []
def verdererref12_reader_step_cx (R : Type) (n : Nat) : Cx R := ⟨Tryz.prog, Gof (verdererref12_reader_step_cs R n), noDs, noDx, noLp, drawP Tryz.prog (Gof (verdererref12_reader_step_cs R n)), false, noJn, noFz⟩
theorem verdererref12_reader_step_ok [Esc R] (n : Nat) : Good Tryz.prog 23 (verdererref12_reader_step_g (R := R) n) := by
  unfold verdererref12_reader_step_g
  rw [verdererref12_reader_step_e]
  exact Good.fn (cx := verdererref12_reader_step_cx R n) (by kernel_rfl) (AllGood.nil) rfl Tryz.func23 (by kernel_rfl) rfl trivial 1 verdererref12_reader_step_d (by kernel_rfl) (fun x k => by kernel_rfl)
end
end Go.Proofs.YtnnbinmomendnaaGreatDoor.E
set_option linter.unusedVariables false
set_option maxRecDepth 100000
namespace Go.Proofs.YtnnbinmomendnaaGreatDoor.E
open Go.Proofs
noncomputable section
variable {R : Type}
/-! (*verderer/verdererref12.reader).take: function 17 -/
@[reducible] def verdererref12_reader_take_d : Desc := ⟨[(0, .pt 0 0), (1, .d .str)], [.box true 57 [.ow 1, .d (.int .i64), .d (.int .i64), .d (.int .i64)], .arr 60 ty60]⟩
def verdererref12_reader_take_Fi (n : Nat) (a0 : ByteArray) (a1 : Int) (a2 : Int) (a3 : Int) (a4 : (List ty60.D)) (k0 : Bool → Int → Int → Int → (List ty60.D) → Option R) : Option R :=
  verdererref12_reader_is_F n a0 a1 a2 a3 a4 (fun y1 y2 y3 y4 y5 => if (!y1) = true then (k0 false y2 y3 y4 y5) else (verdererref12_reader_step_F n y2 y3 y4 y5 (fun y6 y7 y8 y9 => k0 true y6 y7 y8 y9)))
def verdererref12_reader_take_F {R : Type} := lazyN (@verdererref12_reader_take_Fi R)
theorem verdererref12_reader_take_e : @verdererref12_reader_take_F R = @verdererref12_reader_take_Fi R := lazyN_eq _
def verdererref12_reader_take_g (n : Nat) : Gx R := typed 2 verdererref12_reader_take_d fun x k => verdererref12_reader_take_F n x.1 x.2.1 x.2.2.1 x.2.2.2.1 x.2.2.2.2.1 (fun y0 y1 y2 y3 y4 => k (.a (.c (.b y0))) [(.box true 57 [(.ow 1), (.i .i64 y1), (.i .i64 y2), (.i .i64 y3)]), (.arr 60 ty60 y4)])
def verdererref12_reader_take_cs (R : Type) (n : Nat) : List (Nat × Gx R) := [(23, verdererref12_reader_step_g n), (45, verdererref12_reader_is_g n)]
def verdererref12_reader_take_cx (R : Type) (n : Nat) : Cx R := ⟨Tryz.prog, Gof (verdererref12_reader_take_cs R n), noDs, noDx, noLp, drawP Tryz.prog (Gof (verdererref12_reader_take_cs R n)), false, noJn, noFz⟩
theorem verdererref12_reader_take_ok [Esc R] (n : Nat) : Good Tryz.prog 17 (verdererref12_reader_take_g (R := R) n) := by
  unfold verdererref12_reader_take_g
  rw [verdererref12_reader_take_e]
  exact Good.fn (cx := verdererref12_reader_take_cx R n) (by kernel_rfl) (AllGood.cons (verdererref12_reader_step_ok n) (AllGood.cons (verdererref12_reader_is_ok n) (AllGood.nil))) rfl Tryz.func17 (by kernel_rfl) rfl trivial 2 verdererref12_reader_take_d (by kernel_rfl) (fun x k => by kernel_rfl)
end
end Go.Proofs.YtnnbinmomendnaaGreatDoor.E
set_option linter.unusedVariables false
set_option maxRecDepth 100000
namespace Go.Proofs.YtnnbinmomendnaaGreatDoor.E
open Go.Proofs
noncomputable section
variable {R : Type}
/-! (*verderer/verdererref12.reader).named: function 46 -/
@[reducible] def verdererref12_reader_named_d : Desc := ⟨[(0, .pt 0 0)], [.box true 57 [.ow 1, .d (.int .i64), .d (.int .i64), .d (.int .i64)], .arr 60 ty60]⟩
def verdererref12_reader_named_Fi (n : Nat) (a0 : Int) (a1 : Int) (a2 : Int) (a3 : (List ty60.D)) (k0 : Bool → Int → Int → Int → (List ty60.D) → Option R) : Option R :=
  verdererref12_reader_now_F n a0 a1 a2 a3 (fun y1 y2 y3 y4 y5 => if (y3 == 0) = true then (if (y1.1 == 1) = true then (verdererref07_Name_F n y1.2.1 (fun y6 => if y6 = true then (verdererref11_Reserved_F n y1.2.1 (fun y7 => k0 (!y7) y2 y3 y4 y5)) else (k0 false y2 y3 y4 y5))) else (k0 false y2 y3 y4 y5)) else (k0 false y2 y3 y4 y5))
def verdererref12_reader_named_F {R : Type} := lazyN (@verdererref12_reader_named_Fi R)
theorem verdererref12_reader_named_e : @verdererref12_reader_named_F R = @verdererref12_reader_named_Fi R := lazyN_eq _
def verdererref12_reader_named_g (n : Nat) : Gx R := typed 1 verdererref12_reader_named_d fun x k => verdererref12_reader_named_F n x.1 x.2.1 x.2.2.1 x.2.2.2.1 (fun y0 y1 y2 y3 y4 => k (.a (.c (.b y0))) [(.box true 57 [(.ow 1), (.i .i64 y1), (.i .i64 y2), (.i .i64 y3)]), (.arr 60 ty60 y4)])
def verdererref12_reader_named_cs (R : Type) (n : Nat) : List (Nat × Gx R) := [(19, verdererref12_reader_now_g n), (71, verdererref07_Name_g n), (72, verdererref11_Reserved_g n)]
def verdererref12_reader_named_cx (R : Type) (n : Nat) : Cx R := ⟨Tryz.prog, Gof (verdererref12_reader_named_cs R n), noDs, noDx, noLp, drawP Tryz.prog (Gof (verdererref12_reader_named_cs R n)), false, noJn, noFz⟩
theorem verdererref12_reader_named_ok [Esc R] (n : Nat) : Good Tryz.prog 46 (verdererref12_reader_named_g (R := R) n) := by
  unfold verdererref12_reader_named_g
  rw [verdererref12_reader_named_e]
  exact Good.fn (cx := verdererref12_reader_named_cx R n) (by kernel_rfl) (AllGood.cons (verdererref12_reader_now_ok n) (AllGood.cons (verdererref07_Name_ok n) (AllGood.cons (verdererref11_Reserved_ok n) (AllGood.nil)))) rfl Tryz.func46 (by kernel_rfl) rfl trivial 1 verdererref12_reader_named_d (by kernel_rfl) (fun x k => by kernel_rfl)
end
end Go.Proofs.YtnnbinmomendnaaGreatDoor.E
set_option linter.unusedVariables false
set_option maxRecDepth 100000
namespace Go.Proofs.YtnnbinmomendnaaGreatDoor.E
open Go.Proofs
noncomputable section
variable {R : Type}
/-! (*verderer/verdererref12.reader).fail: function 18 -/
@[reducible] def verdererref12_reader_fail_d : Desc := ⟨[(0, .pt 0 0), (1, .d (.int .i64)), (2, .d (.int .i64))], [.box true 57 [.ow 1, .d (.int .i64), .d (.int .i64), .d (.int .i64)], .arr 60 ty60]⟩
def verdererref12_reader_fail_Fi (n : Nat) (a0 : Int) (a1 : Int) (a2 : Int) (a3 : Int) (a4 : Int) (a5 : (List ty60.D)) (k0 : Int → Int → Int → (List ty60.D) → Option R) : Option R :=
  if (a3 == 0) = true then (k0 a2 a0 a1 a5) else (k0 a2 a3 a4 a5)
def verdererref12_reader_fail_F {R : Type} := lazyN (@verdererref12_reader_fail_Fi R)
theorem verdererref12_reader_fail_e : @verdererref12_reader_fail_F R = @verdererref12_reader_fail_Fi R := lazyN_eq _
def verdererref12_reader_fail_g (n : Nat) : Gx R := typed 3 verdererref12_reader_fail_d fun x k => verdererref12_reader_fail_F n x.1 x.2.1 x.2.2.1 x.2.2.2.1 x.2.2.2.2.1 x.2.2.2.2.2.1 (fun y0 y1 y2 y3 => k (.tu []) [(.box true 57 [(.ow 1), (.i .i64 y0), (.i .i64 y1), (.i .i64 y2)]), (.arr 60 ty60 y3)])
def verdererref12_reader_fail_cs (R : Type) (n : Nat) : List (Nat × Gx R) := []
def verdererref12_reader_fail_cx (R : Type) (n : Nat) : Cx R := ⟨Tryz.prog, Gof (verdererref12_reader_fail_cs R n), noDs, noDx, noLp, drawP Tryz.prog (Gof (verdererref12_reader_fail_cs R n)), false, noJn, noFz⟩
theorem verdererref12_reader_fail_ok [Esc R] (n : Nat) : Good Tryz.prog 18 (verdererref12_reader_fail_g (R := R) n) := by
  unfold verdererref12_reader_fail_g
  rw [verdererref12_reader_fail_e]
  exact Good.fn (cx := verdererref12_reader_fail_cx R n) (by kernel_rfl) (AllGood.nil) rfl Tryz.func18 (by kernel_rfl) rfl trivial 3 verdererref12_reader_fail_d (by kernel_rfl) (fun x k => by kernel_rfl)
end
end Go.Proofs.YtnnbinmomendnaaGreatDoor.E
set_option linter.unusedVariables false
set_option maxRecDepth 100000
namespace Go.Proofs.YtnnbinmomendnaaGreatDoor.E
open Go.Proofs
noncomputable section
variable {R : Type}
/-! (*verderer/verdererref12.reader).name: function 20 -/
@[reducible] def verdererref12_reader_name_d : Desc := ⟨[(0, .pt 0 0)], [.box true 57 [.ow 1, .d (.int .i64), .d (.int .i64), .d (.int .i64)], .arr 60 ty60]⟩
def verdererref12_reader_name_Fi (n : Nat) (a0 : Int) (a1 : Int) (a2 : Int) (a3 : (List ty60.D)) (k0 : ByteArray → Int → Int → Int → (List ty60.D) → Option R) : Option R :=
  verdererref12_reader_named_F n a0 a1 a2 a3 (fun y1 y2 y3 y4 y5 => if (!y1) = true then (verdererref12_reader_now_F n y2 y3 y4 y5 (fun y6 y7 y8 y9 y10 => verdererref12_reader_fail_F n 7 y6.2.2.2.1 y7 y8 y9 y10 (fun y11 y12 y13 y14 => k0 (⟨#[]⟩ : ByteArray) y11 y12 y13 y14))) else (verdererref12_reader_now_F n y2 y3 y4 y5 (fun y15 y16 y17 y18 y19 => verdererref12_reader_step_F n y16 y17 y18 y19 (fun y20 y21 y22 y23 => k0 y15.2.1 y20 y21 y22 y23))))
def verdererref12_reader_name_F {R : Type} := lazyN (@verdererref12_reader_name_Fi R)
theorem verdererref12_reader_name_e : @verdererref12_reader_name_F R = @verdererref12_reader_name_Fi R := lazyN_eq _
def verdererref12_reader_name_g (n : Nat) : Gx R := typed 1 verdererref12_reader_name_d fun x k => verdererref12_reader_name_F n x.1 x.2.1 x.2.2.1 x.2.2.2.1 (fun y0 y1 y2 y3 y4 => k (.a (.c (.s y0))) [(.box true 57 [(.ow 1), (.i .i64 y1), (.i .i64 y2), (.i .i64 y3)]), (.arr 60 ty60 y4)])
def verdererref12_reader_name_cs (R : Type) (n : Nat) : List (Nat × Gx R) := [(18, verdererref12_reader_fail_g n), (19, verdererref12_reader_now_g n), (23, verdererref12_reader_step_g n), (46, verdererref12_reader_named_g n)]
def verdererref12_reader_name_cx (R : Type) (n : Nat) : Cx R := ⟨Tryz.prog, Gof (verdererref12_reader_name_cs R n), noDs, noDx, noLp, drawP Tryz.prog (Gof (verdererref12_reader_name_cs R n)), false, noJn, noFz⟩
theorem verdererref12_reader_name_ok [Esc R] (n : Nat) : Good Tryz.prog 20 (verdererref12_reader_name_g (R := R) n) := by
  unfold verdererref12_reader_name_g
  rw [verdererref12_reader_name_e]
  exact Good.fn (cx := verdererref12_reader_name_cx R n) (by kernel_rfl) (AllGood.cons (verdererref12_reader_fail_ok n) (AllGood.cons (verdererref12_reader_now_ok n) (AllGood.cons (verdererref12_reader_step_ok n) (AllGood.cons (verdererref12_reader_named_ok n) (AllGood.nil))))) rfl Tryz.func20 (by kernel_rfl) rfl trivial 1 verdererref12_reader_name_d (by kernel_rfl) (fun x k => by kernel_rfl)
end
end Go.Proofs.YtnnbinmomendnaaGreatDoor.E
set_option linter.unusedVariables false
set_option maxRecDepth 100000
namespace Go.Proofs.YtnnbinmomendnaaGreatDoor.E
open Go.Proofs
noncomputable section
variable {R : Type}
/-! (*verderer/verdererref12.reader).must: function 21 -/
@[reducible] def verdererref12_reader_must_d : Desc := ⟨[(0, .pt 0 0), (1, .d .str)], [.box true 57 [.ow 1, .d (.int .i64), .d (.int .i64), .d (.int .i64)], .arr 60 ty60]⟩
def verdererref12_reader_must_Fi (n : Nat) (a0 : ByteArray) (a1 : Int) (a2 : Int) (a3 : Int) (a4 : (List ty60.D)) (k0 : Int → Int → Int → (List ty60.D) → Option R) : Option R :=
  verdererref12_reader_take_F n a0 a1 a2 a3 a4 (fun y1 y2 y3 y4 y5 => if (!y1) = true then (verdererref12_reader_now_F n y2 y3 y4 y5 (fun y6 y7 y8 y9 y10 => verdererref12_reader_fail_F n 7 y6.2.2.2.1 y7 y8 y9 y10 (fun y11 y12 y13 y14 => k0 y11 y12 y13 y14))) else (k0 y2 y3 y4 y5))
def verdererref12_reader_must_F {R : Type} := lazyN (@verdererref12_reader_must_Fi R)
theorem verdererref12_reader_must_e : @verdererref12_reader_must_F R = @verdererref12_reader_must_Fi R := lazyN_eq _
def verdererref12_reader_must_g (n : Nat) : Gx R := typed 2 verdererref12_reader_must_d fun x k => verdererref12_reader_must_F n x.1 x.2.1 x.2.2.1 x.2.2.2.1 x.2.2.2.2.1 (fun y0 y1 y2 y3 => k (.tu []) [(.box true 57 [(.ow 1), (.i .i64 y0), (.i .i64 y1), (.i .i64 y2)]), (.arr 60 ty60 y3)])
def verdererref12_reader_must_cs (R : Type) (n : Nat) : List (Nat × Gx R) := [(17, verdererref12_reader_take_g n), (18, verdererref12_reader_fail_g n), (19, verdererref12_reader_now_g n)]
def verdererref12_reader_must_cx (R : Type) (n : Nat) : Cx R := ⟨Tryz.prog, Gof (verdererref12_reader_must_cs R n), noDs, noDx, noLp, drawP Tryz.prog (Gof (verdererref12_reader_must_cs R n)), false, noJn, noFz⟩
theorem verdererref12_reader_must_ok [Esc R] (n : Nat) : Good Tryz.prog 21 (verdererref12_reader_must_g (R := R) n) := by
  unfold verdererref12_reader_must_g
  rw [verdererref12_reader_must_e]
  exact Good.fn (cx := verdererref12_reader_must_cx R n) (by kernel_rfl) (AllGood.cons (verdererref12_reader_take_ok n) (AllGood.cons (verdererref12_reader_fail_ok n) (AllGood.cons (verdererref12_reader_now_ok n) (AllGood.nil)))) rfl Tryz.func21 (by kernel_rfl) rfl trivial 2 verdererref12_reader_must_d (by kernel_rfl) (fun x k => by kernel_rfl)
end
end Go.Proofs.YtnnbinmomendnaaGreatDoor.E
set_option linter.unusedVariables false
set_option maxRecDepth 100000
namespace Go.Proofs.YtnnbinmomendnaaGreatDoor.E
open Go.Proofs
noncomputable section
variable {R : Type}
/-! (*verderer/verdererref12.reader).agg: function 47 -/
def verdererref12_reader_agg_ds : Nat → Desc
  | 3 => ⟨[(0, .pt 0 0), (1, .pt 2 0), (5, .ow 5), (6, .d (.int .i64))], [.box true 57 [.ow 1, .d (.int .i64), .d (.int .i64), .d (.int .i64)], .arr 60 ty60, .box true 25 [.d (.int .i64), .d .str, .ow 3, .d (.int .i64), .d .str, .d (.int .i64), .ow 4], .arr 9 .str, .arr 51 ty51, .arr 9 .str]⟩
  | _ => ⟨[], []⟩
def verdererref12_reader_agg_dx : Nat → List (X × Desc)
  | 3 => [(.r, ⟨[(4, .d .bool)], [.box true 57 [.ow 1, .d (.int .i64), .d (.int .i64), .d (.int .i64)], .arr 60 ty60, .box true 25 [.d (.int .i64), .d .str, .ow 3, .d (.int .i64), .d .str, .d (.int .i64), .ow 4], .arr 9 .str, .arr 51 ty51]⟩), (.e 0, ⟨[], [.box true 57 [.ow 1, .d (.int .i64), .d (.int .i64), .d (.int .i64)], .arr 60 ty60, .box true 25 [.d (.int .i64), .d .str, .ow 3, .d (.int .i64), .d .str, .d (.int .i64), .ow 4], .arr 9 .str, .arr 51 ty51]⟩)]
  | _ => []
def verdererref12_reader_agg_s3 (n : Nat) (x0 : Int) (x1 : Int) (x2 : Int) (x3 : Int) (x4 : (List ty60.D)) (x5 : Int) (x6 : ByteArray) (x7 : Int) (x8 : ByteArray) (x9 : Int) (x10 : (List ByteArray)) (x11 : (List ty51.D)) (x12 : (List ByteArray)) (k1 : Int → Int → Int → Int → (List ty60.D) → Int → ByteArray → Int → ByteArray → Int → (List ByteArray) → (List ty51.D) → (List ByteArray) → Option R) (qr : Bool → Int → Int → Int → (List ty60.D) → Int → ByteArray → Int → ByteArray → Int → (List ByteArray) → (List ty51.D) → Option R) (qe0 : Int → Int → Int → (List ty60.D) → Int → ByteArray → Int → ByteArray → Int → (List ByteArray) → (List ty51.D) → Option R) : Option R :=
  if (decide (x0 < (x12.length : Int))) = true then (if (0 : Int) ≤ x0 ∧ x0 < (x12.length : Int) then (if (Int.toNat x0) < x12.length then (verdererref12_reader_is_F n (x12.getD (Int.toNat x0) (Ty.z .str)) x1 x2 x3 x4 (fun y1 y2 y3 y4 y5 => if (!y1) = true then (k1 (IntKind.i64.wrap (x0 + 1)) y2 y3 y4 y5 x5 x6 x7 x8 x9 x10 x11 x12) else (if (x5 == 1) = true then (verdererref12_reader_now_F n y2 y3 y4 y5 (fun y6 y7 y8 y9 y10 => verdererref12_reader_fail_F n 7 y6.2.2.2.1 y7 y8 y9 y10 (fun y11 y12 y13 y14 => qr true y11 y12 y13 y14 x5 x6 x7 x8 x9 x10 x11))) else (if (x5 == 3) = true then (if (decide (x0 > 2)) = true then (verdererref12_reader_now_F n y2 y3 y4 y5 (fun y15 y16 y17 y18 y19 => verdererref12_reader_fail_F n 7 y15.2.2.2.1 y16 y17 y18 y19 (fun y20 y21 y22 y23 => qr true y20 y21 y22 y23 x5 x6 x7 x8 x9 x10 x11))) else (verdererref12_reader_step_F n y2 y3 y4 y5 (fun y24 y25 y26 y27 => if (decide (x0 > 1)) = true then (verdererref12_reader_name_F n y24 y25 y26 y27 (fun y28 y29 y30 y31 y32 => qr true y29 y30 y31 y32 x5 x6 x0 y28 x9 x10 x11)) else (qr true y24 y25 y26 y27 x5 x6 x0 x8 x9 x10 x11)))) else (verdererref12_reader_step_F n y2 y3 y4 y5 (fun y33 y34 y35 y36 => if (decide (x0 > 1)) = true then (verdererref12_reader_name_F n y33 y34 y35 y36 (fun y37 y38 y39 y40 y41 => qr true y38 y39 y40 y41 x5 x6 x0 y37 x9 x10 x11)) else (qr true y33 y34 y35 y36 x5 x6 x0 x8 x9 x10 x11))))))) else none) else none) else (qe0 x1 x2 x3 x4 x5 x6 x7 x8 x9 x10 x11)
def verdererref12_reader_agg_l3 (n : Nat) (a : (verdererref12_reader_agg_ds 3).D) (k1 : (verdererref12_reader_agg_ds 3).D → Option R) (k2 : exK R (verdererref12_reader_agg_dx 3)) : Option R :=
  verdererref12_reader_agg_s3 n a.1 a.2.1 a.2.2.1 a.2.2.2.1 a.2.2.2.2.1 a.2.2.2.2.2.1 a.2.2.2.2.2.2.1 a.2.2.2.2.2.2.2.1 a.2.2.2.2.2.2.2.2.1 a.2.2.2.2.2.2.2.2.2.1 a.2.2.2.2.2.2.2.2.2.2.1 a.2.2.2.2.2.2.2.2.2.2.2.1 a.2.2.2.2.2.2.2.2.2.2.2.2.1 (fun x0 x1 x2 x3 x4 x5 x6 x7 x8 x9 x10 x11 x12 => k1 (x0, x1, x2, x3, x4, x5, x6, x7, x8, x9, x10, x11, x12, ())) (fun x0 x1 x2 x3 x4 x5 x6 x7 x8 x9 x10 x11 => k2.1 (x0, x1, x2, x3, x4, x5, x6, x7, x8, x9, x10, x11, ())) (fun x0 x1 x2 x3 x4 x5 x6 x7 x8 x9 x10 => k2.2.1 (x0, x1, x2, x3, x4, x5, x6, x7, x8, x9, x10, ()))
@[reducible] def verdererref12_reader_agg_d : Desc := ⟨[(0, .pt 0 0), (1, .pt 2 0)], [.box true 57 [.ow 1, .d (.int .i64), .d (.int .i64), .d (.int .i64)], .arr 60 ty60, .box true 25 [.d (.int .i64), .d .str, .ow 3, .d (.int .i64), .d .str, .d (.int .i64), .ow 4], .arr 9 .str, .arr 51 ty51]⟩
def verdererref12_reader_agg_Fi (n : Nat) (a0 : Int) (a1 : Int) (a2 : Int) (a3 : (List ty60.D)) (a4 : Int) (a5 : ByteArray) (a6 : Int) (a7 : ByteArray) (a8 : Int) (a9 : (List ByteArray)) (a10 : (List ty51.D)) (k0 : Bool → Int → Int → Int → (List ty60.D) → Int → ByteArray → Int → ByteArray → Int → (List ByteArray) → (List ty51.D) → Option R) : Option R :=
  runC (verdererref12_reader_agg_l3 n) n (1, a0, a1, a2, a3, a4, a5, a6, a7, a8, a9, a10, [(⟨#[]⟩ : ByteArray), (⟨#[99, 111, 117, 110, 116]⟩ : ByteArray), (⟨#[115, 117, 109]⟩ : ByteArray), (⟨#[108, 101, 97, 115, 116]⟩ : ByteArray), (⟨#[109, 111, 115, 116]⟩ : ByteArray)], ()) (fun b53 => k0 b53.1 b53.2.1 b53.2.2.1 b53.2.2.2.1 b53.2.2.2.2.1 b53.2.2.2.2.2.1 b53.2.2.2.2.2.2.1 b53.2.2.2.2.2.2.2.1 b53.2.2.2.2.2.2.2.2.1 b53.2.2.2.2.2.2.2.2.2.1 b53.2.2.2.2.2.2.2.2.2.2.1 b53.2.2.2.2.2.2.2.2.2.2.2.1, fun b64 => k0 false b64.1 b64.2.1 b64.2.2.1 b64.2.2.2.1 b64.2.2.2.2.1 b64.2.2.2.2.2.1 b64.2.2.2.2.2.2.1 b64.2.2.2.2.2.2.2.1 b64.2.2.2.2.2.2.2.2.1 b64.2.2.2.2.2.2.2.2.2.1 b64.2.2.2.2.2.2.2.2.2.2.1, ())
def verdererref12_reader_agg_F {R : Type} := lazyN (@verdererref12_reader_agg_Fi R)
theorem verdererref12_reader_agg_e : @verdererref12_reader_agg_F R = @verdererref12_reader_agg_Fi R := lazyN_eq _
def verdererref12_reader_agg_g (n : Nat) : Gx R := typed 2 verdererref12_reader_agg_d fun x k => verdererref12_reader_agg_F n x.1 x.2.1 x.2.2.1 x.2.2.2.1 x.2.2.2.2.1 x.2.2.2.2.2.1 x.2.2.2.2.2.2.1 x.2.2.2.2.2.2.2.1 x.2.2.2.2.2.2.2.2.1 x.2.2.2.2.2.2.2.2.2.1 x.2.2.2.2.2.2.2.2.2.2.1 (fun y0 y1 y2 y3 y4 y5 y6 y7 y8 y9 y10 y11 => k (.a (.c (.b y0))) [(.box true 57 [(.ow 1), (.i .i64 y1), (.i .i64 y2), (.i .i64 y3)]), (.arr 60 ty60 y4), (.box true 25 [(.i .i64 y5), (.s y6), (.ow 3), (.i .i64 y7), (.s y8), (.i .i64 y9), (.ow 4)]), (.arr 9 .str y10), (.arr 51 ty51 y11)])
def verdererref12_reader_agg_cs (R : Type) (n : Nat) : List (Nat × Gx R) := [(18, verdererref12_reader_fail_g n), (19, verdererref12_reader_now_g n), (20, verdererref12_reader_name_g n), (23, verdererref12_reader_step_g n), (45, verdererref12_reader_is_g n)]
def verdererref12_reader_agg_lp (n : Nat) : (i : Nat) → (verdererref12_reader_agg_ds i).D → exK R (verdererref12_reader_agg_dx i) → Option R
  | 3, a, k => runC (verdererref12_reader_agg_l3 n) n a k
  | _, _, _ => none
def verdererref12_reader_agg_cx (R : Type) (n : Nat) : Cx R := ⟨Tryz.prog, Gof (verdererref12_reader_agg_cs R n), verdererref12_reader_agg_ds, verdererref12_reader_agg_dx, verdererref12_reader_agg_lp n, drawP Tryz.prog (Gof (verdererref12_reader_agg_cs R n)), false, noJn, noFz⟩
theorem verdererref12_reader_agg_ok [Esc R] (n : Nat) : Good Tryz.prog 47 (verdererref12_reader_agg_g (R := R) n) := by
  unfold verdererref12_reader_agg_g
  rw [verdererref12_reader_agg_e]
  exact Good.fn (cx := verdererref12_reader_agg_cx R n) (by kernel_rfl) (AllGood.cons (verdererref12_reader_fail_ok n) (AllGood.cons (verdererref12_reader_now_ok n) (AllGood.cons (verdererref12_reader_name_ok n) (AllGood.cons (verdererref12_reader_step_ok n) (AllGood.cons (verdererref12_reader_is_ok n) (AllGood.nil)))))) rfl Tryz.func47 (by kernel_rfl) rfl (by
    have e : fnLoops noJn Tryz.f47 = [((fnLoops noJn Tryz.f47)[0]?).getD (false, .skip)] := by kernel_rfl
    show LoopRuns _ _ (fnLoops noJn _)
    rw [e]
    exact ⟨LoopRun.loop (by kernel_rfl) (i := 3) (m := n) (step := verdererref12_reader_agg_l3 n) (by kernel_rfl) (fun a k1 k2 => by kernel_rfl) (fun _ _ => rfl), trivial⟩) 2 verdererref12_reader_agg_d (by kernel_rfl) (fun x k => by kernel_rfl)
end
end Go.Proofs.YtnnbinmomendnaaGreatDoor.E
set_option linter.unusedVariables false
set_option maxRecDepth 100000
namespace Go.Proofs.YtnnbinmomendnaaGreatDoor.E
open Go.Proofs
noncomputable section
variable {R : Type}
/-! (*verderer/verdererref12.reader).head: function 22 -/
def verdererref12_reader_head_ds : Nat → Desc
  | 6 => ⟨[(0, .pt 0 0), (1, .pt 2 0), (4, .d (.int .i64))], [.box true 57 [.ow 1, .d (.int .i64), .d (.int .i64), .d (.int .i64)], .arr 60 ty60, .box true 25 [.d (.int .i64), .d .str, .ow 3, .d (.int .i64), .d .str, .d (.int .i64), .ow 4], .arr 9 .str, .arr 51 ty51]⟩
  | _ => ⟨[], []⟩
def verdererref12_reader_head_dx : Nat → List (X × Desc)
  | 6 => [(.r, ⟨[], [.box true 57 [.ow 1, .d (.int .i64), .d (.int .i64), .d (.int .i64)], .arr 60 ty60, .box true 25 [.d (.int .i64), .d .str, .ow 3, .d (.int .i64), .d .str, .d (.int .i64), .ow 4], .arr 9 .str, .arr 51 ty51]⟩), (.e 0, ⟨[], [.box true 57 [.ow 1, .d (.int .i64), .d (.int .i64), .d (.int .i64)], .arr 60 ty60, .box true 25 [.d (.int .i64), .d .str, .ow 3, .d (.int .i64), .d .str, .d (.int .i64), .ow 4], .arr 9 .str, .arr 51 ty51]⟩)]
  | _ => []
def verdererref12_reader_head_s6 (n : Nat) (x0 : Int) (x1 : Int) (x2 : Int) (x3 : Int) (x4 : (List ty60.D)) (x5 : Int) (x6 : ByteArray) (x7 : Int) (x8 : ByteArray) (x9 : Int) (x10 : (List ByteArray)) (x11 : (List ty51.D)) (k1 : Int → Int → Int → Int → (List ty60.D) → Int → ByteArray → Int → ByteArray → Int → (List ByteArray) → (List ty51.D) → Option R) (qr : Int → Int → Int → (List ty60.D) → Int → ByteArray → Int → ByteArray → Int → (List ByteArray) → (List ty51.D) → Option R) (qe0 : Int → Int → Int → (List ty60.D) → Int → ByteArray → Int → ByteArray → Int → (List ByteArray) → (List ty51.D) → Option R) : Option R :=
  if (decide (x0 < 400)) = true then (if (x2 == 0) = true then (verdererref12_reader_agg_F n x1 x2 x3 x4 x5 x6 x7 x8 x9 x10 x11 (fun y31 y32 y33 y34 y35 y36 y37 y38 y39 y40 y41 y42 => if y31 = true then (qr y32 y33 y34 y35 y36 y37 y38 y39 y40 y41 y42) else (verdererref12_reader_now_F n y32 y33 y34 y35 (fun y43 y44 y45 y46 y47 => verdererref12_reader_name_F n y44 y45 y46 y47 (fun y48 y49 y50 y51 y52 => if (decide ((y41.length : Int) ≥ 40)) = true then (verdererref12_reader_fail_F n 9 y43.2.2.2.1 y49 y50 y51 y52 (fun y53 y54 y55 y56 => if (List.length y41 + List.length [y48]) * 16 ≤ 140737488355328 then (verdererref12_reader_take_F n (⟨#[44]⟩ : ByteArray) y53 y54 y55 y56 (fun y57 y58 y59 y60 y61 => if (!y57) = true then (qr y58 y59 y60 y61 y36 y37 y38 y39 y40 (y41 ++ [y48]) y42) else (k1 (IntKind.i64.wrap (x0 + 1)) y58 y59 y60 y61 y36 y37 y38 y39 y40 (y41 ++ [y48]) y42))) else none)) else (if (List.length y41 + List.length [y48]) * 16 ≤ 140737488355328 then (verdererref12_reader_take_F n (⟨#[44]⟩ : ByteArray) y49 y50 y51 y52 (fun y62 y63 y64 y65 y66 => if (!y62) = true then (qr y63 y64 y65 y66 y36 y37 y38 y39 y40 (y41 ++ [y48]) y42) else (k1 (IntKind.i64.wrap (x0 + 1)) y63 y64 y65 y66 y36 y37 y38 y39 y40 (y41 ++ [y48]) y42))) else none)))))) else (qe0 x1 x2 x3 x4 x5 x6 x7 x8 x9 x10 x11)) else (qe0 x1 x2 x3 x4 x5 x6 x7 x8 x9 x10 x11)
def verdererref12_reader_head_l6 (n : Nat) (a : (verdererref12_reader_head_ds 6).D) (k1 : (verdererref12_reader_head_ds 6).D → Option R) (k2 : exK R (verdererref12_reader_head_dx 6)) : Option R :=
  verdererref12_reader_head_s6 n a.1 a.2.1 a.2.2.1 a.2.2.2.1 a.2.2.2.2.1 a.2.2.2.2.2.1 a.2.2.2.2.2.2.1 a.2.2.2.2.2.2.2.1 a.2.2.2.2.2.2.2.2.1 a.2.2.2.2.2.2.2.2.2.1 a.2.2.2.2.2.2.2.2.2.2.1 a.2.2.2.2.2.2.2.2.2.2.2.1 (fun x0 x1 x2 x3 x4 x5 x6 x7 x8 x9 x10 x11 => k1 (x0, x1, x2, x3, x4, x5, x6, x7, x8, x9, x10, x11, ())) (fun x0 x1 x2 x3 x4 x5 x6 x7 x8 x9 x10 => k2.1 (x0, x1, x2, x3, x4, x5, x6, x7, x8, x9, x10, ())) (fun x0 x1 x2 x3 x4 x5 x6 x7 x8 x9 x10 => k2.2.1 (x0, x1, x2, x3, x4, x5, x6, x7, x8, x9, x10, ()))
@[reducible] def verdererref12_reader_head_d : Desc := ⟨[(0, .pt 0 0), (1, .pt 2 0)], [.box true 57 [.ow 1, .d (.int .i64), .d (.int .i64), .d (.int .i64)], .arr 60 ty60, .box true 25 [.d (.int .i64), .d .str, .ow 3, .d (.int .i64), .d .str, .d (.int .i64), .ow 4], .arr 9 .str, .arr 51 ty51]⟩
def verdererref12_reader_head_Fi (n : Nat) (a0 : Int) (a1 : Int) (a2 : Int) (a3 : (List ty60.D)) (a4 : Int) (a5 : ByteArray) (a6 : Int) (a7 : ByteArray) (a8 : Int) (a9 : (List ByteArray)) (a10 : (List ty51.D)) (k0 : Int → Int → Int → (List ty60.D) → Int → ByteArray → Int → ByteArray → Int → (List ByteArray) → (List ty51.D) → Option R) : Option R :=
  if (a4 == 3) = true then (verdererref12_reader_name_F n a0 a1 a2 a3 (fun y1 y2 y3 y4 y5 => if (List.length a9 + List.length [y1]) * 16 ≤ 140737488355328 then (verdererref12_reader_must_F n (⟨#[44]⟩ : ByteArray) y2 y3 y4 y5 (fun y6 y7 y8 y9 => verdererref12_reader_agg_F n y6 y7 y8 y9 a4 a5 a6 a7 a8 (a9 ++ [y1]) a10 (fun y10 y11 y12 y13 y14 y15 y16 y17 y18 y19 y20 y21 => if (!y10) = true then (verdererref12_reader_now_F n y11 y12 y13 y14 (fun y22 y23 y24 y25 y26 => verdererref12_reader_fail_F n 7 y22.2.2.2.1 y23 y24 y25 y26 (fun y27 y28 y29 y30 => k0 y27 y28 y29 y30 y15 y16 y17 y18 y19 y20 y21))) else (k0 y11 y12 y13 y14 y15 y16 y17 y18 y19 y20 y21)))) else none)) else (runC (verdererref12_reader_head_l6 n) n (0, a0, a1, a2, a3, a4, a5, a6, a7, a8, a9, a10, ()) (fun b77 => k0 b77.1 b77.2.1 b77.2.2.1 b77.2.2.2.1 b77.2.2.2.2.1 b77.2.2.2.2.2.1 b77.2.2.2.2.2.2.1 b77.2.2.2.2.2.2.2.1 b77.2.2.2.2.2.2.2.2.1 b77.2.2.2.2.2.2.2.2.2.1 b77.2.2.2.2.2.2.2.2.2.2.1, fun b88 => k0 b88.1 b88.2.1 b88.2.2.1 b88.2.2.2.1 b88.2.2.2.2.1 b88.2.2.2.2.2.1 b88.2.2.2.2.2.2.1 b88.2.2.2.2.2.2.2.1 b88.2.2.2.2.2.2.2.2.1 b88.2.2.2.2.2.2.2.2.2.1 b88.2.2.2.2.2.2.2.2.2.2.1, ()))
def verdererref12_reader_head_F {R : Type} := lazyN (@verdererref12_reader_head_Fi R)
theorem verdererref12_reader_head_e : @verdererref12_reader_head_F R = @verdererref12_reader_head_Fi R := lazyN_eq _
def verdererref12_reader_head_g (n : Nat) : Gx R := typed 2 verdererref12_reader_head_d fun x k => verdererref12_reader_head_F n x.1 x.2.1 x.2.2.1 x.2.2.2.1 x.2.2.2.2.1 x.2.2.2.2.2.1 x.2.2.2.2.2.2.1 x.2.2.2.2.2.2.2.1 x.2.2.2.2.2.2.2.2.1 x.2.2.2.2.2.2.2.2.2.1 x.2.2.2.2.2.2.2.2.2.2.1 (fun y0 y1 y2 y3 y4 y5 y6 y7 y8 y9 y10 => k (.tu []) [(.box true 57 [(.ow 1), (.i .i64 y0), (.i .i64 y1), (.i .i64 y2)]), (.arr 60 ty60 y3), (.box true 25 [(.i .i64 y4), (.s y5), (.ow 3), (.i .i64 y6), (.s y7), (.i .i64 y8), (.ow 4)]), (.arr 9 .str y9), (.arr 51 ty51 y10)])
def verdererref12_reader_head_cs (R : Type) (n : Nat) : List (Nat × Gx R) := [(17, verdererref12_reader_take_g n), (18, verdererref12_reader_fail_g n), (19, verdererref12_reader_now_g n), (20, verdererref12_reader_name_g n), (21, verdererref12_reader_must_g n), (47, verdererref12_reader_agg_g n)]
def verdererref12_reader_head_lp (n : Nat) : (i : Nat) → (verdererref12_reader_head_ds i).D → exK R (verdererref12_reader_head_dx i) → Option R
  | 6, a, k => runC (verdererref12_reader_head_l6 n) n a k
  | _, _, _ => none
def verdererref12_reader_head_cx (R : Type) (n : Nat) : Cx R := ⟨Tryz.prog, Gof (verdererref12_reader_head_cs R n), verdererref12_reader_head_ds, verdererref12_reader_head_dx, verdererref12_reader_head_lp n, drawP Tryz.prog (Gof (verdererref12_reader_head_cs R n)), false, noJn, noFz⟩
theorem verdererref12_reader_head_ok [Esc R] (n : Nat) : Good Tryz.prog 22 (verdererref12_reader_head_g (R := R) n) := by
  unfold verdererref12_reader_head_g
  rw [verdererref12_reader_head_e]
  exact Good.fn (cx := verdererref12_reader_head_cx R n) (by kernel_rfl) (AllGood.cons (verdererref12_reader_take_ok n) (AllGood.cons (verdererref12_reader_fail_ok n) (AllGood.cons (verdererref12_reader_now_ok n) (AllGood.cons (verdererref12_reader_name_ok n) (AllGood.cons (verdererref12_reader_must_ok n) (AllGood.cons (verdererref12_reader_agg_ok n) (AllGood.nil))))))) rfl Tryz.func22 (by kernel_rfl) rfl (by
    have e : fnLoops noJn Tryz.f22 = [((fnLoops noJn Tryz.f22)[0]?).getD (false, .skip)] := by kernel_rfl
    show LoopRuns _ _ (fnLoops noJn _)
    rw [e]
    exact ⟨LoopRun.loop (by kernel_rfl) (i := 6) (m := n) (step := verdererref12_reader_head_l6 n) (by kernel_rfl) (fun a k1 k2 => by kernel_rfl) (fun _ _ => rfl), trivial⟩) 2 verdererref12_reader_head_d (by kernel_rfl) (fun x k => by kernel_rfl)
end
end Go.Proofs.YtnnbinmomendnaaGreatDoor.E
set_option linter.unusedVariables false
set_option maxRecDepth 100000
namespace Go.Proofs.YtnnbinmomendnaaGreatDoor.E
open Go.Proofs
noncomputable section
variable {R : Type}
/-! (*verderer/verdererref12.reader).lone: function 48 -/
@[reducible] def verdererref12_reader_lone_d : Desc := ⟨[(0, .pt 0 0), (1, .d (.int .i64))], [.box true 57 [.ow 1, .d (.int .i64), .d (.int .i64), .d (.int .i64)], .arr 60 ty60]⟩
def verdererref12_reader_lone_Fi (n : Nat) (a0 : Int) (a1 : Int) (a2 : Int) (a3 : Int) (a4 : (List ty60.D)) (k0 : Int → Int → Int → (List ty60.D) → Option R) : Option R :=
  verdererref12_reader_now_F n a1 a2 a3 a4 (fun y1 y2 y3 y4 y5 => verdererref12_reader_is_F n (⟨#[110, 111, 116]⟩ : ByteArray) y2 y3 y4 y5 (fun y6 y7 y8 y9 y10 => if y6 = true then (verdererref12_reader_fail_F n 9 a0 y7 y8 y9 y10 (fun y11 y12 y13 y14 => verdererref12_reader_fail_F n 7 a0 y11 y12 y13 y14 (fun y15 y16 y17 y18 => k0 y15 y16 y17 y18))) else (verdererref12_reader_named_F n y7 y8 y9 y10 (fun y19 y20 y21 y22 y23 => if y19 = true then (verdererref12_reader_fail_F n 9 a0 y20 y21 y22 y23 (fun y24 y25 y26 y27 => verdererref12_reader_fail_F n 7 a0 y24 y25 y26 y27 (fun y28 y29 y30 y31 => k0 y28 y29 y30 y31))) else (if (y1.1 == 2) = true then (verdererref12_reader_fail_F n 9 a0 y20 y21 y22 y23 (fun y32 y33 y34 y35 => verdererref12_reader_fail_F n 7 a0 y32 y33 y34 y35 (fun y36 y37 y38 y39 => k0 y36 y37 y38 y39))) else (verdererref12_reader_fail_F n 7 a0 y20 y21 y22 y23 (fun y40 y41 y42 y43 => k0 y40 y41 y42 y43)))))))
def verdererref12_reader_lone_F {R : Type} := lazyN (@verdererref12_reader_lone_Fi R)
theorem verdererref12_reader_lone_e : @verdererref12_reader_lone_F R = @verdererref12_reader_lone_Fi R := lazyN_eq _
def verdererref12_reader_lone_g (n : Nat) : Gx R := typed 2 verdererref12_reader_lone_d fun x k => verdererref12_reader_lone_F n x.1 x.2.1 x.2.2.1 x.2.2.2.1 x.2.2.2.2.1 (fun y0 y1 y2 y3 => k (.tu []) [(.box true 57 [(.ow 1), (.i .i64 y0), (.i .i64 y1), (.i .i64 y2)]), (.arr 60 ty60 y3)])
def verdererref12_reader_lone_cs (R : Type) (n : Nat) : List (Nat × Gx R) := [(18, verdererref12_reader_fail_g n), (19, verdererref12_reader_now_g n), (45, verdererref12_reader_is_g n), (46, verdererref12_reader_named_g n)]
def verdererref12_reader_lone_cx (R : Type) (n : Nat) : Cx R := ⟨Tryz.prog, Gof (verdererref12_reader_lone_cs R n), noDs, noDx, noLp, drawP Tryz.prog (Gof (verdererref12_reader_lone_cs R n)), false, noJn, noFz⟩
theorem verdererref12_reader_lone_ok [Esc R] (n : Nat) : Good Tryz.prog 48 (verdererref12_reader_lone_g (R := R) n) := by
  unfold verdererref12_reader_lone_g
  rw [verdererref12_reader_lone_e]
  exact Good.fn (cx := verdererref12_reader_lone_cx R n) (by kernel_rfl) (AllGood.cons (verdererref12_reader_fail_ok n) (AllGood.cons (verdererref12_reader_now_ok n) (AllGood.cons (verdererref12_reader_is_ok n) (AllGood.cons (verdererref12_reader_named_ok n) (AllGood.nil))))) rfl Tryz.func48 (by kernel_rfl) rfl trivial 2 verdererref12_reader_lone_d (by kernel_rfl) (fun x k => by kernel_rfl)
end
end Go.Proofs.YtnnbinmomendnaaGreatDoor.E
set_option linter.unusedVariables false
set_option maxRecDepth 100000
namespace Go.Proofs.YtnnbinmomendnaaGreatDoor.E
open Go.Proofs
noncomputable section
variable {R : Type}
/-! (*verderer/verdererref12.reader).term: function 74 -/
@[reducible] def verdererref12_reader_term_d : Desc := ⟨[(0, .pt 0 0)], [.box true 57 [.ow 1, .d (.int .i64), .d (.int .i64), .d (.int .i64)], .arr 60 ty60]⟩
def verdererref12_reader_term_Fi (n : Nat) (a0 : Int) (a1 : Int) (a2 : Int) (a3 : (List ty60.D)) (k0 : ty48.D → Int → Int → Int → (List ty60.D) → Option R) : Option R :=
  verdererref12_reader_now_F n a0 a1 a2 a3 (fun y1 y2 y3 y4 y5 => if (y3 == 0) = true then (if (y1.1 == 2) = true then (verdererref12_reader_step_F n y2 y3 y4 y5 (fun y6 y7 y8 y9 => k0 ((⟨#[]⟩ : ByteArray), false, y1.2.2.1, ()) y6 y7 y8 y9)) else (verdererref12_reader_name_F n y2 y3 y4 y5 (fun y10 y11 y12 y13 y14 => k0 (y10, false, (0, false, 0, (⟨#[]⟩ : ByteArray), ()), ()) y11 y12 y13 y14))) else (verdererref12_reader_name_F n y2 y3 y4 y5 (fun y15 y16 y17 y18 y19 => k0 (y15, false, (0, false, 0, (⟨#[]⟩ : ByteArray), ()), ()) y16 y17 y18 y19)))
def verdererref12_reader_term_F {R : Type} := lazyN (@verdererref12_reader_term_Fi R)
theorem verdererref12_reader_term_e : @verdererref12_reader_term_F R = @verdererref12_reader_term_Fi R := lazyN_eq _
def verdererref12_reader_term_g (n : Nat) : Gx R := typed 1 verdererref12_reader_term_d fun x k => verdererref12_reader_term_F n x.1 x.2.1 x.2.2.1 x.2.2.2.1 (fun y0 y1 y2 y3 y4 => k (.a (encA ty48 y0)) [(.box true 57 [(.ow 1), (.i .i64 y1), (.i .i64 y2), (.i .i64 y3)]), (.arr 60 ty60 y4)])
def verdererref12_reader_term_cs (R : Type) (n : Nat) : List (Nat × Gx R) := [(19, verdererref12_reader_now_g n), (20, verdererref12_reader_name_g n), (23, verdererref12_reader_step_g n)]
def verdererref12_reader_term_cx (R : Type) (n : Nat) : Cx R := ⟨Tryz.prog, Gof (verdererref12_reader_term_cs R n), noDs, noDx, noLp, drawP Tryz.prog (Gof (verdererref12_reader_term_cs R n)), false, noJn, noFz⟩
theorem verdererref12_reader_term_ok [Esc R] (n : Nat) : Good Tryz.prog 74 (verdererref12_reader_term_g (R := R) n) := by
  unfold verdererref12_reader_term_g
  rw [verdererref12_reader_term_e]
  exact Good.fn (cx := verdererref12_reader_term_cx R n) (by kernel_rfl) (AllGood.cons (verdererref12_reader_now_ok n) (AllGood.cons (verdererref12_reader_name_ok n) (AllGood.cons (verdererref12_reader_step_ok n) (AllGood.nil)))) rfl Tryz.func74 (by kernel_rfl) rfl trivial 1 verdererref12_reader_term_d (by kernel_rfl) (fun x k => by kernel_rfl)
end
end Go.Proofs.YtnnbinmomendnaaGreatDoor.E
set_option linter.unusedVariables false
set_option maxRecDepth 100000
namespace Go.Proofs.YtnnbinmomendnaaGreatDoor.E
open Go.Proofs
noncomputable section
variable {R : Type}
/-! (*verderer/verdererref12.reader).args: function 73 -/
def verdererref12_reader_args_ds : Nat → Desc
  | 5 => ⟨[(0, .pt 0 0), (3, .ow 3), (4, .d (.int .i64))], [.box true 57 [.ow 1, .d (.int .i64), .d (.int .i64), .d (.int .i64)], .arr 60 ty60, .no, .arr 48 ty48]⟩
  | _ => ⟨[], []⟩
def verdererref12_reader_args_dx : Nat → List (X × Desc)
  | 5 => [(.r, ⟨[(2, .ow 3)], [.box true 57 [.ow 1, .d (.int .i64), .d (.int .i64), .d (.int .i64)], .arr 60 ty60, .no, .arr 48 ty48]⟩), (.e 0, ⟨[(3, .ow 3)], [.box true 57 [.ow 1, .d (.int .i64), .d (.int .i64), .d (.int .i64)], .arr 60 ty60, .no, .arr 48 ty48]⟩)]
  | _ => []
def verdererref12_reader_args_s5 (n : Nat) (x0 : Int) (x1 : Int) (x2 : Int) (x3 : Int) (x4 : (List ty60.D)) (x5 : (List ty48.D)) (k1 : Int → Int → Int → Int → (List ty60.D) → (List ty48.D) → Option R) (qr : Int → Int → Int → (List ty60.D) → (List ty48.D) → Option R) (qe0 : Int → Int → Int → (List ty60.D) → (List ty48.D) → Option R) : Option R :=
  if (decide (x0 < 400)) = true then (if (x2 == 0) = true then (verdererref12_reader_now_F n x1 x2 x3 x4 (fun y6 y7 y8 y9 y10 => verdererref12_reader_is_F n (⟨#[95]⟩ : ByteArray) y7 y8 y9 y10 (fun y11 y12 y13 y14 y15 => if y11 = true then (verdererref12_reader_step_F n y12 y13 y14 y15 (fun y16 y17 y18 y19 => if (List.length x5 + List.length [((⟨#[]⟩ : ByteArray), true, (0, false, 0, (⟨#[]⟩ : ByteArray), ()), ())]) * 64 ≤ 140737488355328 then (if (decide (((x5 ++ [((⟨#[]⟩ : ByteArray), true, (0, false, 0, (⟨#[]⟩ : ByteArray), ()), ())]).length : Int) > 40)) = true then (verdererref12_reader_fail_F n 9 y6.2.2.2.1 y16 y17 y18 y19 (fun y20 y21 y22 y23 => verdererref12_reader_take_F n (⟨#[44]⟩ : ByteArray) y20 y21 y22 y23 (fun y24 y25 y26 y27 y28 => if (!y24) = true then (verdererref12_reader_must_F n (⟨#[41]⟩ : ByteArray) y25 y26 y27 y28 (fun y29 y30 y31 y32 => qr y29 y30 y31 y32 (x5 ++ [((⟨#[]⟩ : ByteArray), true, (0, false, 0, (⟨#[]⟩ : ByteArray), ()), ())]))) else (k1 (IntKind.i64.wrap (x0 + 1)) y25 y26 y27 y28 (x5 ++ [((⟨#[]⟩ : ByteArray), true, (0, false, 0, (⟨#[]⟩ : ByteArray), ()), ())]))))) else (verdererref12_reader_take_F n (⟨#[44]⟩ : ByteArray) y16 y17 y18 y19 (fun y33 y34 y35 y36 y37 => if (!y33) = true then (verdererref12_reader_must_F n (⟨#[41]⟩ : ByteArray) y34 y35 y36 y37 (fun y38 y39 y40 y41 => qr y38 y39 y40 y41 (x5 ++ [((⟨#[]⟩ : ByteArray), true, (0, false, 0, (⟨#[]⟩ : ByteArray), ()), ())]))) else (k1 (IntKind.i64.wrap (x0 + 1)) y34 y35 y36 y37 (x5 ++ [((⟨#[]⟩ : ByteArray), true, (0, false, 0, (⟨#[]⟩ : ByteArray), ()), ())]))))) else none)) else (verdererref12_reader_term_F n y12 y13 y14 y15 (fun y42 y43 y44 y45 y46 => if (List.length x5 + List.length [y42]) * 64 ≤ 140737488355328 then (if (decide (((x5 ++ [y42]).length : Int) > 40)) = true then (verdererref12_reader_fail_F n 9 y6.2.2.2.1 y43 y44 y45 y46 (fun y47 y48 y49 y50 => verdererref12_reader_take_F n (⟨#[44]⟩ : ByteArray) y47 y48 y49 y50 (fun y51 y52 y53 y54 y55 => if (!y51) = true then (verdererref12_reader_must_F n (⟨#[41]⟩ : ByteArray) y52 y53 y54 y55 (fun y56 y57 y58 y59 => qr y56 y57 y58 y59 (x5 ++ [y42]))) else (k1 (IntKind.i64.wrap (x0 + 1)) y52 y53 y54 y55 (x5 ++ [y42]))))) else (verdererref12_reader_take_F n (⟨#[44]⟩ : ByteArray) y43 y44 y45 y46 (fun y60 y61 y62 y63 y64 => if (!y60) = true then (verdererref12_reader_must_F n (⟨#[41]⟩ : ByteArray) y61 y62 y63 y64 (fun y65 y66 y67 y68 => qr y65 y66 y67 y68 (x5 ++ [y42]))) else (k1 (IntKind.i64.wrap (x0 + 1)) y61 y62 y63 y64 (x5 ++ [y42]))))) else none))))) else (qe0 x1 x2 x3 x4 x5)) else (qe0 x1 x2 x3 x4 x5)
def verdererref12_reader_args_l5 (n : Nat) (a : (verdererref12_reader_args_ds 5).D) (k1 : (verdererref12_reader_args_ds 5).D → Option R) (k2 : exK R (verdererref12_reader_args_dx 5)) : Option R :=
  verdererref12_reader_args_s5 n a.1 a.2.1 a.2.2.1 a.2.2.2.1 a.2.2.2.2.1 a.2.2.2.2.2.1 (fun x0 x1 x2 x3 x4 x5 => k1 (x0, x1, x2, x3, x4, x5, ())) (fun x0 x1 x2 x3 x4 => k2.1 (x0, x1, x2, x3, x4, ())) (fun x0 x1 x2 x3 x4 => k2.2.1 (x0, x1, x2, x3, x4, ()))
@[reducible] def verdererref12_reader_args_d : Desc := ⟨[(0, .pt 0 0)], [.box true 57 [.ow 1, .d (.int .i64), .d (.int .i64), .d (.int .i64)], .arr 60 ty60]⟩
def verdererref12_reader_args_Fi (n : Nat) (a0 : Int) (a1 : Int) (a2 : Int) (a3 : (List ty60.D)) (k0 : Int → Int → Int → (List ty60.D) → (List ty48.D) → Option R) : Option R :=
  verdererref12_reader_take_F n (⟨#[41]⟩ : ByteArray) a0 a1 a2 a3 (fun y1 y2 y3 y4 y5 => if y1 = true then (k0 y2 y3 y4 y5 ([] : List ty48.D)) else (runC (verdererref12_reader_args_l5 n) n (0, y2, y3, y4, y5, ([] : List ty48.D), ()) (fun b73 => k0 b73.1 b73.2.1 b73.2.2.1 b73.2.2.2.1 b73.2.2.2.2.1, fun b78 => k0 b78.1 b78.2.1 b78.2.2.1 b78.2.2.2.1 b78.2.2.2.2.1, ())))
def verdererref12_reader_args_F {R : Type} := lazyN (@verdererref12_reader_args_Fi R)
theorem verdererref12_reader_args_e : @verdererref12_reader_args_F R = @verdererref12_reader_args_Fi R := lazyN_eq _
def verdererref12_reader_args_g (n : Nat) : Gx R := typed 1 verdererref12_reader_args_d fun x k => verdererref12_reader_args_F n x.1 x.2.1 x.2.2.1 x.2.2.2.1 (fun y0 y1 y2 y3 y4 => k (.a (.c (.ow 2))) [(.box true 57 [(.ow 1), (.i .i64 y0), (.i .i64 y1), (.i .i64 y2)]), (.arr 60 ty60 y3), (.arr 48 ty48 y4)])
def verdererref12_reader_args_cs (R : Type) (n : Nat) : List (Nat × Gx R) := [(17, verdererref12_reader_take_g n), (18, verdererref12_reader_fail_g n), (19, verdererref12_reader_now_g n), (21, verdererref12_reader_must_g n), (23, verdererref12_reader_step_g n), (45, verdererref12_reader_is_g n), (74, verdererref12_reader_term_g n)]
def verdererref12_reader_args_lp (n : Nat) : (i : Nat) → (verdererref12_reader_args_ds i).D → exK R (verdererref12_reader_args_dx i) → Option R
  | 5, a, k => runC (verdererref12_reader_args_l5 n) n a k
  | _, _, _ => none
def verdererref12_reader_args_cx (R : Type) (n : Nat) : Cx R := ⟨Tryz.prog, Gof (verdererref12_reader_args_cs R n), verdererref12_reader_args_ds, verdererref12_reader_args_dx, verdererref12_reader_args_lp n, drawP Tryz.prog (Gof (verdererref12_reader_args_cs R n)), false, noJn, noFz⟩
theorem verdererref12_reader_args_ok [Esc R] (n : Nat) : Good Tryz.prog 73 (verdererref12_reader_args_g (R := R) n) := by
  unfold verdererref12_reader_args_g
  rw [verdererref12_reader_args_e]
  exact Good.fn (cx := verdererref12_reader_args_cx R n) (by kernel_rfl) (AllGood.cons (verdererref12_reader_take_ok n) (AllGood.cons (verdererref12_reader_fail_ok n) (AllGood.cons (verdererref12_reader_now_ok n) (AllGood.cons (verdererref12_reader_must_ok n) (AllGood.cons (verdererref12_reader_step_ok n) (AllGood.cons (verdererref12_reader_is_ok n) (AllGood.cons (verdererref12_reader_term_ok n) (AllGood.nil)))))))) rfl Tryz.func73 (by kernel_rfl) rfl (by
    have e : fnLoops noJn Tryz.f73 = [((fnLoops noJn Tryz.f73)[0]?).getD (false, .skip)] := by kernel_rfl
    show LoopRuns _ _ (fnLoops noJn _)
    rw [e]
    exact ⟨LoopRun.loop (by kernel_rfl) (i := 5) (m := n) (step := verdererref12_reader_args_l5 n) (by kernel_rfl) (fun a k1 k2 => by kernel_rfl) (fun _ _ => rfl), trivial⟩) 1 verdererref12_reader_args_d (by kernel_rfl) (fun x k => by kernel_rfl)
end
end Go.Proofs.YtnnbinmomendnaaGreatDoor.E
set_option linter.unusedVariables false
set_option maxRecDepth 100000
namespace Go.Proofs.YtnnbinmomendnaaGreatDoor.E
open Go.Proofs
noncomputable section
variable {R : Type}
/-! (*verderer/verdererref12.reader).lit: function 49 -/
def verdererref12_reader_lit_ds : Nat → Desc
  | 1000016 => ⟨[(0, .pt 0 0), (4, .pt 3 0), (5, .pt 5 0), (7, .pt 7 0)], [.box true 57 [.ow 1, .d (.int .i64), .d (.int .i64), .d (.int .i64)], .arr 60 ty60, .arr 48 ty48, .box false 51 [.d .bool, .d .str, .ow 2, .d (.int .i64)], .no, .box false 51 [.d .bool, .d .str, .ow 6, .d (.int .i64)], .arr 48 ty48, .box false 48 [.d .str, .d .bool, .d (.int .i64), .d .bool, .d (.int .i64), .d .str]]⟩
  | 1000012 => ⟨[(0, .pt 0 0), (4, .pt 3 0), (5, .pt 5 0)], [.box true 57 [.ow 1, .d (.int .i64), .d (.int .i64), .d (.int .i64)], .arr 60 ty60, .arr 48 ty48, .box false 51 [.d .bool, .d .str, .ow 2, .d (.int .i64)], .no, .box false 51 [.d .bool, .d .str, .ow 6, .d (.int .i64)], .arr 48 ty48]⟩
  | 1000010 => ⟨[(0, .pt 0 0), (4, .pt 3 0), (5, .pt 5 0), (6, .d (.int .i64))], [.box true 57 [.ow 1, .d (.int .i64), .d (.int .i64), .d (.int .i64)], .arr 60 ty60, .arr 48 ty48, .box false 51 [.d .bool, .d .str, .ow 2, .d (.int .i64)], .no, .box false 51 [.d .bool, .d .str, .ow 6, .d (.int .i64)], .arr 48 ty48]⟩
  | _ => ⟨[], []⟩
def verdererref12_reader_lit_dx : Nat → List (X × Desc)
  | 1000016 => [(.r, ⟨[(4, .pt 3 0)], [.box true 57 [.ow 1, .d (.int .i64), .d (.int .i64), .d (.int .i64)], .arr 60 ty60, .no, .box false 51 [.d .bool, .d .str, .d (.sl ty48), .d (.int .i64)]]⟩)]
  | 1000012 => [(.r, ⟨[(4, .pt 3 0)], [.box true 57 [.ow 1, .d (.int .i64), .d (.int .i64), .d (.int .i64)], .arr 60 ty60, .no, .box false 51 [.d .bool, .d .str, .d (.sl ty48), .d (.int .i64)]]⟩)]
  | 1000010 => [(.r, ⟨[(4, .pt 3 0)], [.box true 57 [.ow 1, .d (.int .i64), .d (.int .i64), .d (.int .i64)], .arr 60 ty60, .no, .box false 51 [.d .bool, .d .str, .d (.sl ty48), .d (.int .i64)]]⟩)]
  | _ => []
def verdererref12_reader_lit_s1000016 (n : Nat) (x0 : Int) (x1 : Int) (x2 : Int) (x3 : (List ty60.D)) (x4 : (List ty48.D)) (x5 : Bool) (x6 : ByteArray) (x7 : Int) (x8 : Bool) (x9 : ByteArray) (x10 : Int) (x11 : (List ty48.D)) (x12 : ByteArray) (x13 : Bool) (x14 : Int) (x15 : Bool) (x16 : Int) (x17 : ByteArray) (qr : Int → Int → Int → (List ty60.D) → Bool → ByteArray → (List ty48.D) → Int → Option R) : Option R :=
  verdererref12_reader_step_F n x0 x1 x2 x3 (fun y101 y102 y103 y104 => verdererref12_reader_term_F n y101 y102 y103 y104 (fun y105 y106 y107 y108 y109 => qr y106 y107 y108 y109 x8 x9 [(x12, x13, (x14, x15, x16, x17, ()), ()), y105] x10))
def verdererref12_reader_lit_li1000016 (n : Nat) (a : (verdererref12_reader_lit_ds 1000016).D) (k2 : exK R (verdererref12_reader_lit_dx 1000016)) : Option R :=
  verdererref12_reader_lit_s1000016 n a.1 a.2.1 a.2.2.1 a.2.2.2.1 a.2.2.2.2.1 a.2.2.2.2.2.1 a.2.2.2.2.2.2.1 a.2.2.2.2.2.2.2.1 a.2.2.2.2.2.2.2.2.1 a.2.2.2.2.2.2.2.2.2.1 a.2.2.2.2.2.2.2.2.2.2.1 a.2.2.2.2.2.2.2.2.2.2.2.1 a.2.2.2.2.2.2.2.2.2.2.2.2.1 a.2.2.2.2.2.2.2.2.2.2.2.2.2.1 a.2.2.2.2.2.2.2.2.2.2.2.2.2.2.1 a.2.2.2.2.2.2.2.2.2.2.2.2.2.2.2.1 a.2.2.2.2.2.2.2.2.2.2.2.2.2.2.2.2.1 a.2.2.2.2.2.2.2.2.2.2.2.2.2.2.2.2.2.1 (fun x0 x1 x2 x3 x4 x5 x6 x7 => k2.1 (x0, x1, x2, x3, x4, x5, x6, x7, ()))
def verdererref12_reader_lit_l1000016 {R : Type} := lazyN (@verdererref12_reader_lit_li1000016 R)
theorem verdererref12_reader_lit_e1000016 : @verdererref12_reader_lit_l1000016 R = @verdererref12_reader_lit_li1000016 R := lazyN_eq _
def verdererref12_reader_lit_s1000012 (n : Nat) (x0 : Int) (x1 : Int) (x2 : Int) (x3 : (List ty60.D)) (x4 : (List ty48.D)) (x5 : Bool) (x6 : ByteArray) (x7 : Int) (x8 : Bool) (x9 : ByteArray) (x10 : Int) (x11 : (List ty48.D)) (qr : Int → Int → Int → (List ty60.D) → Bool → ByteArray → (List ty48.D) → Int → Option R) : Option R :=
  verdererref12_reader_term_F n x0 x1 x2 x3 (fun y76 y77 y78 y79 y80 => verdererref12_reader_now_F n y77 y78 y79 y80 (fun y81 y82 y83 y84 y85 => verdererref11_Op_F n y81.2.1 (fun y86 => verdererref12_reader_now_F n y82 y83 y84 y85 (fun y87 y88 y89 y90 y91 => if (y87.1 != 3) = true then (verdererref12_reader_now_F n y88 y89 y90 y91 (fun y92 y93 y94 y95 y96 => verdererref12_reader_fail_F n 7 y92.2.2.2.1 y93 y94 y95 y96 (fun y97 y98 y99 y100 => verdererref12_reader_lit_l1000016 n (y97, y98, y99, y100, x4, x5, x6, x7, x8, x9, y86, x11, y76.1, y76.2.1, y76.2.2.1.1, y76.2.2.1.2.1, y76.2.2.1.2.2.1, y76.2.2.1.2.2.2.1, ()) (fun b117 => qr b117.1 b117.2.1 b117.2.2.1 b117.2.2.2.1 b117.2.2.2.2.1 b117.2.2.2.2.2.1 b117.2.2.2.2.2.2.1 b117.2.2.2.2.2.2.2.1, ())))) else (if (y86 == 0) = true then (verdererref12_reader_now_F n y88 y89 y90 y91 (fun y118 y119 y120 y121 y122 => verdererref12_reader_fail_F n 7 y118.2.2.2.1 y119 y120 y121 y122 (fun y123 y124 y125 y126 => verdererref12_reader_lit_l1000016 n (y123, y124, y125, y126, x4, x5, x6, x7, x8, x9, y86, x11, y76.1, y76.2.1, y76.2.2.1.1, y76.2.2.1.2.1, y76.2.2.1.2.2.1, y76.2.2.1.2.2.2.1, ()) (fun b134 => qr b134.1 b134.2.1 b134.2.2.1 b134.2.2.2.1 b134.2.2.2.2.1 b134.2.2.2.2.2.1 b134.2.2.2.2.2.2.1 b134.2.2.2.2.2.2.2.1, ())))) else (verdererref12_reader_lit_l1000016 n (y88, y89, y90, y91, x4, x5, x6, x7, x8, x9, y86, x11, y76.1, y76.2.1, y76.2.2.1.1, y76.2.2.1.2.1, y76.2.2.1.2.2.1, y76.2.2.1.2.2.2.1, ()) (fun b142 => qr b142.1 b142.2.1 b142.2.2.1 b142.2.2.2.1 b142.2.2.2.2.1 b142.2.2.2.2.2.1 b142.2.2.2.2.2.2.1 b142.2.2.2.2.2.2.2.1, ())))))))
def verdererref12_reader_lit_li1000012 (n : Nat) (a : (verdererref12_reader_lit_ds 1000012).D) (k2 : exK R (verdererref12_reader_lit_dx 1000012)) : Option R :=
  verdererref12_reader_lit_s1000012 n a.1 a.2.1 a.2.2.1 a.2.2.2.1 a.2.2.2.2.1 a.2.2.2.2.2.1 a.2.2.2.2.2.2.1 a.2.2.2.2.2.2.2.1 a.2.2.2.2.2.2.2.2.1 a.2.2.2.2.2.2.2.2.2.1 a.2.2.2.2.2.2.2.2.2.2.1 a.2.2.2.2.2.2.2.2.2.2.2.1 (fun x0 x1 x2 x3 x4 x5 x6 x7 => k2.1 (x0, x1, x2, x3, x4, x5, x6, x7, ()))
def verdererref12_reader_lit_l1000012 {R : Type} := lazyN (@verdererref12_reader_lit_li1000012 R)
theorem verdererref12_reader_lit_e1000012 : @verdererref12_reader_lit_l1000012 R = @verdererref12_reader_lit_li1000012 R := lazyN_eq _
def verdererref12_reader_lit_s1000010 (n : Nat) (x0 : Int) (x1 : Int) (x2 : Int) (x3 : Int) (x4 : (List ty60.D)) (x5 : (List ty48.D)) (x6 : Bool) (x7 : ByteArray) (x8 : Int) (x9 : Bool) (x10 : ByteArray) (x11 : Int) (x12 : (List ty48.D)) (qr : Int → Int → Int → (List ty60.D) → Bool → ByteArray → (List ty48.D) → Int → Option R) : Option R :=
  if x9 = true then (verdererref12_reader_fail_F n 7 x0 x1 x2 x3 x4 (fun y72 y73 y74 y75 => verdererref12_reader_lit_l1000012 n (y72, y73, y74, y75, x5, x6, x7, x8, x9, x10, x11, x12, ()) (fun b150 => qr b150.1 b150.2.1 b150.2.2.1 b150.2.2.2.1 b150.2.2.2.2.1 b150.2.2.2.2.2.1 b150.2.2.2.2.2.2.1 b150.2.2.2.2.2.2.2.1, ()))) else (verdererref12_reader_lit_l1000012 n (x1, x2, x3, x4, x5, x6, x7, x8, x9, x10, x11, x12, ()) (fun b158 => qr b158.1 b158.2.1 b158.2.2.1 b158.2.2.2.1 b158.2.2.2.2.1 b158.2.2.2.2.2.1 b158.2.2.2.2.2.2.1 b158.2.2.2.2.2.2.2.1, ()))
def verdererref12_reader_lit_li1000010 (n : Nat) (a : (verdererref12_reader_lit_ds 1000010).D) (k2 : exK R (verdererref12_reader_lit_dx 1000010)) : Option R :=
  verdererref12_reader_lit_s1000010 n a.1 a.2.1 a.2.2.1 a.2.2.2.1 a.2.2.2.2.1 a.2.2.2.2.2.1 a.2.2.2.2.2.2.1 a.2.2.2.2.2.2.2.1 a.2.2.2.2.2.2.2.2.1 a.2.2.2.2.2.2.2.2.2.1 a.2.2.2.2.2.2.2.2.2.2.1 a.2.2.2.2.2.2.2.2.2.2.2.1 a.2.2.2.2.2.2.2.2.2.2.2.2.1 (fun x0 x1 x2 x3 x4 x5 x6 x7 => k2.1 (x0, x1, x2, x3, x4, x5, x6, x7, ()))
def verdererref12_reader_lit_l1000010 {R : Type} := lazyN (@verdererref12_reader_lit_li1000010 R)
theorem verdererref12_reader_lit_e1000010 : @verdererref12_reader_lit_l1000010 R = @verdererref12_reader_lit_li1000010 R := lazyN_eq _
@[reducible] def verdererref12_reader_lit_d : Desc := ⟨[(0, .pt 0 0), (1, .d (.int .i64))], [.box true 57 [.ow 1, .d (.int .i64), .d (.int .i64), .d (.int .i64)], .arr 60 ty60]⟩
def verdererref12_reader_lit_Fi (n : Nat) (a0 : Int) (a1 : Int) (a2 : Int) (a3 : Int) (a4 : (List ty60.D)) (k0 : ty51.D → Int → Int → Int → (List ty60.D) → Option R) : Option R :=
  verdererref12_reader_take_F n (⟨#[110, 111, 116]⟩ : ByteArray) a1 a2 a3 a4 (fun y1 y2 y3 y4 y5 => verdererref12_reader_now_F n y2 y3 y4 y5 (fun y6 y7 y8 y9 y10 => verdererref12_reader_named_F n y7 y8 y9 y10 (fun y11 y12 y13 y14 y15 => if y11 = true then (if y1 = true then (verdererref12_reader_name_F n y12 y13 y14 y15 (fun y16 y17 y18 y19 y20 => verdererref12_reader_must_F n (⟨#[40]⟩ : ByteArray) y17 y18 y19 y20 (fun y21 y22 y23 y24 => if (!y1) = true then (if (decide (a0 ≥ 6)) = true then (verdererref12_reader_fail_F n 9 y6.2.2.2.1 y21 y22 y23 y24 (fun y25 y26 y27 y28 => verdererref12_reader_args_F n y25 y26 y27 y28 (fun y29 y30 y31 y32 y33 => k0 (y1, y16, y33, 0, ()) y29 y30 y31 y32))) else (verdererref12_reader_args_F n y21 y22 y23 y24 (fun y34 y35 y36 y37 y38 => k0 (y1, y16, y38, 0, ()) y34 y35 y36 y37))) else (verdererref12_reader_args_F n y21 y22 y23 y24 (fun y39 y40 y41 y42 y43 => k0 (y1, y16, y43, 0, ()) y39 y40 y41 y42))))) else (if (decide ((IntKind.i64.wrap (y12 + 1)) < (y15.length : Int))) = true then (if (0 : Int) ≤ (IntKind.i64.wrap (y12 + 1)) ∧ (IntKind.i64.wrap (y12 + 1)) < (y15.length : Int) then (if (Int.toNat (IntKind.i64.wrap (y12 + 1))) < y15.length then (if ((y15.getD (Int.toNat (IntKind.i64.wrap (y12 + 1))) (Ty.z ty60)).1 == 3) = true then (if (0 : Int) ≤ (IntKind.i64.wrap (y12 + 1)) ∧ (IntKind.i64.wrap (y12 + 1)) < (y15.length : Int) then (if (Int.toNat (IntKind.i64.wrap (y12 + 1))) < y15.length then (if (((y15.getD (Int.toNat (IntKind.i64.wrap (y12 + 1))) (Ty.z ty60)).2.1).toList == (⟨#[40]⟩ : ByteArray).toList) = true then (verdererref12_reader_name_F n y12 y13 y14 y15 (fun y44 y45 y46 y47 y48 => verdererref12_reader_must_F n (⟨#[40]⟩ : ByteArray) y45 y46 y47 y48 (fun y49 y50 y51 y52 => if (!y1) = true then (if (decide (a0 ≥ 6)) = true then (verdererref12_reader_fail_F n 9 y6.2.2.2.1 y49 y50 y51 y52 (fun y53 y54 y55 y56 => verdererref12_reader_args_F n y53 y54 y55 y56 (fun y57 y58 y59 y60 y61 => k0 (y1, y44, y61, 0, ()) y57 y58 y59 y60))) else (verdererref12_reader_args_F n y49 y50 y51 y52 (fun y62 y63 y64 y65 y66 => k0 (y1, y44, y66, 0, ()) y62 y63 y64 y65))) else (verdererref12_reader_args_F n y49 y50 y51 y52 (fun y67 y68 y69 y70 y71 => k0 (y1, y44, y71, 0, ()) y67 y68 y69 y70))))) else (verdererref12_reader_lit_l1000010 n (y6.2.2.2.1, y12, y13, y14, y15, ([] : List ty48.D), false, (⟨#[]⟩ : ByteArray), 0, y1, (⟨#[]⟩ : ByteArray), 0, ([] : List ty48.D), ()) (fun b166 => k0 (b166.2.2.2.2.1, b166.2.2.2.2.2.1, b166.2.2.2.2.2.2.1, b166.2.2.2.2.2.2.2.1, ()) b166.1 b166.2.1 b166.2.2.1 b166.2.2.2.1, ()))) else none) else none) else (verdererref12_reader_lit_l1000010 n (y6.2.2.2.1, y12, y13, y14, y15, ([] : List ty48.D), false, (⟨#[]⟩ : ByteArray), 0, y1, (⟨#[]⟩ : ByteArray), 0, ([] : List ty48.D), ()) (fun b174 => k0 (b174.2.2.2.2.1, b174.2.2.2.2.2.1, b174.2.2.2.2.2.2.1, b174.2.2.2.2.2.2.2.1, ()) b174.1 b174.2.1 b174.2.2.1 b174.2.2.2.1, ()))) else none) else none) else (verdererref12_reader_lit_l1000010 n (y6.2.2.2.1, y12, y13, y14, y15, ([] : List ty48.D), false, (⟨#[]⟩ : ByteArray), 0, y1, (⟨#[]⟩ : ByteArray), 0, ([] : List ty48.D), ()) (fun b182 => k0 (b182.2.2.2.2.1, b182.2.2.2.2.2.1, b182.2.2.2.2.2.2.1, b182.2.2.2.2.2.2.2.1, ()) b182.1 b182.2.1 b182.2.2.1 b182.2.2.2.1, ())))) else (verdererref12_reader_lit_l1000010 n (y6.2.2.2.1, y12, y13, y14, y15, ([] : List ty48.D), false, (⟨#[]⟩ : ByteArray), 0, y1, (⟨#[]⟩ : ByteArray), 0, ([] : List ty48.D), ()) (fun b190 => k0 (b190.2.2.2.2.1, b190.2.2.2.2.2.1, b190.2.2.2.2.2.2.1, b190.2.2.2.2.2.2.2.1, ()) b190.1 b190.2.1 b190.2.2.1 b190.2.2.2.1, ())))))
def verdererref12_reader_lit_F {R : Type} := lazyN (@verdererref12_reader_lit_Fi R)
theorem verdererref12_reader_lit_e : @verdererref12_reader_lit_F R = @verdererref12_reader_lit_Fi R := lazyN_eq _
def verdererref12_reader_lit_g (n : Nat) : Gx R := typed 2 verdererref12_reader_lit_d fun x k => verdererref12_reader_lit_F n x.1 x.2.1 x.2.2.1 x.2.2.2.1 x.2.2.2.2.1 (fun y0 y1 y2 y3 y4 => k (.a (encA ty51 y0)) [(.box true 57 [(.ow 1), (.i .i64 y1), (.i .i64 y2), (.i .i64 y3)]), (.arr 60 ty60 y4)])
def verdererref12_reader_lit_cs (R : Type) (n : Nat) : List (Nat × Gx R) := [(17, verdererref12_reader_take_g n), (18, verdererref12_reader_fail_g n), (19, verdererref12_reader_now_g n), (20, verdererref12_reader_name_g n), (21, verdererref12_reader_must_g n), (23, verdererref12_reader_step_g n), (46, verdererref12_reader_named_g n), (73, verdererref12_reader_args_g n), (74, verdererref12_reader_term_g n), (75, verdererref11_Op_g n)]
def verdererref12_reader_lit_lp (n : Nat) : (i : Nat) → (verdererref12_reader_lit_ds i).D → exK R (verdererref12_reader_lit_dx i) → Option R
  | 1000016, a, k => verdererref12_reader_lit_l1000016 n a k
  | 1000012, a, k => verdererref12_reader_lit_l1000012 n a k
  | 1000010, a, k => verdererref12_reader_lit_l1000010 n a k
  | _, _, _ => none
def verdererref12_reader_lit_cx (R : Type) (n : Nat) : Cx R := ⟨Tryz.prog, Gof (verdererref12_reader_lit_cs R n), verdererref12_reader_lit_ds, verdererref12_reader_lit_dx, verdererref12_reader_lit_lp n, drawP Tryz.prog (Gof (verdererref12_reader_lit_cs R n)), true, (memN [16, 12, 10]), noFz⟩
theorem verdererref12_reader_lit_ok [Esc R] (n : Nat) : Good Tryz.prog 49 (verdererref12_reader_lit_g (R := R) n) := by
  unfold verdererref12_reader_lit_g
  rw [verdererref12_reader_lit_e]
  exact Good.fn (cx := verdererref12_reader_lit_cx R n) (by kernel_rfl) (AllGood.cons (verdererref12_reader_take_ok n) (AllGood.cons (verdererref12_reader_fail_ok n) (AllGood.cons (verdererref12_reader_now_ok n) (AllGood.cons (verdererref12_reader_name_ok n) (AllGood.cons (verdererref12_reader_must_ok n) (AllGood.cons (verdererref12_reader_step_ok n) (AllGood.cons (verdererref12_reader_named_ok n) (AllGood.cons (verdererref12_reader_args_ok n) (AllGood.cons (verdererref12_reader_term_ok n) (AllGood.cons (verdererref11_Op_ok n) (AllGood.nil))))))))))) rfl Tryz.func49 (by kernel_rfl) rfl (by
    have e : fnLoops (memN [16, 12, 10]) Tryz.f49 = [((fnLoops (memN [16, 12, 10]) Tryz.f49)[0]?).getD (false, .skip), ((fnLoops (memN [16, 12, 10]) Tryz.f49)[1]?).getD (false, .skip), ((fnLoops (memN [16, 12, 10]) Tryz.f49)[2]?).getD (false, .skip)] := by kernel_rfl
    show LoopRuns _ _ (fnLoops (memN [16, 12, 10]) _)
    rw [e]
    exact ⟨LoopRun.joinS (by kernel_rfl) (i := 10) (L := verdererref12_reader_lit_l1000010 n) (Li := verdererref12_reader_lit_li1000010 n) (by rw [verdererref12_reader_lit_e1000010]) (by kernel_rfl) (fun a k => by kernel_rfl) (fun a k => by kernel_rfl), ⟨LoopRun.joinS (by kernel_rfl) (i := 12) (L := verdererref12_reader_lit_l1000012 n) (Li := verdererref12_reader_lit_li1000012 n) (by rw [verdererref12_reader_lit_e1000012]) (by kernel_rfl) (fun a k => by kernel_rfl) (fun a k => by kernel_rfl), ⟨LoopRun.joinS (by kernel_rfl) (i := 16) (L := verdererref12_reader_lit_l1000016 n) (Li := verdererref12_reader_lit_li1000016 n) (by rw [verdererref12_reader_lit_e1000016]) (by kernel_rfl) (fun a k => by kernel_rfl) (fun a k => by kernel_rfl), trivial⟩⟩⟩) 2 verdererref12_reader_lit_d (by kernel_rfl) (fun x k => by kernel_rfl)
end
end Go.Proofs.YtnnbinmomendnaaGreatDoor.E
set_option linter.unusedVariables false
set_option maxRecDepth 100000
namespace Go.Proofs.YtnnbinmomendnaaGreatDoor.E
open Go.Proofs
noncomputable section
variable {R : Type}
/-! (*verderer/verdererref12.reader).body: function 24 -/
def verdererref12_reader_body_ds : Nat → Desc
  | 2 => ⟨[(0, .pt 0 0), (1, .pt 2 0), (4, .d (.int .i64)), (5, .d (.int .i64))], [.box true 57 [.ow 1, .d (.int .i64), .d (.int .i64), .d (.int .i64)], .arr 60 ty60, .box true 25 [.d (.int .i64), .d .str, .ow 3, .d (.int .i64), .d .str, .d (.int .i64), .ow 4], .arr 9 .str, .arr 51 ty51]⟩
  | _ => ⟨[], []⟩
def verdererref12_reader_body_dx : Nat → List (X × Desc)
  | 2 => [(.r, ⟨[], [.box true 57 [.ow 1, .d (.int .i64), .d (.int .i64), .d (.int .i64)], .arr 60 ty60, .box true 25 [.d (.int .i64), .d .str, .ow 3, .d (.int .i64), .d .str, .d (.int .i64), .ow 4], .arr 9 .str, .arr 51 ty51]⟩), (.e 0, ⟨[], [.box true 57 [.ow 1, .d (.int .i64), .d (.int .i64), .d (.int .i64)], .arr 60 ty60, .box true 25 [.d (.int .i64), .d .str, .ow 3, .d (.int .i64), .d .str, .d (.int .i64), .ow 4], .arr 9 .str, .arr 51 ty51]⟩)]
  | _ => []
def verdererref12_reader_body_s2 (n : Nat) (x0 : Int) (x1 : Int) (x2 : Int) (x3 : Int) (x4 : Int) (x5 : (List ty60.D)) (x6 : Int) (x7 : ByteArray) (x8 : Int) (x9 : ByteArray) (x10 : Int) (x11 : (List ByteArray)) (x12 : (List ty51.D)) (k1 : Int → Int → Int → Int → Int → (List ty60.D) → Int → ByteArray → Int → ByteArray → Int → (List ByteArray) → (List ty51.D) → Option R) (qr : Int → Int → Int → (List ty60.D) → Int → ByteArray → Int → ByteArray → Int → (List ByteArray) → (List ty51.D) → Option R) (qe0 : Int → Int → Int → (List ty60.D) → Int → ByteArray → Int → ByteArray → Int → (List ByteArray) → (List ty51.D) → Option R) : Option R :=
  if (decide (x1 < 400)) = true then (if (x3 == 0) = true then (verdererref12_reader_now_F n x2 x3 x4 x5 (fun y1 y2 y3 y4 y5 => if (decide ((x12.length : Int) ≥ 10)) = true then (verdererref12_reader_lone_F n y1.2.2.2.1 y2 y3 y4 y5 (fun y6 y7 y8 y9 => verdererref12_reader_lit_F n x0 y6 y7 y8 y9 (fun y10 y11 y12 y13 y14 => if (y10.2.2.2.1 == 0) = true then (if (!y10.1) = true then (if (List.length x12 + List.length [y10]) * 56 ≤ 140737488355328 then (verdererref12_reader_take_F n (⟨#[44]⟩ : ByteArray) y11 y12 y13 y14 (fun y15 y16 y17 y18 y19 => if (!y15) = true then (qr y16 y17 y18 y19 x6 x7 x8 x9 x10 x11 (x12 ++ [y10])) else (k1 (IntKind.i64.wrap (x0 + 1)) (IntKind.i64.wrap (x1 + 1)) y16 y17 y18 y19 x6 x7 x8 x9 x10 x11 (x12 ++ [y10])))) else none) else (if (List.length x12 + List.length [y10]) * 56 ≤ 140737488355328 then (verdererref12_reader_take_F n (⟨#[44]⟩ : ByteArray) y11 y12 y13 y14 (fun y20 y21 y22 y23 y24 => if (!y20) = true then (qr y21 y22 y23 y24 x6 x7 x8 x9 x10 x11 (x12 ++ [y10])) else (k1 x0 (IntKind.i64.wrap (x1 + 1)) y21 y22 y23 y24 x6 x7 x8 x9 x10 x11 (x12 ++ [y10])))) else none)) else (if (List.length x12 + List.length [y10]) * 56 ≤ 140737488355328 then (verdererref12_reader_take_F n (⟨#[44]⟩ : ByteArray) y11 y12 y13 y14 (fun y25 y26 y27 y28 y29 => if (!y25) = true then (qr y26 y27 y28 y29 x6 x7 x8 x9 x10 x11 (x12 ++ [y10])) else (k1 x0 (IntKind.i64.wrap (x1 + 1)) y26 y27 y28 y29 x6 x7 x8 x9 x10 x11 (x12 ++ [y10])))) else none)))) else (verdererref12_reader_lit_F n x0 y2 y3 y4 y5 (fun y30 y31 y32 y33 y34 => if (y30.2.2.2.1 == 0) = true then (if (!y30.1) = true then (if (List.length x12 + List.length [y30]) * 56 ≤ 140737488355328 then (verdererref12_reader_take_F n (⟨#[44]⟩ : ByteArray) y31 y32 y33 y34 (fun y35 y36 y37 y38 y39 => if (!y35) = true then (qr y36 y37 y38 y39 x6 x7 x8 x9 x10 x11 (x12 ++ [y30])) else (k1 (IntKind.i64.wrap (x0 + 1)) (IntKind.i64.wrap (x1 + 1)) y36 y37 y38 y39 x6 x7 x8 x9 x10 x11 (x12 ++ [y30])))) else none) else (if (List.length x12 + List.length [y30]) * 56 ≤ 140737488355328 then (verdererref12_reader_take_F n (⟨#[44]⟩ : ByteArray) y31 y32 y33 y34 (fun y40 y41 y42 y43 y44 => if (!y40) = true then (qr y41 y42 y43 y44 x6 x7 x8 x9 x10 x11 (x12 ++ [y30])) else (k1 x0 (IntKind.i64.wrap (x1 + 1)) y41 y42 y43 y44 x6 x7 x8 x9 x10 x11 (x12 ++ [y30])))) else none)) else (if (List.length x12 + List.length [y30]) * 56 ≤ 140737488355328 then (verdererref12_reader_take_F n (⟨#[44]⟩ : ByteArray) y31 y32 y33 y34 (fun y45 y46 y47 y48 y49 => if (!y45) = true then (qr y46 y47 y48 y49 x6 x7 x8 x9 x10 x11 (x12 ++ [y30])) else (k1 x0 (IntKind.i64.wrap (x1 + 1)) y46 y47 y48 y49 x6 x7 x8 x9 x10 x11 (x12 ++ [y30])))) else none))))) else (qe0 x2 x3 x4 x5 x6 x7 x8 x9 x10 x11 x12)) else (qe0 x2 x3 x4 x5 x6 x7 x8 x9 x10 x11 x12)
def verdererref12_reader_body_l2 (n : Nat) (a : (verdererref12_reader_body_ds 2).D) (k1 : (verdererref12_reader_body_ds 2).D → Option R) (k2 : exK R (verdererref12_reader_body_dx 2)) : Option R :=
  verdererref12_reader_body_s2 n a.1 a.2.1 a.2.2.1 a.2.2.2.1 a.2.2.2.2.1 a.2.2.2.2.2.1 a.2.2.2.2.2.2.1 a.2.2.2.2.2.2.2.1 a.2.2.2.2.2.2.2.2.1 a.2.2.2.2.2.2.2.2.2.1 a.2.2.2.2.2.2.2.2.2.2.1 a.2.2.2.2.2.2.2.2.2.2.2.1 a.2.2.2.2.2.2.2.2.2.2.2.2.1 (fun x0 x1 x2 x3 x4 x5 x6 x7 x8 x9 x10 x11 x12 => k1 (x0, x1, x2, x3, x4, x5, x6, x7, x8, x9, x10, x11, x12, ())) (fun x0 x1 x2 x3 x4 x5 x6 x7 x8 x9 x10 => k2.1 (x0, x1, x2, x3, x4, x5, x6, x7, x8, x9, x10, ())) (fun x0 x1 x2 x3 x4 x5 x6 x7 x8 x9 x10 => k2.2.1 (x0, x1, x2, x3, x4, x5, x6, x7, x8, x9, x10, ()))
@[reducible] def verdererref12_reader_body_d : Desc := ⟨[(0, .pt 0 0), (1, .pt 2 0)], [.box true 57 [.ow 1, .d (.int .i64), .d (.int .i64), .d (.int .i64)], .arr 60 ty60, .box true 25 [.d (.int .i64), .d .str, .ow 3, .d (.int .i64), .d .str, .d (.int .i64), .ow 4], .arr 9 .str, .arr 51 ty51]⟩
def verdererref12_reader_body_Fi (n : Nat) (a0 : Int) (a1 : Int) (a2 : Int) (a3 : (List ty60.D)) (a4 : Int) (a5 : ByteArray) (a6 : Int) (a7 : ByteArray) (a8 : Int) (a9 : (List ByteArray)) (a10 : (List ty51.D)) (k0 : Int → Int → Int → (List ty60.D) → Int → ByteArray → Int → ByteArray → Int → (List ByteArray) → (List ty51.D) → Option R) : Option R :=
  runC (verdererref12_reader_body_l2 n) n (0, 0, a0, a1, a2, a3, a4, a5, a6, a7, a8, a9, a10, ()) (fun b60 => k0 b60.1 b60.2.1 b60.2.2.1 b60.2.2.2.1 b60.2.2.2.2.1 b60.2.2.2.2.2.1 b60.2.2.2.2.2.2.1 b60.2.2.2.2.2.2.2.1 b60.2.2.2.2.2.2.2.2.1 b60.2.2.2.2.2.2.2.2.2.1 b60.2.2.2.2.2.2.2.2.2.2.1, fun b71 => k0 b71.1 b71.2.1 b71.2.2.1 b71.2.2.2.1 b71.2.2.2.2.1 b71.2.2.2.2.2.1 b71.2.2.2.2.2.2.1 b71.2.2.2.2.2.2.2.1 b71.2.2.2.2.2.2.2.2.1 b71.2.2.2.2.2.2.2.2.2.1 b71.2.2.2.2.2.2.2.2.2.2.1, ())
def verdererref12_reader_body_F {R : Type} := lazyN (@verdererref12_reader_body_Fi R)
theorem verdererref12_reader_body_e : @verdererref12_reader_body_F R = @verdererref12_reader_body_Fi R := lazyN_eq _
def verdererref12_reader_body_g (n : Nat) : Gx R := typed 2 verdererref12_reader_body_d fun x k => verdererref12_reader_body_F n x.1 x.2.1 x.2.2.1 x.2.2.2.1 x.2.2.2.2.1 x.2.2.2.2.2.1 x.2.2.2.2.2.2.1 x.2.2.2.2.2.2.2.1 x.2.2.2.2.2.2.2.2.1 x.2.2.2.2.2.2.2.2.2.1 x.2.2.2.2.2.2.2.2.2.2.1 (fun y0 y1 y2 y3 y4 y5 y6 y7 y8 y9 y10 => k (.tu []) [(.box true 57 [(.ow 1), (.i .i64 y0), (.i .i64 y1), (.i .i64 y2)]), (.arr 60 ty60 y3), (.box true 25 [(.i .i64 y4), (.s y5), (.ow 3), (.i .i64 y6), (.s y7), (.i .i64 y8), (.ow 4)]), (.arr 9 .str y9), (.arr 51 ty51 y10)])
def verdererref12_reader_body_cs (R : Type) (n : Nat) : List (Nat × Gx R) := [(17, verdererref12_reader_take_g n), (19, verdererref12_reader_now_g n), (48, verdererref12_reader_lone_g n), (49, verdererref12_reader_lit_g n)]
def verdererref12_reader_body_lp (n : Nat) : (i : Nat) → (verdererref12_reader_body_ds i).D → exK R (verdererref12_reader_body_dx i) → Option R
  | 2, a, k => runC (verdererref12_reader_body_l2 n) n a k
  | _, _, _ => none
def verdererref12_reader_body_cx (R : Type) (n : Nat) : Cx R := ⟨Tryz.prog, Gof (verdererref12_reader_body_cs R n), verdererref12_reader_body_ds, verdererref12_reader_body_dx, verdererref12_reader_body_lp n, drawP Tryz.prog (Gof (verdererref12_reader_body_cs R n)), false, noJn, noFz⟩
theorem verdererref12_reader_body_ok [Esc R] (n : Nat) : Good Tryz.prog 24 (verdererref12_reader_body_g (R := R) n) := by
  unfold verdererref12_reader_body_g
  rw [verdererref12_reader_body_e]
  exact Good.fn (cx := verdererref12_reader_body_cx R n) (by kernel_rfl) (AllGood.cons (verdererref12_reader_take_ok n) (AllGood.cons (verdererref12_reader_now_ok n) (AllGood.cons (verdererref12_reader_lone_ok n) (AllGood.cons (verdererref12_reader_lit_ok n) (AllGood.nil))))) rfl Tryz.func24 (by kernel_rfl) rfl (by
    have e : fnLoops noJn Tryz.f24 = [((fnLoops noJn Tryz.f24)[0]?).getD (false, .skip)] := by kernel_rfl
    show LoopRuns _ _ (fnLoops noJn _)
    rw [e]
    exact ⟨LoopRun.loop (by kernel_rfl) (i := 2) (m := n) (step := verdererref12_reader_body_l2 n) (by kernel_rfl) (fun a k1 k2 => by kernel_rfl) (fun _ _ => rfl), trivial⟩) 2 verdererref12_reader_body_d (by kernel_rfl) (fun x k => by kernel_rfl)
end
end Go.Proofs.YtnnbinmomendnaaGreatDoor.E
set_option linter.unusedVariables false
set_option maxRecDepth 100000
namespace Go.Proofs.YtnnbinmomendnaaGreatDoor.E
open Go.Proofs
noncomputable section
variable {R : Type}
/-! verderer/verdererref12.Rule: function 8 -/
def verdererref12_Rule_ds : Nat → Desc
  | 1000023 => ⟨[(2, .pt 2 0), (8, .pt 4 0), (9, .pt 7 0)], [.arr 9 .str, .arr 51 ty51, .box false 25 [.d (.int .i64), .d .str, .ow 0, .d (.int .i64), .d .str, .d (.int .i64), .ow 1], .arr 60 ty60, .box false 57 [.ow 3, .d (.int .i64), .d (.int .i64), .d (.int .i64)], .no, .no, .box false 25 [.d (.int .i64), .d .str, .ow 8, .d (.int .i64), .d .str, .d (.int .i64), .ow 9], .arr 9 .str, .arr 51 ty51]⟩
  | 1000013 => ⟨[(2, .pt 2 0), (8, .pt 4 0), (9, .pt 7 0)], [.arr 9 .str, .arr 51 ty51, .box false 25 [.d (.int .i64), .d .str, .ow 0, .d (.int .i64), .d .str, .d (.int .i64), .ow 1], .arr 60 ty60, .box false 57 [.ow 3, .d (.int .i64), .d (.int .i64), .d (.int .i64)], .no, .no, .box false 25 [.d (.int .i64), .d .str, .ow 8, .d (.int .i64), .d .str, .d (.int .i64), .ow 9], .arr 9 .str, .arr 51 ty51]⟩
  | _ => ⟨[], []⟩
def verdererref12_Rule_dx : Nat → List (X × Desc)
  | 1000023 => [(.r, ⟨[(2, .pt 2 0), (3, .d (.int .i64)), (4, .d (.int .i64))], [.no, .no, .box false 25 [.d (.int .i64), .d .str, .ow 10, .d (.int .i64), .d .str, .d (.int .i64), .ow 11], .no, .no, .no, .no, .no, .no, .no, .arr 9 .str, .arr 51 ty51]⟩), (.r, ⟨[(2, .pt 2 0), (3, .d (.int .i64)), (4, .d (.int .i64))], [.no, .no, .box false 25 [.d (.int .i64), .d .str, .ow 8, .d (.int .i64), .d .str, .d (.int .i64), .ow 9], .no, .no, .no, .no, .no, .arr 9 .str, .arr 51 ty51]⟩)]
  | 1000013 => [(.r, ⟨[(2, .pt 2 0), (3, .d (.int .i64)), (4, .d (.int .i64))], [.no, .no, .box false 25 [.d (.int .i64), .d .str, .ow 10, .d (.int .i64), .d .str, .d (.int .i64), .ow 11], .no, .no, .no, .no, .no, .no, .no, .arr 9 .str, .arr 51 ty51]⟩), (.r, ⟨[(2, .pt 2 0), (3, .d (.int .i64)), (4, .d (.int .i64))], [.no, .no, .box false 25 [.d (.int .i64), .d .str, .ow 8, .d (.int .i64), .d .str, .d (.int .i64), .ow 9], .no, .no, .no, .no, .no, .arr 9 .str, .arr 51 ty51]⟩)]
  | _ => []
def verdererref12_Rule_s1000023 (n : Nat) (x0 : (List ByteArray)) (x1 : (List ty51.D)) (x2 : Int) (x3 : ByteArray) (x4 : Int) (x5 : ByteArray) (x6 : Int) (x7 : (List ty60.D)) (x8 : Int) (x9 : Int) (x10 : Int) (x11 : Int) (x12 : ByteArray) (x13 : Int) (x14 : ByteArray) (x15 : Int) (x16 : (List ByteArray)) (x17 : (List ty51.D)) (qr : Int → Int → Int → ByteArray → Int → ByteArray → Int → (List ByteArray) → (List ty51.D) → Option R) (qr_1 : Int → Int → Int → ByteArray → Int → ByteArray → Int → (List ByteArray) → (List ty51.D) → Option R) : Option R :=
  verdererref12_reader_must_F n (⟨#[105, 102]⟩ : ByteArray) x8 x9 x10 x7 (fun y60 y61 y62 y63 => verdererref12_reader_body_F n y60 y61 y62 y63 x11 x12 x13 x14 x15 x16 x17 (fun y64 y65 y66 y67 y68 y69 y70 y71 y72 y73 y74 => verdererref12_reader_now_F n y64 y65 y66 y67 (fun y75 y76 y77 y78 y79 => if (y75.1 != 4) = true then (verdererref12_reader_now_F n y76 y77 y78 y79 (fun y80 y81 y82 y83 y84 => verdererref12_reader_fail_F n 7 y80.2.2.2.1 y81 y82 y83 y84 (fun y85 y86 y87 y88 => if (y86 != 0) = true then (qr y87 y86 0 (⟨#[]⟩ : ByteArray) 0 (⟨#[]⟩ : ByteArray) 0 ([] : List ByteArray) ([] : List ty51.D)) else (qr_1 0 0 y68 y69 y70 y71 y72 y73 y74)))) else (if (y77 != 0) = true then (qr y78 y77 0 (⟨#[]⟩ : ByteArray) 0 (⟨#[]⟩ : ByteArray) 0 ([] : List ByteArray) ([] : List ty51.D)) else (qr_1 0 0 y68 y69 y70 y71 y72 y73 y74)))))
def verdererref12_Rule_li1000023 (n : Nat) (a : (verdererref12_Rule_ds 1000023).D) (k2 : exK R (verdererref12_Rule_dx 1000023)) : Option R :=
  verdererref12_Rule_s1000023 n a.1 a.2.1 a.2.2.1 a.2.2.2.1 a.2.2.2.2.1 a.2.2.2.2.2.1 a.2.2.2.2.2.2.1 a.2.2.2.2.2.2.2.1 a.2.2.2.2.2.2.2.2.1 a.2.2.2.2.2.2.2.2.2.1 a.2.2.2.2.2.2.2.2.2.2.1 a.2.2.2.2.2.2.2.2.2.2.2.1 a.2.2.2.2.2.2.2.2.2.2.2.2.1 a.2.2.2.2.2.2.2.2.2.2.2.2.2.1 a.2.2.2.2.2.2.2.2.2.2.2.2.2.2.1 a.2.2.2.2.2.2.2.2.2.2.2.2.2.2.2.1 a.2.2.2.2.2.2.2.2.2.2.2.2.2.2.2.2.1 a.2.2.2.2.2.2.2.2.2.2.2.2.2.2.2.2.2.1 (fun x0 x1 x2 x3 x4 x5 x6 x7 x8 => k2.1 (x0, x1, x2, x3, x4, x5, x6, x7, x8, ())) (fun x0 x1 x2 x3 x4 x5 x6 x7 x8 => k2.2.1 (x0, x1, x2, x3, x4, x5, x6, x7, x8, ()))
def verdererref12_Rule_l1000023 {R : Type} := lazyN (@verdererref12_Rule_li1000023 R)
theorem verdererref12_Rule_e1000023 : @verdererref12_Rule_l1000023 R = @verdererref12_Rule_li1000023 R := lazyN_eq _
def verdererref12_Rule_s1000013 (n : Nat) (x0 : (List ByteArray)) (x1 : (List ty51.D)) (x2 : Int) (x3 : ByteArray) (x4 : Int) (x5 : ByteArray) (x6 : Int) (x7 : (List ty60.D)) (x8 : Int) (x9 : Int) (x10 : Int) (x11 : Int) (x12 : ByteArray) (x13 : Int) (x14 : ByteArray) (x15 : Int) (x16 : (List ByteArray)) (x17 : (List ty51.D)) (qr : Int → Int → Int → ByteArray → Int → ByteArray → Int → (List ByteArray) → (List ty51.D) → Option R) (qr_1 : Int → Int → Int → ByteArray → Int → ByteArray → Int → (List ByteArray) → (List ty51.D) → Option R) : Option R :=
  verdererref12_reader_name_F n x8 x9 x10 x7 (fun y9 y10 y11 y12 y13 => verdererref12_reader_must_F n (⟨#[40]⟩ : ByteArray) y10 y11 y12 y13 (fun y14 y15 y16 y17 => verdererref12_reader_head_F n y14 y15 y16 y17 x11 y9 x13 x14 x15 x16 x17 (fun y18 y19 y20 y21 y22 y23 y24 y25 y26 y27 y28 => verdererref12_reader_must_F n (⟨#[41]⟩ : ByteArray) y18 y19 y20 y21 (fun y29 y30 y31 y32 => if (y22 == 3) = true then (verdererref12_reader_must_F n (⟨#[108, 105, 109, 105, 116]⟩ : ByteArray) y29 y30 y31 y32 (fun y33 y34 y35 y36 => if (y34 == 0) = true then (verdererref12_reader_now_F n y33 y34 y35 y36 (fun y37 y38 y39 y40 y41 => if (y37.1 != 2) = true then (verdererref12_reader_now_F n y38 y39 y40 y41 (fun y42 y43 y44 y45 y46 => verdererref12_reader_fail_F n 7 y42.2.2.2.1 y43 y44 y45 y46 (fun y47 y48 y49 y50 => verdererref12_reader_now_F n y47 y48 y49 y50 (fun y51 y52 y53 y54 y55 => verdererref12_reader_step_F n y52 y53 y54 y55 (fun y56 y57 y58 y59 => verdererref12_Rule_l1000023 n (x0, x1, x2, x3, x4, x5, x6, y59, y56, y57, y58, y22, y23, y24, y25, y51.2.2.1.2.2.1, y27, y28, ()) (fun b97 => qr b97.1 b97.2.1 b97.2.2.1 b97.2.2.2.1 b97.2.2.2.2.1 b97.2.2.2.2.2.1 b97.2.2.2.2.2.2.1 b97.2.2.2.2.2.2.2.1 b97.2.2.2.2.2.2.2.2.1, fun b106 => qr_1 b106.1 b106.2.1 b106.2.2.1 b106.2.2.2.1 b106.2.2.2.2.1 b106.2.2.2.2.2.1 b106.2.2.2.2.2.2.1 b106.2.2.2.2.2.2.2.1 b106.2.2.2.2.2.2.2.2.1, ())))))) else (verdererref12_reader_now_F n y38 y39 y40 y41 (fun y107 y108 y109 y110 y111 => if (y107.2.2.1.1 != 2) = true then (verdererref12_reader_now_F n y108 y109 y110 y111 (fun y112 y113 y114 y115 y116 => verdererref12_reader_fail_F n 7 y112.2.2.2.1 y113 y114 y115 y116 (fun y117 y118 y119 y120 => verdererref12_reader_now_F n y117 y118 y119 y120 (fun y121 y122 y123 y124 y125 => verdererref12_reader_step_F n y122 y123 y124 y125 (fun y126 y127 y128 y129 => verdererref12_Rule_l1000023 n (x0, x1, x2, x3, x4, x5, x6, y129, y126, y127, y128, y22, y23, y24, y25, y121.2.2.1.2.2.1, y27, y28, ()) (fun b138 => qr b138.1 b138.2.1 b138.2.2.1 b138.2.2.2.1 b138.2.2.2.2.1 b138.2.2.2.2.2.1 b138.2.2.2.2.2.2.1 b138.2.2.2.2.2.2.2.1 b138.2.2.2.2.2.2.2.2.1, fun b147 => qr_1 b147.1 b147.2.1 b147.2.2.1 b147.2.2.2.1 b147.2.2.2.2.1 b147.2.2.2.2.2.1 b147.2.2.2.2.2.2.1 b147.2.2.2.2.2.2.2.1 b147.2.2.2.2.2.2.2.2.1, ())))))) else (verdererref12_reader_now_F n y108 y109 y110 y111 (fun y148 y149 y150 y151 y152 => verdererref12_reader_step_F n y149 y150 y151 y152 (fun y153 y154 y155 y156 => verdererref12_Rule_l1000023 n (x0, x1, x2, x3, x4, x5, x6, y156, y153, y154, y155, y22, y23, y24, y25, y148.2.2.1.2.2.1, y27, y28, ()) (fun b165 => qr b165.1 b165.2.1 b165.2.2.1 b165.2.2.2.1 b165.2.2.2.2.1 b165.2.2.2.2.2.1 b165.2.2.2.2.2.2.1 b165.2.2.2.2.2.2.2.1 b165.2.2.2.2.2.2.2.2.1, fun b174 => qr_1 b174.1 b174.2.1 b174.2.2.1 b174.2.2.2.1 b174.2.2.2.2.1 b174.2.2.2.2.2.1 b174.2.2.2.2.2.2.1 b174.2.2.2.2.2.2.2.1 b174.2.2.2.2.2.2.2.2.1, ())))))))) else (verdererref12_reader_now_F n y33 y34 y35 y36 (fun y175 y176 y177 y178 y179 => verdererref12_reader_step_F n y176 y177 y178 y179 (fun y180 y181 y182 y183 => verdererref12_Rule_l1000023 n (x0, x1, x2, x3, x4, x5, x6, y183, y180, y181, y182, y22, y23, y24, y25, y175.2.2.1.2.2.1, y27, y28, ()) (fun b192 => qr b192.1 b192.2.1 b192.2.2.1 b192.2.2.2.1 b192.2.2.2.2.1 b192.2.2.2.2.2.1 b192.2.2.2.2.2.2.1 b192.2.2.2.2.2.2.2.1 b192.2.2.2.2.2.2.2.2.1, fun b201 => qr_1 b201.1 b201.2.1 b201.2.2.1 b201.2.2.2.1 b201.2.2.2.2.1 b201.2.2.2.2.2.1 b201.2.2.2.2.2.2.1 b201.2.2.2.2.2.2.2.1 b201.2.2.2.2.2.2.2.2.1, ())))))) else (verdererref12_Rule_l1000023 n (x0, x1, x2, x3, x4, x5, x6, y32, y29, y30, y31, y22, y23, y24, y25, y26, y27, y28, ()) (fun b210 => qr b210.1 b210.2.1 b210.2.2.1 b210.2.2.2.1 b210.2.2.2.2.1 b210.2.2.2.2.2.1 b210.2.2.2.2.2.2.1 b210.2.2.2.2.2.2.2.1 b210.2.2.2.2.2.2.2.2.1, fun b219 => qr_1 b219.1 b219.2.1 b219.2.2.1 b219.2.2.2.1 b219.2.2.2.2.1 b219.2.2.2.2.2.1 b219.2.2.2.2.2.2.1 b219.2.2.2.2.2.2.2.1 b219.2.2.2.2.2.2.2.2.1, ()))))))
def verdererref12_Rule_li1000013 (n : Nat) (a : (verdererref12_Rule_ds 1000013).D) (k2 : exK R (verdererref12_Rule_dx 1000013)) : Option R :=
  verdererref12_Rule_s1000013 n a.1 a.2.1 a.2.2.1 a.2.2.2.1 a.2.2.2.2.1 a.2.2.2.2.2.1 a.2.2.2.2.2.2.1 a.2.2.2.2.2.2.2.1 a.2.2.2.2.2.2.2.2.1 a.2.2.2.2.2.2.2.2.2.1 a.2.2.2.2.2.2.2.2.2.2.1 a.2.2.2.2.2.2.2.2.2.2.2.1 a.2.2.2.2.2.2.2.2.2.2.2.2.1 a.2.2.2.2.2.2.2.2.2.2.2.2.2.1 a.2.2.2.2.2.2.2.2.2.2.2.2.2.2.1 a.2.2.2.2.2.2.2.2.2.2.2.2.2.2.2.1 a.2.2.2.2.2.2.2.2.2.2.2.2.2.2.2.2.1 a.2.2.2.2.2.2.2.2.2.2.2.2.2.2.2.2.2.1 (fun x0 x1 x2 x3 x4 x5 x6 x7 x8 => k2.1 (x0, x1, x2, x3, x4, x5, x6, x7, x8, ())) (fun x0 x1 x2 x3 x4 x5 x6 x7 x8 => k2.2.1 (x0, x1, x2, x3, x4, x5, x6, x7, x8, ()))
def verdererref12_Rule_l1000013 {R : Type} := lazyN (@verdererref12_Rule_li1000013 R)
theorem verdererref12_Rule_e1000013 : @verdererref12_Rule_l1000013 R = @verdererref12_Rule_li1000013 R := lazyN_eq _
@[reducible] def verdererref12_Rule_d : Desc := ⟨[(0, .d .str)], []⟩
def verdererref12_Rule_Fi (n : Nat) (a0 : ByteArray) (k0 : Int → ByteArray → Int → ByteArray → Int → Int → Int → (List ByteArray) → (List ty51.D) → Option R) : Option R :=
  verdererref11_Read_F n a0 (fun y1 y2 y3 => if (y2 != 0) = true then (k0 0 (⟨#[]⟩ : ByteArray) 0 (⟨#[]⟩ : ByteArray) 0 y1 y2 ([] : List ByteArray) ([] : List ty51.D)) else (verdererref12_reader_take_F n (⟨#[100, 101, 110, 121]⟩ : ByteArray) 0 0 0 y3 (fun y4 y5 y6 y7 y8 => if y4 = true then (verdererref12_Rule_l1000013 n (([] : List ByteArray), ([] : List ty51.D), 0, (⟨#[]⟩ : ByteArray), 0, (⟨#[]⟩ : ByteArray), 0, y8, y5, y6, y7, 1, (⟨#[]⟩ : ByteArray), 0, (⟨#[]⟩ : ByteArray), 0, ([] : List ByteArray), ([] : List ty51.D), ()) (fun b228 => k0 b228.2.2.1 b228.2.2.2.1 b228.2.2.2.2.1 b228.2.2.2.2.2.1 b228.2.2.2.2.2.2.1 b228.1 b228.2.1 b228.2.2.2.2.2.2.2.1 b228.2.2.2.2.2.2.2.2.1, fun b237 => k0 b237.2.2.1 b237.2.2.2.1 b237.2.2.2.2.1 b237.2.2.2.2.2.1 b237.2.2.2.2.2.2.1 b237.1 b237.2.1 b237.2.2.2.2.2.2.2.1 b237.2.2.2.2.2.2.2.2.1, ())) else (verdererref12_reader_take_F n (⟨#[118, 105, 101, 119]⟩ : ByteArray) y5 y6 y7 y8 (fun y238 y239 y240 y241 y242 => if y238 = true then (verdererref12_Rule_l1000013 n (([] : List ByteArray), ([] : List ty51.D), 0, (⟨#[]⟩ : ByteArray), 0, (⟨#[]⟩ : ByteArray), 0, y242, y239, y240, y241, 2, (⟨#[]⟩ : ByteArray), 0, (⟨#[]⟩ : ByteArray), 0, ([] : List ByteArray), ([] : List ty51.D), ()) (fun b251 => k0 b251.2.2.1 b251.2.2.2.1 b251.2.2.2.2.1 b251.2.2.2.2.2.1 b251.2.2.2.2.2.2.1 b251.1 b251.2.1 b251.2.2.2.2.2.2.2.1 b251.2.2.2.2.2.2.2.2.1, fun b260 => k0 b260.2.2.1 b260.2.2.2.1 b260.2.2.2.2.1 b260.2.2.2.2.2.1 b260.2.2.2.2.2.2.1 b260.1 b260.2.1 b260.2.2.2.2.2.2.2.1 b260.2.2.2.2.2.2.2.2.1, ())) else (verdererref12_reader_take_F n (⟨#[113, 117, 111, 116, 97]⟩ : ByteArray) y239 y240 y241 y242 (fun y261 y262 y263 y264 y265 => if y261 = true then (verdererref12_Rule_l1000013 n (([] : List ByteArray), ([] : List ty51.D), 0, (⟨#[]⟩ : ByteArray), 0, (⟨#[]⟩ : ByteArray), 0, y265, y262, y263, y264, 3, (⟨#[]⟩ : ByteArray), 0, (⟨#[]⟩ : ByteArray), 0, ([] : List ByteArray), ([] : List ty51.D), ()) (fun b274 => k0 b274.2.2.1 b274.2.2.2.1 b274.2.2.2.2.1 b274.2.2.2.2.2.1 b274.2.2.2.2.2.2.1 b274.1 b274.2.1 b274.2.2.2.2.2.2.2.1 b274.2.2.2.2.2.2.2.2.1, fun b283 => k0 b283.2.2.1 b283.2.2.2.1 b283.2.2.2.2.1 b283.2.2.2.2.2.1 b283.2.2.2.2.2.2.1 b283.1 b283.2.1 b283.2.2.2.2.2.2.2.1 b283.2.2.2.2.2.2.2.2.1, ())) else (verdererref12_reader_now_F n y262 y263 y264 y265 (fun y284 y285 y286 y287 y288 => verdererref12_reader_fail_F n 7 y284.2.2.2.1 y285 y286 y287 y288 (fun y289 y290 y291 y292 => verdererref12_Rule_l1000013 n (([] : List ByteArray), ([] : List ty51.D), 0, (⟨#[]⟩ : ByteArray), 0, (⟨#[]⟩ : ByteArray), 0, y292, y289, y290, y291, 0, (⟨#[]⟩ : ByteArray), 0, (⟨#[]⟩ : ByteArray), 0, ([] : List ByteArray), ([] : List ty51.D), ()) (fun b301 => k0 b301.2.2.1 b301.2.2.2.1 b301.2.2.2.2.1 b301.2.2.2.2.2.1 b301.2.2.2.2.2.2.1 b301.1 b301.2.1 b301.2.2.2.2.2.2.2.1 b301.2.2.2.2.2.2.2.2.1, fun b310 => k0 b310.2.2.1 b310.2.2.2.1 b310.2.2.2.2.1 b310.2.2.2.2.2.1 b310.2.2.2.2.2.2.1 b310.1 b310.2.1 b310.2.2.2.2.2.2.2.1 b310.2.2.2.2.2.2.2.2.1, ())))))))))))
def verdererref12_Rule_F {R : Type} := lazyN (@verdererref12_Rule_Fi R)
theorem verdererref12_Rule_e : @verdererref12_Rule_F R = @verdererref12_Rule_Fi R := lazyN_eq _
def verdererref12_Rule_g (n : Nat) : Gx R := typed 1 verdererref12_Rule_d fun x k => verdererref12_Rule_F n x.1 (fun y0 y1 y2 y3 y4 y5 y6 y7 y8 => k (.tu [(.ag [(.i .i64 y0), (.s y1), (.ow 0), (.i .i64 y2), (.s y3), (.i .i64 y4), (.ow 1)]), (.c (.i .i64 y5)), (.c (.i .i64 y6))]) [(.arr 9 .str y7), (.arr 51 ty51 y8)])
def verdererref12_Rule_cs (R : Type) (n : Nat) : List (Nat × Gx R) := [(16, verdererref11_Read_g n), (17, verdererref12_reader_take_g n), (18, verdererref12_reader_fail_g n), (19, verdererref12_reader_now_g n), (20, verdererref12_reader_name_g n), (21, verdererref12_reader_must_g n), (22, verdererref12_reader_head_g n), (23, verdererref12_reader_step_g n), (24, verdererref12_reader_body_g n)]
def verdererref12_Rule_lp (n : Nat) : (i : Nat) → (verdererref12_Rule_ds i).D → exK R (verdererref12_Rule_dx i) → Option R
  | 1000023, a, k => verdererref12_Rule_l1000023 n a k
  | 1000013, a, k => verdererref12_Rule_l1000013 n a k
  | _, _, _ => none
def verdererref12_Rule_cx (R : Type) (n : Nat) : Cx R := ⟨Tryz.prog, Gof (verdererref12_Rule_cs R n), verdererref12_Rule_ds, verdererref12_Rule_dx, verdererref12_Rule_lp n, drawP Tryz.prog (Gof (verdererref12_Rule_cs R n)), false, (memN [23, 13]), noFz⟩
theorem verdererref12_Rule_ok [Esc R] (n : Nat) : Good Tryz.prog 8 (verdererref12_Rule_g (R := R) n) := by
  unfold verdererref12_Rule_g
  rw [verdererref12_Rule_e]
  exact Good.fn (cx := verdererref12_Rule_cx R n) (by kernel_rfl) (AllGood.cons (verdererref11_Read_ok n) (AllGood.cons (verdererref12_reader_take_ok n) (AllGood.cons (verdererref12_reader_fail_ok n) (AllGood.cons (verdererref12_reader_now_ok n) (AllGood.cons (verdererref12_reader_name_ok n) (AllGood.cons (verdererref12_reader_must_ok n) (AllGood.cons (verdererref12_reader_head_ok n) (AllGood.cons (verdererref12_reader_step_ok n) (AllGood.cons (verdererref12_reader_body_ok n) (AllGood.nil)))))))))) rfl Tryz.func8 (by kernel_rfl) rfl (by
    have e : fnLoops (memN [23, 13]) Tryz.f8 = [((fnLoops (memN [23, 13]) Tryz.f8)[0]?).getD (false, .skip), ((fnLoops (memN [23, 13]) Tryz.f8)[1]?).getD (false, .skip)] := by kernel_rfl
    show LoopRuns _ _ (fnLoops (memN [23, 13]) _)
    rw [e]
    exact ⟨LoopRun.joinS (by kernel_rfl) (i := 13) (L := verdererref12_Rule_l1000013 n) (Li := verdererref12_Rule_li1000013 n) (by rw [verdererref12_Rule_e1000013]) (by kernel_rfl) (fun a k => by kernel_rfl) (fun a k => by kernel_rfl), ⟨LoopRun.joinS (by kernel_rfl) (i := 23) (L := verdererref12_Rule_l1000023 n) (Li := verdererref12_Rule_li1000023 n) (by rw [verdererref12_Rule_e1000023]) (by kernel_rfl) (fun a k => by kernel_rfl) (fun a k => by kernel_rfl), trivial⟩⟩) 1 verdererref12_Rule_d (by kernel_rfl) (fun x k => by kernel_rfl)
end
end Go.Proofs.YtnnbinmomendnaaGreatDoor.E
set_option linter.unusedVariables false
set_option maxRecDepth 100000
namespace Go.Proofs.YtnnbinmomendnaaGreatDoor.E
open Go.Proofs
noncomputable section
variable {R : Type}
/-! (*verderer/parse.reader).now: function 41 -/
@[reducible] def parse_reader_now_d : Desc := ⟨[(0, .pt 0 0)], [.box true 43 [.d (.sl ty78), .d (.int .i64)]]⟩
def parse_reader_now_Fi (n : Nat) (a0 : (List ty78.D)) (a1 : Int) (k0 : ty78.D → (List ty78.D) → Int → Option R) : Option R :=
  if (0 : Int) ≤ a1 ∧ a1 < (a0.length : Int) then (k0 ((a0.getD (Int.toNat a1) (Ty.z ty78)).1, (a0.getD (Int.toNat a1) (Ty.z ty78)).2.1, ((a0.getD (Int.toNat a1) (Ty.z ty78)).2.2.1), (a0.getD (Int.toNat a1) (Ty.z ty78)).2.2.2.1, ()) a0 a1) else none
def parse_reader_now_F {R : Type} := lazyN (@parse_reader_now_Fi R)
theorem parse_reader_now_e : @parse_reader_now_F R = @parse_reader_now_Fi R := lazyN_eq _
def parse_reader_now_g (n : Nat) : Gx R := typed 1 parse_reader_now_d fun x k => parse_reader_now_F n x.1 x.2.1 (fun y0 y1 y2 => k (.a (encA ty78 y0)) [(.box true 43 [(.fz ty78 y1), (.i .i64 y2)])])
def parse_reader_now_cs (R : Type) (n : Nat) : List (Nat × Gx R) := []
def parse_reader_now_cx (R : Type) (n : Nat) : Cx R := ⟨Tryz.prog, Gof (parse_reader_now_cs R n), noDs, noDx, noLp, drawP Tryz.prog (Gof (parse_reader_now_cs R n)), false, noJn, noFz⟩
theorem parse_reader_now_ok [Esc R] (n : Nat) : Good Tryz.prog 41 (parse_reader_now_g (R := R) n) := by
  unfold parse_reader_now_g
  rw [parse_reader_now_e]
  exact Good.fn (cx := parse_reader_now_cx R n) (by kernel_rfl) (AllGood.nil) rfl Tryz.func41 (by kernel_rfl) rfl trivial 1 parse_reader_now_d (by kernel_rfl) (fun x k => by kernel_rfl)
end
end Go.Proofs.YtnnbinmomendnaaGreatDoor.E
set_option linter.unusedVariables false
set_option maxRecDepth 100000
namespace Go.Proofs.YtnnbinmomendnaaGreatDoor.E
open Go.Proofs
noncomputable section
variable {R : Type}
/-! (*verderer/parse.reader).is: function 92 -/
@[reducible] def parse_reader_is_d : Desc := ⟨[(0, .pt 0 0), (1, .d .str)], [.box true 43 [.d (.sl ty78), .d (.int .i64)]]⟩
def parse_reader_is_Fi (n : Nat) (a0 : ByteArray) (a1 : (List ty78.D)) (a2 : Int) (k0 : Bool → (List ty78.D) → Int → Option R) : Option R :=
  parse_reader_now_F n a1 a2 (fun y1 y2 y3 => if (y1.1 == 1) = true then (k0 (y1.2.1.toList == a0.toList) y2 y3) else (if (y1.1 == 3) = true then (k0 (y1.2.1.toList == a0.toList) y2 y3) else (k0 false y2 y3)))
def parse_reader_is_F {R : Type} := lazyN (@parse_reader_is_Fi R)
theorem parse_reader_is_e : @parse_reader_is_F R = @parse_reader_is_Fi R := lazyN_eq _
def parse_reader_is_g (n : Nat) : Gx R := typed 2 parse_reader_is_d fun x k => parse_reader_is_F n x.1 x.2.1 x.2.2.1 (fun y0 y1 y2 => k (.a (.c (.b y0))) [(.box true 43 [(.fz ty78 y1), (.i .i64 y2)])])
def parse_reader_is_cs (R : Type) (n : Nat) : List (Nat × Gx R) := [(41, parse_reader_now_g n)]
def parse_reader_is_cx (R : Type) (n : Nat) : Cx R := ⟨Tryz.prog, Gof (parse_reader_is_cs R n), noDs, noDx, noLp, drawP Tryz.prog (Gof (parse_reader_is_cs R n)), false, noJn, noFz⟩
theorem parse_reader_is_ok [Esc R] (n : Nat) : Good Tryz.prog 92 (parse_reader_is_g (R := R) n) := by
  unfold parse_reader_is_g
  rw [parse_reader_is_e]
  exact Good.fn (cx := parse_reader_is_cx R n) (by kernel_rfl) (AllGood.cons (parse_reader_now_ok n) (AllGood.nil)) rfl Tryz.func92 (by kernel_rfl) rfl trivial 2 parse_reader_is_d (by kernel_rfl) (fun x k => by kernel_rfl)
end
end Go.Proofs.YtnnbinmomendnaaGreatDoor.E
set_option linter.unusedVariables false
set_option maxRecDepth 100000
namespace Go.Proofs.YtnnbinmomendnaaGreatDoor.E
open Go.Proofs
noncomputable section
variable {R : Type}
/-! (*verderer/parse.reader).step: function 42 -/
@[reducible] def parse_reader_step_d : Desc := ⟨[(0, .pt 0 0)], [.box true 43 [.d (.sl ty78), .d (.int .i64)]]⟩
def parse_reader_step_Fi (n : Nat) (a0 : (List ty78.D)) (a1 : Int) (k0 : ty78.D → (List ty78.D) → Int → Option R) : Option R :=
  parse_reader_now_F n a0 a1 (fun y1 y2 y3 => if (y1.1 != 4) = true then (k0 y1 y2 (IntKind.i64.wrap (y3 + 1))) else (k0 y1 y2 y3))
def parse_reader_step_F {R : Type} := lazyN (@parse_reader_step_Fi R)
theorem parse_reader_step_e : @parse_reader_step_F R = @parse_reader_step_Fi R := lazyN_eq _
def parse_reader_step_g (n : Nat) : Gx R := typed 1 parse_reader_step_d fun x k => parse_reader_step_F n x.1 x.2.1 (fun y0 y1 y2 => k (.a (encA ty78 y0)) [(.box true 43 [(.fz ty78 y1), (.i .i64 y2)])])
def parse_reader_step_cs (R : Type) (n : Nat) : List (Nat × Gx R) := [(41, parse_reader_now_g n)]
def parse_reader_step_cx (R : Type) (n : Nat) : Cx R := ⟨Tryz.prog, Gof (parse_reader_step_cs R n), noDs, noDx, noLp, drawP Tryz.prog (Gof (parse_reader_step_cs R n)), false, noJn, noFz⟩
theorem parse_reader_step_ok [Esc R] (n : Nat) : Good Tryz.prog 42 (parse_reader_step_g (R := R) n) := by
  unfold parse_reader_step_g
  rw [parse_reader_step_e]
  exact Good.fn (cx := parse_reader_step_cx R n) (by kernel_rfl) (AllGood.cons (parse_reader_now_ok n) (AllGood.nil)) rfl Tryz.func42 (by kernel_rfl) rfl trivial 1 parse_reader_step_d (by kernel_rfl) (fun x k => by kernel_rfl)
end
end Go.Proofs.YtnnbinmomendnaaGreatDoor.E
set_option linter.unusedVariables false
set_option maxRecDepth 100000
namespace Go.Proofs.YtnnbinmomendnaaGreatDoor.E
open Go.Proofs
noncomputable section
variable {R : Type}
/-! (*verderer/parse.reader).take: function 59 -/
@[reducible] def parse_reader_take_d : Desc := ⟨[(0, .pt 0 0), (1, .d .str)], [.box true 43 [.d (.sl ty78), .d (.int .i64)]]⟩
def parse_reader_take_Fi (n : Nat) (a0 : ByteArray) (a1 : (List ty78.D)) (a2 : Int) (k0 : Bool → (List ty78.D) → Int → Option R) : Option R :=
  parse_reader_is_F n a0 a1 a2 (fun y1 y2 y3 => if y1 = true then (parse_reader_step_F n y2 y3 (fun y4 y5 y6 => k0 y1 y5 y6)) else (k0 y1 y2 y3))
def parse_reader_take_F {R : Type} := lazyN (@parse_reader_take_Fi R)
theorem parse_reader_take_e : @parse_reader_take_F R = @parse_reader_take_Fi R := lazyN_eq _
def parse_reader_take_g (n : Nat) : Gx R := typed 2 parse_reader_take_d fun x k => parse_reader_take_F n x.1 x.2.1 x.2.2.1 (fun y0 y1 y2 => k (.a (.c (.b y0))) [(.box true 43 [(.fz ty78 y1), (.i .i64 y2)])])
def parse_reader_take_cs (R : Type) (n : Nat) : List (Nat × Gx R) := [(42, parse_reader_step_g n), (92, parse_reader_is_g n)]
def parse_reader_take_cx (R : Type) (n : Nat) : Cx R := ⟨Tryz.prog, Gof (parse_reader_take_cs R n), noDs, noDx, noLp, drawP Tryz.prog (Gof (parse_reader_take_cs R n)), false, noJn, noFz⟩
theorem parse_reader_take_ok [Esc R] (n : Nat) : Good Tryz.prog 59 (parse_reader_take_g (R := R) n) := by
  unfold parse_reader_take_g
  rw [parse_reader_take_e]
  exact Good.fn (cx := parse_reader_take_cx R n) (by kernel_rfl) (AllGood.cons (parse_reader_step_ok n) (AllGood.cons (parse_reader_is_ok n) (AllGood.nil))) rfl Tryz.func59 (by kernel_rfl) rfl trivial 2 parse_reader_take_d (by kernel_rfl) (fun x k => by kernel_rfl)
end
end Go.Proofs.YtnnbinmomendnaaGreatDoor.E
set_option linter.unusedVariables false
set_option maxRecDepth 100000
namespace Go.Proofs.YtnnbinmomendnaaGreatDoor.E
open Go.Proofs
noncomputable section
variable {R : Type}
/-! (*verderer/parse.reader).must: function 40 -/
@[reducible] def parse_reader_must_d : Desc := ⟨[(0, .pt 0 0), (1, .d .bool), (2, .d (.int .i64))], [.box true 43 [.d (.sl ty78), .d (.int .i64)]]⟩
noncomputable def parse_reader_must_Fi [Esc R] (n : Nat) (a0 : Bool) (a1 : Int) (a2 : (List ty78.D)) (a3 : Int) (k0 : (List ty78.D) → Int → Option R) : Option R :=
  if (!a0) = true then (parse_reader_now_F n a2 a3 (fun y1 y2 y3 => Esc.esc (.iface 39 (.agg #[.int .i64 a1, .int .i64 y1.2.2.2.1])))) else (k0 a2 a3)
noncomputable def parse_reader_must_F {R : Type} [i : Esc R] := lazyN (@parse_reader_must_Fi R i)
theorem parse_reader_must_e [i : Esc R] : @parse_reader_must_F R i = @parse_reader_must_Fi R i := lazyN_eq _
noncomputable def parse_reader_must_g [Esc R] (n : Nat) : Gx R := typed 3 parse_reader_must_d fun x k => parse_reader_must_F n x.1 x.2.1 x.2.2.1 x.2.2.2.1 (fun y0 y1 => k (.tu []) [(.box true 43 [(.fz ty78 y0), (.i .i64 y1)])])
noncomputable def parse_reader_must_cs (R : Type) [Esc R] (n : Nat) : List (Nat × Gx R) := [(panF, escG), (41, parse_reader_now_g n)]
noncomputable def parse_reader_must_cx (R : Type) [Esc R] (n : Nat) : Cx R := ⟨Tryz.prog, Gof (parse_reader_must_cs R n), noDs, noDx, noLp, drawP Tryz.prog (Gof (parse_reader_must_cs R n)), false, noJn, noFz⟩
theorem parse_reader_must_ok [Esc R] (n : Nat) : Good Tryz.prog 40 (parse_reader_must_g (R := R) n) := by
  unfold parse_reader_must_g
  rw [parse_reader_must_e]
  exact Good.fn (f := 40) (cx := parse_reader_must_cx R n) (by kernel_rfl) (AllGood.esc (AllGood.cons (parse_reader_now_ok n) (AllGood.nil))) rfl Tryz.func40 (by kernel_rfl) rfl trivial 3 parse_reader_must_d (by kernel_rfl) (fun x k => by kernel_rfl)
end
end Go.Proofs.YtnnbinmomendnaaGreatDoor.E
set_option linter.unusedVariables false
set_option maxRecDepth 100000
namespace Go.Proofs.YtnnbinmomendnaaGreatDoor.E
open Go.Proofs
noncomputable section
variable {R : Type}
/-! (*verderer/parse.reader).kind: function 36 -/
def parse_reader_kind_ds : Nat → Desc
  | 2 => ⟨[(0, .pt 0 0), (5, .ow 1), (6, .d (.int .i64)), (7, .d (.int .i64))], [.box true 43 [.d (.sl ty78), .d (.int .i64)], .arr 9 .str]⟩
  | _ => ⟨[], []⟩
def parse_reader_kind_dx : Nat → List (X × Desc)
  | 2 => [(.r, ⟨[(2, .d (.int .i64))], [.box true 43 [.d (.sl ty78), .d (.int .i64)]]⟩), (.e 0, ⟨[(0, .pt 0 0)], [.box true 43 [.d (.sl ty78), .d (.int .i64)]]⟩)]
  | _ => []
noncomputable def parse_reader_kind_s2 [Esc R] (n : Nat) (x0 : Int) (x1 : Int) (x2 : (List ty78.D)) (x3 : Int) (x4 : (List ByteArray)) (k1 : Int → Int → (List ty78.D) → Int → (List ByteArray) → Option R) (qr : Int → (List ty78.D) → Int → Option R) (qe0 : (List ty78.D) → Int → Option R) : Option R :=
  if (decide (x1 < x0)) = true then (if (0 : Int) ≤ x1 ∧ x1 < (x4.length : Int) then (if (Int.toNat x1) < x4.length then (parse_reader_take_F n (x4.getD (Int.toNat x1) (Ty.z .str)) x2 x3 (fun y1 y2 y3 => if y1 = true then (qr (IntKind.i64.wrap (1 + x1)) y2 y3) else (k1 x0 (IntKind.i64.wrap (x1 + 1)) y2 y3 x4))) else none) else none) else (qe0 x2 x3)
noncomputable def parse_reader_kind_l2 [Esc R] (n : Nat) (a : (parse_reader_kind_ds 2).D) (k1 : (parse_reader_kind_ds 2).D → Option R) (k2 : exK R (parse_reader_kind_dx 2)) : Option R :=
  parse_reader_kind_s2 n a.1 a.2.1 a.2.2.1 a.2.2.2.1 a.2.2.2.2.1 (fun x0 x1 x2 x3 x4 => k1 (x0, x1, x2, x3, x4, ())) (fun x0 x1 x2 => k2.1 (x0, x1, x2, ())) (fun x0 x1 => k2.2.1 (x0, x1, ()))
@[reducible] def parse_reader_kind_d : Desc := ⟨[(0, .pt 0 0)], [.box true 43 [.d (.sl ty78), .d (.int .i64)]]⟩
noncomputable def parse_reader_kind_Fi [Esc R] (n : Nat) (a0 : (List ty78.D)) (a1 : Int) (k0 : Int → (List ty78.D) → Int → Option R) : Option R :=
  runC (parse_reader_kind_l2 n) n (([(⟨#[100, 101, 110, 121]⟩ : ByteArray), (⟨#[118, 105, 101, 119]⟩ : ByteArray), (⟨#[113, 117, 111, 116, 97]⟩ : ByteArray)].length : Int), 0, a0, a1, [(⟨#[100, 101, 110, 121]⟩ : ByteArray), (⟨#[118, 105, 101, 119]⟩ : ByteArray), (⟨#[113, 117, 111, 116, 97]⟩ : ByteArray)], ()) (fun b6 => k0 b6.1 b6.2.1 b6.2.2.1, fun b8 => parse_reader_must_F n false 7 b8.1 b8.2.1 (fun y9 y10 => k0 0 y9 y10), ())
noncomputable def parse_reader_kind_F {R : Type} [i : Esc R] := lazyN (@parse_reader_kind_Fi R i)
theorem parse_reader_kind_e [i : Esc R] : @parse_reader_kind_F R i = @parse_reader_kind_Fi R i := lazyN_eq _
noncomputable def parse_reader_kind_g [Esc R] (n : Nat) : Gx R := typed 1 parse_reader_kind_d fun x k => parse_reader_kind_F n x.1 x.2.1 (fun y0 y1 y2 => k (.a (.c (.i .i64 y0))) [(.box true 43 [(.fz ty78 y1), (.i .i64 y2)])])
noncomputable def parse_reader_kind_cs (R : Type) [Esc R] (n : Nat) : List (Nat × Gx R) := [(panF, escG), (40, parse_reader_must_g n), (59, parse_reader_take_g n)]
noncomputable def parse_reader_kind_lp [Esc R] (n : Nat) : (i : Nat) → (parse_reader_kind_ds i).D → exK R (parse_reader_kind_dx i) → Option R
  | 2, a, k => runC (parse_reader_kind_l2 n) n a k
  | _, _, _ => none
noncomputable def parse_reader_kind_cx (R : Type) [Esc R] (n : Nat) : Cx R := ⟨Tryz.prog, Gof (parse_reader_kind_cs R n), parse_reader_kind_ds, parse_reader_kind_dx, parse_reader_kind_lp n, drawP Tryz.prog (Gof (parse_reader_kind_cs R n)), false, noJn, noFz⟩
theorem parse_reader_kind_ok [Esc R] (n : Nat) : Good Tryz.prog 36 (parse_reader_kind_g (R := R) n) := by
  unfold parse_reader_kind_g
  rw [parse_reader_kind_e]
  exact Good.fn (f := 36) (cx := parse_reader_kind_cx R n) (by kernel_rfl) (AllGood.esc (AllGood.cons (parse_reader_must_ok n) (AllGood.cons (parse_reader_take_ok n) (AllGood.nil)))) rfl Tryz.func36 (by kernel_rfl) rfl (by
    have e : fnLoops noJn Tryz.f36 = [((fnLoops noJn Tryz.f36)[0]?).getD (false, .skip)] := by kernel_rfl
    show LoopRuns _ _ (fnLoops noJn _)
    rw [e]
    exact ⟨LoopRun.loop (by kernel_rfl) (i := 2) (m := n) (step := parse_reader_kind_l2 n) (by kernel_rfl) (fun a k1 k2 => by kernel_rfl) (fun _ _ => rfl), trivial⟩) 1 parse_reader_kind_d (by kernel_rfl) (fun x k => by kernel_rfl)
end
end Go.Proofs.YtnnbinmomendnaaGreatDoor.E
set_option linter.unusedVariables false
set_option maxRecDepth 100000
namespace Go.Proofs.YtnnbinmomendnaaGreatDoor.E
open Go.Proofs
noncomputable section
variable {R : Type}
/-! (*verderer/parse.reader).named: function 60 -/
@[reducible] def parse_reader_named_d : Desc := ⟨[(0, .pt 0 0)], [.box true 43 [.d (.sl ty78), .d (.int .i64)]]⟩
def parse_reader_named_Fi (n : Nat) (a0 : (List ty78.D)) (a1 : Int) (k0 : Bool → (List ty78.D) → Int → Option R) : Option R :=
  parse_reader_now_F n a0 a1 (fun y1 y2 y3 => if (y1.1 == 1) = true then (schema_Name_F n y1.2.1 (fun y4 => if y4 = true then (lex_Reserved_F n y1.2.1 (fun y5 => k0 (!y5) y2 y3)) else (k0 false y2 y3))) else (k0 false y2 y3))
def parse_reader_named_F {R : Type} := lazyN (@parse_reader_named_Fi R)
theorem parse_reader_named_e : @parse_reader_named_F R = @parse_reader_named_Fi R := lazyN_eq _
def parse_reader_named_g (n : Nat) : Gx R := typed 1 parse_reader_named_d fun x k => parse_reader_named_F n x.1 x.2.1 (fun y0 y1 y2 => k (.a (.c (.b y0))) [(.box true 43 [(.fz ty78 y1), (.i .i64 y2)])])
def parse_reader_named_cs (R : Type) (n : Nat) : List (Nat × Gx R) := [(41, parse_reader_now_g n), (93, schema_Name_g n), (94, lex_Reserved_g n)]
def parse_reader_named_cx (R : Type) (n : Nat) : Cx R := ⟨Tryz.prog, Gof (parse_reader_named_cs R n), noDs, noDx, noLp, drawP Tryz.prog (Gof (parse_reader_named_cs R n)), false, noJn, noFz⟩
theorem parse_reader_named_ok [Esc R] (n : Nat) : Good Tryz.prog 60 (parse_reader_named_g (R := R) n) := by
  unfold parse_reader_named_g
  rw [parse_reader_named_e]
  exact Good.fn (f := 60) (cx := parse_reader_named_cx R n) (by kernel_rfl) (AllGood.cons (parse_reader_now_ok n) (AllGood.cons (schema_Name_ok n) (AllGood.cons (lex_Reserved_ok n) (AllGood.nil)))) rfl Tryz.func60 (by kernel_rfl) rfl trivial 1 parse_reader_named_d (by kernel_rfl) (fun x k => by kernel_rfl)
end
end Go.Proofs.YtnnbinmomendnaaGreatDoor.E
set_option linter.unusedVariables false
set_option maxRecDepth 100000
namespace Go.Proofs.YtnnbinmomendnaaGreatDoor.E
open Go.Proofs
noncomputable section
variable {R : Type}
/-! (*verderer/parse.reader).name: function 37 -/
@[reducible] def parse_reader_name_d : Desc := ⟨[(0, .pt 0 0)], [.box true 43 [.d (.sl ty78), .d (.int .i64)]]⟩
noncomputable def parse_reader_name_Fi [Esc R] (n : Nat) (a0 : (List ty78.D)) (a1 : Int) (k0 : ByteArray → (List ty78.D) → Int → Option R) : Option R :=
  parse_reader_named_F n a0 a1 (fun y1 y2 y3 => parse_reader_must_F n y1 7 y2 y3 (fun y4 y5 => parse_reader_step_F n y4 y5 (fun y6 y7 y8 => k0 y6.2.1 y7 y8)))
noncomputable def parse_reader_name_F {R : Type} [i : Esc R] := lazyN (@parse_reader_name_Fi R i)
theorem parse_reader_name_e [i : Esc R] : @parse_reader_name_F R i = @parse_reader_name_Fi R i := lazyN_eq _
noncomputable def parse_reader_name_g [Esc R] (n : Nat) : Gx R := typed 1 parse_reader_name_d fun x k => parse_reader_name_F n x.1 x.2.1 (fun y0 y1 y2 => k (.a (.c (.s y0))) [(.box true 43 [(.fz ty78 y1), (.i .i64 y2)])])
noncomputable def parse_reader_name_cs (R : Type) [Esc R] (n : Nat) : List (Nat × Gx R) := [(panF, escG), (40, parse_reader_must_g n), (42, parse_reader_step_g n), (60, parse_reader_named_g n)]
noncomputable def parse_reader_name_cx (R : Type) [Esc R] (n : Nat) : Cx R := ⟨Tryz.prog, Gof (parse_reader_name_cs R n), noDs, noDx, noLp, drawP Tryz.prog (Gof (parse_reader_name_cs R n)), false, noJn, noFz⟩
theorem parse_reader_name_ok [Esc R] (n : Nat) : Good Tryz.prog 37 (parse_reader_name_g (R := R) n) := by
  unfold parse_reader_name_g
  rw [parse_reader_name_e]
  exact Good.fn (f := 37) (cx := parse_reader_name_cx R n) (by kernel_rfl) (AllGood.esc (AllGood.cons (parse_reader_must_ok n) (AllGood.cons (parse_reader_step_ok n) (AllGood.cons (parse_reader_named_ok n) (AllGood.nil))))) rfl Tryz.func37 (by kernel_rfl) rfl trivial 1 parse_reader_name_d (by kernel_rfl) (fun x k => by kernel_rfl)
end
end Go.Proofs.YtnnbinmomendnaaGreatDoor.E
set_option linter.unusedVariables false
set_option maxRecDepth 100000
namespace Go.Proofs.YtnnbinmomendnaaGreatDoor.E
open Go.Proofs
noncomputable section
variable {R : Type}
/-! (*verderer/parse.reader).want: function 38 -/
@[reducible] def parse_reader_want_d : Desc := ⟨[(0, .pt 0 0), (1, .d .str)], [.box true 43 [.d (.sl ty78), .d (.int .i64)]]⟩
noncomputable def parse_reader_want_Fi [Esc R] (n : Nat) (a0 : ByteArray) (a1 : (List ty78.D)) (a2 : Int) (k0 : (List ty78.D) → Int → Option R) : Option R :=
  parse_reader_take_F n a0 a1 a2 (fun y1 y2 y3 => parse_reader_must_F n y1 7 y2 y3 (fun y4 y5 => k0 y4 y5))
noncomputable def parse_reader_want_F {R : Type} [i : Esc R] := lazyN (@parse_reader_want_Fi R i)
theorem parse_reader_want_e [i : Esc R] : @parse_reader_want_F R i = @parse_reader_want_Fi R i := lazyN_eq _
noncomputable def parse_reader_want_g [Esc R] (n : Nat) : Gx R := typed 2 parse_reader_want_d fun x k => parse_reader_want_F n x.1 x.2.1 x.2.2.1 (fun y0 y1 => k (.tu []) [(.box true 43 [(.fz ty78 y0), (.i .i64 y1)])])
noncomputable def parse_reader_want_cs (R : Type) [Esc R] (n : Nat) : List (Nat × Gx R) := [(panF, escG), (40, parse_reader_must_g n), (59, parse_reader_take_g n)]
noncomputable def parse_reader_want_cx (R : Type) [Esc R] (n : Nat) : Cx R := ⟨Tryz.prog, Gof (parse_reader_want_cs R n), noDs, noDx, noLp, drawP Tryz.prog (Gof (parse_reader_want_cs R n)), false, noJn, noFz⟩
theorem parse_reader_want_ok [Esc R] (n : Nat) : Good Tryz.prog 38 (parse_reader_want_g (R := R) n) := by
  unfold parse_reader_want_g
  rw [parse_reader_want_e]
  exact Good.fn (f := 38) (cx := parse_reader_want_cx R n) (by kernel_rfl) (AllGood.esc (AllGood.cons (parse_reader_must_ok n) (AllGood.cons (parse_reader_take_ok n) (AllGood.nil)))) rfl Tryz.func38 (by kernel_rfl) rfl trivial 2 parse_reader_want_d (by kernel_rfl) (fun x k => by kernel_rfl)
end
end Go.Proofs.YtnnbinmomendnaaGreatDoor.E
set_option linter.unusedVariables false
set_option maxRecDepth 100000
namespace Go.Proofs.YtnnbinmomendnaaGreatDoor.E
open Go.Proofs
noncomputable section
variable {R : Type}
/-! (*verderer/parse.reader).agg: function 61 -/
@[reducible] def parse_reader_agg_d : Desc := ⟨[(0, .pt 0 0), (1, .pt 1 0)], [.box true 43 [.d (.sl ty78), .d (.int .i64)], .box true 25 [.d (.int .i64), .d .str, .ow 2, .d (.int .i64), .d .str, .d (.int .i64), .ow 3], .arr 9 .str, .arr 51 ty51]⟩
noncomputable def parse_reader_agg_Fi [Esc R] (n : Nat) (a0 : (List ty78.D)) (a1 : Int) (a2 : Int) (a3 : ByteArray) (a4 : Int) (a5 : ByteArray) (a6 : Int) (a7 : (List ByteArray)) (a8 : (List ty51.D)) (k0 : Bool → (List ty78.D) → Int → Int → ByteArray → Int → ByteArray → Int → (List ByteArray) → (List ty51.D) → Option R) : Option R :=
  parse_reader_now_F n a0 a1 (fun y1 y2 y3 => slices_Index_95_F n [(⟨#[99, 111, 117, 110, 116]⟩ : ByteArray), (⟨#[115, 117, 109]⟩ : ByteArray), (⟨#[108, 101, 97, 115, 116]⟩ : ByteArray), (⟨#[109, 111, 115, 116]⟩ : ByteArray)] y1.2.1 (fun y4 => parse_reader_now_F n y2 y3 (fun y5 y6 y7 => if (y5.1 != 1) = true then (k0 false y6 y7 a2 a3 a4 a5 a6 a7 a8) else (if (decide ((IntKind.i64.wrap (y4 + 1)) < 1)) = true then (k0 false y6 y7 a2 a3 a4 a5 a6 a7 a8) else (if (a2 == 2) = true then (parse_reader_must_F n true 7 y6 y7 (fun y8 y9 => parse_reader_step_F n y8 y9 (fun y10 y11 y12 => if ((IntKind.i64.wrap (y4 + 1)) != 1) = true then (parse_reader_name_F n y11 y12 (fun y13 y14 y15 => k0 true y14 y15 a2 a3 (IntKind.i64.wrap (y4 + 1)) y13 a6 a7 a8)) else (k0 true y11 y12 a2 a3 (IntKind.i64.wrap (y4 + 1)) a5 a6 a7 a8)))) else (if (a2 == 3) = true then (parse_reader_must_F n (decide ((IntKind.i64.wrap (y4 + 1)) ≤ 2)) 7 y6 y7 (fun y16 y17 => parse_reader_step_F n y16 y17 (fun y18 y19 y20 => if ((IntKind.i64.wrap (y4 + 1)) != 1) = true then (parse_reader_name_F n y19 y20 (fun y21 y22 y23 => k0 true y22 y23 a2 a3 (IntKind.i64.wrap (y4 + 1)) y21 a6 a7 a8)) else (k0 true y19 y20 a2 a3 (IntKind.i64.wrap (y4 + 1)) a5 a6 a7 a8)))) else (parse_reader_must_F n false 7 y6 y7 (fun y24 y25 => parse_reader_step_F n y24 y25 (fun y26 y27 y28 => if ((IntKind.i64.wrap (y4 + 1)) != 1) = true then (parse_reader_name_F n y27 y28 (fun y29 y30 y31 => k0 true y30 y31 a2 a3 (IntKind.i64.wrap (y4 + 1)) y29 a6 a7 a8)) else (k0 true y27 y28 a2 a3 (IntKind.i64.wrap (y4 + 1)) a5 a6 a7 a8))))))))))
noncomputable def parse_reader_agg_F {R : Type} [i : Esc R] := lazyN (@parse_reader_agg_Fi R i)
theorem parse_reader_agg_e [i : Esc R] : @parse_reader_agg_F R i = @parse_reader_agg_Fi R i := lazyN_eq _
noncomputable def parse_reader_agg_g [Esc R] (n : Nat) : Gx R := typed 2 parse_reader_agg_d fun x k => parse_reader_agg_F n x.1 x.2.1 x.2.2.1 x.2.2.2.1 x.2.2.2.2.1 x.2.2.2.2.2.1 x.2.2.2.2.2.2.1 x.2.2.2.2.2.2.2.1 x.2.2.2.2.2.2.2.2.1 (fun y0 y1 y2 y3 y4 y5 y6 y7 y8 y9 => k (.a (.c (.b y0))) [(.box true 43 [(.fz ty78 y1), (.i .i64 y2)]), (.box true 25 [(.i .i64 y3), (.s y4), (.ow 2), (.i .i64 y5), (.s y6), (.i .i64 y7), (.ow 3)]), (.arr 9 .str y8), (.arr 51 ty51 y9)])
noncomputable def parse_reader_agg_cs (R : Type) [Esc R] (n : Nat) : List (Nat × Gx R) := [(panF, escG), (37, parse_reader_name_g n), (40, parse_reader_must_g n), (41, parse_reader_now_g n), (42, parse_reader_step_g n), (95, slices_Index_95_g n)]
noncomputable def parse_reader_agg_cx (R : Type) [Esc R] (n : Nat) : Cx R := ⟨Tryz.prog, Gof (parse_reader_agg_cs R n), noDs, noDx, noLp, drawP Tryz.prog (Gof (parse_reader_agg_cs R n)), false, noJn, noFz⟩
theorem parse_reader_agg_ok [Esc R] (n : Nat) : Good Tryz.prog 61 (parse_reader_agg_g (R := R) n) := by
  unfold parse_reader_agg_g
  rw [parse_reader_agg_e]
  exact Good.fn (f := 61) (cx := parse_reader_agg_cx R n) (by kernel_rfl) (AllGood.esc (AllGood.cons (parse_reader_name_ok n) (AllGood.cons (parse_reader_must_ok n) (AllGood.cons (parse_reader_now_ok n) (AllGood.cons (parse_reader_step_ok n) (AllGood.cons (slices_Index_95_ok n) (AllGood.nil))))))) rfl Tryz.func61 (by kernel_rfl) rfl trivial 2 parse_reader_agg_d (by kernel_rfl) (fun x k => by kernel_rfl)
end
end Go.Proofs.YtnnbinmomendnaaGreatDoor.E
