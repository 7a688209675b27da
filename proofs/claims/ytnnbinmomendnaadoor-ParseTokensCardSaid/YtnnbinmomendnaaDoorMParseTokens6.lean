/- A text of the proof that the law ParseTokens returns true: nothing is assumed in it. -/
import Derived.Test.YtnnbinmomendnaaDoorMParseTokens5
import Derived.RangeFuncKeeps
import Derived.RangeFuncLeaves
import Derived.Shelf.Abstract
import Derived.WalkKit
import Derived.OwnWalkIn
import Derived.TacticsInMore
import Derived.LoopNIn
import Derived.LoopIn
import Derived.Test.YtnnbinmomendnaaDoorMParseTokens4
import Derived.RangeFuncNested
import Derived.Maps.OwnIn
import Derived.Test.YtnnbinmomendnaaDoorProg
import Derived.KernelRfl
set_option linter.unusedVariables false
set_option linter.unusedSimpArgs false
set_option linter.unusedSectionVars false
namespace Go.Proofs.YtnnbinmomendnaaDoor.E
open Go.RowKit
variable {R : Type}
abbrev Toks := List ty52.D
/-- the tokens of a text from a place on; or where it is wrong -/
noncomputable def lexL (s : ByteArray) : Nat → Nat → Toks → Nat ⊕ Toks
  | 0, _, l => .inr l
  | f + 1, i, l => if i < s.size then (if bt s i = 32 ∨ bt s i = 10 then lexL s f (i + 1) l else match oneS (s.extract i s.size) with
      | none => .inl i
      | some t => lexL s f (i + t.2.1.size) (l ++ [(t.1, t.2.1, t.2.2.1, (i : Int), ())])) else .inr l
def endT (s : ByteArray) : ty52.D := (4, (⟨#[]⟩ : ByteArray), zV, (s.size : Int), ())
noncomputable def lexS (s : ByteArray) : Int × Int × Toks := if 300 < s.size then (0, 9, []) else match lexL s (s.size + 1) 0 [] with
  | .inl i => ((i : Int), 7, [])
  | .inr l => (0, 0, l ++ [endT s])
theorem refLex_l (n : Nat) (s : ByteArray) (hs : s.size ≤ 300) (hn : 2000 < n) (k2 : exK R (verdererref11_Read_dx 5)) : ∀ (f i m : Nat) (l : Toks), s.size ≤ i + f → f < m → i ≤ s.size → l.length ≤ i →
    runC (verdererref11_Read_l5 n) m (s, (i : Int), l, ()) k2 = match lexL s (f + 1) i l with
      | .inl j => k2.1 ((j : Int), 7, [], ())
      | .inr l' => k2.2.1 (s, l', ())
  | f, i, m, l, hf, hm, hi, hl => by
    obtain ⟨m, rfl⟩ : ∃ q, m = q + 1 := ⟨m - 1, by omega⟩
    show verdererref11_Read_l5 n (s, (i : Int), l, ()) (fun b => runC (verdererref11_Read_l5 n) m b k2) k2 = _
    by_cases h : i < s.size
    · obtain ⟨f, rfl⟩ : ∃ q, f = q + 1 := ⟨f - 1, by omega⟩
      have c1 : (i : Int) < (s.size : Int) := by omega
      have c0 : (0 : Int) ≤ (i : Int) := by omega
      have e32 : ((bt s i : Int) == 32) = decide (bt s i = 32) := beq_nat _ 32
      have e10 : ((bt s i : Int) == 10) = decide (bt s i = 10) := beq_nat _ 10
      have r1 : (0 : Int) ≤ (i : Int) ∧ (i : Int) ≤ (s.size : Int) := by omega
      rw [lexL, if_pos h]
      simp only [verdererref11_Read_l5, verdererref11_Read_s5, c1, c0, decide_true, if_true, byteAt_bt, e32, e10, wrap_succ i (by omega), r1, and_self, Int.toNat_natCast]
      have go := refLex_l n s hs hn k2 f (i + 1) m l (by omega) (by omega) (by omega) (by omega)
      by_cases h32 : bt s i = 32
      · rw [if_pos (decide_eq_true h32), if_pos (Or.inl h32)]
        exact go
      · by_cases h10 : bt s i = 10
        · rw [if_neg (by simpa using h32), if_pos (decide_eq_true h10), if_pos (Or.inr h10)]
          exact go
        · rw [if_neg (by simpa using h32), if_neg (by simpa using h10), if_neg (fun h => h.elim h32 h10)]
          have hz : (s.extract i s.size).size = s.size - i := by rw [ByteArray.size_extract]; omega
          obtain ⟨z, ho⟩ := refOne_F (R := R) n (s.extract i s.size) (by omega) (by omega) hn
          rw [ho]
          cases he : oneS (s.extract i s.size) with
          | none => rfl
          | some t =>
            obtain ⟨t1, t2⟩ := oneS_size (by omega) he
            have hw : IntKind.i64.wrap ((i : Int) + (t.2.1.size : Int)) = ((i + t.2.1.size : Nat) : Int) := by rw [wrap_i64 (by omega) (by omega)]; omega
            simp only [Bool.not_true, Bool.false_eq_true, if_false, hw, List.length_cons, List.length_nil]
            rw [if_pos (by omega)]
            exact refLex_l n s hs hn k2 f (i + t.2.1.size) m _ (by omega) (by omega) (by omega) (by simp; omega)
    · have c : ¬ (i : Int) < (s.size : Int) := by omega
      rw [lexL, if_neg h]
      simp only [verdererref11_Read_l5, verdererref11_Read_s5]
      rw [if_neg (by simpa using c)]
theorem lexL_len (s : ByteArray) : ∀ (f i : Nat) (l l' : Toks), i ≤ s.size → l.length ≤ i → lexL s f i l = .inr l' → l'.length ≤ s.size
  | 0, i, l, l', hi, hl, h => by injection h with h; rw [← h]; omega
  | f + 1, i, l, l', hi, hl, h => by
    unfold lexL at h
    split at h
    · rename_i hlt
      split at h
      · exact lexL_len s f (i + 1) l l' (by omega) (by omega) h
      · split at h
        · cases h
        · rename_i t he
          have hz : (s.extract i s.size).size = s.size - i := by rw [ByteArray.size_extract]; omega
          obtain ⟨t1, t2⟩ := oneS_size (by omega) he
          exact lexL_len s f (i + t.2.1.size) _ l' (by omega) (by simp; omega) h
    · injection h with h; rw [← h]; omega
theorem refLex_F (n : Nat) (s : ByteArray) (hn : 2000 < n) (k : Int → Int → Toks → Option R) : verdererref11_Read_F n s k = k (lexS s).1 (lexS s).2.1 (lexS s).2.2 := by
  rw [verdererref11_Read_e]
  unfold verdererref11_Read_Fi lexS
  by_cases h : 300 < s.size
  · have : (s.size : Int) > 300 := by omega
    rw [if_pos (decide_eq_true this), if_pos h]
  · have : ¬ (s.size : Int) > 300 := by omega
    rw [if_neg (by simpa using this), if_neg h]
    refine (refLex_l (R := R) n s (by omega) hn _ s.size 0 n [] (by omega) (by omega) (by omega) (by simp)).trans ?_
    cases he : lexL s (s.size + 1) 0 [] with
    | inl j => rfl
    | inr l =>
      have := lexL_len s _ _ _ _ (Nat.zero_le _) (by simp) he
      simp only [List.length_cons, List.length_nil]
      rw [if_pos (by omega)]
      rfl
/-- the tokens of a text that has some: at least the end; few -/
theorem lexS_rng (s : ByteArray) (h : (lexS s).2.1 = 0) : ∃ l, (lexS s).2.2 = l ++ [endT s] ∧ l.length ≤ 300 := by
  unfold lexS at h ⊢
  split
  · rename_i h1; rw [if_pos h1] at h; cases h
  · rename_i h1
    rw [if_neg h1] at h
    cases he : lexL s (s.size + 1) 0 [] with
    | inl j => rw [he] at h; cases h
    | inr l => exact ⟨l, rfl, by have := lexL_len s _ _ _ _ (Nat.zero_le _) (by simp) he; omega⟩
end Go.Proofs.YtnnbinmomendnaaDoor.E
namespace Go.Proofs.YtnnbinmomendnaaDoor.E
open Go.RowKit
variable {R : Type}
/-! the program's tokens, by the document's words -/
theorem scanN_congr (p q : Nat → Bool) : ∀ f i, (∀ j, i ≤ j → p j = q j) → scanN p f i = scanN q f i
  | 0, _, _ => rfl
  | f + 1, i, h => by
    unfold scanN
    rw [h i (Nat.le_refl _), scanN_congr p q f (i + 1) (fun j hj => h j (by omega))]
theorem scanN_one (p : Nat → Bool) (m : Nat) (h : p 0 = true) : scanN p (m + 1) 0 = scanN p m 1 := by
  rw [scanN, if_pos h]
theorem letP_F (n : Nat) (c : Nat) (k : Bool → Option R) : lex_letter_F n (c : Int) k = k (letN c) := by
  rw [lex_letter_e]
  unfold lex_letter_Fi letN
  by_cases h : 97 ≤ c
  · have : (c : Int) ≥ 97 := by omega
    have e : ((c : Int) ≤ 122) ↔ c ≤ 122 := by omega
    simp [h, this, e]
  · have : ¬ (c : Int) ≥ 97 := by omega
    simp [h, this]
theorem digP_F (n : Nat) (c : Nat) (k : Bool → Option R) : lex_digit_F n (c : Int) k = k (digN c) := by
  rw [lex_digit_e]
  unfold lex_digit_Fi digN
  by_cases h : 48 ≤ c
  · have : (c : Int) ≥ 48 := by omega
    have e : ((c : Int) ≤ 57) ↔ c ≤ 57 := by omega
    simp [h, this, e]
  · have : ¬ (c : Int) ≥ 48 := by omega
    simp [h, this]
def wcN (c : Nat) : Bool := letN c || (digN c || decide (c = 95))
theorem wcP_F (n : Nat) (c : Nat) (k : Bool → Option R) : lex_word_1_F n (c : Int) k = k (wcN c) := by
  rw [lex_word_1_e]
  unfold lex_word_1_Fi wcN
  rw [letP_F]
  have e95 : ((c : Int) == 95) = decide (c = 95) := beq_nat _ 95
  cases letN c with
  | true => rfl
  | false =>
    simp only [Bool.false_eq_true, if_false, Bool.false_or]
    rw [digP_F]
    cases digN c with
    | true => rfl
    | false => simp only [Bool.false_eq_true, if_false, Bool.false_or, e95]
def blN (c : Nat) : Bool := decide (c = 32) || decide (c = 10)
theorem blP_F (n : Nat) (c : Nat) (k : Bool → Option R) : lex_blank_F n (c : Int) k = k (blN c) := by
  rw [lex_blank_e]
  unfold lex_blank_Fi blN
  have e32 : ((c : Int) == 32) = decide (c = 32) := beq_nat _ 32
  have e10 : ((c : Int) == 10) = decide (c = 10) := beq_nat _ 10
  rw [e32, e10]
  by_cases h : c = 32 <;> simp [h]
theorem runW_F (n : Nat) (s : ByteArray) (i : Nat) (hs : s.size ≤ 1000) (hi : i ≤ s.size) (hn : 2000 < n) (k : Int → Option R) : lex_run_F n s (i : Int) k = k ((scanN (fun j => wcN (bt s j)) (s.size - i) i : Nat) : Int) := by
  rw [lex_run_e]
  unfold lex_run_Fi
  refine (runC_span (R := R) (step := lex_run_l1 n) (fun b2 => k b2.1, ()) (fun j => wcN (bt s j)) (fun i => (s, (i : Int), ())) s.size (fun i => k (i : Int)) (fun i hi k1 => ?_) (fun k1 => ?_) (i := i) hi (by omega)).trans rfl
  · have c1 : (i : Int) < (s.size : Int) := by omega
    have c0 : (0 : Int) ≤ (i : Int) := by omega
    simp only [lex_run_l1, lex_run_s1, c1, c0, decide_true, if_true, byteAt_bt, wcP_F, wrap_succ i (by omega)]
  · simp [lex_run_l1, lex_run_s1]
theorem runD_F (n : Nat) (s : ByteArray) (i : Nat) (hs : s.size ≤ 1000) (hi : i ≤ s.size) (hn : 2000 < n) (k : Int → Option R) : lex_run_v1_F n s (i : Int) k = k ((scanN (fun j => digN (bt s j)) (s.size - i) i : Nat) : Int) := by
  rw [lex_run_v1_e]
  unfold lex_run_v1_Fi
  refine (runC_span (R := R) (step := lex_run_v1_l1 n) (fun b2 => k b2.1, ()) (fun j => digN (bt s j)) (fun i => (s, (i : Int), ())) s.size (fun i => k (i : Int)) (fun i hi k1 => ?_) (fun k1 => ?_) (i := i) hi (by omega)).trans rfl
  · have c1 : (i : Int) < (s.size : Int) := by omega
    have c0 : (0 : Int) ≤ (i : Int) := by omega
    simp only [lex_run_v1_l1, lex_run_v1_s1, c1, c0, decide_true, if_true, byteAt_bt, digP_F, wrap_succ i (by omega)]
  · simp [lex_run_v1_l1, lex_run_v1_s1]
/-- where blanks end -/
def skN (s : ByteArray) (i : Nat) : Nat := scanN (fun j => blN (bt s j)) (s.size - i) i
theorem runB_F (n : Nat) (s : ByteArray) (i : Nat) (hs : s.size ≤ 1000) (hi : i ≤ s.size) (hn : 2000 < n) (k : Int → Option R) : lex_run_v2_F n s (i : Int) k = k ((skN s i : Nat) : Int) := by
  rw [lex_run_v2_e]
  unfold lex_run_v2_Fi skN
  refine (runC_span (R := R) (step := lex_run_v2_l1 n) (fun b2 => k b2.1, ()) (fun j => blN (bt s j)) (fun i => (s, (i : Int), ())) s.size (fun i => k (i : Int)) (fun i hi k1 => ?_) (fun k1 => ?_) (i := i) hi (by omega)).trans rfl
  · have c1 : (i : Int) < (s.size : Int) := by omega
    have c0 : (0 : Int) ≤ (i : Int) := by omega
    simp only [lex_run_v2_l1, lex_run_v2_s1, c1, c0, decide_true, if_true, byteAt_bt, blP_F, wrap_succ i (by omega)]
  · simp [lex_run_v2_l1, lex_run_v2_s1]
theorem skN_rng (s : ByteArray) (i : Nat) (h : i ≤ s.size) : i ≤ skN s i ∧ skN s i ≤ s.size := by
  have := scanN_le (fun j => blN (bt s j)) (s.size - i) i
  unfold skN
  omega
theorem wordN_eq (s : ByteArray) (h0 : 0 < s.size) (h : letN (bt s 0) = true) : scanN (fun j => wcN (bt s j)) (s.size - 1) 1 = wordN s := by
  obtain ⟨m, hm⟩ : ∃ m, s.size = m + 1 := ⟨s.size - 1, by omega⟩
  unfold wordN
  rw [hm, Nat.add_sub_cancel, scanN_one _ _ (by unfold wchN; rw [h]; rfl)]
  exact scanN_congr _ _ _ _ fun j hj => by unfold wcN wchN; rw [decide_eq_true (show 0 < j by omega), Bool.true_and]
theorem numN_eq (s : ByteArray) (h0 : 0 < s.size) (h : digN (bt s 0) = true ∨ bt s 0 = 45) : scanN (fun j => digN (bt s j)) (s.size - 1) 1 = numN s := by
  unfold numN
  by_cases h4 : bt s 0 = 45
  · rw [if_pos h4]
  · rw [if_neg h4]
    obtain ⟨m, hm⟩ : ∃ m, s.size = m + 1 := ⟨s.size - 1, by omega⟩
    rw [hm, Nat.add_sub_cancel, Nat.sub_zero, scanN_one _ _ (h.resolve_right h4)]
theorem constP_F (n : Nat) (s : ByteArray) (m : Nat) (hm : m ≤ s.size) (hs : s.size ≤ 1000) (hn : 2000 < n) (k : ty36.D → Bool → Option R) : lex_constant_F n s (m : Int) k = k (2, s.extract 0 m, (readV (s.extract 0 m)).1, 0, ()) ((readV (s.extract 0 m)).2 == 0) := by
  rw [lex_constant_e]
  unfold lex_constant_Fi
  have c : (0 : Int) ≤ (m : Int) ∧ (m : Int) ≤ (s.size : Int) := by omega
  rw [if_pos c, Int.toNat_natCast, readP_F n _ (by rw [ByteArray.size_extract]; omega) hn, if_pos c]
theorem constP_ex (n : Nat) (s : ByteArray) (m : Nat) (hm : m ≤ s.size) (hs : s.size ≤ 1000) (hn : 2000 < n) : ∃ z : ty36.D, ∀ k : ty36.D → Bool → Option R, lex_constant_F n s (m : Int) k = match constS s m with
    | some t => k t true
    | none => k z false := by
  refine ⟨(2, s.extract 0 m, (readV (s.extract 0 m)).1, 0, ()), fun k => ?_⟩
  rw [constP_F n s m hm hs hn]
  unfold constS
  by_cases h : (readV (s.extract 0 m)).2 = 0
  · rw [if_pos h, h]; rfl
  · rw [if_neg h, show ((readV (s.extract 0 m)).2 == 0) = false from by simpa using h]
theorem wordP_F (n : Nat) (s : ByteArray) (h0 : 0 < s.size) (hl : letN (bt s 0) = true) (hs : s.size ≤ 1000) (hn : 2000 < n) (k : ty36.D → Option R) : lex_word_F n s k = k (if (readV (s.extract 0 (wordN s))).2 = 0 then (2, s.extract 0 (wordN s), (readV (s.extract 0 (wordN s))).1, 0, ()) else (1, s.extract 0 (wordN s), zV, 0, ())) := by
  rw [lex_word_e]
  unfold lex_word_Fi
  rw [show (1 : Int) = ((1 : Nat) : Int) from rfl, runW_F n s 1 hs h0 hn, wordN_eq s h0 hl]
  have hw := wordN_rng s h0 hl
  rw [if_pos (by omega), Int.toNat_natCast, readP_F n _ (by rw [ByteArray.size_extract]; omega) hn]
  by_cases h : (readV (s.extract 0 (wordN s))).2 = 0
  · rw [if_pos h, h]; rfl
  · rw [if_neg h, if_neg (by simpa using h)]; rfl
theorem numP_F (n : Nat) (s : ByteArray) (h0 : 0 < s.size) (hd : digN (bt s 0) = true ∨ bt s 0 = 45) (hs : s.size ≤ 1000) (hn : 2000 < n) : ∃ z : ty36.D, ∀ k : ty36.D → Bool → Option R, lex_number_F n s k = match (if numN s < s.size ∧ (letN (bt s (numN s)) = true ∨ bt s (numN s) = 95) then none else constS s (numN s)) with
    | some t => k t true
    | none => k z false := by
  have hr := numN_rng s h0 hd
  obtain ⟨z, hz⟩ := constP_ex (R := R) n s (numN s) hr.2 hs hn
  have e95 : ((bt s (numN s) : Int) == 95) = decide (bt s (numN s) = 95) := beq_nat _ 95
  have start : ∀ k : ty36.D → Bool → Option R, lex_number_F n s k = if (decide (((numN s : Nat) : Int) < (s.size : Int))) = true then (if (0 : Int) ≤ ((numN s : Nat) : Int) then if ((numN s : Nat) : Int) < (s.size : Int) then (lex_letter_F n (byteAt s ((numN s : Nat) : Int)) (fun y2 => if y2 = true then (k (0, (⟨#[]⟩ : ByteArray), (0, false, 0, (⟨#[]⟩ : ByteArray), ()), 0, ()) false) else (if (0 : Int) ≤ ((numN s : Nat) : Int) then if ((numN s : Nat) : Int) < (s.size : Int) then (if ((byteAt s ((numN s : Nat) : Int)) == 95) = true then (k (0, (⟨#[]⟩ : ByteArray), (0, false, 0, (⟨#[]⟩ : ByteArray), ()), 0, ()) false) else (lex_constant_F n s ((numN s : Nat) : Int) (fun y3 y4 => k y3 y4))) else none else none))) else none else none) else (lex_constant_F n s ((numN s : Nat) : Int) (fun y5 y6 => k y5 y6)) := by
    intro k
    rw [lex_number_e]
    unfold lex_number_Fi
    rw [show (1 : Int) = ((1 : Nat) : Int) from rfl, runD_F n s 1 hs h0 hn, numN_eq s h0 hd]
  by_cases hlt : numN s < s.size
  · have g1 : ((numN s : Nat) : Int) < (s.size : Int) := by omega
    have g0 : (0 : Int) ≤ ((numN s : Nat) : Int) := by omega
    by_cases hb : letN (bt s (numN s)) = true ∨ bt s (numN s) = 95
    · refine ⟨(0, (⟨#[]⟩ : ByteArray), zV, 0, ()), fun k => ?_⟩
      have e : (if numN s < s.size ∧ (letN (bt s (numN s)) = true ∨ bt s (numN s) = 95) then (none : Option ty36.D) else constS s (numN s)) = none := if_pos ⟨hlt, hb⟩
      refine Eq.trans ?_ (show k (0, (⟨#[]⟩ : ByteArray), zV, 0, ()) false = match (if numN s < s.size ∧ (letN (bt s (numN s)) = true ∨ bt s (numN s) = 95) then (none : Option ty36.D) else constS s (numN s)) with | some t => k t true | none => k (0, (⟨#[]⟩ : ByteArray), zV, 0, ()) false from by rw [e])
      rw [start]
      simp only [g1, g0, decide_true, if_true, byteAt_bt, letP_F, e95]
      by_cases hl : letN (bt s (numN s)) = true
      · simp only [hl, if_true]; rfl
      · have h95 := hb.resolve_left hl
        have hl' : letN (bt s (numN s)) = false := by simpa using hl
        simp only [hl', Bool.false_eq_true, if_false, decide_eq_true h95, if_true]; rfl
    · refine ⟨z, fun k => ?_⟩
      have hl : letN (bt s (numN s)) = false := by
        cases h : letN (bt s (numN s)) with
        | false => rfl
        | true => exact absurd (.inl h) hb
      have h95 : ¬ bt s (numN s) = 95 := fun h => hb (.inr h)
      have e : (if numN s < s.size ∧ (letN (bt s (numN s)) = true ∨ bt s (numN s) = 95) then (none : Option ty36.D) else constS s (numN s)) = constS s (numN s) := if_neg (fun h => hb h.2)
      refine Eq.trans ?_ ((hz k).trans (show (match constS s (numN s) with | some t => k t true | none => k z false) = match (if numN s < s.size ∧ (letN (bt s (numN s)) = true ∨ bt s (numN s) = 95) then (none : Option ty36.D) else constS s (numN s)) with | some t => k t true | none => k z false from by rw [e]; cases constS s (numN s) <;> rfl))
      rw [start]
      simp only [g1, g0, decide_true, if_true, byteAt_bt, letP_F, e95, hl, Bool.false_eq_true, if_false, h95, decide_false]
  · refine ⟨z, fun k => ?_⟩
    have g1 : ¬ ((numN s : Nat) : Int) < (s.size : Int) := by omega
    have e : (if numN s < s.size ∧ (letN (bt s (numN s)) = true ∨ bt s (numN s) = 95) then (none : Option ty36.D) else constS s (numN s)) = constS s (numN s) := if_neg (fun h => hlt h.1)
    refine Eq.trans ?_ ((hz k).trans (show (match constS s (numN s) with | some t => k t true | none => k z false) = match (if numN s < s.size ∧ (letN (bt s (numN s)) = true ∨ bt s (numN s) = 95) then (none : Option ty36.D) else constS s (numN s)) with | some t => k t true | none => k z false from by rw [e]; cases constS s (numN s) <;> rfl))
    rw [start]
    simp only [g1, decide_false, Bool.false_eq_true, if_false]
/-- where a quoted text ends -/
theorem quoP_l (n : Nat) (s : ByteArray) (hs : s.size ≤ 1000) (hn : 2000 < n) (k2 : exK R (lex_quoted_dx 2)) : ∀ (f m i : Nat), s.size ≤ i + f → f + 2 < m → i ≤ s.size + 2 →
    runC (lex_quoted_l2 n) m (s, (i : Int), 0, (⟨#[]⟩ : ByteArray), 0, false, 0, (⟨#[]⟩ : ByteArray), 0, ()) k2 = if 0 < textN s (f + 1) i then lex_constant_F n s ((textN s (f + 1) i : Nat) : Int) (fun y1 y2 => k2.1 (y2, y1.1, y1.2.1, y1.2.2.1.1, y1.2.2.1.2.1, y1.2.2.1.2.2.1, y1.2.2.1.2.2.2.1, y1.2.2.2.1, ())) else k2.2.1 (0, (⟨#[]⟩ : ByteArray), 0, false, 0, (⟨#[]⟩ : ByteArray), 0, ())
  | f, m, i, hf, hm, hi => by
    obtain ⟨m, rfl⟩ : ∃ q, m = q + 1 := ⟨m - 1, by omega⟩
    show lex_quoted_l2 n (s, (i : Int), 0, (⟨#[]⟩ : ByteArray), 0, false, 0, (⟨#[]⟩ : ByteArray), 0, ()) (fun b => runC (lex_quoted_l2 n) m b k2) k2 = _
    simp only [lex_quoted_l2, lex_quoted_s2]
    by_cases hlt : i < s.size
    · obtain ⟨f, rfl⟩ : ∃ q, f = q + 1 := ⟨f - 1, by omega⟩
      have c1 : (i : Int) < (s.size : Int) := by omega
      have c0 : (0 : Int) ≤ (i : Int) := by omega
      have e34 : ((bt s i : Int) == 34) = decide (bt s i = 34) := beq_nat _ 34
      have e92 : ((bt s i : Int) == 92) = decide (bt s i = 92) := beq_nat _ 92
      have w1' : IntKind.i64.wrap (((i + 1 : Nat) : Int) + 1) = ((i + 2 : Nat) : Int) := wrap_succ (i + 1) (by omega)
      simp only [c1, c0, decide_true, if_true, byteAt_bt, e34, e92, wrap_succ i (by omega), w1']
      by_cases h34 : bt s i = 34
      · have h92 : ¬ bt s i = 92 := by omega
        have et : textN s (f + 1 + 1) i = i + 1 := by rw [textN, if_pos hlt, if_neg h92, if_pos h34]
        rw [et, if_pos (decide_eq_true h34), if_pos (by omega)]
      · by_cases h92 : bt s i = 92
        · have et : textN s (f + 1 + 1) i = textN s (f + 1) (i + 2) := by rw [textN, if_pos hlt, if_pos h92]
          rw [et, if_neg (by simpa using h34), if_pos (decide_eq_true h92)]
          exact quoP_l n s hs hn k2 f m (i + 2) (by omega) (by omega) (by omega)
        · have et : textN s (f + 1 + 1) i = textN s (f + 1) (i + 1) := by rw [textN, if_pos hlt, if_neg h92, if_neg h34]
          rw [et, if_neg (by simpa using h34), if_neg (by simpa using h92)]
          exact quoP_l n s hs hn k2 f m (i + 1) (by omega) (by omega) (by omega)
    · have c1 : ¬ (i : Int) < (s.size : Int) := by omega
      have et : textN s (f + 1) i = 0 := by rw [textN, if_neg hlt]
      rw [et, if_neg (by simpa using c1), if_neg (by omega)]
theorem quoP_F (n : Nat) (s : ByteArray) (h0 : 0 < s.size) (hs : s.size ≤ 1000) (hn : 2000 < n) : ∃ z : ty36.D, ∀ k : ty36.D → Bool → Option R, lex_quoted_F n s k = match (if 0 < textN s (s.size + 1) 1 then constS s (textN s (s.size + 1) 1) else none) with
    | some t => k t true
    | none => k z false := by
  obtain ⟨z, hz⟩ := constP_ex (R := R) n s (textN s (s.size + 1) 1) (textN_le s _ _) hs hn
  have start : ∀ k : ty36.D → Bool → Option R, lex_quoted_F n s k = if 0 < textN s (s.size + 1) 1 then lex_constant_F n s ((textN s (s.size + 1) 1 : Nat) : Int) k else k (0, (⟨#[]⟩ : ByteArray), zV, 0, ()) false := by
    intro k
    rw [lex_quoted_e]
    unfold lex_quoted_Fi
    refine (quoP_l n s hs hn _ s.size n 1 (by omega) (by omega) (by omega)).trans ?_
    rfl
  by_cases h : 0 < textN s (s.size + 1) 1
  · refine ⟨z, fun k => ?_⟩
    have e : (if 0 < textN s (s.size + 1) 1 then constS s (textN s (s.size + 1) 1) else none) = constS s (textN s (s.size + 1) 1) := if_pos h
    rw [e, start, if_pos h]
    exact hz k
  · refine ⟨(0, (⟨#[]⟩ : ByteArray), zV, 0, ()), fun k => ?_⟩
    have e : (if 0 < textN s (s.size + 1) 1 then constS s (textN s (s.size + 1) 1) else none) = none := if_neg h
    rw [e, start, if_neg h]
/-! signs -/
def hasP (s p : ByteArray) : Bool := decide (p.size ≤ s.size) && decide (s.extract 0 p.size = p)
theorem hasP_F (n : Nat) (s p : ByteArray) (k : Bool → Option R) : strings_HasPrefix_F n s p k = k (hasP s p) := by
  rw [strings_HasPrefix_e]
  unfold strings_HasPrefix_Fi
  rw [stringslite_HasPrefix_e]
  unfold stringslite_HasPrefix_Fi hasP
  by_cases h : p.size ≤ s.size
  · have g : (s.size : Int) ≥ (p.size : Int) := by omega
    have g2 : (0 : Int) ≤ (p.size : Int) ∧ (p.size : Int) ≤ (s.size : Int) := by omega
    rw [if_pos (decide_eq_true g), if_pos g2, Int.toNat_natCast, beqB, decide_eq_true h, Bool.true_and]
  · have g : ¬ (s.size : Int) ≥ (p.size : Int) := by omega
    rw [if_neg (by simpa using g), decide_eq_false h, Bool.false_and]
def sgnL : List ByteArray := [(⟨#[61, 61]⟩ : ByteArray), (⟨#[33, 61]⟩ : ByteArray), (⟨#[60, 61]⟩ : ByteArray), (⟨#[62, 61]⟩ : ByteArray), (⟨#[60]⟩ : ByteArray), (⟨#[62]⟩ : ByteArray), (⟨#[40]⟩ : ByteArray), (⟨#[41]⟩ : ByteArray), (⟨#[44]⟩ : ByteArray), (⟨#[95]⟩ : ByteArray)]
theorem sgnP_l (n : Nat) (s : ByteArray) (k2 : exK R (lex_sign_dx 2)) : ∀ (l : List ByteArray) (i m : Nat), i + l.length = 10 → sgnL.drop i = l → l.length < m →
    runC (lex_sign_l2 n) m (s, ((10 : Nat) : Int), (i : Int), 0, (⟨#[]⟩ : ByteArray), 0, false, 0, (⟨#[]⟩ : ByteArray), 0, sgnL, ()) k2 = match l.find? (hasP s) with
      | some w => k2.1 (true, 3, w, 0, false, 0, (⟨#[]⟩ : ByteArray), 0, ())
      | none => k2.2.1 (0, (⟨#[]⟩ : ByteArray), 0, false, 0, (⟨#[]⟩ : ByteArray), 0, ())
  | [], i, m, hi, hd, hm => by
    obtain ⟨m, rfl⟩ : ∃ q, m = q + 1 := ⟨m - 1, by omega⟩
    show lex_sign_l2 n (s, ((10 : Nat) : Int), (i : Int), 0, (⟨#[]⟩ : ByteArray), 0, false, 0, (⟨#[]⟩ : ByteArray), 0, sgnL, ()) (fun b => runC (lex_sign_l2 n) m b k2) k2 = _
    simp only [List.length_nil] at hi
    have c : ¬ (i : Int) < ((10 : Nat) : Int) := by omega
    simp only [lex_sign_l2, lex_sign_s2]
    rw [if_neg (by simpa using c)]
    rfl
  | w :: l, i, m, hi, hd, hm => by
    obtain ⟨m, rfl⟩ : ∃ q, m = q + 1 := ⟨m - 1, by omega⟩
    show lex_sign_l2 n (s, ((10 : Nat) : Int), (i : Int), 0, (⟨#[]⟩ : ByteArray), 0, false, 0, (⟨#[]⟩ : ByteArray), 0, sgnL, ()) (fun b => runC (lex_sign_l2 n) m b k2) k2 = _
    simp only [List.length_cons] at hi hm
    have c : (i : Int) < ((10 : Nat) : Int) := by omega
    have hsl : sgnL.length = 10 := rfl
    have c2 : (0 : Int) ≤ (i : Int) ∧ (i : Int) < (sgnL.length : Int) := by rw [hsl]; omega
    have c3 : Int.toNat (i : Int) < sgnL.length := by rw [hsl, Int.toNat_natCast]; omega
    have hw : sgnL.getD i (Ty.z .str) = w := by
      have := congrArg (fun l => l[0]?) hd
      simp only [List.getElem?_drop, Nat.add_zero, List.getElem?_cons_zero] at this
      rw [List.getD_eq_getElem?_getD, this]
      rfl
    simp only [lex_sign_l2, lex_sign_s2]
    rw [if_pos (decide_eq_true c), if_pos c2, if_pos c3, Int.toNat_natCast, hasP_F, hw, wrap_succ i (by omega), List.find?_cons]
    cases hh : hasP s w with
    | true => rfl
    | false =>
      simp only [Bool.false_eq_true, if_false]
      exact sgnP_l n s k2 l (i + 1) m (by omega) (by rw [← List.drop_drop, hd]; rfl) (by omega)
end Go.Proofs.YtnnbinmomendnaaDoor.E
namespace Go.Proofs.YtnnbinmomendnaaDoor.E
open Go.RowKit
variable {R : Type}
theorem ext0 (s : ByteArray) (k : Nat) : (s.extract 0 k).data.toList = s.data.toList.take k := by simp
theorem has1 (s : ByteArray) (h0 : 0 < s.size) (c : UInt8) : hasP s ⟨#[c]⟩ = decide (bt s 0 = c.toNat) := by
  unfold hasP bt
  rw [ba_size] at h0
  obtain ⟨x, r, hl⟩ : ∃ x r, s.data.toList = x :: r := by
    cases h : s.data.toList with
    | nil => rw [h] at h0; simp at h0
    | cons x r => exact ⟨x, r, rfl⟩
  have e1 : (⟨#[c]⟩ : ByteArray).size = 1 := rfl
  rw [e1, decide_eq_true (by rw [ba_size, hl]; simp), Bool.true_and, hl]
  simp only [List.getD_cons_zero]
  rw [decide_eq_decide]
  constructor
  · intro h
    have := congrArg (fun s : ByteArray => s.data.toList) h
    simp only [ext0, hl] at this
    injection this with h1 _
    rw [h1]
  · intro h
    apply ba_eq
    rw [ext0, hl, UInt8.toNat_inj.1 h]
    rfl
theorem has2 (s : ByteArray) (c d : UInt8) : hasP s ⟨#[c, d]⟩ = (decide (2 ≤ s.size) && (decide (bt s 0 = c.toNat) && decide (bt s 1 = d.toNat))) := by
  unfold hasP bt
  have e1 : (⟨#[c, d]⟩ : ByteArray).size = 2 := rfl
  rw [e1]
  by_cases h2 : 2 ≤ s.size
  · rw [decide_eq_true h2, Bool.true_and, Bool.true_and]
    rw [ba_size] at h2
    obtain ⟨x, y, r, hl⟩ : ∃ x y r, s.data.toList = x :: y :: r := by
      cases h : s.data.toList with
      | nil => rw [h] at h2; simp at h2
      | cons x r => cases r with
        | nil => rw [h] at h2; simp at h2
        | cons y r => exact ⟨x, y, r, rfl⟩
    rw [hl]
    simp only [List.getD_cons_zero, List.getD_cons_succ]
    rw [← Bool.decide_and, decide_eq_decide]
    constructor
    · intro h
      have := congrArg (fun s : ByteArray => s.data.toList) h
      simp only [ext0, hl] at this
      injection this with h1 h3
      injection h3 with h3 _
      exact ⟨by rw [h1], by rw [h3]⟩
    · intro h
      apply ba_eq
      rw [ext0, hl, UInt8.toNat_inj.1 h.1, UInt8.toNat_inj.1 h.2]
      rfl
  · rw [decide_eq_false h2, Bool.false_and, Bool.false_and]
theorem hasP_ext {s w : ByteArray} (h : hasP s w = true) : w = s.extract 0 w.size := by
  unfold hasP at h
  simp only [Bool.and_eq_true, decide_eq_true_eq] at h
  exact h.2.symm
theorem sgn_find (s : ByteArray) (h0 : 0 < s.size) : sgnL.find? (hasP s) = if 0 < signN s then some (s.extract 0 (signN s)) else none := by
  have two : ∀ (c d : UInt8), 2 ≤ s.size → bt s 0 = c.toNat → bt s 1 = d.toNat → s.extract 0 2 = ⟨#[c, d]⟩ := fun c d h1 h2 h3 => (hasP_ext (w := ⟨#[c, d]⟩) (by rw [has2, decide_eq_true h1, decide_eq_true h2, decide_eq_true h3]; rfl)).symm
  have one : ∀ (c : UInt8), bt s 0 = c.toNat → s.extract 0 1 = ⟨#[c]⟩ := fun c h2 => (hasP_ext (w := ⟨#[c]⟩) (by rw [has1 s h0, decide_eq_true h2])).symm
  unfold sgnL signN
  simp only [List.find?, has1 s h0, has2, show (61 : UInt8).toNat = 61 from rfl, show (33 : UInt8).toNat = 33 from rfl, show (60 : UInt8).toNat = 60 from rfl, show (62 : UInt8).toNat = 62 from rfl, show (40 : UInt8).toNat = 40 from rfl, show (41 : UInt8).toNat = 41 from rfl, show (44 : UInt8).toNat = 44 from rfl, show (95 : UInt8).toNat = 95 from rfl]
  have hc : bt s 0 = 61 ∨ bt s 0 = 33 ∨ bt s 0 = 60 ∨ bt s 0 = 62 ∨ bt s 0 = 40 ∨ bt s 0 = 41 ∨ bt s 0 = 44 ∨ bt s 0 = 95 ∨ (bt s 0 ≠ 61 ∧ bt s 0 ≠ 33 ∧ bt s 0 ≠ 60 ∧ bt s 0 ≠ 62 ∧ bt s 0 ≠ 40 ∧ bt s 0 ≠ 41 ∧ bt s 0 ≠ 44 ∧ bt s 0 ≠ 95) := by omega
  by_cases h2 : 2 ≤ s.size
  · by_cases hb : bt s 1 = 61
    · rcases hc with h | h | h | h | h | h | h | h | ⟨g1, g2, g3, g4, g5, g6, g7, g8⟩
      · simp [h, hb, h2, two 61 61 h2 h hb]
      · simp [h, hb, h2, two 33 61 h2 h hb]
      · simp [h, hb, h2, two 60 61 h2 h hb]
      · simp [h, hb, h2, two 62 61 h2 h hb]
      · simp [h, hb, h2, one 40 h]
      · simp [h, hb, h2, one 41 h]
      · simp [h, hb, h2, one 44 h]
      · simp [h, hb, h2, one 95 h]
      · simp [g1, g2, g3, g4, g5, g6, g7, g8, hb, h2]
    · rcases hc with h | h | h | h | h | h | h | h | ⟨g1, g2, g3, g4, g5, g6, g7, g8⟩
      · simp [h, hb, h2]
      · simp [h, hb, h2]
      · simp [h, hb, h2, one 60 h]
      · simp [h, hb, h2, one 62 h]
      · simp [h, hb, h2, one 40 h]
      · simp [h, hb, h2, one 41 h]
      · simp [h, hb, h2, one 44 h]
      · simp [h, hb, h2, one 95 h]
      · simp [g1, g2, g3, g4, g5, g6, g7, g8, hb, h2]
  · rcases hc with h | h | h | h | h | h | h | h | ⟨g1, g2, g3, g4, g5, g6, g7, g8⟩
    · simp [h, h2]
    · simp [h, h2]
    · simp [h, h2, one 60 h]
    · simp [h, h2, one 62 h]
    · simp [h, h2, one 40 h]
    · simp [h, h2, one 41 h]
    · simp [h, h2, one 44 h]
    · simp [h, h2, one 95 h]
    · simp [g1, g2, g3, g4, g5, g6, g7, g8, h2]
theorem sgnP_F (n : Nat) (s : ByteArray) (h0 : 0 < s.size) (hn : 2000 < n) (k : ty36.D → Bool → Option R) : lex_sign_F n s k = if 0 < signN s then k (3, s.extract 0 (signN s), zV, 0, ()) true else k (0, (⟨#[]⟩ : ByteArray), zV, 0, ()) false := by
  rw [lex_sign_e]
  unfold lex_sign_Fi
  refine (sgnP_l n s _ sgnL 0 n rfl rfl (by show 10 < n; omega)).trans ?_
  rw [sgn_find s h0]
  by_cases h : 0 < signN s
  · rw [if_pos h, if_pos h]; rfl
  · rw [if_neg h, if_neg h]; rfl
theorem firstP_F (n : Nat) (s : ByteArray) (h0 : 0 < s.size) (hs : s.size ≤ 1000) (hn : 2000 < n) : ∃ z : ty36.D, ∀ k : ty36.D → Bool → Option R, lex_first_F n s k = match oneS s with
    | some t => k t true
    | none => k z false := by
  have c1 : (0 : Int) < (s.size : Int) := by omega
  have e45 : ((bt s 0 : Int) == 45) = decide (bt s 0 = 45) := beq_nat _ 45
  have e34 : ((bt s 0 : Int) == 34) = decide (bt s 0 = 34) := beq_nat _ 34
  have start : ∀ k : ty36.D → Bool → Option R, lex_first_F n s k = if letN (bt s 0) = true then lex_word_F n s (fun y2 => k y2 true) else (if digN (bt s 0) = true ∨ bt s 0 = 45 then lex_number_F n s k else (if bt s 0 = 34 then lex_quoted_F n s k else lex_sign_F n s k)) := by
    intro k
    rw [lex_first_e]
    unfold lex_first_Fi
    simp only [Int.le_refl, if_true, c1, byteAt_0, letP_F, digP_F, e45, e34]
    by_cases hl : letN (bt s 0) = true
    · simp only [hl, if_true]
    · simp only [hl, Bool.false_eq_true, if_false]
      by_cases hd : digN (bt s 0) = true
      · simp only [hd, if_true, true_or]
      · by_cases h4 : bt s 0 = 45
        · rw [if_neg hd, if_pos (decide_eq_true h4), if_pos (.inr h4)]
        · simp only [hd, h4, decide_false, Bool.false_eq_true, if_false, or_self]
          by_cases h3 : bt s 0 = 34
          · simp only [h3, decide_true, if_true]
          · simp only [h3, decide_false, Bool.false_eq_true, if_false]
  unfold oneS
  by_cases hl : letN (bt s 0) = true
  · refine ⟨(0, (⟨#[]⟩ : ByteArray), zV, 0, ()), fun k => ?_⟩
    rw [start, if_pos hl, wordP_F n s h0 hl hs hn, if_pos hl]
    by_cases h : (readV (s.extract 0 (wordN s))).2 = 0
    · rw [if_pos h, if_pos h]
    · rw [if_neg h, if_neg h]
  · by_cases hd : digN (bt s 0) = true ∨ bt s 0 = 45
    · obtain ⟨z, hz⟩ := numP_F (R := R) n s h0 hd hs hn
      refine ⟨z, fun k => ?_⟩
      rw [start, if_neg hl, if_pos hd, if_neg hl, if_pos hd]
      exact hz k
    · by_cases h3 : bt s 0 = 34
      · obtain ⟨z, hz⟩ := quoP_F (R := R) n s h0 hs hn
        refine ⟨z, fun k => ?_⟩
        rw [start, if_neg hl, if_neg hd, if_pos h3, if_neg hl, if_neg hd, if_pos h3]
        exact hz k
      · refine ⟨(0, (⟨#[]⟩ : ByteArray), zV, 0, ()), fun k => ?_⟩
        rw [start, if_neg hl, if_neg hd, if_neg h3, if_neg hl, if_neg hd, if_neg h3, sgnP_F n s h0 hn]
        by_cases h : 0 < signN s
        · rw [if_pos h, if_pos h]
        · rw [if_neg h, if_neg h]
end Go.Proofs.YtnnbinmomendnaaDoor.E
/- The iterator lex.tokens, walked by hand. -/
namespace Go.Proofs.YtnnbinmomendnaaDoor
open Go.RowKit Go.Shelf
attribute [local go_sem] Oper.semAt_some
abbrev Tok := E.ty36.D
def tokC (t : Tok) : Array Value := #[.int .i64 t.1, .string t.2.1, .int .i64 t.2.2.1.1, .bool t.2.2.1.2.1, .int .i64 t.2.2.1.2.2.1, .string t.2.2.1.2.2.2.1, .int .i64 t.2.2.2.1]
def encX (x : Tok × Bool) : Array Value := #[.agg (tokC x.1), .bool x.2]
def setAt (t : Tok) (i : Int) : Tok := (t.1, t.2.1, t.2.2.1, i, ())
/-- the block of the row that a box's slice holds -/
def rowOf (b5 : Nat) (W : World) : Option Nat := (W.cell? ⟨b5, 0, none⟩).bind Value.ownBlock
def OKW (b5 m : Nat) (W : World) : Prop := ∀ r, rowOf b5 W = some r → m ≤ r ∧ r < W.heap.size
/-- what a round leaves alone -/
structure Kp (b5 m : Nat) (A B : World) : Prop where
  ok : OKW b5 m A → OKW b5 m B
  size : A.heap.size ≤ B.heap.size
  low : ∀ k, k < m → k ≠ b5 → B.heap[k]? = A.heap[k]?
  own : ∀ k o, A.heap[k]? = some o → o.isCells = true → k ≠ b5 → rowOf b5 A ≠ some k → B.heap[k]? = some o
  row : ∀ r, rowOf b5 B = some r → rowOf b5 A = some r ∨ A.heap.size ≤ r
theorem Kp.trans {b5 m : Nat} {A B C : World} (h : Kp b5 m A B) (k : Kp b5 m B C) : Kp b5 m A C := by
  refine ⟨fun o => k.ok (h.ok o), Nat.le_trans h.size k.size, fun j h1 h2 => (k.low j h1 h2).trans (h.low j h1 h2), fun j o h1 h2 h3 h4 => k.own j o (h.own j o h1 h2 h3 h4) h2 h3 (fun e => ?_), fun r hr => ?_⟩
  · rcases h.row j e with e | e
    · exact h4 e
    · have := (Array.getElem?_eq_some_iff.1 h1).1; omega
  · rcases k.row r hr with e | e
    · exact h.row r e
    · exact .inr (Nat.le_trans h.size e)
theorem rowOf_same {b5 : Nat} {A B : World} (h : B.heap[b5]? = A.heap[b5]?) : rowOf b5 B = rowOf b5 A := by
  unfold rowOf World.cell?
  rw [show (⟨b5, 0, none⟩ : Addr).block = b5 from rfl, h]
theorem OKW.grow {b5 m : Nat} {A B : World} (h : OKW b5 m A) (hb : B.heap[b5]? = A.heap[b5]?) (hs : A.heap.size ≤ B.heap.size) : OKW b5 m B := fun r hr => by
  rw [rowOf_same hb] at hr
  have := h r hr
  exact ⟨this.1, by omega⟩
theorem Kp.book {b5 m : Nat} {w : World} (hb : b5 < w.heap.size) (hm : m ≤ w.heap.size) (W : World) (l : Nat) (o o' : Obj) (hl : w.heap.size ≤ l) (h : W.heap[l]? = some o) (hc : o.isCells = false) (_ : o.isWalk = false) : Kp b5 m W (W.putObj l o') := by
  have hs : (W.putObj l o').heap.size = W.heap.size := by simp
  have e5 : (W.putObj l o').heap[b5]? = W.heap[b5]? := World.putObj_heap_other (by omega)
  refine ⟨fun ok => ok.grow e5 (by omega), by omega, fun k h1 h2 => World.putObj_heap_other (by omega), fun k o1 h1 h2 _ _ => (World.putObj_heap_other (fun e => ?_)).trans h1, fun r hr => .inl (by rw [rowOf_same e5] at hr; exact hr)⟩
  subst e
  rw [h] at h1
  injection h1 with h1
  subst h1
  rw [hc] at h2
  cases h2
section
variable (sk : ByteArray → Nat → Nat) (one : ByteArray → Option Tok)
/-- the tokens that came, and where the text goes on -/
inductive Pre (s : ByteArray) : Nat → List (Tok × Bool) → Prop
  | nil : Pre s (sk s 0) []
  | cons {i : Nat} {pre : List (Tok × Bool)} {t : Tok} : Pre s i pre → i < s.size → one (s.extract i s.size) = some t → Pre s (sk s (i + t.2.1.size)) (pre ++ [(setAt t i, true)])
def Whole (s : ByteArray) (xs : List (Tok × Bool)) : Prop :=
  Pre sk one s s.size xs ∨ ∃ i pre z, Pre sk one s i pre ∧ i < s.size ∧ one (s.extract i s.size) = none ∧ xs = pre ++ [(setAt z i, false)]
def Part (s : ByteArray) (xs : List (Tok × Bool)) : Prop :=
  ∃ i pre z ok, Pre sk one s i pre ∧ i < s.size ∧ (ok = true → one (s.extract i s.size) = some z) ∧ (ok = false → one (s.extract i s.size) = none) ∧ xs = pre ++ [(setAt z i, ok)]
/-- what is known of the two functions that the iterator calls -/
structure Calls2 : Prop where
  sk1 : ∀ s i, i ≤ s.size → i ≤ sk s i ∧ sk s i ≤ s.size
  one1 : ∀ s t, 0 < s.size → one s = some t → 1 ≤ t.2.1.size ∧ t.2.1.size ≤ s.size
  run : ∀ (s : ByteArray) (i : Nat) (w : World), s.size ≤ 300 → i ≤ s.size → E.LayC w → (∀ g ∈ E.layG, g < w.heap.size) → Calls Tryd.prog 28 #[.string s, .int .i64 i, .func (.func 29) #[] #[]] w fun e w' => e = .returned (.int .i64 (sk s i : Nat)) ∧ Below w.heap.size w w'
  first : ∀ (s : ByteArray) (w : World), 0 < s.size → s.size ≤ 300 → E.LayC w → (∀ g ∈ E.layG, g < w.heap.size) → Calls Tryd.prog 30 #[.string s] w fun e w' => (∃ t ok, (ok = true → one s = some t) ∧ (ok = false → one s = none) ∧ e = .returned (.tuple #[.agg (tokC t), .bool ok])) ∧ Below w.heap.size w w'
variable {sk one}
theorem Pre.len (C : Calls2 sk one) {s : ByteArray} {i : Nat} {pre : List (Tok × Bool)} (h : Pre sk one s i pre) : i ≤ s.size ∧ pre.length ≤ i := by
  induction h with
  | nil => exact ⟨(C.sk1 s 0 (Nat.zero_le _)).2, Nat.zero_le _⟩
  | @cons i pre t h1 h2 h3 ih =>
    have := C.one1 _ t (by rw [ByteArray.size_extract]; omega) h3
    rw [ByteArray.size_extract] at this
    have h4 := C.sk1 s (i + t.2.1.size) (by omega)
    exact ⟨h4.2, by rw [List.length_append, List.length_singleton]; omega⟩
theorem grownBy_below {W W' : World} (h : Below W.heap.size W W') : W.grownBy W' none := ⟨h.os, h.tape, h.output, h.size, fun k hk _ => h.block k hk⟩
set_option maxRecDepth 100000 in
set_option maxHeartbeats 2000000 in
theorem it_in (C : Calls2 sk one) (n : Nat) (hn : 1 ≤ n) (l Bs b5 m : Nat) (hBs : Bs < m) (hne : Bs ≠ b5) (h5 : b5 < m) (hlay : ∀ g ∈ E.layG, g < m ∧ g ≠ b5) (s : ByteArray) (hs : s.size ≤ 300) (J Jx : List (Tok × Bool) → World → Prop)
    (hY : ∀ pre x W, J pre W → pre.length < 301 → YieldAt Fence.wide (n - 1) Tryd.prog l (encX x) W fun e W' =>
      (e = .returned (.bool true) ∧ J (pre ++ [x]) W' ∧ Kp b5 m W W') ∨ (e = .returned (.bool false) ∧ Jx (pre ++ [x]) W'))
    (W : World) (hok : OKW b5 m W) (hm : m ≤ W.heap.size) (hc : E.LayC W) (hbox : W.heap[Bs]? = some (.cells #[.string s] 9 (0, 0))) (hJ : AbidesFrom W.heap.size J) (h0 : J [] W) :
    CallsIn Fence.wide n Tryd.prog 27 #[.func (.yield l) #[] #[], .pointer (some ⟨Bs, 0, none⟩)] W fun e W' => (∃ v, e = .returned v) ∧
      ((∃ xs, Whole sk one s xs ∧ J xs W') ∨ (∃ pre, Part sk one s pre ∧ Jx pre W')) := by
  have hcell : W.cell? ⟨Bs, 0, none⟩ = some (.string s) := by simp [World.cell?, hbox]
  have hl0 : ∀ g ∈ E.layG, g < W.heap.size := fun g hg => Nat.lt_of_lt_of_le (hlay g hg).1 hm
  refine callsIn_of_wp Tryd.func27 rfl trivial ?_ rfl
  simp only [Tryd.ntmps27, List.size_toArray, List.length_cons, List.length_nil, Nat.reduceAdd, Nat.reduceSub, Array.replicate_succ, Array.replicate_zero, List.push_toArray, List.append_toArray, List.nil_append, List.cons_append]
  gi_wp2
  refine ⟨trivial, (callsIn_wide.2 (C.run s 0 W hs (Nat.zero_le _) hc hl0)).mono ?_⟩
  rintro e W1 ⟨rfl, hb1⟩
  gi_wp2
  gi_loopw [3] (fun v wr => ∃ (i : Nat) (pre : List (Tok × Bool)), v = .int .i64 i ∧ i ≤ s.size ∧ Pre sk one s i pre ∧ J pre wr ∧ OKW b5 m wr ∧ W.heap.size ≤ wr.heap.size ∧ E.LayC wr ∧ wr.heap[Bs]? = some (.cells #[.string s] 9 (0, 0)))
    (fun v _ => s.size - (intOf v).toNat)
  case atStart =>
    have h5l : W1.heap[b5]? = W.heap[b5]? := hb1.block b5 (by omega)
    exact ⟨sk s 0, [], rfl, (C.sk1 s 0 (Nat.zero_le _)).2, .nil, hJ [] W W1 none h0 (grownBy_below hb1) (fun r e => by cases e), hok.grow h5l hb1.size, hb1.size, E.LayC.same (fun g hg => hb1.block g (hl0 g hg)) hc, (hb1.block Bs (by omega)).trans hbox⟩
  case round =>
    obtain ⟨i, pre, rfl, hi, hp, hJr, hokr, hsz, hcr, hbr⟩ := hrel
    have hcellr : wr.cell? ⟨Bs, 0, none⟩ = some (.string s) := by simp [World.cell?, hbr]
    have hl1 : ∀ g ∈ E.layG, g < wr.heap.size := fun g hg => Nat.lt_of_lt_of_le (hl0 g hg) hsz
    by_cases hlt : i < s.size
    · gi_wp2
      refine ⟨trivial, (callsIn_wide.2 (C.first (s.extract i s.size) wr (by rw [ByteArray.size_extract]; omega) (by rw [ByteArray.size_extract]; omega) hcr hl1)).mono ?_⟩
      rintro e W2 ⟨⟨⟨a1, a2, ⟨a3, a4, a5, a6, ⟨⟩⟩, a7, ⟨⟩⟩, ok, ht1, ht2, rfl⟩, hb2⟩
      simp only [tokC]
      obtain ⟨W3, hW3⟩ : ∃ W3, W2.alloc (.cells #[.int .i64 a1, .string a2, .int .i64 a3, .bool a4, .int .i64 a5, .string a6, .int .i64 i] 36) = W3 := ⟨_, rfl⟩
      have hb3 : Below wr.heap.size wr W3 := by rw [← hW3]; exact hb2.alloc hb2.size _
      have hs3 : W3.heap.size = W2.heap.size + 1 := by rw [← hW3]; simp
      have hs2 := hb2.size
      have hB3 : W3.heap[W2.heap.size]? = some (.cells #[.int .i64 a1, .string a2, .int .i64 a3, .bool a4, .int .i64 a5, .string a6, .int .i64 i] 36 (0, 0)) := by rw [← hW3]; exact World.alloc_heap_new W2 _
      have h5r : b5 < wr.heap.size := by omega
      have e53 : W3.heap[b5]? = wr.heap[b5]? := hb3.block b5 h5r
      have hJ3 : J pre W3 := hJ pre wr W3 none hJr (grownBy_below hb3) (fun r e => by cases e)
      have hok3 : OKW b5 m W3 := hokr.grow e53 hb3.size
      have hc3 : E.LayC W3 := E.LayC.same (fun g hg => hb3.block g (hl1 g hg)) hcr
      have hbx3 : W3.heap[Bs]? = some (.cells #[.string s] 9 (0, 0)) := (hb3.block Bs (by omega)).trans hbr
      have hplen : pre.length < 301 := by have := (hp.len C).2; omega
      obtain ⟨fn, tmps, assign, body, hy, hR⟩ := hY pre ((a1, a2, (a3, a4, a5, a6, ()), (i : Int), ()), ok) W3 hJ3 hplen
      dsimp only [encX, tokC] at hy
      rw [← hW3] at hy
      have HW := Lib.hid hW3
      clear hW3
      gi_wp2
      rw [HW.out]
      refine hR.mono ?_
      rintro e W4 (⟨rfl, hJ4, hk4⟩ | ⟨rfl, hx4⟩)
      · have hs4 := hk4.size
        have hr3 : rowOf b5 W3 ≠ some W2.heap.size := fun e => by
          rw [rowOf_same e53] at e
          have := (hokr _ e).2
          omega
        have hB4 := hk4.own _ _ hB3 rfl (by omega) hr3
        have hbx4 : W4.heap[Bs]? = some (.cells #[.string s] 9 (0, 0)) := (hk4.low Bs hBs hne).trans hbx3
        have hc4 : E.LayC W4 := E.LayC.same (fun g hg => hk4.low g (hlay g hg).1 (hlay g hg).2) hc3
        have hl4 : ∀ g ∈ E.layG, g < W4.heap.size := fun g hg => Nat.lt_of_lt_of_le (hl1 g hg) (by omega)
        have hok4 := hk4.ok hok3
        have hcell4 : W4.cell? ⟨Bs, 0, none⟩ = some (.string s) := by simp [World.cell?, hbx4]
        have hcA : W4.cell? ⟨W2.heap.size, 1, none⟩ = some (.string a2) := by simp [World.cell?, hB4]
        cases ok with
        | false =>
          gi_wp2
          refine bodyPost_ret (results_none rfl _ _ _) rfl ?_
          exact ⟨⟨_, rfl⟩, .inl ⟨pre ++ [((a1, a2, (a3, a4, a5, a6, ()), (i : Int), ()), false)], .inr ⟨i, pre, (a1, a2, (a3, a4, a5, a6, ()), a7, ()), hp, hlt, ht2 (by simp), rfl⟩, hJ4⟩⟩
        | true =>
          have ho := ht1 rfl
          have hsz1 := C.one1 _ _ (by rw [ByteArray.size_extract]; omega) ho
          rw [ByteArray.size_extract] at hsz1
          gi_wp2
          rw [show (i : Int) + (a2.size : Int) = ((i + a2.size : Nat) : Int) from by omega]
          refine ⟨trivial, (callsIn_wide.2 (C.run s (i + a2.size) W4 hs (by omega) hc4 hl4)).mono ?_⟩
          rintro e W5 ⟨rfl, hb5⟩
          gi_wp2
          go_roundw
          case rel => exact ⟨sk s (i + a2.size), pre ++ [((a1, a2, (a3, a4, a5, a6, ()), (i : Int), ()), true)], rfl, (C.sk1 s _ (by omega)).2, .cons hp hlt ho, hJ _ W4 W5 none hJ4 (grownBy_below hb5) (fun r e => by cases e), hok4.grow (hb5.block b5 (by omega)) hb5.size, by have := hb5.size; omega, E.LayC.same (fun g hg => hb5.block g (hl4 g hg)) hc4, (hb5.block Bs (by omega)).trans hbx4⟩
          case measure =>
            have := C.sk1 s (i + a2.size) (by omega)
            simp [intOf]
            omega
      · gi_wp2
        refine bodyPost_ret (results_none rfl _ _ _) rfl ?_
        exact ⟨⟨_, rfl⟩, .inr ⟨pre ++ [((a1, a2, (a3, a4, a5, a6, ()), (i : Int), ()), ok)], ⟨i, pre, (a1, a2, (a3, a4, a5, a6, ()), a7, ()), ok, hp, hlt, ht1, ht2, rfl⟩, hx4⟩⟩
    · gi_wp2
      go_end0
      have : i = s.size := by omega
      subst this
      exact ⟨⟨_, rfl⟩, .inl ⟨pre, .inl hp, hJr⟩⟩
end
end Go.Proofs.YtnnbinmomendnaaDoor
/- lex.Read, walked by hand over its iterator. -/
namespace Go.Proofs.YtnnbinmomendnaaDoor
open Go.RowKit Go.Shelf
attribute [local go_sem] Oper.semAt_some
section
variable {sk : ByteArray → Nat → Nat} {one : ByteArray → Option Tok}
theorem tokens_in (n : Nat) (s : ByteArray) (w : World) :
    CallsIn Fence.wide n Tryd.prog 21 #[.string s] w fun e w' => e = .returned (.func (.func 27) #[] #[.pointer (some ⟨w.heap.size, 0, none⟩)]) ∧ w' = w.alloc (.cells #[.string s] 9) := by
  refine callsIn_of_wp Tryd.func21 rfl trivial ?_ rfl
  simp only [Tryd.ntmps21, List.size_toArray, List.length_cons, List.length_nil, Nat.reduceAdd, Nat.reduceSub, Array.replicate_succ, Array.replicate_zero, List.push_toArray, List.append_toArray, List.nil_append, List.cons_append]
  gi_wp2
  go_ret
  exact ⟨rfl, rfl⟩
theorem it_stops (C : Calls2 sk one) (n : Nat) (hn : 1 ≤ n) (Bs b5 m : Nat) (hBs : Bs < m) (hne : Bs ≠ b5) (h5 : b5 < m) (hlay : ∀ g ∈ E.layG, g < m ∧ g ≠ b5) (s : ByteArray) (hs : s.size ≤ 300) (w : World) (hok : OKW b5 m w) (hm : m ≤ w.heap.size) (hc : E.LayC w)
    (hbox : w.heap[Bs]? = some (.cells #[.string s] 9 (0, 0))) :
    SeqStopsK Fence.wide n Tryd.prog 27 #[.pointer (some ⟨Bs, 0, none⟩)] encX (Kp b5 m) (Whole sk one s) (Part sk one s) 301 w := fun l J Jx W hW hJ _ hY h0 =>
  it_in C n hn l Bs b5 m hBs hne h5 hlay s hs J Jx hY W (hok.grow (hW.block b5 (by omega)) hW.size) (Nat.le_trans hm hW.size) (E.LayC.same (fun g hg => hW.block g (Nat.lt_of_lt_of_le (hlay g hg).1 hm)) hc) ((hW.block Bs (by omega)).trans hbox) hJ h0
def rowC (xs : List (Tok × Bool)) : List Value := xs.flatMap fun x => (tokC x.1).toList
def AllOk (xs : List (Tok × Bool)) : Prop := ∀ x ∈ xs, x.2 = true
/-- between two rounds -/
structure At (w : World) (xs : List (Tok × Bool)) (W : World) : Prop where
  ok : AllOk xs
  b2 : Boxed W w.heap.size 22 (.slice none 0 0)
  b3 : Boxed W (w.heap.size + 1) 3 (.int .i64 0)
  b4 : Boxed W (w.heap.size + 1 + 1) 23 (.int .i64 0)
  b5 : ∃ v, Boxed W (w.heap.size + 1 + 1 + 1) 22 v ∧ W.ownsRow (w.heap.size + 5) 36 7 v xs.length (rowC xs)
  below : Below w.heap.size w W
  sz : w.heap.size + 5 ≤ W.heap.size
theorem infoTok : (Tryd.prog.info? 36).map (fun i => (i.zero, i.size, i.bytes)) = some (some (.agg (tokC (0, ⟨#[]⟩, (0, false, 0, ⟨#[]⟩, ()), 0, ()))), 7, 72) := by kernel_rfl
theorem cells_new (w : World) (cs : Array Value) (t : TypeId) : ∀ j u, cs.toList[j]? = some u → (w.alloc (.cells cs t)).cell? ((⟨w.heap.size, 0, none⟩ : Addr).add j) = some u := by
  intro j u hj
  have e := World.alloc_heap_new w (.cells cs t)
  rw [Addr.add_mid]
  simp only [World.cell?, e]
  simpa using hj
theorem ownsRow_alloc' {W : World} {base : Nat} {e : TypeId} {size : Nat} {v : Value} {k : Nat} {xs : List Value} (h : W.ownsRow base e size v k xs) (o : Obj) : (W.alloc o).ownsRow base e size v k xs := h.alloc o
theorem ownsRow_base {W : World} {base base' : Nat} {e : TypeId} {size : Nat} {v : Value} {k : Nat} {xs : List Value} (h : W.ownsRow base e size v k xs) (hb : base' ≤ base) : W.ownsRow base' e size v k xs := by
  refine ⟨h.1, ?_⟩
  rcases h.2 with h0 | ⟨g, cap, cur, e1, hg, r⟩
  · exact .inl h0
  · exact .inr ⟨g, cap, cur, e1, by omega, r⟩
theorem boxed_from {β : Type} (B : Nat) (t : TypeId) (v : Value) {D : Nat} : OwnFrom D (fun (_ : β) W => Boxed W B t v) := Own.from (boxed_own B t fun _ => v) D
theorem At.own {w : World} {D : Nat} (hD : w.heap.size ≤ D) : OwnFrom D (fun pre W => At w pre W) := fun xs X Y row h hg hr => by
  obtain ⟨v, h5, h6⟩ := h.b5
  obtain ⟨v', h5', h6', _⟩ := (Own.from (holdsRow_own (w.heap.size + 5) (w.heap.size + 1 + 1 + 1) 22 36 7 (fun xs : List (Tok × Bool) => xs.length) rowC (fun _ _ => True)) D) xs X Y row ⟨v, h5, h6, trivial⟩ hg hr
  exact ⟨h.ok, boxed_from (β := Unit) _ _ _ () X Y row h.b2 hg hr, boxed_from (β := Unit) _ _ _ () X Y row h.b3 hg hr, boxed_from (β := Unit) _ _ _ () X Y row h.b4 hg hr, ⟨v', h5', h6'⟩, ownFrom_below (β := Unit) (Nat.le_refl _) hD () X Y row h.below hg hr, Nat.le_trans h.sz hg.size⟩
theorem At.alloc {w W : World} {pre : List (Tok × Bool)} (h : At w pre W) (o : Obj) : At w pre (W.alloc o) := At.own (Nat.le_refl _) pre W _ none h (World.grownBy_alloc W o none) (fun r e => by cases e)
theorem Kp.alloc {b5 m : Nat} {W : World} (h5 : b5 < W.heap.size) (hm : m ≤ W.heap.size) (o : Obj) : Kp b5 m W (W.alloc o) := by
  have e5 : (W.alloc o).heap[b5]? = W.heap[b5]? := Below.heap_alloc _ _ _ h5
  have hs : (W.alloc o).heap.size = W.heap.size + 1 := by simp
  refine ⟨fun ok => ok.grow e5 (by omega), by omega, fun k h1 _ => Below.heap_alloc _ _ _ (by omega), fun k o1 h1 _ _ _ => (Below.heap_alloc _ _ _ (Array.getElem?_eq_some_iff.1 h1).1).trans h1, fun r hr => .inl (by rw [rowOf_same e5] at hr; exact hr)⟩
theorem Stop.own {w : World} {D : Nat} (hD : w.heap.size ≤ D) (c : Code) : OwnFrom D (fun (pre : List (Tok × Bool)) W => c = .ret ∧ Below w.heap.size w W ∧ ∃ p z, pre = p ++ [(z, false)] ∧ AllOk p ∧ Boxed W w.heap.size 22 (.slice none 0 0) ∧ Boxed W (w.heap.size + 1) 3 (.int .i64 z.2.2.2.1) ∧ Boxed W (w.heap.size + 1 + 1) 23 (.int .i64 7)) := fun xs X Y row h hg hr => by
  obtain ⟨e, hB, p, z, h1, h2, h3, h4, h5⟩ := h
  exact ⟨e, ownFrom_below (β := Unit) (Nat.le_refl _) hD () X Y row hB hg hr, p, z, h1, h2, boxed_from (β := Unit) _ _ _ () X Y row h3 hg hr, boxed_from (β := Unit) _ _ _ () X Y row h4 hg hr, boxed_from (β := Unit) _ _ _ () X Y row h5 hg hr⟩
/-- a round that goes on: the token stands behind the others -/
theorem body_ok {w W w3 : World} {pre : List (Tok × Bool)} {v : Value} {g' cap' D : Nat} {o : Obj} {tok : Tok} {Ix : Code → List (Tok × Bool) → World → Prop} {a' : Act} (hA : At w pre W) (h5 : Boxed W (w.heap.size + 1 + 1 + 1) 22 v) (h6 : W.ownsRow (w.heap.size + 5) 36 7 v pre.length (rowC pre))
    (hown : w3.ownsRow (w.heap.size + 5) 36 7 (.slice (some ⟨g', 0, none⟩) (pre.length + 1) cap') (pre.length + 1) (rowC pre ++ (tokC tok).toList)) (hg : (W.alloc o).grownBy w3 v.ownBlock)
    (hat : (Value.slice (some ⟨g', 0, none⟩) (pre.length + 1) cap').ownBlock = v.ownBlock ∨ (Value.slice (some ⟨g', 0, none⟩) (pre.length + 1) cap').ownBlock = some (W.alloc o).heap.size) :
    ownPostG D (Kp (w.heap.size + 1 + 1 + 1) (w.heap.size + 5)) (fun pre W => At w pre W) Ix (pre ++ [(tok, true)]) W Exit.normal a' (w3.setCell ⟨w.heap.size + 1 + 1 + 1, 0, none⟩ (.slice (some ⟨g', 0, none⟩) (pre.length + 1) cap')) := by
  have hsz := hA.sz
  have h6' := ownsRow_alloc' h6 o
  have hs3 := hg.size
  have hsa : (W.alloc o).heap.size = W.heap.size + 1 := by simp
  obtain ⟨w4, hw4⟩ : ∃ w4, w3.setCell ⟨w.heap.size + 1 + 1 + 1, 0, none⟩ (.slice (some ⟨g', 0, none⟩) (pre.length + 1) cap') = w4 := ⟨_, rfl⟩
  have hg4 : w3.grownBy w4 (some (w.heap.size + 1 + 1 + 1)) := by rw [← hw4]; exact grownBy_setCell' _ _ _
  have hs4 := hg4.size
  have b53 : Boxed w3 (w.heap.size + 1 + 1 + 1) 22 v := (h5.alloc _).kept hg ((h5.alloc _).not_row (by decide) h6')
  have b54 : Boxed w4 (w.heap.size + 1 + 1 + 1) 22 (.slice (some ⟨g', 0, none⟩) (pre.length + 1) cap') := by rw [← hw4]; exact b53.set _
  have same : ∀ k, k < W.heap.size → k ≠ w.heap.size + 1 + 1 + 1 → v.ownBlock ≠ some k → w4.heap[k]? = W.heap[k]? := fun k h1 h2 h3 =>
    (hg4.block k (by omega) (fun e => h2 (by cases e; rfl))).trans ((hg.block k (by omega) (fun e => h3 e.symm)).trans (Below.heap_alloc _ _ k h1))
  have hown4 : w4.ownsRow (w.heap.size + 5) 36 7 (.slice (some ⟨g', 0, none⟩) (pre.length + 1) cap') (pre.length + 1) (rowC pre ++ (tokC tok).toList) := hown.kept hg4 (by
    have := b53.not_row (by decide) hown
    exact .inr fun e => this e.symm)
  have hrow : rowOf (w.heap.size + 1 + 1 + 1) W = v.ownBlock := by unfold rowOf; rw [h5.cell]; rfl
  have hrow4 : rowOf (w.heap.size + 1 + 1 + 1) w4 = some g' := by unfold rowOf; rw [b54.cell]; rfl
  have hlt4 := hown4.lt g' rfl
  rw [hw4]
  refine ⟨(((KeepsOthers.alloc _ _).trans (KeepsOthers.of_grownBy hg ?_)).trans (by rw [← hw4]; exact KeepsOthers.setCell _ _ _)).from _, ⟨fun _ r hr => ?_, by omega, fun k h1 h2 => same k (by omega) h2 (fun e => ?_), fun k o h1 _ h3 h4 => (same k (Array.getElem?_eq_some_iff.1 h1).1 h3 (by rw [← hrow]; exact h4)).trans h1, fun r hr => ?_⟩, ?_⟩
  · intro j o' hj ho
    rcases h6'.2 with ⟨rfl, _⟩ | ⟨g, cap, cur, rfl, _, hgb, _⟩
    · simp [Value.ownBlock] at hj
    · have : g = j := by simpa [Value.ownBlock] using hj
      subst this
      rw [hgb] at ho
      cases ho
      rfl
  · rw [hrow4] at hr
    cases hr
    exact hlt4
  · have := (h6.lt k e).1
    omega
  · rw [hrow4] at hr
    cases hr
    rcases hat with e | e
    · exact .inl (by rw [hrow, ← e]; rfl)
    · have : g' = (W.alloc o).heap.size := by simpa [Value.ownBlock] using e
      exact .inr (by omega)
  · have keepB : ∀ {b : Nat} {t : TypeId} {u : Value}, Boxed W b t u → t ≠ 36 → b ≠ w.heap.size + 1 + 1 + 1 → Boxed w4 b t u := fun hb ht hne =>
      (same _ hb.lt hne (fun e => (hb.not_row ht h6) e.symm)).trans hb
    refine ⟨fun x hx => ?_, keepB hA.b2 (by decide) (by omega), keepB hA.b3 (by decide) (by omega), keepB hA.b4 (by decide) (by omega), ⟨_, b54, ?_⟩, ?_, by omega⟩
    · rcases List.mem_append.1 hx with hx | hx
      · exact hA.ok x hx
      · simp at hx
        rw [hx]
    · rw [List.length_append, List.length_singleton, show rowC (pre ++ [(tok, true)]) = rowC pre ++ (tokC tok).toList from by simp [rowC]]
      exact hown4
    · exact ((hA.below.alloc (by omega) _).grown hg (by omega) (fun k e => by have := (h6.lt k e).1; omega)).grown hg4 (by omega) (fun k e => by cases e; omega)
set_option maxRecDepth 100000 in
set_option maxHeartbeats 2000000 in
theorem read_in (C : Calls2 sk one) (s : ByteArray) (hs : s.size ≤ 300) (w : World) (hc : E.LayC w) (hl : ∀ g ∈ E.layG, g < w.heap.size) :
    CallsIn Fence.wide 5 Tryd.prog 7 #[.string s] w fun e w' => Below w.heap.size w w' ∧ ∃ v : Value, ∃ xs : List (Tok × Bool), AllOk xs ∧
      ((Pre sk one s s.size xs ∧ e = .returned (.tuple #[v, .int .i64 0, .int .i64 0]) ∧ w'.ownsRow w.heap.size 36 7 v (xs.length + 1) (rowC xs ++ (tokC (4, ⟨#[]⟩, (0, false, 0, ⟨#[]⟩, ()), (s.size : Int), ())).toList)) ∨
       (∃ i, Pre sk one s i xs ∧ i < s.size ∧ one (s.extract i s.size) = none ∧ e = .returned (.tuple #[.slice none 0 0, .int .i64 i, .int .i64 7]))) := by
  have t22 := Tryd.underlying22
  have t36 := Tryd.underlying36
  refine callsIn_of_wp_marks Tryd.func7 rfl trivial ?_ rfl
  simp only [Tryd.ntmps7, List.size_toArray, List.length_cons, List.length_nil, Nat.reduceAdd, Nat.reduceSub, Array.replicate_succ, Array.replicate_zero, List.push_toArray, List.append_toArray, List.nil_append, List.cons_append]
  have hd : ¬ (300 : Int) < s.size := by omega
  gi_wp2
  refine ⟨trivial, (tokens_in 4 s _).mono ?_⟩
  rintro e w' ⟨rfl, rfl⟩
  gi_wp2
  obtain ⟨W0, hW0⟩ : ∃ W0, (((((w.alloc (.cells #[.slice none 0 0] 22)).alloc (.cells #[.int .i64 0] 3)).alloc (.cells #[.int .i64 0] 23)).alloc (.cells #[.slice none 0 0] 22)).alloc (.cells #[.string s] 9)) = W0 := ⟨_, rfl⟩
  have hs0 : W0.heap.size = w.heap.size + 5 := by rw [← hW0]; simp
  have hB0 : Below w.heap.size w W0 := by
    rw [← hW0]
    exact (((((Below.refl _ w).alloc (Nat.le_refl _) _).alloc (by simp) _).alloc (by simp; omega) _).alloc (by simp; omega) _).alloc (by simp; omega) _
  have c2 : Boxed W0 w.heap.size 22 (.slice none 0 0) := by rw [← hW0]; exact ((((Boxed.new w _ _).alloc _).alloc _).alloc _).alloc _
  have c3 : Boxed W0 (w.heap.size + 1) 3 (.int .i64 0) := by
    rw [← hW0]
    have := Boxed.new (w.alloc (.cells #[.slice none 0 0] 22)) 3 (.int .i64 0)
    rw [World.size_alloc] at this
    exact ((this.alloc _).alloc _).alloc _
  have c4 : Boxed W0 (w.heap.size + 1 + 1) 23 (.int .i64 0) := by
    rw [← hW0]
    have := Boxed.new ((w.alloc (.cells #[.slice none 0 0] 22)).alloc (.cells #[.int .i64 0] 3)) 23 (.int .i64 0)
    rw [World.size_alloc, World.size_alloc] at this
    exact (this.alloc _).alloc _
  have c5 : Boxed W0 (w.heap.size + 1 + 1 + 1) 22 (.slice none 0 0) := by
    rw [← hW0]
    have := Boxed.new (((w.alloc (.cells #[.slice none 0 0] 22)).alloc (.cells #[.int .i64 0] 3)).alloc (.cells #[.int .i64 0] 23)) 22 (.slice none 0 0)
    rw [World.size_alloc, World.size_alloc, World.size_alloc] at this
    exact this.alloc _
  have c6 : W0.heap[w.heap.size + 1 + 1 + 1 + 1]? = some (.cells #[.string s] 9 (0, 0)) := by
    rw [← hW0]
    have := Boxed.new ((((w.alloc (.cells #[.slice none 0 0] 22)).alloc (.cells #[.int .i64 0] 3)).alloc (.cells #[.int .i64 0] 23)).alloc (.cells #[.slice none 0 0] 22)) 9 (.string s)
    rw [World.size_alloc, World.size_alloc, World.size_alloc, World.size_alloc] at this
    exact this
  have hrow0 : rowOf (w.heap.size + 1 + 1 + 1) W0 = none := by unfold rowOf; rw [c5.cell]; rfl
  have hok0 : OKW (w.heap.size + 1 + 1 + 1) (w.heap.size + 5) W0 := fun r hr => by rw [hrow0] at hr; cases hr
  have hc0 : E.LayC W0 := E.LayC.same (fun g hg => hB0.block g (hl g hg)) hc
  have hlay : ∀ g ∈ E.layG, g < w.heap.size + 5 ∧ g ≠ w.heap.size + 1 + 1 + 1 := fun g hg => by have := hl g hg; omega
  rw [hW0]
  clear hW0
  refine wpIn_rangeFunc_ownH rfl (by omega) (gf := 27) (lb := #[.pointer (some ⟨w.heap.size + 1 + 1 + 1 + 1, 0, none⟩)]) rfl trivial (enters_of Tryd.func27 (by kernel_rfl) rfl)
    (it_stops C 4 (by omega) (w.heap.size + 1 + 1 + 1 + 1) (w.heap.size + 1 + 1 + 1) (w.heap.size + 5) (by omega) (by omega) (by omega) hlay s hs W0 hok0 (by omega) hc0 c6)
    Kp.trans (Kp.book (by omega) (by omega)) (Below.refl _ _) (fun _ => rfl)
    (fun pre W => At w pre W)
    (fun c pre W => c = .ret ∧ Below w.heap.size w W ∧ ∃ p z, pre = p ++ [(z, false)] ∧ AllOk p ∧ Boxed W w.heap.size 22 (.slice none 0 0) ∧ Boxed W (w.heap.size + 1) 3 (.int .i64 z.2.2.2.1) ∧ Boxed W (w.heap.size + 1 + 1) 23 (.int .i64 7))
    (At.own (by omega)) (Stop.own (by omega))
    ⟨(fun x hx => by cases hx), c2, c3, c4, ⟨_, c5, ⟨rfl, .inl ⟨rfl, rfl⟩⟩⟩, hB0, by omega⟩
    (fun x a' W => ∃ k v, w.heap.size + 5 ≤ k ∧ (Boxed W (w.heap.size + 1 + 1 + 1) 22 v ∧ v.ownBlock ≠ some k) ∧ W.heap[k]? = some (.cells (tokC x.1) 36 (0, 0)) ∧ a' = { tmps := #[.string s, undef, .pointer (some ⟨w.heap.size, 0, none⟩), .pointer (some ⟨w.heap.size + 1, 0, none⟩), .pointer (some ⟨w.heap.size + 1 + 1, 0, none⟩), .pointer (some ⟨w.heap.size + 1 + 1 + 1, 0, none⟩), .pointer (some ⟨k, 0, none⟩), .bool x.2, .string s, .int .i64 s.size, .bool false, .string s, .func (.func 27) #[] #[.pointer (some ⟨w.heap.size + 1 + 1 + 1 + 1, 0, none⟩)], .agg (tokC x.1), .bool x.2, undef, undef, undef, undef, undef, undef, undef, undef, undef, undef, undef, undef, undef, undef], defers := [] })
    (fun x a' _ X Y row hs hg hr => by
      obtain ⟨k, v, h1, ⟨h2, h2'⟩, h3, h4⟩ := hs
      refine ⟨k, v, h1, ⟨boxed_from (β := Unit) _ _ _ () X Y row h2 hg hr, h2'⟩, (hg.block k (Array.getElem?_eq_some_iff.1 h3).1 (fun e => ?_)).trans h3, h4⟩
      obtain ⟨_, o, ho, hno⟩ := hr k e.symm
      rw [h3] at ho
      cases ho
      cases hno)
    ?assign ?body ?done ?stop
  case assign =>
    rintro l pre ⟨⟨a1, a2, ⟨a3, a4, a5, a6, ⟨⟩⟩, a7, ⟨⟩⟩, ok⟩ W K hA hK
    simp only [encX, tokC]
    gi_wp2
    obtain ⟨v, h5, h6⟩ := hA.b5
    have hsz := hA.sz
    refine hK _ _ ((KeepsOthers.alloc _ _).from _) (Kp.alloc (by omega) hsz _) (hA.alloc _) ⟨W.heap.size, v, hsz, ⟨h5.alloc _, fun e => ?_⟩, World.alloc_heap_new W _, rfl⟩
    have := (h6.lt _ e).2
    omega
  case body =>
    rintro l pre ⟨⟨a1, a2, ⟨a3, a4, a5, a6, ⟨⟩⟩, a7, ⟨⟩⟩, ok⟩ a' W hl ⟨r, hr⟩ hA ⟨k, v, hk1, ⟨hk2, hk2'⟩, hk3, rfl⟩ hlt
    obtain ⟨v', h5, h6⟩ := hA.b5
    obtain rfl : v = v' := by
      have := (show W.heap[_]? = _ from h5).symm.trans hk2
      simp at this
      exact this.symm
    have d2 := hA.b2; have d3 := hA.b3; have d4 := hA.b4
    have f2 := d2.frozen; have f3 := d3.frozen; have f4 := d4.frozen; have f5 := h5.frozen; have e5 := h5.cell
    simp only [tokC] at hk3
    have k6 : W.cell? ⟨k, 6, none⟩ = some (.int .i64 a7) := by simp [World.cell?, hk3]
    simp only [tokC]
    cases ok with
    | false =>
      gi_wp2
      have e2 := d2.cell; have e3 := d3.cell; have e4 := d4.cell
      have n2 : k ≠ w.heap.size := by omega
      have n2' : w.heap.size ≠ k := by omega
      gi_region
      all_goals
        gi_wp2
        refine ⟨((((KeepsOthers.setCell _ _ _).trans (KeepsOthers.setCell _ _ _)).trans (KeepsOthers.setCell _ _ _)).trans (KeepsOthers.drew _)).from _, rfl, ?_, pre, (a1, a2, (a3, a4, a5, a6, ()), a7, ()), rfl, hA.ok, ?_, ?_, ?_⟩
        · exact (((hA.below.setCell (p := ⟨w.heap.size, 0, none⟩) (by simp) _).setCell (p := ⟨w.heap.size + 1, 0, none⟩) (by simp) _).setCell (p := ⟨w.heap.size + 1 + 1, 0, none⟩) (by simp; omega) _).drew
        · show Boxed (((W.setCell ⟨w.heap.size, 0, none⟩ (.slice none 0 0)).setCell ⟨w.heap.size + 1, 0, none⟩ (.int .i64 a7)).setCell ⟨w.heap.size + 1 + 1, 0, none⟩ (.int .i64 7)) _ _ _
          exact ((d2.set _).other (by omega) _).other (by omega) _
        · show Boxed (((W.setCell ⟨w.heap.size, 0, none⟩ (.slice none 0 0)).setCell ⟨w.heap.size + 1, 0, none⟩ (.int .i64 a7)).setCell ⟨w.heap.size + 1 + 1, 0, none⟩ (.int .i64 7)) _ _ _
          exact ((d3.other (by omega) _).set _).other (by omega) _
        · show Boxed (((W.setCell ⟨w.heap.size, 0, none⟩ (.slice none 0 0)).setCell ⟨w.heap.size + 1, 0, none⟩ (.int .i64 a7)).setCell ⟨w.heap.size + 1 + 1, 0, none⟩ (.int .i64 7)) _ _ _
          exact ((d4.other (by omega) _).other (by omega) _).set _
    | true =>
      obtain ⟨i0, hi, hz0, hz1, hz2⟩ := info_parts infoTok
      have q0 : W.cell? ⟨k, 0, none⟩ = some (.int .i64 a1) := by simp [World.cell?, hk3]
      have q1 : W.cell? ⟨k, 1, none⟩ = some (.string a2) := by simp [World.cell?, hk3]
      have q2 : W.cell? ⟨k, 2, none⟩ = some (.int .i64 a3) := by simp [World.cell?, hk3]
      have q3 : W.cell? ⟨k, 3, none⟩ = some (.bool a4) := by simp [World.cell?, hk3]
      have q4 : W.cell? ⟨k, 4, none⟩ = some (.int .i64 a5) := by simp [World.cell?, hk3]
      have q5 : W.cell? ⟨k, 5, none⟩ = some (.string a6) := by simp [World.cell?, hk3]
      have hsz := hA.sz
      gi_wp2_with (first
        | (gi_at_builtin
           refine wpListIn_append_own_at _ rfl _ _ 22 rfl (w.heap.size + 5) 36 i0 (.agg (tokC (0, ⟨#[]⟩, (0, false, 0, ⟨#[]⟩, ()), 0, ()))) 7 72 t22 hi hz0 hz1 hz2 rfl (by decide) _ _ _ rfl (ownsRow_alloc' h6 _) ⟨W.heap.size, 0, none⟩ 1 1 [.int .i64 a1, .string a2, .int .i64 a3, .bool a4, .int .i64 a5, .string a6, .int .i64 a7] rfl rfl (cells_new W #[.int .i64 a1, .string a2, .int .i64 a3, .bool a4, .int .i64 a5, .string a6, .int .i64 a7] 36) (by simp [Value.oneCell']) (by unfold maxLen; omega) (by omega) (by simp; omega) ?_
           intro v' w3 hown' hg3 hnil3 hat3
           obtain ⟨g', cap', rfl⟩ := ownsRow_succ hown'
           have b53 : Boxed w3 (w.heap.size + 1 + 1 + 1) 22 v := (h5.alloc _).kept hg3 (h5.not_row (by decide) h6)
           have e53 := b53.cell
           have f53 := b53.frozen
           go_frame)
        | gi_in)
      exact body_ok hA h5 h6 hown' hg3 hat3 (tok := (a1, a2, (a3, a4, a5, a6, ()), a7, ()))
  case done =>
    rintro D xs W hD hx hA hK
    have hpre : Pre sk one s s.size xs := by
      rcases hx with h | ⟨i, pre, z, _, _, _, rfl⟩
      · exact h
      · have := hA.ok (setAt z i, false) (by simp)
        cases this
    obtain ⟨v, h5, h6⟩ := hA.b5
    obtain ⟨i0, hi, hz0, hz1, hz2⟩ := info_parts infoTok
    have d2 := hA.b2; have d3 := hA.b3; have d4 := hA.b4
    have e5 := h5.cell
    have hlen := (hpre.len C).2
    have hsz := hA.sz
    gi_wp2_with (first
      | (gi_at_builtin
         refine wpListIn_append_own_at _ rfl _ _ 22 rfl (w.heap.size + 5) 36 i0 (.agg (tokC (0, ⟨#[]⟩, (0, false, 0, ⟨#[]⟩, ()), 0, ()))) 7 72 t22 hi hz0 hz1 hz2 rfl (by decide) _ _ _ rfl (ownsRow_alloc' h6 _) ⟨W.heap.size, 0, none⟩ 1 1 (tokC (4, ⟨#[]⟩, (0, false, 0, ⟨#[]⟩, ()), (s.size : Int), ())).toList rfl rfl (cells_new W (tokC (4, ⟨#[]⟩, (0, false, 0, ⟨#[]⟩, ()), (s.size : Int), ())) 36) (by simp [tokC, Value.oneCell']) (by unfold maxLen; omega) (by omega) (by simp; omega) ?_
         intro v' w3 hown' hg3 hnil3 hat3
         obtain ⟨g', cap', rfl⟩ := ownsRow_succ hown'
         have b2 : Boxed w3 w.heap.size 22 (.slice none 0 0) := (d2.alloc _).kept hg3 (d2.not_row (by decide) h6)
         have b3 : Boxed w3 (w.heap.size + 1) 3 (.int .i64 0) := (d3.alloc _).kept hg3 (d3.not_row (by decide) h6)
         have b4 : Boxed w3 (w.heap.size + 1 + 1) 23 (.int .i64 0) := (d4.alloc _).kept hg3 (d4.not_row (by decide) h6)
         have f2 := b2.frozen; have f3 := b3.frozen; have f4 := b4.frozen
         have e2 := b2.cell; have e3 := b3.cell; have e4 := b4.cell
         go_frame)
      | gi_in)
    have hcells : ∀ (j : Nat) (o : Obj), v.ownBlock = some j → (W.alloc (.cells (tokC (4, ⟨#[]⟩, (0, false, 0, ⟨#[]⟩, ()), (s.size : Int), ())) 36)).heap[j]? = some o → o.isCells = true := by
      intro j o' hj ho
      rcases (ownsRow_alloc' h6 (.cells (tokC (4, ⟨#[]⟩, (0, false, 0, ⟨#[]⟩, ()), (s.size : Int), ())) 36)).2 with ⟨rfl, _⟩ | ⟨g, cap, cur, rfl, _, hgb, _⟩
      · simp [Value.ownBlock] at hj
      · have : g = j := by simpa [Value.ownBlock] using hj
        subst this
        rw [hgb] at ho
        cases ho
        rfl
    have hkA : KeepsOthers W w3 := (KeepsOthers.alloc _ _).trans (KeepsOthers.of_grownBy hg3 hcells)
    have hsA : (W.alloc (.cells (tokC (4, ⟨#[]⟩, (0, false, 0, ⟨#[]⟩, ()), (s.size : Int), ())) 36)).heap.size = W.heap.size + 1 := by simp
    have hs3 : W.heap.size + 1 ≤ w3.heap.size := by have := hg3.size; rw [← hsA]; exact this
    have hbA : Below w.heap.size w w3 := (hA.below.alloc (by omega) _).grown hg3 (by simp; omega) (fun k e => by have := (h6.lt k e).1; omega)
    obtain ⟨w4, hw4⟩ : ∃ w4, w3.setCell ⟨w.heap.size, 0, none⟩ (.slice (some ⟨g', 0, none⟩) (xs.length + 1) cap') = w4 := ⟨_, rfl⟩
    have hg4 : w3.grownBy w4 (some w.heap.size) := by rw [← hw4]; exact grownBy_setCell' _ _ _
    have b24 : Boxed w4 w.heap.size 22 (.slice (some ⟨g', 0, none⟩) (xs.length + 1) cap') := by rw [← hw4]; exact b2.set _
    have b34 : Boxed w4 (w.heap.size + 1) 3 (.int .i64 0) := by rw [← hw4]; exact b3.other (by omega) _
    have b44 : Boxed w4 (w.heap.size + 1 + 1) 23 (.int .i64 0) := by rw [← hw4]; exact b4.other (by omega) _
    have hk4 : KeepsOthers W w4 := hkA.trans (by rw [← hw4]; exact KeepsOthers.setCell _ _ _)
    have hown4 := hown'.kept hg4 (.inr fun e => (b2.not_row (by decide) hown') e.symm)
    have hb4 : Below w.heap.size w w4 := hbA.grown hg4 (by omega) (fun k e => by cases e; omega)
    rw [hw4]
    obtain ⟨w5, hw5⟩ : ∃ w5, w4.setCell ⟨w.heap.size + 1, 0, none⟩ (.int .i64 0) = w5 := ⟨_, rfl⟩
    have hg5 : w4.grownBy w5 (some (w.heap.size + 1)) := by rw [← hw5]; exact grownBy_setCell' _ _ _
    have b25 : Boxed w5 w.heap.size 22 (.slice (some ⟨g', 0, none⟩) (xs.length + 1) cap') := by rw [← hw5]; exact b24.other (by omega) _
    have b35 : Boxed w5 (w.heap.size + 1) 3 (.int .i64 0) := by rw [← hw5]; exact b34.set _
    have b45 : Boxed w5 (w.heap.size + 1 + 1) 23 (.int .i64 0) := by rw [← hw5]; exact b44.other (by omega) _
    have hk5 : KeepsOthers W w5 := hk4.trans (by rw [← hw5]; exact KeepsOthers.setCell _ _ _)
    have hown5 := hown4.kept hg5 (.inr fun e => (b34.not_row (by decide) hown4) e.symm)
    have hb5 : Below w.heap.size w w5 := hb4.grown hg5 (by have := hg4.size; omega) (fun k e => by cases e; omega)
    rw [hw5]
    obtain ⟨w6, hw6⟩ : ∃ w6, w5.setCell ⟨w.heap.size + 1 + 1, 0, none⟩ (.int .i64 0) = w6 := ⟨_, rfl⟩
    have hg6 : w5.grownBy w6 (some (w.heap.size + 1 + 1)) := by rw [← hw6]; exact grownBy_setCell' _ _ _
    have b26 : Boxed w6 w.heap.size 22 (.slice (some ⟨g', 0, none⟩) (xs.length + 1) cap') := by rw [← hw6]; exact b25.other (by omega) _
    have b36 : Boxed w6 (w.heap.size + 1) 3 (.int .i64 0) := by rw [← hw6]; exact b35.other (by omega) _
    have b46 : Boxed w6 (w.heap.size + 1 + 1) 23 (.int .i64 0) := by rw [← hw6]; exact b45.set _
    have hk6 : KeepsOthers W w6 := hk5.trans (by rw [← hw6]; exact KeepsOthers.setCell _ _ _)
    have hown6 := hown5.kept hg6 (.inr fun e => (b45.not_row (by decide) hown5) e.symm)
    have hb6 : Below w.heap.size w w6 := hb5.grown hg6 (by have := hg4.size; have := hg5.size; omega) (fun k e => by cases e; omega)
    rw [hw6]
    have hK6 := hk6.same D _ hK rfl
    refine ⟨by simp, .inl ⟨_, _, rfl, run_takeDeferred hK6, ?_⟩⟩
    have c2 := cell_kept b26.cell (grownBy_putObj' _ D (.deferred none)) (fun r e => by cases e; exact ⟨_, hK6, rfl⟩)
    have c3 := cell_kept b36.cell (grownBy_putObj' _ D (.deferred none)) (fun r e => by cases e; exact ⟨_, hK6, rfl⟩)
    have c4 := cell_kept b46.cell (grownBy_putObj' _ D (.deferred none)) (fun r e => by cases e; exact ⟨_, hK6, rfl⟩)
    refine ⟨.tuple #[.slice (some ⟨g', 0, none⟩) (xs.length + 1) cap', .int .i64 0, .int .i64 0], ?_, hb6.grown (grownBy_putObj' _ _ _) hb6.size (fun k e => by cases e; omega), _, xs, hA.ok, .inl ⟨hpre, rfl, ownsRow_base (ownsRow_putObj hown6 (.deferred none) hK6 rfl) (by omega)⟩⟩
    simp [results, Tryd.f7, go_sem, c2, c3, c4]
  case stop =>
    rintro D c pre W hD hx ⟨rfl, hB, p, z, rfl, hp, d2, d3, d4⟩ hK
    obtain ⟨i, pre, z', ok, hp1, hlt, ho1, ho2, he⟩ := hx
    have hpe : p = pre ∧ ((z, false) : Tok × Bool) = (setAt z' i, ok) := by
      have := List.append_inj' he rfl
      exact ⟨this.1, by simpa using this.2⟩
    obtain ⟨rfl, hze⟩ := hpe
    have hz1 : z = setAt z' i := congrArg Prod.fst hze
    have hz2 : false = ok := congrArg Prod.snd hze
    subst hz2
    gi_wp2
    refine ⟨by simp, .inl ⟨_, _, rfl, run_takeDeferred hK, ?_⟩⟩
    have c2 := cell_kept d2.cell (grownBy_putObj' _ D (.deferred none)) (fun r e => by cases e; exact ⟨_, hK, rfl⟩)
    have c3 := cell_kept d3.cell (grownBy_putObj' _ D (.deferred none)) (fun r e => by cases e; exact ⟨_, hK, rfl⟩)
    have c4 := cell_kept d4.cell (grownBy_putObj' _ D (.deferred none)) (fun r e => by cases e; exact ⟨_, hK, rfl⟩)
    refine ⟨.tuple #[.slice none 0 0, .int .i64 i, .int .i64 7], ?_, hB.grown (grownBy_putObj' _ _ _) hB.size (fun k e => by cases e; omega), .slice none 0 0, p, hp, .inr ⟨i, hp1, hlt, ho2 (by simp), rfl⟩⟩
    rw [hz1] at c3
    simp [results, Tryd.f7, go_sem, c2, c3, c4, setAt]
end
end Go.Proofs.YtnnbinmomendnaaDoor
namespace Go.Proofs.YtnnbinmomendnaaDoor
open Go.RowKit Go.Shelf
attribute [local go_sem] Oper.semAt_some
/-- a text that is too long -/
theorem read_long (s : ByteArray) (hs : 300 < s.size) (w : World) : CallsIn Fence.wide 5 Tryd.prog 7 #[.string s] w fun e w' => Below w.heap.size w w' ∧ e = .returned (.tuple #[.slice none 0 0, .int .i64 0, .int .i64 9]) := by
  refine callsIn_of_wp Tryd.func7 rfl trivial ?_ rfl
  simp only [Tryd.ntmps7, List.size_toArray, List.length_cons, List.length_nil, Nat.reduceAdd, Nat.reduceSub, Array.replicate_succ, Array.replicate_zero, List.push_toArray, List.append_toArray, List.nil_append, List.cons_append]
  have hd : (300 : Int) < s.size := by omega
  gi_wp2
  refine bodyPost_ret (v := .tuple #[.slice none 0 0, .int .i64 0, .int .i64 9]) ?_ rfl ?_
  · simp [results, Tryd.f7, go_sem]
  · refine ⟨?_, rfl⟩
    exact (((Below.refl _ w).alloc (Nat.le_refl _) _).alloc (by simp) _).alloc (by simp; omega) _
namespace E
theorem skN_stop (s : ByteArray) (i : Nat) (hi : i ≤ s.size) (h : skN s i < s.size) : blN (bt s (skN s i)) = false := by
  have go : ∀ (f i : Nat), i + f = s.size → scanN (fun j => blN (bt s j)) f i < s.size → blN (bt s (scanN (fun j => blN (bt s j)) f i)) = false := by
    intro f
    induction f with
    | zero => intro i hi h; simp only [scanN] at h; omega
    | succ f ih =>
      intro i hi h
      rw [scanN] at h ⊢
      split at h
      · rename_i hb
        rw [if_pos hb]
        exact ih (i + 1) (by omega) h
      · rename_i hb
        rw [if_neg hb]
        simpa using hb
  exact go (s.size - i) i (by omega) h
theorem lexL_skip (s : ByteArray) (l : Toks) : ∀ (d i f : Nat), i + d = s.size → s.size + 1 ≤ i + f → ∃ f', s.size + 1 ≤ scanN (fun j => blN (bt s j)) d i + f' ∧ lexL s f i l = lexL s f' (scanN (fun j => blN (bt s j)) d i) l := by
  intro d
  induction d with
  | zero => intro i f hi hf; exact ⟨f, hf, rfl⟩
  | succ d ih =>
    intro i f hi hf
    rw [scanN]
    split
    · rename_i hb
      obtain ⟨f, rfl⟩ : ∃ q, f = q + 1 := ⟨f - 1, by omega⟩
      obtain ⟨f', h1, h2⟩ := ih (i + 1) f (by omega) (by omega)
      refine ⟨f', h1, ?_⟩
      rw [← h2, lexL, if_pos (by omega), if_pos]
      unfold blN at hb
      simpa using hb
    · exact ⟨f, hf, rfl⟩
theorem skip (s : ByteArray) (l : Toks) (i f : Nat) (hi : i ≤ s.size) (hf : s.size + 1 ≤ i + f) : ∃ f', s.size + 1 ≤ skN s i + f' ∧ lexL s f i l = lexL s f' (skN s i) l :=
  lexL_skip s l (s.size - i) i f (by omega) hf
theorem pre_lex {s : ByteArray} {i : Nat} {pre : List (Tok × Bool)} (h : Pre skN oneS s i pre) : (i ≤ s.size ∧ (i < s.size → blN (bt s i) = false)) ∧ ∃ f, s.size + 1 ≤ i + f ∧ lexL s (s.size + 1) 0 [] = lexL s f i (pre.map Prod.fst) := by
  induction h with
  | nil => exact ⟨⟨(skN_rng s 0 (Nat.zero_le _)).2, skN_stop s 0 (Nat.zero_le _)⟩, skip s [] 0 (s.size + 1) (Nat.zero_le _) (by omega)⟩
  | @cons i pre t h1 h2 h3 ih =>
    obtain ⟨⟨h4, h5⟩, f, h6, h7⟩ := ih
    have hb := h5 h2
    have hsz := oneS_size (s := s.extract i s.size) (by rw [ByteArray.size_extract]; omega) h3
    rw [ByteArray.size_extract] at hsz
    obtain ⟨f, rfl⟩ : ∃ q, f = q + 1 := ⟨f - 1, by omega⟩
    have hle : i + t.2.1.size ≤ s.size := by omega
    obtain ⟨f', g1, g2⟩ := skip s ((pre.map Prod.fst) ++ [(t.1, t.2.1, t.2.2.1, (i : Int), ())]) (i + t.2.1.size) f hle (by omega)
    refine ⟨⟨(skN_rng s _ hle).2, skN_stop s _ hle⟩, f', g1, ?_⟩
    rw [h7, lexL, if_pos h2, if_neg]
    · rw [h3]
      simp only [List.map_append, List.map_cons, List.map_nil]
      exact g2
    · unfold blN at hb
      simpa using hb
theorem lex_good {s : ByteArray} {xs : List (Tok × Bool)} (hs : s.size ≤ 300) (h : Pre skN oneS s s.size xs) : lexS s = (0, 0, xs.map Prod.fst ++ [endT s]) := by
  obtain ⟨_, f, h1, h2⟩ := pre_lex h
  obtain ⟨f, rfl⟩ : ∃ q, f = q + 1 := ⟨f - 1, by omega⟩
  unfold lexS
  rw [if_neg (by omega), h2, lexL, if_neg (by omega)]
theorem lex_bad {s : ByteArray} {i : Nat} {xs : List (Tok × Bool)} (hs : s.size ≤ 300) (h : Pre skN oneS s i xs) (hi : i < s.size) (ho : oneS (s.extract i s.size) = none) : lexS s = ((i : Int), 7, []) := by
  obtain ⟨⟨_, hb⟩, f, h1, h2⟩ := pre_lex h
  have hb := hb hi
  obtain ⟨f, rfl⟩ : ∃ q, f = q + 1 := ⟨f - 1, by omega⟩
  unfold lexS
  rw [if_neg (by omega), h2, lexL, if_pos hi, if_neg (by unfold blN at hb; simpa using hb), ho]
theorem calls2 : Calls2 skN oneS := by
  refine ⟨skN_rng, fun s t h0 h => oneS_size h0 h, fun s i w hs hi hc hl => ?_, fun s w h0 hs hc hl => ?_⟩
  · obtain ⟨n, hn⟩ : ∃ n : Nat, 2000 < n := ⟨3000, by omega⟩
    have ht : ∀ k : T → List Blk → Option (T × List Blk), lex_run_v2_g n [.c (.s s), .c (.i .i64 i), .c (.fn 29 [])] [] k = k (.a (.c (.i .i64 (skN s i : Nat)))) [] := fun k =>
      (show _ = lex_run_v2_F n s (i : Int) (fun y0 => k (.a (.c (.i .i64 y0))) []) from rfl).trans (runB_F n s i (by omega) hi hn _)
    have hg := Good.calls (lex_run_v2_ok n) Tryd.func28 (by kernel_rfl) rfl (args := [.c (.s s), .c (.i .i64 i), .c (.fn 29 [])]) (vs := [.string s, .int .i64 i, .func (.func 29) #[] #[]]) hc hl ⟨rfl, rfl, ⟨[], rfl, trivial⟩, trivial⟩ ht
    refine hg.mono ?_
    rintro e W' ⟨v, F', rfl, hr, hb, _⟩
    exact ⟨by rw [show v = _ from hr], hb⟩
  · obtain ⟨n, hn⟩ : ∃ n : Nat, 2000 < n := ⟨3000, by omega⟩
    obtain ⟨z, hz⟩ := firstP_F (R := T × List Blk) n s h0 (by omega) hn
    obtain ⟨t, ok, h1, h2, h3⟩ : ∃ (t : ty36.D) (ok : Bool), (ok = true → oneS s = some t) ∧ (ok = false → oneS s = none) ∧ ∀ k : ty36.D → Bool → Option (T × List Blk), lex_first_F n s k = k t ok := by
      cases h : oneS s with
      | none => exact ⟨z, false, by simp, by simp, fun k => by rw [hz k, h]⟩
      | some t => exact ⟨t, true, by simp, by simp, fun k => by rw [hz k, h]⟩
    have ht : ∀ k : T → List Blk → Option (T × List Blk), lex_first_g n [.c (.s s)] [] k = k (.tu [encA ty36 t, .c (.b ok)]) [] := fun k =>
      (show _ = lex_first_F n s (fun y0 y1 => k (.tu [encA ty36 y0, .c (.b y1)]) []) from rfl).trans (h3 _)
    have hg := Good.calls (lex_first_ok n) Tryd.func30 (by kernel_rfl) rfl (args := [.c (.s s)]) (vs := [.string s]) hc hl ⟨rfl, trivial⟩ ht
    refine hg.mono ?_
    rintro e W' ⟨v, F', rfl, ⟨vs, rfl, hr⟩, hb, _⟩
    refine ⟨⟨t, ok, h1, h2, ?_⟩, hb⟩
    obtain ⟨vl, hvl⟩ : ∃ vl, vs.toList = vl := ⟨_, rfl⟩
    rw [hvl] at hr
    match vl, hr with
    | [va, vb], hr =>
      obtain ⟨⟨cs, rfl, hcs⟩, hvb, _⟩ := hr
      have e1 : vs = #[.agg cs, vb] := by rw [← Array.toList_inj, hvl]
      rw [e1, show vb = .bool ok from hvb]
      obtain ⟨cl, hcl⟩ : ∃ cl, cs.toList = cl := ⟨_, rfl⟩
      rw [hcl] at hcs
      match cl, hcs with
      | [c1, c2, c3, c4, c5, c6, c7], hcs =>
        obtain ⟨g1, g2, g3, g4, g5, g6, g7, _⟩ := hcs
        have e2 : cs = tokC t := by
          rw [← Array.toList_inj, hcl]
          rw [show c1 = _ from g1, show c2 = _ from g2, show c3 = _ from g3, show c4 = _ from g4, show c5 = _ from g5, show c6 = _ from g6, show c7 = _ from g7]
          rfl
        rw [e2]
theorem tok_drep (w : World) (F : Nat → Prop) (t : ty36.D) : DRep w F ty36 t (tokC t).toList :=
  ⟨[.int .i64 t.1], _, rfl, rfl, [.string t.2.1], _, rfl, rfl, [.int .i64 t.2.2.1.1, .bool t.2.2.1.2.1, .int .i64 t.2.2.1.2.2.1, .string t.2.2.1.2.2.2.1], [.int .i64 t.2.2.2.1], rfl,
    ⟨[.int .i64 t.2.2.1.1], _, rfl, rfl, [.bool t.2.2.1.2.1], _, rfl, rfl, [.int .i64 t.2.2.1.2.2.1], _, rfl, rfl, [.string t.2.2.1.2.2.2.1], [], rfl, rfl, rfl⟩, [.int .i64 t.2.2.2.1], [], rfl, rfl, rfl⟩
theorem toks_dreps (w : World) (F : Nat → Prop) : ∀ l : Toks, DReps w F ty36 l (l.flatMap fun t => (tokC t).toList)
  | [] => rfl
  | t :: l => ⟨(tokC t).toList, l.flatMap fun t => (tokC t).toList, rfl, tok_drep w F t, toks_dreps w F l⟩
theorem row_drep {W : World} {F : Nat → Prop} {base e k : Nat} {v : Value} {xs : List Value} {l : Toks} (h : W.ownsRow base e 7 v k xs) (hk : l.length = k) (hd : DReps W F ty36 l xs) (hF : ∀ b, base ≤ b → b < W.heap.size → F b) : DRep W F (.sl ty36) l [v] := by
  rcases h.2 with ⟨rfl, h0⟩ | ⟨g, cap, cur, rfl, hg, hgb, hle, hmx, hsz, hcur⟩
  · have : l = [] := List.length_eq_zero_iff.1 (by omega)
    subst this
    exact ⟨none, 0, rfl, ⟨Nat.le_refl _, fun _ => rfl⟩, fun i hi => by simp at hi⟩
  · subst hk
    refine ⟨some ⟨g, 0, none⟩, cap, rfl, ⟨hle, fun h => by cases h⟩, fun i hi => ⟨g, 0, (xs.drop (i * 7)).take 7, rfl, hF g hg (Array.getElem?_eq_some_iff.1 hgb).1, fun j u hu => ?_, DReps.at hi hd⟩⟩
    have hj : j < 7 := by
      have := (List.getElem?_eq_some_iff.1 hu).1
      rw [List.length_take] at this
      omega
    rw [List.getElem?_take, if_pos hj, List.getElem?_drop, ← hcur, List.getElem?_take] at hu
    split at hu
    · rename_i hlt
      show W.cell? ⟨g, 0 + i * 7 + j, none⟩ = some u
      simp only [World.cell?, hgb, Nat.zero_add]
      simpa using hu
    · cases hu
theorem rowC_eq (xs : List (Tok × Bool)) : rowC xs = (xs.map Prod.fst).flatMap fun t => (tokC t).toList := by
  unfold rowC
  rw [List.flatMap_map]
theorem lex_back (s : ByteArray) (w : World) (hc : LayC w) (hl : ∀ g ∈ layG, g < w.heap.size) (_ : True) : Back Tryd.prog 7 #[valD .str s] w (.tu [.c (.fz ty36 (lexS s).2.2), .c (.i .i64 (lexS s).1), .c (.i .i64 (lexS s).2.1)]) := by
  have nil : ∀ W : World, DRep W (fun b => (w.heap.size ≤ b ∨ b ∈ layG) ∧ b < W.heap.size) (.sl ty36) [] [.slice none 0 0] := fun W => ⟨none, 0, rfl, ⟨Nat.le_refl _, fun _ => rfl⟩, fun i hi => by simp at hi⟩
  by_cases hs : s.size ≤ 300
  · refine (callsIn_wide.1 (read_in calls2 s hs w hc hl)).mono ?_
    rintro e W ⟨hb, v, xs, hok, ⟨hp, rfl, hr⟩ | ⟨i, hp, hi, ho, rfl⟩⟩
    · rw [lex_good hs hp]
      refine ⟨_, rfl, ⟨_, rfl, row_drep (k := xs.length + 1) hr (by simp) ?_ (fun b h1 h2 => ⟨.inl h1, h2⟩), rfl, rfl, trivial⟩, hb⟩
      rw [rowC_eq]
      have := toks_dreps W (fun b => (w.heap.size ≤ b ∨ b ∈ layG) ∧ b < W.heap.size) (xs.map Prod.fst ++ [endT s])
      rw [List.flatMap_append, show ([endT s].flatMap fun t => (tokC t).toList) = (tokC (endT s)).toList from by simp] at this
      exact this
    · rw [lex_bad hs hp hi ho]
      exact ⟨_, rfl, ⟨_, rfl, nil W, rfl, rfl, trivial⟩, hb⟩
  · refine (callsIn_wide.1 (read_long s (by omega) w)).mono ?_
    rintro e W ⟨hb, rfl⟩
    have : lexS s = (0, 9, []) := by unfold lexS; rw [if_pos (by omega)]
    rw [this]
    exact ⟨_, rfl, ⟨_, rfl, nil W, rfl, rfl, trivial⟩, hb⟩
end E
end Go.Proofs.YtnnbinmomendnaaDoor
/- lex.Sgn, walked by hand. -/
namespace Go.Proofs.YtnnbinmomendnaaDoor
open Go.RowKit Go.Shelf
def sgnP (op : Int) : ByteArray := if 0 ≤ op ∧ op < 7 then ([(⟨#[]⟩ : ByteArray), ⟨#[61, 61]⟩, ⟨#[33, 61]⟩, ⟨#[60]⟩, ⟨#[60, 61]⟩, ⟨#[62]⟩, ⟨#[62, 61]⟩] : List ByteArray).getD op.toNat ⟨#[]⟩ else ⟨#[]⟩
set_option maxHeartbeats 2000000 in
set_option maxRecDepth 100000 in
theorem sgn_calls (op : Int) (w : World) : Calls Tryd.prog 16 #[.int .i64 op] w fun e w' => e = .returned (.string (sgnP op)) ∧ Below w.heap.size w w' := by
  have bel : ∀ o : Obj, Below w.heap.size w (w.alloc o) := fun o => (Below.refl _ w).alloc (Nat.le_refl _) _
  by_cases h0 : op < 0
  · have e : sgnP op = ⟨#[]⟩ := by unfold sgnP; rw [if_neg (by omega)]
    rw [e]
    go_enter Tryd.func16, Tryd.ntmps16
    go_wp2
    go_ret
    exact ⟨rfl, bel _⟩
  · by_cases h7 : 7 ≤ op
    · have e : sgnP op = ⟨#[]⟩ := by unfold sgnP; rw [if_neg (by omega)]
      rw [e]
      go_enter Tryd.func16, Tryd.ntmps16
      go_wp2
      go_ret
      exact ⟨rfl, bel _⟩
    · have hc : op = 0 ∨ op = 1 ∨ op = 2 ∨ op = 3 ∨ op = 4 ∨ op = 5 ∨ op = 6 := by omega
      clear h0 h7
      rcases hc with rfl | rfl | rfl | rfl | rfl | rfl | rfl
      all_goals
        go_enter Tryd.func16, Tryd.ntmps16
        go_wp2
        go_ret
        exact ⟨rfl, bel _⟩
namespace E
theorem sgn_back (x : Int) (w : World) (_ : LayC w) (_ : ∀ g ∈ layG, g < w.heap.size) (_ : True) : Back Tryd.prog 16 #[valD (.int .i64) x] w (.a (.c (.s (sgnP x)))) := by
  refine (sgn_calls x w).mono ?_
  rintro e w' ⟨rfl, hb⟩
  exact ⟨_, rfl, rfl, hb⟩
end E
end Go.Proofs.YtnnbinmomendnaaDoor
set_option linter.unusedVariables false
set_option maxRecDepth 100000
namespace Go.Proofs.YtnnbinmomendnaaDoor.E
open Go.Proofs
noncomputable section
variable {R : Type}
/-! verderer/lex.Read: function 7 -/
@[reducible] def lex_Read_d : Desc := ⟨[(0, .d .str)], []⟩
def lex_Read_Fi (n : Nat) (a0 : ByteArray) (k0 : (List ty36.D) → Int → Int → Option R) : Option R :=
  if True then (k0 ((lexS a0).2.2) ((lexS a0).1) ((lexS a0).2.1)) else none
def lex_Read_F {R : Type} := lazyN (@lex_Read_Fi R)
theorem lex_Read_e : @lex_Read_F R = @lex_Read_Fi R := lazyN_eq _
def lex_Read_g (n : Nat) : Gx R := typed 1 lex_Read_d fun x k => lex_Read_F n x.1 (fun y0 y1 y2 => k (.tu [(.c (.fz ty36 y0)), (.c (.i .i64 y1)), (.c (.i .i64 y2))]) [])
theorem lex_Read_ok [Esc R] (n : Nat) : Good Tryd.prog 7 (lex_Read_g (R := R) n) := by
  unfold lex_Read_g
  rw [lex_Read_e]
  exact Good.hand1 Tryd.func7 (by kernel_rfl) rfl rfl lex_back (fun x k => rfl)
end
end Go.Proofs.YtnnbinmomendnaaDoor.E
set_option linter.unusedVariables false
set_option maxRecDepth 100000
namespace Go.Proofs.YtnnbinmomendnaaDoor.E
open Go.Proofs
noncomputable section
variable {R : Type}
/-! slices.Index[[]string,string]: function 38 -/
def slices_Index_38_ds : Nat → Desc
  | 2 => ⟨[(0, .d (.sl .str)), (1, .d .str), (7, .d (.int .i64)), (8, .d (.int .i64))], []⟩
  | _ => ⟨[], []⟩
def slices_Index_38_dx : Nat → List (X × Desc)
  | 2 => [(.r, ⟨[(4, .d (.int .i64))], []⟩), (.e 0, ⟨[], []⟩)]
  | _ => []
def slices_Index_38_s2 (n : Nat) (x0 : (List ByteArray)) (x1 : ByteArray) (x2 : Int) (x3 : Int) (k1 : (List ByteArray) → ByteArray → Int → Int → Option R) (qr : Int → Option R) (qe0 : Option R) : Option R :=
  if (decide (x3 < x2)) = true then (if (0 : Int) ≤ x3 ∧ x3 < (x0.length : Int) then (if (x1.toList == (x0.getD (Int.toNat x3) (Ty.z .str)).toList) = true then (qr x3) else (k1 x0 x1 x2 (IntKind.i64.wrap (x3 + 1)))) else none) else qe0
def slices_Index_38_l2 (n : Nat) (a : (slices_Index_38_ds 2).D) (k1 : (slices_Index_38_ds 2).D → Option R) (k2 : exK R (slices_Index_38_dx 2)) : Option R :=
  slices_Index_38_s2 n a.1 a.2.1 a.2.2.1 a.2.2.2.1 (fun x0 x1 x2 x3 => k1 (x0, x1, x2, x3, ())) (fun x0 => k2.1 (x0, ())) (k2.2.1 (()))
@[reducible] def slices_Index_38_d : Desc := ⟨[(0, .d (.sl .str)), (1, .d .str)], []⟩
def slices_Index_38_Fi (n : Nat) (a0 : (List ByteArray)) (a1 : ByteArray) (k0 : Int → Option R) : Option R :=
  runC (slices_Index_38_l2 n) n (a0, a1, (a0.length : Int), 0, ()) (fun b1 => k0 b1.1, fun b1 => k0 (-1), ())
def slices_Index_38_F {R : Type} := lazyN (@slices_Index_38_Fi R)
theorem slices_Index_38_e : @slices_Index_38_F R = @slices_Index_38_Fi R := lazyN_eq _
def slices_Index_38_g (n : Nat) : Gx R := typed 2 slices_Index_38_d fun x k => slices_Index_38_F n x.1 x.2.1 (fun y0 => k (.a (.c (.i .i64 y0))) [])
def slices_Index_38_cs (R : Type) (n : Nat) : List (Nat × Gx R) := []
def slices_Index_38_lp (n : Nat) : (i : Nat) → (slices_Index_38_ds i).D → exK R (slices_Index_38_dx i) → Option R
  | 2, a, k => runC (slices_Index_38_l2 n) n a k
  | _, _, _ => none
def slices_Index_38_cx (R : Type) (n : Nat) : Cx R := ⟨Tryd.prog, Gof (slices_Index_38_cs R n), slices_Index_38_ds, slices_Index_38_dx, slices_Index_38_lp n, drawP Tryd.prog (Gof (slices_Index_38_cs R n)), false, noJn, noFz⟩
theorem slices_Index_38_ok [Esc R] (n : Nat) : Good Tryd.prog 38 (slices_Index_38_g (R := R) n) := by
  unfold slices_Index_38_g
  rw [slices_Index_38_e]
  exact Good.fn (f := 38) (cx := slices_Index_38_cx R n) (by kernel_rfl) (AllGood.nil) rfl Tryd.func38 (by kernel_rfl) rfl (by
    have e : fnLoops noJn Tryd.f38 = [((fnLoops noJn Tryd.f38)[0]?).getD (false, .skip)] := by kernel_rfl
    show LoopRuns _ _ (fnLoops noJn _)
    rw [e]
    exact ⟨LoopRun.loop (by kernel_rfl) (i := 2) (m := n) (step := slices_Index_38_l2 n) (by kernel_rfl) (fun a k1 k2 => by kernel_rfl) (fun _ _ => rfl), trivial⟩) 2 slices_Index_38_d (by kernel_rfl) (fun x k => by kernel_rfl)
end
end Go.Proofs.YtnnbinmomendnaaDoor.E
set_option linter.unusedVariables false
set_option maxRecDepth 100000
namespace Go.Proofs.YtnnbinmomendnaaDoor.E
open Go.Proofs
noncomputable section
variable {R : Type}
/-! slices.Contains[[]string,string]: function 23 -/
@[reducible] def slices_Contains_23_d : Desc := ⟨[(0, .d (.sl .str)), (1, .d .str)], []⟩
def slices_Contains_23_Fi (n : Nat) (a0 : (List ByteArray)) (a1 : ByteArray) (k0 : Bool → Option R) : Option R :=
  slices_Index_38_F n a0 a1 (fun y1 => k0 (decide (y1 ≥ 0)))
def slices_Contains_23_F {R : Type} := lazyN (@slices_Contains_23_Fi R)
theorem slices_Contains_23_e : @slices_Contains_23_F R = @slices_Contains_23_Fi R := lazyN_eq _
def slices_Contains_23_g (n : Nat) : Gx R := typed 2 slices_Contains_23_d fun x k => slices_Contains_23_F n x.1 x.2.1 (fun y0 => k (.a (.c (.b y0))) [])
def slices_Contains_23_cs (R : Type) (n : Nat) : List (Nat × Gx R) := [(38, slices_Index_38_g n)]
def slices_Contains_23_cx (R : Type) (n : Nat) : Cx R := ⟨Tryd.prog, Gof (slices_Contains_23_cs R n), noDs, noDx, noLp, drawP Tryd.prog (Gof (slices_Contains_23_cs R n)), false, noJn, noFz⟩
theorem slices_Contains_23_ok [Esc R] (n : Nat) : Good Tryd.prog 23 (slices_Contains_23_g (R := R) n) := by
  unfold slices_Contains_23_g
  rw [slices_Contains_23_e]
  exact Good.fn (f := 23) (cx := slices_Contains_23_cx R n) (by kernel_rfl) (AllGood.cons (slices_Index_38_ok n) (AllGood.nil)) rfl Tryd.func23 (by kernel_rfl) rfl trivial 2 slices_Contains_23_d (by kernel_rfl) (fun x k => by kernel_rfl)
end
end Go.Proofs.YtnnbinmomendnaaDoor.E
set_option linter.unusedVariables false
set_option maxRecDepth 100000
namespace Go.Proofs.YtnnbinmomendnaaDoor.E
open Go.Proofs
noncomputable section
variable {R : Type}
/-! verderer/lex.Reserved: function 12 -/
@[reducible] def lex_Reserved_d : Desc := ⟨[(0, .d .str)], []⟩
def lex_Reserved_Fi (n : Nat) (a0 : ByteArray) (k0 : Bool → Option R) : Option R :=
  slices_Contains_23_F n [(⟨#[100, 101, 110, 121]⟩ : ByteArray), (⟨#[118, 105, 101, 119]⟩ : ByteArray), (⟨#[113, 117, 111, 116, 97]⟩ : ByteArray), (⟨#[108, 105, 109, 105, 116]⟩ : ByteArray), (⟨#[105, 102]⟩ : ByteArray), (⟨#[110, 111, 116]⟩ : ByteArray), (⟨#[99, 111, 117, 110, 116]⟩ : ByteArray), (⟨#[115, 117, 109]⟩ : ByteArray), (⟨#[108, 101, 97, 115, 116]⟩ : ByteArray), (⟨#[109, 111, 115, 116]⟩ : ByteArray)] a0 (fun y1 => k0 y1)
def lex_Reserved_F {R : Type} := lazyN (@lex_Reserved_Fi R)
theorem lex_Reserved_e : @lex_Reserved_F R = @lex_Reserved_Fi R := lazyN_eq _
def lex_Reserved_g (n : Nat) : Gx R := typed 1 lex_Reserved_d fun x k => lex_Reserved_F n x.1 (fun y0 => k (.a (.c (.b y0))) [])
def lex_Reserved_cs (R : Type) (n : Nat) : List (Nat × Gx R) := [(23, slices_Contains_23_g n)]
def lex_Reserved_cx (R : Type) (n : Nat) : Cx R := ⟨Tryd.prog, Gof (lex_Reserved_cs R n), noDs, noDx, noLp, drawP Tryd.prog (Gof (lex_Reserved_cs R n)), false, noJn, noFz⟩
theorem lex_Reserved_ok [Esc R] (n : Nat) : Good Tryd.prog 12 (lex_Reserved_g (R := R) n) := by
  unfold lex_Reserved_g
  rw [lex_Reserved_e]
  exact Good.fn (f := 12) (cx := lex_Reserved_cx R n) (by kernel_rfl) (AllGood.cons (slices_Contains_23_ok n) (AllGood.nil)) rfl Tryd.func12 (by kernel_rfl) rfl trivial 1 lex_Reserved_d (by kernel_rfl) (fun x k => by kernel_rfl)
end
end Go.Proofs.YtnnbinmomendnaaDoor.E
set_option linter.unusedVariables false
set_option maxRecDepth 100000
namespace Go.Proofs.YtnnbinmomendnaaDoor.E
open Go.Proofs
noncomputable section
variable {R : Type}
/-! verderer/lex.Sgn: function 16 -/
@[reducible] def lex_Sgn_d : Desc := ⟨[(0, .d (.int .i64))], []⟩
def lex_Sgn_Fi (n : Nat) (a0 : Int) (k0 : ByteArray → Option R) : Option R :=
  if True then (k0 (sgnP a0)) else none
def lex_Sgn_F {R : Type} := lazyN (@lex_Sgn_Fi R)
theorem lex_Sgn_e : @lex_Sgn_F R = @lex_Sgn_Fi R := lazyN_eq _
def lex_Sgn_g (n : Nat) : Gx R := typed 1 lex_Sgn_d fun x k => lex_Sgn_F n x.1 (fun y0 => k (.a (.c (.s y0))) [])
theorem lex_Sgn_ok [Esc R] (n : Nat) : Good Tryd.prog 16 (lex_Sgn_g (R := R) n) := by
  unfold lex_Sgn_g
  rw [lex_Sgn_e]
  exact Good.hand1 Tryd.func16 (by kernel_rfl) rfl rfl sgn_back (fun x k => rfl)
end
end Go.Proofs.YtnnbinmomendnaaDoor.E
set_option linter.unusedVariables false
set_option maxRecDepth 100000
namespace Go.Proofs.YtnnbinmomendnaaDoor.E
open Go.Proofs
noncomputable section
variable {R : Type}
/-! verderer/lex.Op: function 14 -/
def lex_Op_ds : Nat → Desc
  | 2 => ⟨[(0, .d .str), (3, .d (.int .i64))], []⟩
  | _ => ⟨[], []⟩
def lex_Op_dx : Nat → List (X × Desc)
  | 2 => [(.r, ⟨[(2, .d (.int .i64))], []⟩), (.e 0, ⟨[], []⟩)]
  | _ => []
def lex_Op_s2 (n : Nat) (x0 : ByteArray) (x1 : Int) (k1 : ByteArray → Int → Option R) (qr : Int → Option R) (qe0 : Option R) : Option R :=
  if (decide (x1 ≤ 6)) = true then (lex_Sgn_F n x1 (fun y1 => if (y1.toList == x0.toList) = true then (qr x1) else (k1 x0 (IntKind.i64.wrap (x1 + 1))))) else qe0
def lex_Op_l2 (n : Nat) (a : (lex_Op_ds 2).D) (k1 : (lex_Op_ds 2).D → Option R) (k2 : exK R (lex_Op_dx 2)) : Option R :=
  lex_Op_s2 n a.1 a.2.1 (fun x0 x1 => k1 (x0, x1, ())) (fun x0 => k2.1 (x0, ())) (k2.2.1 (()))
@[reducible] def lex_Op_d : Desc := ⟨[(0, .d .str)], []⟩
def lex_Op_Fi (n : Nat) (a0 : ByteArray) (k0 : Int → Option R) : Option R :=
  runC (lex_Op_l2 n) n (a0, 1, ()) (fun b2 => k0 b2.1, fun b2 => k0 0, ())
def lex_Op_F {R : Type} := lazyN (@lex_Op_Fi R)
theorem lex_Op_e : @lex_Op_F R = @lex_Op_Fi R := lazyN_eq _
def lex_Op_g (n : Nat) : Gx R := typed 1 lex_Op_d fun x k => lex_Op_F n x.1 (fun y0 => k (.a (.c (.i .i64 y0))) [])
def lex_Op_cs (R : Type) (n : Nat) : List (Nat × Gx R) := [(16, lex_Sgn_g n)]
def lex_Op_lp (n : Nat) : (i : Nat) → (lex_Op_ds i).D → exK R (lex_Op_dx i) → Option R
  | 2, a, k => runC (lex_Op_l2 n) n a k
  | _, _, _ => none
def lex_Op_cx (R : Type) (n : Nat) : Cx R := ⟨Tryd.prog, Gof (lex_Op_cs R n), lex_Op_ds, lex_Op_dx, lex_Op_lp n, drawP Tryd.prog (Gof (lex_Op_cs R n)), false, noJn, noFz⟩
theorem lex_Op_ok [Esc R] (n : Nat) : Good Tryd.prog 14 (lex_Op_g (R := R) n) := by
  unfold lex_Op_g
  rw [lex_Op_e]
  exact Good.fn (f := 14) (cx := lex_Op_cx R n) (by kernel_rfl) (AllGood.cons (lex_Sgn_ok n) (AllGood.nil)) rfl Tryd.func14 (by kernel_rfl) rfl (by
    have e : fnLoops noJn Tryd.f14 = [((fnLoops noJn Tryd.f14)[0]?).getD (false, .skip)] := by kernel_rfl
    show LoopRuns _ _ (fnLoops noJn _)
    rw [e]
    exact ⟨LoopRun.loop (by kernel_rfl) (i := 2) (m := n) (step := lex_Op_l2 n) (by kernel_rfl) (fun a k1 k2 => by kernel_rfl) (fun _ _ => rfl), trivial⟩) 1 lex_Op_d (by kernel_rfl) (fun x k => by kernel_rfl)
end
end Go.Proofs.YtnnbinmomendnaaDoor.E
set_option linter.unusedVariables false
set_option maxRecDepth 100000
namespace Go.Proofs.YtnnbinmomendnaaDoor.E
open Go.Proofs
noncomputable section
variable {R : Type}
/-! verderer/schema.letter: function 77 -/
@[reducible] def schema_letter_d : Desc := ⟨[(0, .d (.int .u8))], []⟩
def schema_letter_Fi (n : Nat) (a0 : Int) (k0 : Bool → Option R) : Option R :=
  if (decide (a0 ≥ 97)) = true then (k0 (decide (a0 ≤ 122))) else (k0 false)
def schema_letter_F {R : Type} := lazyN (@schema_letter_Fi R)
theorem schema_letter_e : @schema_letter_F R = @schema_letter_Fi R := lazyN_eq _
def schema_letter_g (n : Nat) : Gx R := typed 1 schema_letter_d fun x k => schema_letter_F n x.1 (fun y0 => k (.a (.c (.b y0))) [])
def schema_letter_cs (R : Type) (n : Nat) : List (Nat × Gx R) := []
def schema_letter_cx (R : Type) (n : Nat) : Cx R := ⟨Tryd.prog, Gof (schema_letter_cs R n), noDs, noDx, noLp, drawP Tryd.prog (Gof (schema_letter_cs R n)), false, noJn, noFz⟩
theorem schema_letter_ok [Esc R] (n : Nat) : Good Tryd.prog 77 (schema_letter_g (R := R) n) := by
  unfold schema_letter_g
  rw [schema_letter_e]
  exact Good.fn (f := 77) (cx := schema_letter_cx R n) (by kernel_rfl) (AllGood.nil) rfl Tryd.func77 (by kernel_rfl) rfl trivial 1 schema_letter_d (by kernel_rfl) (fun x k => by kernel_rfl)
end
end Go.Proofs.YtnnbinmomendnaaDoor.E
set_option linter.unusedVariables false
set_option maxRecDepth 100000
namespace Go.Proofs.YtnnbinmomendnaaDoor.E
open Go.Proofs
noncomputable section
variable {R : Type}
/-! verderer/schema.Name: function 70 -/
def schema_Name_ds : Nat → Desc
  | 4 => ⟨[(0, .d .str), (19, .d (.int .i64)), (20, .d (.int .i64))], []⟩
  | _ => ⟨[], []⟩
def schema_Name_dx : Nat → List (X × Desc)
  | 4 => [(.r, ⟨[(2, .d .bool)], []⟩), (.e 0, ⟨[], []⟩)]
  | _ => []
def schema_Name_s4 (n : Nat) (x0 : ByteArray) (x1 : Int) (x2 : Int) (k1 : ByteArray → Int → Int → Option R) (qr : Bool → Option R) (qe0 : Option R) : Option R :=
  if (decide (x2 < x1)) = true then (if (0 : Int) ≤ x2 then if x2 < (x0.size : Int) then (schema_letter_F n (byteAt x0 x2) (fun y2 => if (!y2) = true then (if (decide ((byteAt x0 x2) < 48)) = true then (if ((byteAt x0 x2) != 95) = true then (qr false) else (k1 x0 x1 (IntKind.i64.wrap (x2 + 1)))) else (if (decide ((byteAt x0 x2) > 57)) = true then (if ((byteAt x0 x2) != 95) = true then (qr false) else (k1 x0 x1 (IntKind.i64.wrap (x2 + 1)))) else (k1 x0 x1 (IntKind.i64.wrap (x2 + 1))))) else (k1 x0 x1 (IntKind.i64.wrap (x2 + 1))))) else none else none) else qe0
def schema_Name_l4 (n : Nat) (a : (schema_Name_ds 4).D) (k1 : (schema_Name_ds 4).D → Option R) (k2 : exK R (schema_Name_dx 4)) : Option R :=
  schema_Name_s4 n a.1 a.2.1 a.2.2.1 (fun x0 x1 x2 => k1 (x0, x1, x2, ())) (fun x0 => k2.1 (x0, ())) (k2.2.1 (()))
@[reducible] def schema_Name_d : Desc := ⟨[(0, .d .str)], []⟩
def schema_Name_Fi (n : Nat) (a0 : ByteArray) (k0 : Bool → Option R) : Option R :=
  if (a0.toList == (⟨#[]⟩ : ByteArray).toList) = true then (k0 false) else (if (decide ((a0.size : Int) > 16)) = true then (k0 false) else (if (0 : Int) ≤ 0 then if 0 < (a0.size : Int) then (schema_letter_F n (byteAt a0 0) (fun y1 => if (!y1) = true then (k0 false) else (runC (schema_Name_l4 n) n (a0, (a0.size : Int), 0, ()) (fun b3 => k0 b3.1, fun b3 => k0 true, ())))) else none else none))
def schema_Name_F {R : Type} := lazyN (@schema_Name_Fi R)
theorem schema_Name_e : @schema_Name_F R = @schema_Name_Fi R := lazyN_eq _
def schema_Name_g (n : Nat) : Gx R := typed 1 schema_Name_d fun x k => schema_Name_F n x.1 (fun y0 => k (.a (.c (.b y0))) [])
def schema_Name_cs (R : Type) (n : Nat) : List (Nat × Gx R) := [(77, schema_letter_g n)]
def schema_Name_lp (n : Nat) : (i : Nat) → (schema_Name_ds i).D → exK R (schema_Name_dx i) → Option R
  | 4, a, k => runC (schema_Name_l4 n) n a k
  | _, _, _ => none
def schema_Name_cx (R : Type) (n : Nat) : Cx R := ⟨Tryd.prog, Gof (schema_Name_cs R n), schema_Name_ds, schema_Name_dx, schema_Name_lp n, drawP Tryd.prog (Gof (schema_Name_cs R n)), false, noJn, noFz⟩
theorem schema_Name_ok [Esc R] (n : Nat) : Good Tryd.prog 70 (schema_Name_g (R := R) n) := by
  unfold schema_Name_g
  rw [schema_Name_e]
  exact Good.fn (f := 70) (cx := schema_Name_cx R n) (by kernel_rfl) (AllGood.cons (schema_letter_ok n) (AllGood.nil)) rfl Tryd.func70 (by kernel_rfl) rfl (by
    have e : fnLoops noJn Tryd.f70 = [((fnLoops noJn Tryd.f70)[0]?).getD (false, .skip)] := by kernel_rfl
    show LoopRuns _ _ (fnLoops noJn _)
    rw [e]
    exact ⟨LoopRun.loop (by kernel_rfl) (i := 4) (m := n) (step := schema_Name_l4 n) (by kernel_rfl) (fun a k1 k2 => by kernel_rfl) (fun _ _ => rfl), trivial⟩) 1 schema_Name_d (by kernel_rfl) (fun x k => by kernel_rfl)
end
end Go.Proofs.YtnnbinmomendnaaDoor.E
set_option linter.unusedVariables false
set_option maxRecDepth 100000
namespace Go.Proofs.YtnnbinmomendnaaDoor.E
open Go.Proofs
noncomputable section
variable {R : Type}
/-! (*verderer/parse.reader).now: function 44 -/
@[reducible] def parse_reader_now_d : Desc := ⟨[(0, .pt 0 0)], [.box true 67 [.d (.sl ty36), .d (.int .i64)]]⟩
def parse_reader_now_Fi (n : Nat) (a0 : (List ty36.D)) (a1 : Int) (k0 : ty36.D → (List ty36.D) → Int → Option R) : Option R :=
  if (0 : Int) ≤ a1 ∧ a1 < (a0.length : Int) then (k0 ((a0.getD (Int.toNat a1) (Ty.z ty36)).1, (a0.getD (Int.toNat a1) (Ty.z ty36)).2.1, ((a0.getD (Int.toNat a1) (Ty.z ty36)).2.2.1), (a0.getD (Int.toNat a1) (Ty.z ty36)).2.2.2.1, ()) a0 a1) else none
def parse_reader_now_F {R : Type} := lazyN (@parse_reader_now_Fi R)
theorem parse_reader_now_e : @parse_reader_now_F R = @parse_reader_now_Fi R := lazyN_eq _
def parse_reader_now_g (n : Nat) : Gx R := typed 1 parse_reader_now_d fun x k => parse_reader_now_F n x.1 x.2.1 (fun y0 y1 y2 => k (.a (encA ty36 y0)) [(.box true 67 [(.fz ty36 y1), (.i .i64 y2)])])
def parse_reader_now_cs (R : Type) (n : Nat) : List (Nat × Gx R) := []
def parse_reader_now_cx (R : Type) (n : Nat) : Cx R := ⟨Tryd.prog, Gof (parse_reader_now_cs R n), noDs, noDx, noLp, drawP Tryd.prog (Gof (parse_reader_now_cs R n)), false, noJn, noFz⟩
theorem parse_reader_now_ok [Esc R] (n : Nat) : Good Tryd.prog 44 (parse_reader_now_g (R := R) n) := by
  unfold parse_reader_now_g
  rw [parse_reader_now_e]
  exact Good.fn (f := 44) (cx := parse_reader_now_cx R n) (by kernel_rfl) (AllGood.nil) rfl Tryd.func44 (by kernel_rfl) rfl trivial 1 parse_reader_now_d (by kernel_rfl) (fun x k => by kernel_rfl)
end
end Go.Proofs.YtnnbinmomendnaaDoor.E
set_option linter.unusedVariables false
set_option maxRecDepth 100000
namespace Go.Proofs.YtnnbinmomendnaaDoor.E
open Go.Proofs
noncomputable section
variable {R : Type}
/-! (*verderer/parse.reader).is: function 69 -/
@[reducible] def parse_reader_is_d : Desc := ⟨[(0, .pt 0 0), (1, .d .str)], [.box true 67 [.d (.sl ty36), .d (.int .i64)]]⟩
def parse_reader_is_Fi (n : Nat) (a0 : ByteArray) (a1 : (List ty36.D)) (a2 : Int) (k0 : Bool → (List ty36.D) → Int → Option R) : Option R :=
  parse_reader_now_F n a1 a2 (fun y1 y2 y3 => if (y1.1 == 1) = true then (k0 (y1.2.1.toList == a0.toList) y2 y3) else (if (y1.1 == 3) = true then (k0 (y1.2.1.toList == a0.toList) y2 y3) else (k0 false y2 y3)))
def parse_reader_is_F {R : Type} := lazyN (@parse_reader_is_Fi R)
theorem parse_reader_is_e : @parse_reader_is_F R = @parse_reader_is_Fi R := lazyN_eq _
def parse_reader_is_g (n : Nat) : Gx R := typed 2 parse_reader_is_d fun x k => parse_reader_is_F n x.1 x.2.1 x.2.2.1 (fun y0 y1 y2 => k (.a (.c (.b y0))) [(.box true 67 [(.fz ty36 y1), (.i .i64 y2)])])
def parse_reader_is_cs (R : Type) (n : Nat) : List (Nat × Gx R) := [(44, parse_reader_now_g n)]
def parse_reader_is_cx (R : Type) (n : Nat) : Cx R := ⟨Tryd.prog, Gof (parse_reader_is_cs R n), noDs, noDx, noLp, drawP Tryd.prog (Gof (parse_reader_is_cs R n)), false, noJn, noFz⟩
theorem parse_reader_is_ok [Esc R] (n : Nat) : Good Tryd.prog 69 (parse_reader_is_g (R := R) n) := by
  unfold parse_reader_is_g
  rw [parse_reader_is_e]
  exact Good.fn (f := 69) (cx := parse_reader_is_cx R n) (by kernel_rfl) (AllGood.cons (parse_reader_now_ok n) (AllGood.nil)) rfl Tryd.func69 (by kernel_rfl) rfl trivial 2 parse_reader_is_d (by kernel_rfl) (fun x k => by kernel_rfl)
end
end Go.Proofs.YtnnbinmomendnaaDoor.E
set_option linter.unusedVariables false
set_option maxRecDepth 100000
namespace Go.Proofs.YtnnbinmomendnaaDoor.E
open Go.Proofs
noncomputable section
variable {R : Type}
/-! (*verderer/parse.reader).step: function 45 -/
@[reducible] def parse_reader_step_d : Desc := ⟨[(0, .pt 0 0)], [.box true 67 [.d (.sl ty36), .d (.int .i64)]]⟩
def parse_reader_step_Fi (n : Nat) (a0 : (List ty36.D)) (a1 : Int) (k0 : ty36.D → (List ty36.D) → Int → Option R) : Option R :=
  parse_reader_now_F n a0 a1 (fun y1 y2 y3 => if (y1.1 != 4) = true then (k0 y1 y2 (IntKind.i64.wrap (y3 + 1))) else (k0 y1 y2 y3))
def parse_reader_step_F {R : Type} := lazyN (@parse_reader_step_Fi R)
theorem parse_reader_step_e : @parse_reader_step_F R = @parse_reader_step_Fi R := lazyN_eq _
def parse_reader_step_g (n : Nat) : Gx R := typed 1 parse_reader_step_d fun x k => parse_reader_step_F n x.1 x.2.1 (fun y0 y1 y2 => k (.a (encA ty36 y0)) [(.box true 67 [(.fz ty36 y1), (.i .i64 y2)])])
def parse_reader_step_cs (R : Type) (n : Nat) : List (Nat × Gx R) := [(44, parse_reader_now_g n)]
def parse_reader_step_cx (R : Type) (n : Nat) : Cx R := ⟨Tryd.prog, Gof (parse_reader_step_cs R n), noDs, noDx, noLp, drawP Tryd.prog (Gof (parse_reader_step_cs R n)), false, noJn, noFz⟩
theorem parse_reader_step_ok [Esc R] (n : Nat) : Good Tryd.prog 45 (parse_reader_step_g (R := R) n) := by
  unfold parse_reader_step_g
  rw [parse_reader_step_e]
  exact Good.fn (f := 45) (cx := parse_reader_step_cx R n) (by kernel_rfl) (AllGood.cons (parse_reader_now_ok n) (AllGood.nil)) rfl Tryd.func45 (by kernel_rfl) rfl trivial 1 parse_reader_step_d (by kernel_rfl) (fun x k => by kernel_rfl)
end
end Go.Proofs.YtnnbinmomendnaaDoor.E
set_option linter.unusedVariables false
set_option maxRecDepth 100000
namespace Go.Proofs.YtnnbinmomendnaaDoor.E
open Go.Proofs
noncomputable section
variable {R : Type}
/-! (*verderer/parse.reader).take: function 56 -/
@[reducible] def parse_reader_take_d : Desc := ⟨[(0, .pt 0 0), (1, .d .str)], [.box true 67 [.d (.sl ty36), .d (.int .i64)]]⟩
def parse_reader_take_Fi (n : Nat) (a0 : ByteArray) (a1 : (List ty36.D)) (a2 : Int) (k0 : Bool → (List ty36.D) → Int → Option R) : Option R :=
  parse_reader_is_F n a0 a1 a2 (fun y1 y2 y3 => if y1 = true then (parse_reader_step_F n y2 y3 (fun y4 y5 y6 => k0 y1 y5 y6)) else (k0 y1 y2 y3))
def parse_reader_take_F {R : Type} := lazyN (@parse_reader_take_Fi R)
theorem parse_reader_take_e : @parse_reader_take_F R = @parse_reader_take_Fi R := lazyN_eq _
def parse_reader_take_g (n : Nat) : Gx R := typed 2 parse_reader_take_d fun x k => parse_reader_take_F n x.1 x.2.1 x.2.2.1 (fun y0 y1 y2 => k (.a (.c (.b y0))) [(.box true 67 [(.fz ty36 y1), (.i .i64 y2)])])
def parse_reader_take_cs (R : Type) (n : Nat) : List (Nat × Gx R) := [(45, parse_reader_step_g n), (69, parse_reader_is_g n)]
def parse_reader_take_cx (R : Type) (n : Nat) : Cx R := ⟨Tryd.prog, Gof (parse_reader_take_cs R n), noDs, noDx, noLp, drawP Tryd.prog (Gof (parse_reader_take_cs R n)), false, noJn, noFz⟩
theorem parse_reader_take_ok [Esc R] (n : Nat) : Good Tryd.prog 56 (parse_reader_take_g (R := R) n) := by
  unfold parse_reader_take_g
  rw [parse_reader_take_e]
  exact Good.fn (f := 56) (cx := parse_reader_take_cx R n) (by kernel_rfl) (AllGood.cons (parse_reader_step_ok n) (AllGood.cons (parse_reader_is_ok n) (AllGood.nil))) rfl Tryd.func56 (by kernel_rfl) rfl trivial 2 parse_reader_take_d (by kernel_rfl) (fun x k => by kernel_rfl)
end
end Go.Proofs.YtnnbinmomendnaaDoor.E
set_option linter.unusedVariables false
set_option maxRecDepth 100000
namespace Go.Proofs.YtnnbinmomendnaaDoor.E
open Go.Proofs
noncomputable section
variable {R : Type}
/-! (*verderer/parse.reader).must: function 43 -/
@[reducible] def parse_reader_must_d : Desc := ⟨[(0, .pt 0 0), (1, .d .bool), (2, .d (.int .i64))], [.box true 67 [.d (.sl ty36), .d (.int .i64)]]⟩
noncomputable def parse_reader_must_Fi [Esc R] (n : Nat) (a0 : Bool) (a1 : Int) (a2 : (List ty36.D)) (a3 : Int) (k0 : (List ty36.D) → Int → Option R) : Option R :=
  if (!a0) = true then (parse_reader_now_F n a2 a3 (fun y1 y2 y3 => Esc.esc (.iface 63 (.agg #[.int .i64 a1, .int .i64 y1.2.2.2.1])))) else (k0 a2 a3)
noncomputable def parse_reader_must_F {R : Type} [i : Esc R] := lazyN (@parse_reader_must_Fi R i)
theorem parse_reader_must_e [i : Esc R] : @parse_reader_must_F R i = @parse_reader_must_Fi R i := lazyN_eq _
noncomputable def parse_reader_must_g [Esc R] (n : Nat) : Gx R := typed 3 parse_reader_must_d fun x k => parse_reader_must_F n x.1 x.2.1 x.2.2.1 x.2.2.2.1 (fun y0 y1 => k (.tu []) [(.box true 67 [(.fz ty36 y0), (.i .i64 y1)])])
noncomputable def parse_reader_must_cs (R : Type) [Esc R] (n : Nat) : List (Nat × Gx R) := [(panF, escG), (44, parse_reader_now_g n)]
noncomputable def parse_reader_must_cx (R : Type) [Esc R] (n : Nat) : Cx R := ⟨Tryd.prog, Gof (parse_reader_must_cs R n), noDs, noDx, noLp, drawP Tryd.prog (Gof (parse_reader_must_cs R n)), false, noJn, noFz⟩
theorem parse_reader_must_ok [Esc R] (n : Nat) : Good Tryd.prog 43 (parse_reader_must_g (R := R) n) := by
  unfold parse_reader_must_g
  rw [parse_reader_must_e]
  exact Good.fn (f := 43) (cx := parse_reader_must_cx R n) (by kernel_rfl) (AllGood.esc (AllGood.cons (parse_reader_now_ok n) (AllGood.nil))) rfl Tryd.func43 (by kernel_rfl) rfl trivial 3 parse_reader_must_d (by kernel_rfl) (fun x k => by kernel_rfl)
end
end Go.Proofs.YtnnbinmomendnaaDoor.E
set_option linter.unusedVariables false
set_option maxRecDepth 100000
namespace Go.Proofs.YtnnbinmomendnaaDoor.E
open Go.Proofs
noncomputable section
variable {R : Type}
/-! (*verderer/parse.reader).kind: function 39 -/
def parse_reader_kind_ds : Nat → Desc
  | 2 => ⟨[(0, .pt 0 0), (5, .ow 1), (6, .d (.int .i64)), (7, .d (.int .i64))], [.box true 67 [.d (.sl ty36), .d (.int .i64)], .arr 9 .str]⟩
  | _ => ⟨[], []⟩
def parse_reader_kind_dx : Nat → List (X × Desc)
  | 2 => [(.r, ⟨[(2, .d (.int .i64))], [.box true 67 [.d (.sl ty36), .d (.int .i64)]]⟩), (.e 0, ⟨[(0, .pt 0 0)], [.box true 67 [.d (.sl ty36), .d (.int .i64)]]⟩)]
  | _ => []
noncomputable def parse_reader_kind_s2 [Esc R] (n : Nat) (x0 : Int) (x1 : Int) (x2 : (List ty36.D)) (x3 : Int) (x4 : (List ByteArray)) (k1 : Int → Int → (List ty36.D) → Int → (List ByteArray) → Option R) (qr : Int → (List ty36.D) → Int → Option R) (qe0 : (List ty36.D) → Int → Option R) : Option R :=
  if (decide (x1 < x0)) = true then (if (0 : Int) ≤ x1 ∧ x1 < (x4.length : Int) then (if (Int.toNat x1) < x4.length then (parse_reader_take_F n (x4.getD (Int.toNat x1) (Ty.z .str)) x2 x3 (fun y1 y2 y3 => if y1 = true then (qr (IntKind.i64.wrap (1 + x1)) y2 y3) else (k1 x0 (IntKind.i64.wrap (x1 + 1)) y2 y3 x4))) else none) else none) else (qe0 x2 x3)
noncomputable def parse_reader_kind_l2 [Esc R] (n : Nat) (a : (parse_reader_kind_ds 2).D) (k1 : (parse_reader_kind_ds 2).D → Option R) (k2 : exK R (parse_reader_kind_dx 2)) : Option R :=
  parse_reader_kind_s2 n a.1 a.2.1 a.2.2.1 a.2.2.2.1 a.2.2.2.2.1 (fun x0 x1 x2 x3 x4 => k1 (x0, x1, x2, x3, x4, ())) (fun x0 x1 x2 => k2.1 (x0, x1, x2, ())) (fun x0 x1 => k2.2.1 (x0, x1, ()))
@[reducible] def parse_reader_kind_d : Desc := ⟨[(0, .pt 0 0)], [.box true 67 [.d (.sl ty36), .d (.int .i64)]]⟩
noncomputable def parse_reader_kind_Fi [Esc R] (n : Nat) (a0 : (List ty36.D)) (a1 : Int) (k0 : Int → (List ty36.D) → Int → Option R) : Option R :=
  runC (parse_reader_kind_l2 n) n (([(⟨#[100, 101, 110, 121]⟩ : ByteArray), (⟨#[118, 105, 101, 119]⟩ : ByteArray), (⟨#[113, 117, 111, 116, 97]⟩ : ByteArray)].length : Int), 0, a0, a1, [(⟨#[100, 101, 110, 121]⟩ : ByteArray), (⟨#[118, 105, 101, 119]⟩ : ByteArray), (⟨#[113, 117, 111, 116, 97]⟩ : ByteArray)], ()) (fun b6 => k0 b6.1 b6.2.1 b6.2.2.1, fun b8 => parse_reader_must_F n false 7 b8.1 b8.2.1 (fun y9 y10 => k0 0 y9 y10), ())
noncomputable def parse_reader_kind_F {R : Type} [i : Esc R] := lazyN (@parse_reader_kind_Fi R i)
theorem parse_reader_kind_e [i : Esc R] : @parse_reader_kind_F R i = @parse_reader_kind_Fi R i := lazyN_eq _
noncomputable def parse_reader_kind_g [Esc R] (n : Nat) : Gx R := typed 1 parse_reader_kind_d fun x k => parse_reader_kind_F n x.1 x.2.1 (fun y0 y1 y2 => k (.a (.c (.i .i64 y0))) [(.box true 67 [(.fz ty36 y1), (.i .i64 y2)])])
noncomputable def parse_reader_kind_cs (R : Type) [Esc R] (n : Nat) : List (Nat × Gx R) := [(panF, escG), (43, parse_reader_must_g n), (56, parse_reader_take_g n)]
noncomputable def parse_reader_kind_lp [Esc R] (n : Nat) : (i : Nat) → (parse_reader_kind_ds i).D → exK R (parse_reader_kind_dx i) → Option R
  | 2, a, k => runC (parse_reader_kind_l2 n) n a k
  | _, _, _ => none
noncomputable def parse_reader_kind_cx (R : Type) [Esc R] (n : Nat) : Cx R := ⟨Tryd.prog, Gof (parse_reader_kind_cs R n), parse_reader_kind_ds, parse_reader_kind_dx, parse_reader_kind_lp n, drawP Tryd.prog (Gof (parse_reader_kind_cs R n)), false, noJn, noFz⟩
theorem parse_reader_kind_ok [Esc R] (n : Nat) : Good Tryd.prog 39 (parse_reader_kind_g (R := R) n) := by
  unfold parse_reader_kind_g
  rw [parse_reader_kind_e]
  exact Good.fn (f := 39) (cx := parse_reader_kind_cx R n) (by kernel_rfl) (AllGood.esc (AllGood.cons (parse_reader_must_ok n) (AllGood.cons (parse_reader_take_ok n) (AllGood.nil)))) rfl Tryd.func39 (by kernel_rfl) rfl (by
    have e : fnLoops noJn Tryd.f39 = [((fnLoops noJn Tryd.f39)[0]?).getD (false, .skip)] := by kernel_rfl
    show LoopRuns _ _ (fnLoops noJn _)
    rw [e]
    exact ⟨LoopRun.loop (by kernel_rfl) (i := 2) (m := n) (step := parse_reader_kind_l2 n) (by kernel_rfl) (fun a k1 k2 => by kernel_rfl) (fun _ _ => rfl), trivial⟩) 1 parse_reader_kind_d (by kernel_rfl) (fun x k => by kernel_rfl)
end
end Go.Proofs.YtnnbinmomendnaaDoor.E
set_option linter.unusedVariables false
set_option maxRecDepth 100000
namespace Go.Proofs.YtnnbinmomendnaaDoor.E
open Go.Proofs
noncomputable section
variable {R : Type}
/-! (*verderer/parse.reader).named: function 57 -/
@[reducible] def parse_reader_named_d : Desc := ⟨[(0, .pt 0 0)], [.box true 67 [.d (.sl ty36), .d (.int .i64)]]⟩
def parse_reader_named_Fi (n : Nat) (a0 : (List ty36.D)) (a1 : Int) (k0 : Bool → (List ty36.D) → Int → Option R) : Option R :=
  parse_reader_now_F n a0 a1 (fun y1 y2 y3 => if (y1.1 == 1) = true then (schema_Name_F n y1.2.1 (fun y4 => if y4 = true then (lex_Reserved_F n y1.2.1 (fun y5 => k0 (!y5) y2 y3)) else (k0 false y2 y3))) else (k0 false y2 y3))
def parse_reader_named_F {R : Type} := lazyN (@parse_reader_named_Fi R)
theorem parse_reader_named_e : @parse_reader_named_F R = @parse_reader_named_Fi R := lazyN_eq _
def parse_reader_named_g (n : Nat) : Gx R := typed 1 parse_reader_named_d fun x k => parse_reader_named_F n x.1 x.2.1 (fun y0 y1 y2 => k (.a (.c (.b y0))) [(.box true 67 [(.fz ty36 y1), (.i .i64 y2)])])
def parse_reader_named_cs (R : Type) (n : Nat) : List (Nat × Gx R) := [(12, lex_Reserved_g n), (44, parse_reader_now_g n), (70, schema_Name_g n)]
def parse_reader_named_cx (R : Type) (n : Nat) : Cx R := ⟨Tryd.prog, Gof (parse_reader_named_cs R n), noDs, noDx, noLp, drawP Tryd.prog (Gof (parse_reader_named_cs R n)), false, noJn, noFz⟩
theorem parse_reader_named_ok [Esc R] (n : Nat) : Good Tryd.prog 57 (parse_reader_named_g (R := R) n) := by
  unfold parse_reader_named_g
  rw [parse_reader_named_e]
  exact Good.fn (f := 57) (cx := parse_reader_named_cx R n) (by kernel_rfl) (AllGood.cons (lex_Reserved_ok n) (AllGood.cons (parse_reader_now_ok n) (AllGood.cons (schema_Name_ok n) (AllGood.nil)))) rfl Tryd.func57 (by kernel_rfl) rfl trivial 1 parse_reader_named_d (by kernel_rfl) (fun x k => by kernel_rfl)
end
end Go.Proofs.YtnnbinmomendnaaDoor.E
set_option linter.unusedVariables false
set_option maxRecDepth 100000
namespace Go.Proofs.YtnnbinmomendnaaDoor.E
open Go.Proofs
noncomputable section
variable {R : Type}
/-! (*verderer/parse.reader).name: function 40 -/
@[reducible] def parse_reader_name_d : Desc := ⟨[(0, .pt 0 0)], [.box true 67 [.d (.sl ty36), .d (.int .i64)]]⟩
noncomputable def parse_reader_name_Fi [Esc R] (n : Nat) (a0 : (List ty36.D)) (a1 : Int) (k0 : ByteArray → (List ty36.D) → Int → Option R) : Option R :=
  parse_reader_named_F n a0 a1 (fun y1 y2 y3 => parse_reader_must_F n y1 7 y2 y3 (fun y4 y5 => parse_reader_step_F n y4 y5 (fun y6 y7 y8 => k0 y6.2.1 y7 y8)))
noncomputable def parse_reader_name_F {R : Type} [i : Esc R] := lazyN (@parse_reader_name_Fi R i)
theorem parse_reader_name_e [i : Esc R] : @parse_reader_name_F R i = @parse_reader_name_Fi R i := lazyN_eq _
noncomputable def parse_reader_name_g [Esc R] (n : Nat) : Gx R := typed 1 parse_reader_name_d fun x k => parse_reader_name_F n x.1 x.2.1 (fun y0 y1 y2 => k (.a (.c (.s y0))) [(.box true 67 [(.fz ty36 y1), (.i .i64 y2)])])
noncomputable def parse_reader_name_cs (R : Type) [Esc R] (n : Nat) : List (Nat × Gx R) := [(panF, escG), (43, parse_reader_must_g n), (45, parse_reader_step_g n), (57, parse_reader_named_g n)]
noncomputable def parse_reader_name_cx (R : Type) [Esc R] (n : Nat) : Cx R := ⟨Tryd.prog, Gof (parse_reader_name_cs R n), noDs, noDx, noLp, drawP Tryd.prog (Gof (parse_reader_name_cs R n)), false, noJn, noFz⟩
theorem parse_reader_name_ok [Esc R] (n : Nat) : Good Tryd.prog 40 (parse_reader_name_g (R := R) n) := by
  unfold parse_reader_name_g
  rw [parse_reader_name_e]
  exact Good.fn (f := 40) (cx := parse_reader_name_cx R n) (by kernel_rfl) (AllGood.esc (AllGood.cons (parse_reader_must_ok n) (AllGood.cons (parse_reader_step_ok n) (AllGood.cons (parse_reader_named_ok n) (AllGood.nil))))) rfl Tryd.func40 (by kernel_rfl) rfl trivial 1 parse_reader_name_d (by kernel_rfl) (fun x k => by kernel_rfl)
end
end Go.Proofs.YtnnbinmomendnaaDoor.E
set_option linter.unusedVariables false
set_option maxRecDepth 100000
namespace Go.Proofs.YtnnbinmomendnaaDoor.E
open Go.Proofs
noncomputable section
variable {R : Type}
/-! (*verderer/parse.reader).want: function 41 -/
@[reducible] def parse_reader_want_d : Desc := ⟨[(0, .pt 0 0), (1, .d .str)], [.box true 67 [.d (.sl ty36), .d (.int .i64)]]⟩
noncomputable def parse_reader_want_Fi [Esc R] (n : Nat) (a0 : ByteArray) (a1 : (List ty36.D)) (a2 : Int) (k0 : (List ty36.D) → Int → Option R) : Option R :=
  parse_reader_take_F n a0 a1 a2 (fun y1 y2 y3 => parse_reader_must_F n y1 7 y2 y3 (fun y4 y5 => k0 y4 y5))
noncomputable def parse_reader_want_F {R : Type} [i : Esc R] := lazyN (@parse_reader_want_Fi R i)
theorem parse_reader_want_e [i : Esc R] : @parse_reader_want_F R i = @parse_reader_want_Fi R i := lazyN_eq _
noncomputable def parse_reader_want_g [Esc R] (n : Nat) : Gx R := typed 2 parse_reader_want_d fun x k => parse_reader_want_F n x.1 x.2.1 x.2.2.1 (fun y0 y1 => k (.tu []) [(.box true 67 [(.fz ty36 y0), (.i .i64 y1)])])
noncomputable def parse_reader_want_cs (R : Type) [Esc R] (n : Nat) : List (Nat × Gx R) := [(panF, escG), (43, parse_reader_must_g n), (56, parse_reader_take_g n)]
noncomputable def parse_reader_want_cx (R : Type) [Esc R] (n : Nat) : Cx R := ⟨Tryd.prog, Gof (parse_reader_want_cs R n), noDs, noDx, noLp, drawP Tryd.prog (Gof (parse_reader_want_cs R n)), false, noJn, noFz⟩
theorem parse_reader_want_ok [Esc R] (n : Nat) : Good Tryd.prog 41 (parse_reader_want_g (R := R) n) := by
  unfold parse_reader_want_g
  rw [parse_reader_want_e]
  exact Good.fn (f := 41) (cx := parse_reader_want_cx R n) (by kernel_rfl) (AllGood.esc (AllGood.cons (parse_reader_must_ok n) (AllGood.cons (parse_reader_take_ok n) (AllGood.nil)))) rfl Tryd.func41 (by kernel_rfl) rfl trivial 2 parse_reader_want_d (by kernel_rfl) (fun x k => by kernel_rfl)
end
end Go.Proofs.YtnnbinmomendnaaDoor.E
set_option linter.unusedVariables false
set_option maxRecDepth 100000
namespace Go.Proofs.YtnnbinmomendnaaDoor.E
open Go.Proofs
noncomputable section
variable {R : Type}
/-! (*verderer/parse.reader).agg: function 58 -/
@[reducible] def parse_reader_agg_d : Desc := ⟨[(0, .pt 0 0), (1, .pt 1 0)], [.box true 67 [.d (.sl ty36), .d (.int .i64)], .box true 44 [.d (.int .i64), .d .str, .ow 2, .d (.int .i64), .d .str, .d (.int .i64), .ow 3], .arr 9 .str, .arr 61 ty61]⟩
noncomputable def parse_reader_agg_Fi [Esc R] (n : Nat) (a0 : (List ty36.D)) (a1 : Int) (a2 : Int) (a3 : ByteArray) (a4 : Int) (a5 : ByteArray) (a6 : Int) (a7 : (List ByteArray)) (a8 : (List ty61.D)) (k0 : Bool → (List ty36.D) → Int → Int → ByteArray → Int → ByteArray → Int → (List ByteArray) → (List ty61.D) → Option R) : Option R :=
  parse_reader_now_F n a0 a1 (fun y1 y2 y3 => slices_Index_38_F n [(⟨#[99, 111, 117, 110, 116]⟩ : ByteArray), (⟨#[115, 117, 109]⟩ : ByteArray), (⟨#[108, 101, 97, 115, 116]⟩ : ByteArray), (⟨#[109, 111, 115, 116]⟩ : ByteArray)] y1.2.1 (fun y4 => parse_reader_now_F n y2 y3 (fun y5 y6 y7 => if (y5.1 != 1) = true then (k0 false y6 y7 a2 a3 a4 a5 a6 a7 a8) else (if (decide ((IntKind.i64.wrap (y4 + 1)) < 1)) = true then (k0 false y6 y7 a2 a3 a4 a5 a6 a7 a8) else (if (a2 == 2) = true then (parse_reader_must_F n true 7 y6 y7 (fun y8 y9 => parse_reader_step_F n y8 y9 (fun y10 y11 y12 => if ((IntKind.i64.wrap (y4 + 1)) != 1) = true then (parse_reader_name_F n y11 y12 (fun y13 y14 y15 => k0 true y14 y15 a2 a3 (IntKind.i64.wrap (y4 + 1)) y13 a6 a7 a8)) else (k0 true y11 y12 a2 a3 (IntKind.i64.wrap (y4 + 1)) a5 a6 a7 a8)))) else (if (a2 == 3) = true then (parse_reader_must_F n (decide ((IntKind.i64.wrap (y4 + 1)) ≤ 2)) 7 y6 y7 (fun y16 y17 => parse_reader_step_F n y16 y17 (fun y18 y19 y20 => if ((IntKind.i64.wrap (y4 + 1)) != 1) = true then (parse_reader_name_F n y19 y20 (fun y21 y22 y23 => k0 true y22 y23 a2 a3 (IntKind.i64.wrap (y4 + 1)) y21 a6 a7 a8)) else (k0 true y19 y20 a2 a3 (IntKind.i64.wrap (y4 + 1)) a5 a6 a7 a8)))) else (parse_reader_must_F n false 7 y6 y7 (fun y24 y25 => parse_reader_step_F n y24 y25 (fun y26 y27 y28 => if ((IntKind.i64.wrap (y4 + 1)) != 1) = true then (parse_reader_name_F n y27 y28 (fun y29 y30 y31 => k0 true y30 y31 a2 a3 (IntKind.i64.wrap (y4 + 1)) y29 a6 a7 a8)) else (k0 true y27 y28 a2 a3 (IntKind.i64.wrap (y4 + 1)) a5 a6 a7 a8))))))))))
noncomputable def parse_reader_agg_F {R : Type} [i : Esc R] := lazyN (@parse_reader_agg_Fi R i)
theorem parse_reader_agg_e [i : Esc R] : @parse_reader_agg_F R i = @parse_reader_agg_Fi R i := lazyN_eq _
noncomputable def parse_reader_agg_g [Esc R] (n : Nat) : Gx R := typed 2 parse_reader_agg_d fun x k => parse_reader_agg_F n x.1 x.2.1 x.2.2.1 x.2.2.2.1 x.2.2.2.2.1 x.2.2.2.2.2.1 x.2.2.2.2.2.2.1 x.2.2.2.2.2.2.2.1 x.2.2.2.2.2.2.2.2.1 (fun y0 y1 y2 y3 y4 y5 y6 y7 y8 y9 => k (.a (.c (.b y0))) [(.box true 67 [(.fz ty36 y1), (.i .i64 y2)]), (.box true 44 [(.i .i64 y3), (.s y4), (.ow 2), (.i .i64 y5), (.s y6), (.i .i64 y7), (.ow 3)]), (.arr 9 .str y8), (.arr 61 ty61 y9)])
noncomputable def parse_reader_agg_cs (R : Type) [Esc R] (n : Nat) : List (Nat × Gx R) := [(panF, escG), (38, slices_Index_38_g n), (40, parse_reader_name_g n), (43, parse_reader_must_g n), (44, parse_reader_now_g n), (45, parse_reader_step_g n)]
noncomputable def parse_reader_agg_cx (R : Type) [Esc R] (n : Nat) : Cx R := ⟨Tryd.prog, Gof (parse_reader_agg_cs R n), noDs, noDx, noLp, drawP Tryd.prog (Gof (parse_reader_agg_cs R n)), false, noJn, noFz⟩
theorem parse_reader_agg_ok [Esc R] (n : Nat) : Good Tryd.prog 58 (parse_reader_agg_g (R := R) n) := by
  unfold parse_reader_agg_g
  rw [parse_reader_agg_e]
  exact Good.fn (f := 58) (cx := parse_reader_agg_cx R n) (by kernel_rfl) (AllGood.esc (AllGood.cons (slices_Index_38_ok n) (AllGood.cons (parse_reader_name_ok n) (AllGood.cons (parse_reader_must_ok n) (AllGood.cons (parse_reader_now_ok n) (AllGood.cons (parse_reader_step_ok n) (AllGood.nil))))))) rfl Tryd.func58 (by kernel_rfl) rfl trivial 2 parse_reader_agg_d (by kernel_rfl) (fun x k => by kernel_rfl)
end
end Go.Proofs.YtnnbinmomendnaaDoor.E
set_option linter.unusedVariables false
set_option maxRecDepth 100000
namespace Go.Proofs.YtnnbinmomendnaaDoor.E
open Go.Proofs
noncomputable section
variable {R : Type}
/-! (*verderer/parse.reader).head: function 42 -/
def parse_reader_head_ds : Nat → Desc
  | 4 => ⟨[(0, .pt 0 0), (1, .pt 1 0)], [.box true 67 [.d (.sl ty36), .d (.int .i64)], .box true 44 [.d (.int .i64), .d .str, .ow 2, .d (.int .i64), .d .str, .d (.int .i64), .ow 3], .arr 9 .str, .arr 61 ty61]⟩
  | _ => ⟨[], []⟩
def parse_reader_head_dx : Nat → List (X × Desc)
  | 4 => [(.r, ⟨[], [.box true 67 [.d (.sl ty36), .d (.int .i64)], .box true 44 [.d (.int .i64), .d .str, .ow 2, .d (.int .i64), .d .str, .d (.int .i64), .ow 3], .arr 9 .str, .arr 61 ty61]⟩), (.e 0, ⟨[], [.box true 67 [.d (.sl ty36), .d (.int .i64)], .box true 44 [.d (.int .i64), .d .str, .ow 2, .d (.int .i64), .d .str, .d (.int .i64), .ow 3], .arr 9 .str, .arr 61 ty61]⟩)]
  | _ => []
noncomputable def parse_reader_head_s4 [Esc R] (n : Nat) (x0 : (List ty36.D)) (x1 : Int) (x2 : Int) (x3 : ByteArray) (x4 : Int) (x5 : ByteArray) (x6 : Int) (x7 : (List ByteArray)) (x8 : (List ty61.D)) (k1 : (List ty36.D) → Int → Int → ByteArray → Int → ByteArray → Int → (List ByteArray) → (List ty61.D) → Option R) (qr : (List ty36.D) → Int → Int → ByteArray → Int → ByteArray → Int → (List ByteArray) → (List ty61.D) → Option R) (qe0 : (List ty36.D) → Int → Int → ByteArray → Int → ByteArray → Int → (List ByteArray) → (List ty61.D) → Option R) : Option R :=
  parse_reader_agg_F n x0 x1 x2 x3 x4 x5 x6 x7 x8 (fun y18 y19 y20 y21 y22 y23 y24 y25 y26 y27 => if (!y18) = true then (parse_reader_named_F n y19 y20 (fun y28 y29 y30 => if y28 = true then (parse_reader_must_F n (decide ((y26.length : Int) < 40)) 9 y29 y30 (fun y31 y32 => parse_reader_name_F n y31 y32 (fun y33 y34 y35 => if (List.length y26 + List.length [y33]) * 16 ≤ 140737488355328 then (parse_reader_take_F n (⟨#[44]⟩ : ByteArray) y34 y35 (fun y36 y37 y38 => if (!y36) = true then (qr y37 y38 y21 y22 y23 y24 y25 (y26 ++ [y33]) y27) else (k1 y37 y38 y21 y22 y23 y24 y25 (y26 ++ [y33]) y27))) else none))) else (parse_reader_name_F n y29 y30 (fun y39 y40 y41 => if (List.length y26 + List.length [y39]) * 16 ≤ 140737488355328 then (parse_reader_take_F n (⟨#[44]⟩ : ByteArray) y40 y41 (fun y42 y43 y44 => if (!y42) = true then (qr y43 y44 y21 y22 y23 y24 y25 (y26 ++ [y39]) y27) else (k1 y43 y44 y21 y22 y23 y24 y25 (y26 ++ [y39]) y27))) else none)))) else (qe0 y19 y20 y21 y22 y23 y24 y25 y26 y27))
noncomputable def parse_reader_head_l4 [Esc R] (n : Nat) (a : (parse_reader_head_ds 4).D) (k1 : (parse_reader_head_ds 4).D → Option R) (k2 : exK R (parse_reader_head_dx 4)) : Option R :=
  parse_reader_head_s4 n a.1 a.2.1 a.2.2.1 a.2.2.2.1 a.2.2.2.2.1 a.2.2.2.2.2.1 a.2.2.2.2.2.2.1 a.2.2.2.2.2.2.2.1 a.2.2.2.2.2.2.2.2.1 (fun x0 x1 x2 x3 x4 x5 x6 x7 x8 => k1 (x0, x1, x2, x3, x4, x5, x6, x7, x8, ())) (fun x0 x1 x2 x3 x4 x5 x6 x7 x8 => k2.1 (x0, x1, x2, x3, x4, x5, x6, x7, x8, ())) (fun x0 x1 x2 x3 x4 x5 x6 x7 x8 => k2.2.1 (x0, x1, x2, x3, x4, x5, x6, x7, x8, ()))
@[reducible] def parse_reader_head_d : Desc := ⟨[(0, .pt 0 0), (1, .pt 1 0)], [.box true 67 [.d (.sl ty36), .d (.int .i64)], .box true 44 [.d (.int .i64), .d .str, .ow 2, .d (.int .i64), .d .str, .d (.int .i64), .ow 3], .arr 9 .str, .arr 61 ty61]⟩
noncomputable def parse_reader_head_Fi [Esc R] (n : Nat) (a0 : (List ty36.D)) (a1 : Int) (a2 : Int) (a3 : ByteArray) (a4 : Int) (a5 : ByteArray) (a6 : Int) (a7 : (List ByteArray)) (a8 : (List ty61.D)) (k0 : (List ty36.D) → Int → Int → ByteArray → Int → ByteArray → Int → (List ByteArray) → (List ty61.D) → Option R) : Option R :=
  if (a2 == 3) = true then (parse_reader_name_F n a0 a1 (fun y1 y2 y3 => if (List.length a7 + List.length [y1]) * 16 ≤ 140737488355328 then (parse_reader_want_F n (⟨#[44]⟩ : ByteArray) y2 y3 (fun y4 y5 => parse_reader_agg_F n y4 y5 a2 a3 a4 a5 a6 (a7 ++ [y1]) a8 (fun y6 y7 y8 y9 y10 y11 y12 y13 y14 y15 => parse_reader_must_F n y6 7 y7 y8 (fun y16 y17 => k0 y16 y17 y9 y10 y11 y12 y13 y14 y15)))) else none)) else (runC (parse_reader_head_l4 n) n (a0, a1, a2, a3, a4, a5, a6, a7, a8, ()) (fun b53 => k0 b53.1 b53.2.1 b53.2.2.1 b53.2.2.2.1 b53.2.2.2.2.1 b53.2.2.2.2.2.1 b53.2.2.2.2.2.2.1 b53.2.2.2.2.2.2.2.1 b53.2.2.2.2.2.2.2.2.1, fun b62 => k0 b62.1 b62.2.1 b62.2.2.1 b62.2.2.2.1 b62.2.2.2.2.1 b62.2.2.2.2.2.1 b62.2.2.2.2.2.2.1 b62.2.2.2.2.2.2.2.1 b62.2.2.2.2.2.2.2.2.1, ()))
noncomputable def parse_reader_head_F {R : Type} [i : Esc R] := lazyN (@parse_reader_head_Fi R i)
theorem parse_reader_head_e [i : Esc R] : @parse_reader_head_F R i = @parse_reader_head_Fi R i := lazyN_eq _
noncomputable def parse_reader_head_g [Esc R] (n : Nat) : Gx R := typed 2 parse_reader_head_d fun x k => parse_reader_head_F n x.1 x.2.1 x.2.2.1 x.2.2.2.1 x.2.2.2.2.1 x.2.2.2.2.2.1 x.2.2.2.2.2.2.1 x.2.2.2.2.2.2.2.1 x.2.2.2.2.2.2.2.2.1 (fun y0 y1 y2 y3 y4 y5 y6 y7 y8 => k (.tu []) [(.box true 67 [(.fz ty36 y0), (.i .i64 y1)]), (.box true 44 [(.i .i64 y2), (.s y3), (.ow 2), (.i .i64 y4), (.s y5), (.i .i64 y6), (.ow 3)]), (.arr 9 .str y7), (.arr 61 ty61 y8)])
noncomputable def parse_reader_head_cs (R : Type) [Esc R] (n : Nat) : List (Nat × Gx R) := [(panF, escG), (40, parse_reader_name_g n), (41, parse_reader_want_g n), (43, parse_reader_must_g n), (56, parse_reader_take_g n), (57, parse_reader_named_g n), (58, parse_reader_agg_g n)]
noncomputable def parse_reader_head_lp [Esc R] (n : Nat) : (i : Nat) → (parse_reader_head_ds i).D → exK R (parse_reader_head_dx i) → Option R
  | 4, a, k => runC (parse_reader_head_l4 n) n a k
  | _, _, _ => none
noncomputable def parse_reader_head_cx (R : Type) [Esc R] (n : Nat) : Cx R := ⟨Tryd.prog, Gof (parse_reader_head_cs R n), parse_reader_head_ds, parse_reader_head_dx, parse_reader_head_lp n, drawP Tryd.prog (Gof (parse_reader_head_cs R n)), false, noJn, noFz⟩
theorem parse_reader_head_ok [Esc R] (n : Nat) : Good Tryd.prog 42 (parse_reader_head_g (R := R) n) := by
  unfold parse_reader_head_g
  rw [parse_reader_head_e]
  exact Good.fn (f := 42) (cx := parse_reader_head_cx R n) (by kernel_rfl) (AllGood.esc (AllGood.cons (parse_reader_name_ok n) (AllGood.cons (parse_reader_want_ok n) (AllGood.cons (parse_reader_must_ok n) (AllGood.cons (parse_reader_take_ok n) (AllGood.cons (parse_reader_named_ok n) (AllGood.cons (parse_reader_agg_ok n) (AllGood.nil)))))))) rfl Tryd.func42 (by kernel_rfl) rfl (by
    have e : fnLoops noJn Tryd.f42 = [((fnLoops noJn Tryd.f42)[0]?).getD (false, .skip)] := by kernel_rfl
    show LoopRuns _ _ (fnLoops noJn _)
    rw [e]
    exact ⟨LoopRun.loop (by kernel_rfl) (i := 4) (m := n) (step := parse_reader_head_l4 n) (by kernel_rfl) (fun a k1 k2 => by kernel_rfl) (fun _ _ => rfl), trivial⟩) 2 parse_reader_head_d (by kernel_rfl) (fun x k => by kernel_rfl)
end
end Go.Proofs.YtnnbinmomendnaaDoor.E
set_option linter.unusedVariables false
set_option maxRecDepth 100000
namespace Go.Proofs.YtnnbinmomendnaaDoor.E
open Go.Proofs
noncomputable section
variable {R : Type}
/-! (*verderer/parse.reader).begins: function 59 -/
@[reducible] def parse_reader_begins_d : Desc := ⟨[(0, .pt 0 0)], [.box true 67 [.d (.sl ty36), .d (.int .i64)]]⟩
def parse_reader_begins_Fi (n : Nat) (a0 : (List ty36.D)) (a1 : Int) (k0 : Bool → (List ty36.D) → Int → Option R) : Option R :=
  parse_reader_is_F n (⟨#[110, 111, 116]⟩ : ByteArray) a0 a1 (fun y1 y2 y3 => if y1 = true then (k0 true y2 y3) else (parse_reader_named_F n y2 y3 (fun y4 y5 y6 => if y4 = true then (k0 true y5 y6) else (parse_reader_now_F n y5 y6 (fun y7 y8 y9 => k0 (y7.1 == 2) y8 y9)))))
def parse_reader_begins_F {R : Type} := lazyN (@parse_reader_begins_Fi R)
theorem parse_reader_begins_e : @parse_reader_begins_F R = @parse_reader_begins_Fi R := lazyN_eq _
def parse_reader_begins_g (n : Nat) : Gx R := typed 1 parse_reader_begins_d fun x k => parse_reader_begins_F n x.1 x.2.1 (fun y0 y1 y2 => k (.a (.c (.b y0))) [(.box true 67 [(.fz ty36 y1), (.i .i64 y2)])])
def parse_reader_begins_cs (R : Type) (n : Nat) : List (Nat × Gx R) := [(44, parse_reader_now_g n), (57, parse_reader_named_g n), (69, parse_reader_is_g n)]
def parse_reader_begins_cx (R : Type) (n : Nat) : Cx R := ⟨Tryd.prog, Gof (parse_reader_begins_cs R n), noDs, noDx, noLp, drawP Tryd.prog (Gof (parse_reader_begins_cs R n)), false, noJn, noFz⟩
theorem parse_reader_begins_ok [Esc R] (n : Nat) : Good Tryd.prog 59 (parse_reader_begins_g (R := R) n) := by
  unfold parse_reader_begins_g
  rw [parse_reader_begins_e]
  exact Good.fn (f := 59) (cx := parse_reader_begins_cx R n) (by kernel_rfl) (AllGood.cons (parse_reader_now_ok n) (AllGood.cons (parse_reader_named_ok n) (AllGood.cons (parse_reader_is_ok n) (AllGood.nil)))) rfl Tryd.func59 (by kernel_rfl) rfl trivial 1 parse_reader_begins_d (by kernel_rfl) (fun x k => by kernel_rfl)
end
end Go.Proofs.YtnnbinmomendnaaDoor.E
set_option linter.unusedVariables false
set_option maxRecDepth 100000
namespace Go.Proofs.YtnnbinmomendnaaDoor.E
open Go.Proofs
noncomputable section
variable {R : Type}
/-! (*verderer/parse.reader).term: function 72 -/
@[reducible] def parse_reader_term_d : Desc := ⟨[(0, .pt 0 0)], [.box true 67 [.d (.sl ty36), .d (.int .i64)]]⟩
noncomputable def parse_reader_term_Fi [Esc R] (n : Nat) (a0 : (List ty36.D)) (a1 : Int) (k0 : ty58.D → (List ty36.D) → Int → Option R) : Option R :=
  parse_reader_now_F n a0 a1 (fun y1 y2 y3 => if (y1.1 == 2) = true then (parse_reader_step_F n y2 y3 (fun y4 y5 y6 => k0 ((⟨#[]⟩ : ByteArray), false, y4.2.2.1, ()) y5 y6)) else (parse_reader_name_F n y2 y3 (fun y7 y8 y9 => k0 (y7, false, (0, false, 0, (⟨#[]⟩ : ByteArray), ()), ()) y8 y9)))
noncomputable def parse_reader_term_F {R : Type} [i : Esc R] := lazyN (@parse_reader_term_Fi R i)
theorem parse_reader_term_e [i : Esc R] : @parse_reader_term_F R i = @parse_reader_term_Fi R i := lazyN_eq _
noncomputable def parse_reader_term_g [Esc R] (n : Nat) : Gx R := typed 1 parse_reader_term_d fun x k => parse_reader_term_F n x.1 x.2.1 (fun y0 y1 y2 => k (.a (encA ty58 y0)) [(.box true 67 [(.fz ty36 y1), (.i .i64 y2)])])
noncomputable def parse_reader_term_cs (R : Type) [Esc R] (n : Nat) : List (Nat × Gx R) := [(panF, escG), (40, parse_reader_name_g n), (44, parse_reader_now_g n), (45, parse_reader_step_g n)]
noncomputable def parse_reader_term_cx (R : Type) [Esc R] (n : Nat) : Cx R := ⟨Tryd.prog, Gof (parse_reader_term_cs R n), noDs, noDx, noLp, drawP Tryd.prog (Gof (parse_reader_term_cs R n)), false, noJn, noFz⟩
theorem parse_reader_term_ok [Esc R] (n : Nat) : Good Tryd.prog 72 (parse_reader_term_g (R := R) n) := by
  unfold parse_reader_term_g
  rw [parse_reader_term_e]
  exact Good.fn (f := 72) (cx := parse_reader_term_cx R n) (by kernel_rfl) (AllGood.esc (AllGood.cons (parse_reader_name_ok n) (AllGood.cons (parse_reader_now_ok n) (AllGood.cons (parse_reader_step_ok n) (AllGood.nil))))) rfl Tryd.func72 (by kernel_rfl) rfl trivial 1 parse_reader_term_d (by kernel_rfl) (fun x k => by kernel_rfl)
end
end Go.Proofs.YtnnbinmomendnaaDoor.E
set_option linter.unusedVariables false
set_option maxRecDepth 100000
namespace Go.Proofs.YtnnbinmomendnaaDoor.E
open Go.Proofs
noncomputable section
variable {R : Type}
/-! (*verderer/parse.reader).arg: function 89 -/
@[reducible] def parse_reader_arg_d : Desc := ⟨[(0, .pt 0 0), (1, .d (.int .i64))], [.box true 67 [.d (.sl ty36), .d (.int .i64)]]⟩
noncomputable def parse_reader_arg_Fi [Esc R] (n : Nat) (a0 : Int) (a1 : (List ty36.D)) (a2 : Int) (k0 : ty58.D → (List ty36.D) → Int → Option R) : Option R :=
  parse_reader_is_F n (⟨#[95]⟩ : ByteArray) a1 a2 (fun y1 y2 y3 => if y1 = true then (parse_reader_must_F n (decide (a0 < 40)) 9 y2 y3 (fun y4 y5 => parse_reader_take_F n (⟨#[95]⟩ : ByteArray) y4 y5 (fun y6 y7 y8 => if y6 = true then (k0 ((⟨#[]⟩ : ByteArray), true, (0, false, 0, (⟨#[]⟩ : ByteArray), ()), ()) y7 y8) else (parse_reader_term_F n y7 y8 (fun y9 y10 y11 => k0 y9 y10 y11))))) else (parse_reader_named_F n y2 y3 (fun y12 y13 y14 => if y12 = true then (parse_reader_must_F n (decide (a0 < 40)) 9 y13 y14 (fun y15 y16 => parse_reader_take_F n (⟨#[95]⟩ : ByteArray) y15 y16 (fun y17 y18 y19 => if y17 = true then (k0 ((⟨#[]⟩ : ByteArray), true, (0, false, 0, (⟨#[]⟩ : ByteArray), ()), ()) y18 y19) else (parse_reader_term_F n y18 y19 (fun y20 y21 y22 => k0 y20 y21 y22))))) else (parse_reader_now_F n y13 y14 (fun y23 y24 y25 => if (y23.1 == 2) = true then (parse_reader_must_F n (decide (a0 < 40)) 9 y24 y25 (fun y26 y27 => parse_reader_take_F n (⟨#[95]⟩ : ByteArray) y26 y27 (fun y28 y29 y30 => if y28 = true then (k0 ((⟨#[]⟩ : ByteArray), true, (0, false, 0, (⟨#[]⟩ : ByteArray), ()), ()) y29 y30) else (parse_reader_term_F n y29 y30 (fun y31 y32 y33 => k0 y31 y32 y33))))) else (parse_reader_take_F n (⟨#[95]⟩ : ByteArray) y24 y25 (fun y34 y35 y36 => if y34 = true then (k0 ((⟨#[]⟩ : ByteArray), true, (0, false, 0, (⟨#[]⟩ : ByteArray), ()), ()) y35 y36) else (parse_reader_term_F n y35 y36 (fun y37 y38 y39 => k0 y37 y38 y39)))))))))
noncomputable def parse_reader_arg_F {R : Type} [i : Esc R] := lazyN (@parse_reader_arg_Fi R i)
theorem parse_reader_arg_e [i : Esc R] : @parse_reader_arg_F R i = @parse_reader_arg_Fi R i := lazyN_eq _
noncomputable def parse_reader_arg_g [Esc R] (n : Nat) : Gx R := typed 2 parse_reader_arg_d fun x k => parse_reader_arg_F n x.1 x.2.1 x.2.2.1 (fun y0 y1 y2 => k (.a (encA ty58 y0)) [(.box true 67 [(.fz ty36 y1), (.i .i64 y2)])])
noncomputable def parse_reader_arg_cs (R : Type) [Esc R] (n : Nat) : List (Nat × Gx R) := [(panF, escG), (43, parse_reader_must_g n), (44, parse_reader_now_g n), (56, parse_reader_take_g n), (57, parse_reader_named_g n), (69, parse_reader_is_g n), (72, parse_reader_term_g n)]
noncomputable def parse_reader_arg_cx (R : Type) [Esc R] (n : Nat) : Cx R := ⟨Tryd.prog, Gof (parse_reader_arg_cs R n), noDs, noDx, noLp, drawP Tryd.prog (Gof (parse_reader_arg_cs R n)), false, noJn, noFz⟩
theorem parse_reader_arg_ok [Esc R] (n : Nat) : Good Tryd.prog 89 (parse_reader_arg_g (R := R) n) := by
  unfold parse_reader_arg_g
  rw [parse_reader_arg_e]
  exact Good.fn (f := 89) (cx := parse_reader_arg_cx R n) (by kernel_rfl) (AllGood.esc (AllGood.cons (parse_reader_must_ok n) (AllGood.cons (parse_reader_now_ok n) (AllGood.cons (parse_reader_take_ok n) (AllGood.cons (parse_reader_named_ok n) (AllGood.cons (parse_reader_is_ok n) (AllGood.cons (parse_reader_term_ok n) (AllGood.nil)))))))) rfl Tryd.func89 (by kernel_rfl) rfl trivial 2 parse_reader_arg_d (by kernel_rfl) (fun x k => by kernel_rfl)
end
end Go.Proofs.YtnnbinmomendnaaDoor.E
set_option linter.unusedVariables false
set_option maxRecDepth 100000
namespace Go.Proofs.YtnnbinmomendnaaDoor.E
open Go.Proofs
noncomputable section
variable {R : Type}
/-! (*verderer/parse.reader).args: function 78 -/
def parse_reader_args_ds : Nat → Desc
  | 4 => ⟨[(0, .pt 0 0), (3, .ow 2)], [.box true 67 [.d (.sl ty36), .d (.int .i64)], .no, .arr 58 ty58]⟩
  | _ => ⟨[], []⟩
def parse_reader_args_dx : Nat → List (X × Desc)
  | 4 => [(.e 0, ⟨[(0, .pt 0 0), (3, .ow 2)], [.box true 67 [.d (.sl ty36), .d (.int .i64)], .no, .arr 58 ty58]⟩)]
  | _ => []
noncomputable def parse_reader_args_s4 [Esc R] (n : Nat) (x0 : (List ty36.D)) (x1 : Int) (x2 : (List ty58.D)) (k1 : (List ty36.D) → Int → (List ty58.D) → Option R) (qe0 : (List ty36.D) → Int → (List ty58.D) → Option R) : Option R :=
  parse_reader_take_F n (⟨#[44]⟩ : ByteArray) x0 x1 (fun y7 y8 y9 => if y7 = true then (parse_reader_arg_F n (x2.length : Int) y8 y9 (fun y10 y11 y12 => if (List.length x2 + List.length [y10]) * 64 ≤ 140737488355328 then (k1 y11 y12 (x2 ++ [y10])) else none)) else (qe0 y8 y9 x2))
noncomputable def parse_reader_args_l4 [Esc R] (n : Nat) (a : (parse_reader_args_ds 4).D) (k1 : (parse_reader_args_ds 4).D → Option R) (k2 : exK R (parse_reader_args_dx 4)) : Option R :=
  parse_reader_args_s4 n a.1 a.2.1 a.2.2.1 (fun x0 x1 x2 => k1 (x0, x1, x2, ())) (fun x0 x1 x2 => k2.1 (x0, x1, x2, ()))
@[reducible] def parse_reader_args_d : Desc := ⟨[(0, .pt 0 0)], [.box true 67 [.d (.sl ty36), .d (.int .i64)]]⟩
noncomputable def parse_reader_args_Fi [Esc R] (n : Nat) (a0 : (List ty36.D)) (a1 : Int) (k0 : (List ty36.D) → Int → (List ty58.D) → Option R) : Option R :=
  parse_reader_take_F n (⟨#[41]⟩ : ByteArray) a0 a1 (fun y1 y2 y3 => if y1 = true then (k0 y2 y3 ([] : List ty58.D)) else (parse_reader_arg_F n 0 y2 y3 (fun y4 y5 y6 => runC (parse_reader_args_l4 n) n (y5, y6, [y4], ()) (fun b15 => parse_reader_want_F n (⟨#[41]⟩ : ByteArray) b15.1 b15.2.1 (fun y16 y17 => k0 y16 y17 b15.2.2.1), ()))))
noncomputable def parse_reader_args_F {R : Type} [i : Esc R] := lazyN (@parse_reader_args_Fi R i)
theorem parse_reader_args_e [i : Esc R] : @parse_reader_args_F R i = @parse_reader_args_Fi R i := lazyN_eq _
noncomputable def parse_reader_args_g [Esc R] (n : Nat) : Gx R := typed 1 parse_reader_args_d fun x k => parse_reader_args_F n x.1 x.2.1 (fun y0 y1 y2 => k (.a (.c (.ow 1))) [(.box true 67 [(.fz ty36 y0), (.i .i64 y1)]), (.arr 58 ty58 y2)])
noncomputable def parse_reader_args_cs (R : Type) [Esc R] (n : Nat) : List (Nat × Gx R) := [(panF, escG), (41, parse_reader_want_g n), (56, parse_reader_take_g n), (89, parse_reader_arg_g n)]
noncomputable def parse_reader_args_lp [Esc R] (n : Nat) : (i : Nat) → (parse_reader_args_ds i).D → exK R (parse_reader_args_dx i) → Option R
  | 4, a, k => runC (parse_reader_args_l4 n) n a k
  | _, _, _ => none
noncomputable def parse_reader_args_cx (R : Type) [Esc R] (n : Nat) : Cx R := ⟨Tryd.prog, Gof (parse_reader_args_cs R n), parse_reader_args_ds, parse_reader_args_dx, parse_reader_args_lp n, drawP Tryd.prog (Gof (parse_reader_args_cs R n)), false, noJn, noFz⟩
theorem parse_reader_args_ok [Esc R] (n : Nat) : Good Tryd.prog 78 (parse_reader_args_g (R := R) n) := by
  unfold parse_reader_args_g
  rw [parse_reader_args_e]
  exact Good.fn (f := 78) (cx := parse_reader_args_cx R n) (by kernel_rfl) (AllGood.esc (AllGood.cons (parse_reader_want_ok n) (AllGood.cons (parse_reader_take_ok n) (AllGood.cons (parse_reader_arg_ok n) (AllGood.nil))))) rfl Tryd.func78 (by kernel_rfl) rfl (by
    have e : fnLoops noJn Tryd.f78 = [((fnLoops noJn Tryd.f78)[0]?).getD (false, .skip)] := by kernel_rfl
    show LoopRuns _ _ (fnLoops noJn _)
    rw [e]
    exact ⟨LoopRun.loop (by kernel_rfl) (i := 4) (m := n) (step := parse_reader_args_l4 n) (by kernel_rfl) (fun a k1 k2 => by kernel_rfl) (fun _ _ => rfl), trivial⟩) 1 parse_reader_args_d (by kernel_rfl) (fun x k => by kernel_rfl)
end
end Go.Proofs.YtnnbinmomendnaaDoor.E
set_option linter.unusedVariables false
set_option maxRecDepth 100000
namespace Go.Proofs.YtnnbinmomendnaaDoor.E
open Go.Proofs
noncomputable section
variable {R : Type}
/-! (*verderer/parse.reader).atom: function 71 -/
@[reducible] def parse_reader_atom_d : Desc := ⟨[(0, .pt 0 0), (1, .d .bool), (2, .d (.int .i64))], [.box true 67 [.d (.sl ty36), .d (.int .i64)]]⟩
noncomputable def parse_reader_atom_Fi [Esc R] (n : Nat) (a0 : Bool) (a1 : Int) (a2 : (List ty36.D)) (a3 : Int) (k0 : ty61.D → (List ty36.D) → Int → Option R) : Option R :=
  parse_reader_name_F n a2 a3 (fun y1 y2 y3 => parse_reader_want_F n (⟨#[40]⟩ : ByteArray) y2 y3 (fun y4 y5 => if (!a0) = true then (if (decide (a1 ≥ 6)) = true then (if (0 : Int) ≤ a3 ∧ a3 < (y4.length : Int) then (Esc.esc (.iface 63 (.agg #[.int .i64 9, .int .i64 ((y4.getD (Int.toNat a3) (Ty.z ty36)).2.2.2.1)]))) else none) else (parse_reader_args_F n y4 y5 (fun y6 y7 y8 => k0 (a0, y1, y8, 0, ()) y6 y7))) else (parse_reader_args_F n y4 y5 (fun y9 y10 y11 => k0 (a0, y1, y11, 0, ()) y9 y10))))
noncomputable def parse_reader_atom_F {R : Type} [i : Esc R] := lazyN (@parse_reader_atom_Fi R i)
theorem parse_reader_atom_e [i : Esc R] : @parse_reader_atom_F R i = @parse_reader_atom_Fi R i := lazyN_eq _
noncomputable def parse_reader_atom_g [Esc R] (n : Nat) : Gx R := typed 3 parse_reader_atom_d fun x k => parse_reader_atom_F n x.1 x.2.1 x.2.2.1 x.2.2.2.1 (fun y0 y1 y2 => k (.a (encA ty61 y0)) [(.box true 67 [(.fz ty36 y1), (.i .i64 y2)])])
noncomputable def parse_reader_atom_cs (R : Type) [Esc R] (n : Nat) : List (Nat × Gx R) := [(panF, escG), (40, parse_reader_name_g n), (41, parse_reader_want_g n), (78, parse_reader_args_g n)]
noncomputable def parse_reader_atom_cx (R : Type) [Esc R] (n : Nat) : Cx R := ⟨Tryd.prog, Gof (parse_reader_atom_cs R n), noDs, noDx, noLp, drawP Tryd.prog (Gof (parse_reader_atom_cs R n)), true, noJn, noFz⟩
theorem parse_reader_atom_ok [Esc R] (n : Nat) : Good Tryd.prog 71 (parse_reader_atom_g (R := R) n) := by
  unfold parse_reader_atom_g
  rw [parse_reader_atom_e]
  exact Good.fn (f := 71) (cx := parse_reader_atom_cx R n) (by kernel_rfl) (AllGood.esc (AllGood.cons (parse_reader_name_ok n) (AllGood.cons (parse_reader_want_ok n) (AllGood.cons (parse_reader_args_ok n) (AllGood.nil))))) rfl Tryd.func71 (by kernel_rfl) rfl trivial 3 parse_reader_atom_d (by kernel_rfl) (fun x k => by kernel_rfl)
end
end Go.Proofs.YtnnbinmomendnaaDoor.E
set_option linter.unusedVariables false
set_option maxRecDepth 100000
namespace Go.Proofs.YtnnbinmomendnaaDoor.E
open Go.Proofs
noncomputable section
variable {R : Type}
/-! (*verderer/parse.reader).literal: function 60 -/
@[reducible] def parse_reader_literal_d : Desc := ⟨[(0, .pt 0 0), (1, .d (.int .i64))], [.box true 67 [.d (.sl ty36), .d (.int .i64)]]⟩
noncomputable def parse_reader_literal_Fi [Esc R] (n : Nat) (a0 : Int) (a1 : (List ty36.D)) (a2 : Int) (k0 : ty61.D → (List ty36.D) → Int → Option R) : Option R :=
  parse_reader_take_F n (⟨#[110, 111, 116]⟩ : ByteArray) a1 a2 (fun y1 y2 y3 => if y1 = true then (parse_reader_atom_F n true a0 y2 y3 (fun y4 y5 y6 => k0 y4 y5 y6)) else (if (0 : Int) ≤ (minI (IntKind.i64.wrap (y3 + 1)) (IntKind.i64.wrap ((y2.length : Int) - 1))) ∧ (minI (IntKind.i64.wrap (y3 + 1)) (IntKind.i64.wrap ((y2.length : Int) - 1))) < (y2.length : Int) then (parse_reader_named_F n y2 y3 (fun y7 y8 y9 => if y7 = true then (if ((y2.getD (Int.toNat (minI (IntKind.i64.wrap (y3 + 1)) (IntKind.i64.wrap ((y2.length : Int) - 1)))) (Ty.z ty36)).1 == 3) = true then (if (((y2.getD (Int.toNat (minI (IntKind.i64.wrap (y3 + 1)) (IntKind.i64.wrap ((y2.length : Int) - 1)))) (Ty.z ty36)).2.1).toList == (⟨#[40]⟩ : ByteArray).toList) = true then (parse_reader_atom_F n false a0 y8 y9 (fun y10 y11 y12 => k0 y10 y11 y12)) else (parse_reader_term_F n y8 y9 (fun y13 y14 y15 => parse_reader_now_F n y14 y15 (fun y16 y17 y18 => lex_Op_F n y16.2.1 (fun y19 => parse_reader_now_F n y17 y18 (fun y20 y21 y22 => if (y20.1 == 3) = true then (parse_reader_must_F n (decide (y19 > 0)) 7 y21 y22 (fun y23 y24 => parse_reader_step_F n y23 y24 (fun y25 y26 y27 => parse_reader_term_F n y26 y27 (fun y28 y29 y30 => k0 (false, (⟨#[]⟩ : ByteArray), [y13, y28], y19, ()) y29 y30)))) else (parse_reader_must_F n false 7 y21 y22 (fun y31 y32 => parse_reader_step_F n y31 y32 (fun y33 y34 y35 => parse_reader_term_F n y34 y35 (fun y36 y37 y38 => k0 (false, (⟨#[]⟩ : ByteArray), [y13, y36], y19, ()) y37 y38)))))))))) else (parse_reader_term_F n y8 y9 (fun y39 y40 y41 => parse_reader_now_F n y40 y41 (fun y42 y43 y44 => lex_Op_F n y42.2.1 (fun y45 => parse_reader_now_F n y43 y44 (fun y46 y47 y48 => if (y46.1 == 3) = true then (parse_reader_must_F n (decide (y45 > 0)) 7 y47 y48 (fun y49 y50 => parse_reader_step_F n y49 y50 (fun y51 y52 y53 => parse_reader_term_F n y52 y53 (fun y54 y55 y56 => k0 (false, (⟨#[]⟩ : ByteArray), [y39, y54], y45, ()) y55 y56)))) else (parse_reader_must_F n false 7 y47 y48 (fun y57 y58 => parse_reader_step_F n y57 y58 (fun y59 y60 y61 => parse_reader_term_F n y60 y61 (fun y62 y63 y64 => k0 (false, (⟨#[]⟩ : ByteArray), [y39, y62], y45, ()) y63 y64)))))))))) else (parse_reader_term_F n y8 y9 (fun y65 y66 y67 => parse_reader_now_F n y66 y67 (fun y68 y69 y70 => lex_Op_F n y68.2.1 (fun y71 => parse_reader_now_F n y69 y70 (fun y72 y73 y74 => if (y72.1 == 3) = true then (parse_reader_must_F n (decide (y71 > 0)) 7 y73 y74 (fun y75 y76 => parse_reader_step_F n y75 y76 (fun y77 y78 y79 => parse_reader_term_F n y78 y79 (fun y80 y81 y82 => k0 (false, (⟨#[]⟩ : ByteArray), [y65, y80], y71, ()) y81 y82)))) else (parse_reader_must_F n false 7 y73 y74 (fun y83 y84 => parse_reader_step_F n y83 y84 (fun y85 y86 y87 => parse_reader_term_F n y86 y87 (fun y88 y89 y90 => k0 (false, (⟨#[]⟩ : ByteArray), [y65, y88], y71, ()) y89 y90))))))))))) else none))
noncomputable def parse_reader_literal_F {R : Type} [i : Esc R] := lazyN (@parse_reader_literal_Fi R i)
theorem parse_reader_literal_e [i : Esc R] : @parse_reader_literal_F R i = @parse_reader_literal_Fi R i := lazyN_eq _
noncomputable def parse_reader_literal_g [Esc R] (n : Nat) : Gx R := typed 2 parse_reader_literal_d fun x k => parse_reader_literal_F n x.1 x.2.1 x.2.2.1 (fun y0 y1 y2 => k (.a (encA ty61 y0)) [(.box true 67 [(.fz ty36 y1), (.i .i64 y2)])])
noncomputable def parse_reader_literal_cs (R : Type) [Esc R] (n : Nat) : List (Nat × Gx R) := [(panF, escG), (14, lex_Op_g n), (43, parse_reader_must_g n), (44, parse_reader_now_g n), (45, parse_reader_step_g n), (56, parse_reader_take_g n), (57, parse_reader_named_g n), (71, parse_reader_atom_g n), (72, parse_reader_term_g n)]
noncomputable def parse_reader_literal_cx (R : Type) [Esc R] (n : Nat) : Cx R := ⟨Tryd.prog, Gof (parse_reader_literal_cs R n), noDs, noDx, noLp, drawP Tryd.prog (Gof (parse_reader_literal_cs R n)), false, noJn, noFz⟩
theorem parse_reader_literal_ok [Esc R] (n : Nat) : Good Tryd.prog 60 (parse_reader_literal_g (R := R) n) := by
  unfold parse_reader_literal_g
  rw [parse_reader_literal_e]
  exact Good.fn (f := 60) (cx := parse_reader_literal_cx R n) (by kernel_rfl) (AllGood.esc (AllGood.cons (lex_Op_ok n) (AllGood.cons (parse_reader_must_ok n) (AllGood.cons (parse_reader_now_ok n) (AllGood.cons (parse_reader_step_ok n) (AllGood.cons (parse_reader_take_ok n) (AllGood.cons (parse_reader_named_ok n) (AllGood.cons (parse_reader_atom_ok n) (AllGood.cons (parse_reader_term_ok n) (AllGood.nil)))))))))) rfl Tryd.func60 (by kernel_rfl) rfl trivial 2 parse_reader_literal_d (by kernel_rfl) (fun x k => by kernel_rfl)
end
end Go.Proofs.YtnnbinmomendnaaDoor.E
set_option linter.unusedVariables false
set_option maxRecDepth 100000
namespace Go.Proofs.YtnnbinmomendnaaDoor.E
open Go.Proofs
noncomputable section
variable {R : Type}
/-! (*verderer/parse.reader).body: function 46 -/
def parse_reader_body_ds : Nat → Desc
  | 2 => ⟨[(0, .pt 0 0), (1, .pt 1 0), (4, .d (.int .i64)), (5, .d .bool)], [.box true 67 [.d (.sl ty36), .d (.int .i64)], .box true 44 [.d (.int .i64), .d .str, .ow 2, .d (.int .i64), .d .str, .d (.int .i64), .ow 3], .arr 9 .str, .arr 61 ty61]⟩
  | _ => ⟨[], []⟩
def parse_reader_body_dx : Nat → List (X × Desc)
  | 2 => [(.e 0, ⟨[], [.box true 67 [.d (.sl ty36), .d (.int .i64)], .box true 44 [.d (.int .i64), .d .str, .ow 2, .d (.int .i64), .d .str, .d (.int .i64), .ow 3], .arr 9 .str, .arr 61 ty61]⟩)]
  | _ => []
noncomputable def parse_reader_body_s2 [Esc R] (n : Nat) (x0 : Int) (x1 : Bool) (x2 : (List ty36.D)) (x3 : Int) (x4 : Int) (x5 : ByteArray) (x6 : Int) (x7 : ByteArray) (x8 : Int) (x9 : (List ByteArray)) (x10 : (List ty61.D)) (k1 : Int → Bool → (List ty36.D) → Int → Int → ByteArray → Int → ByteArray → Int → (List ByteArray) → (List ty61.D) → Option R) (qe0 : (List ty36.D) → Int → Int → ByteArray → Int → ByteArray → Int → (List ByteArray) → (List ty61.D) → Option R) : Option R :=
  if x1 = true then (if (decide ((x10.length : Int) ≥ 10)) = true then (parse_reader_begins_F n x2 x3 (fun y1 y2 y3 => parse_reader_must_F n (!y1) 9 y2 y3 (fun y4 y5 => parse_reader_must_F n false 7 y4 y5 (fun y6 y7 => parse_reader_literal_F n x0 y6 y7 (fun y8 y9 y10 => if (y8.2.2.2.1 == 0) = true then (if (!y8.1) = true then (if (List.length x10 + List.length [y8]) * 56 ≤ 140737488355328 then (parse_reader_take_F n (⟨#[44]⟩ : ByteArray) y9 y10 (fun y11 y12 y13 => k1 (IntKind.i64.wrap (x0 + 1)) y11 y12 y13 x4 x5 x6 x7 x8 x9 (x10 ++ [y8]))) else none) else (if (List.length x10 + List.length [y8]) * 56 ≤ 140737488355328 then (parse_reader_take_F n (⟨#[44]⟩ : ByteArray) y9 y10 (fun y14 y15 y16 => k1 x0 y14 y15 y16 x4 x5 x6 x7 x8 x9 (x10 ++ [y8]))) else none)) else (if (List.length x10 + List.length [y8]) * 56 ≤ 140737488355328 then (parse_reader_take_F n (⟨#[44]⟩ : ByteArray) y9 y10 (fun y17 y18 y19 => k1 x0 y17 y18 y19 x4 x5 x6 x7 x8 x9 (x10 ++ [y8]))) else none)))))) else (parse_reader_literal_F n x0 x2 x3 (fun y20 y21 y22 => if (y20.2.2.2.1 == 0) = true then (if (!y20.1) = true then (if (List.length x10 + List.length [y20]) * 56 ≤ 140737488355328 then (parse_reader_take_F n (⟨#[44]⟩ : ByteArray) y21 y22 (fun y23 y24 y25 => k1 (IntKind.i64.wrap (x0 + 1)) y23 y24 y25 x4 x5 x6 x7 x8 x9 (x10 ++ [y20]))) else none) else (if (List.length x10 + List.length [y20]) * 56 ≤ 140737488355328 then (parse_reader_take_F n (⟨#[44]⟩ : ByteArray) y21 y22 (fun y26 y27 y28 => k1 x0 y26 y27 y28 x4 x5 x6 x7 x8 x9 (x10 ++ [y20]))) else none)) else (if (List.length x10 + List.length [y20]) * 56 ≤ 140737488355328 then (parse_reader_take_F n (⟨#[44]⟩ : ByteArray) y21 y22 (fun y29 y30 y31 => k1 x0 y29 y30 y31 x4 x5 x6 x7 x8 x9 (x10 ++ [y20]))) else none)))) else (qe0 x2 x3 x4 x5 x6 x7 x8 x9 x10)
noncomputable def parse_reader_body_l2 [Esc R] (n : Nat) (a : (parse_reader_body_ds 2).D) (k1 : (parse_reader_body_ds 2).D → Option R) (k2 : exK R (parse_reader_body_dx 2)) : Option R :=
  parse_reader_body_s2 n a.1 a.2.1 a.2.2.1 a.2.2.2.1 a.2.2.2.2.1 a.2.2.2.2.2.1 a.2.2.2.2.2.2.1 a.2.2.2.2.2.2.2.1 a.2.2.2.2.2.2.2.2.1 a.2.2.2.2.2.2.2.2.2.1 a.2.2.2.2.2.2.2.2.2.2.1 (fun x0 x1 x2 x3 x4 x5 x6 x7 x8 x9 x10 => k1 (x0, x1, x2, x3, x4, x5, x6, x7, x8, x9, x10, ())) (fun x0 x1 x2 x3 x4 x5 x6 x7 x8 => k2.1 (x0, x1, x2, x3, x4, x5, x6, x7, x8, ()))
@[reducible] def parse_reader_body_d : Desc := ⟨[(0, .pt 0 0), (1, .pt 1 0)], [.box true 67 [.d (.sl ty36), .d (.int .i64)], .box true 44 [.d (.int .i64), .d .str, .ow 2, .d (.int .i64), .d .str, .d (.int .i64), .ow 3], .arr 9 .str, .arr 61 ty61]⟩
noncomputable def parse_reader_body_Fi [Esc R] (n : Nat) (a0 : (List ty36.D)) (a1 : Int) (a2 : Int) (a3 : ByteArray) (a4 : Int) (a5 : ByteArray) (a6 : Int) (a7 : (List ByteArray)) (a8 : (List ty61.D)) (k0 : (List ty36.D) → Int → Int → ByteArray → Int → ByteArray → Int → (List ByteArray) → (List ty61.D) → Option R) : Option R :=
  runC (parse_reader_body_l2 n) n (0, true, a0, a1, a2, a3, a4, a5, a6, a7, a8, ()) (fun b40 => k0 b40.1 b40.2.1 b40.2.2.1 b40.2.2.2.1 b40.2.2.2.2.1 b40.2.2.2.2.2.1 b40.2.2.2.2.2.2.1 b40.2.2.2.2.2.2.2.1 b40.2.2.2.2.2.2.2.2.1, ())
noncomputable def parse_reader_body_F {R : Type} [i : Esc R] := lazyN (@parse_reader_body_Fi R i)
theorem parse_reader_body_e [i : Esc R] : @parse_reader_body_F R i = @parse_reader_body_Fi R i := lazyN_eq _
noncomputable def parse_reader_body_g [Esc R] (n : Nat) : Gx R := typed 2 parse_reader_body_d fun x k => parse_reader_body_F n x.1 x.2.1 x.2.2.1 x.2.2.2.1 x.2.2.2.2.1 x.2.2.2.2.2.1 x.2.2.2.2.2.2.1 x.2.2.2.2.2.2.2.1 x.2.2.2.2.2.2.2.2.1 (fun y0 y1 y2 y3 y4 y5 y6 y7 y8 => k (.tu []) [(.box true 67 [(.fz ty36 y0), (.i .i64 y1)]), (.box true 44 [(.i .i64 y2), (.s y3), (.ow 2), (.i .i64 y4), (.s y5), (.i .i64 y6), (.ow 3)]), (.arr 9 .str y7), (.arr 61 ty61 y8)])
noncomputable def parse_reader_body_cs (R : Type) [Esc R] (n : Nat) : List (Nat × Gx R) := [(panF, escG), (43, parse_reader_must_g n), (56, parse_reader_take_g n), (59, parse_reader_begins_g n), (60, parse_reader_literal_g n)]
noncomputable def parse_reader_body_lp [Esc R] (n : Nat) : (i : Nat) → (parse_reader_body_ds i).D → exK R (parse_reader_body_dx i) → Option R
  | 2, a, k => runC (parse_reader_body_l2 n) n a k
  | _, _, _ => none
noncomputable def parse_reader_body_cx (R : Type) [Esc R] (n : Nat) : Cx R := ⟨Tryd.prog, Gof (parse_reader_body_cs R n), parse_reader_body_ds, parse_reader_body_dx, parse_reader_body_lp n, drawP Tryd.prog (Gof (parse_reader_body_cs R n)), false, noJn, noFz⟩
theorem parse_reader_body_ok [Esc R] (n : Nat) : Good Tryd.prog 46 (parse_reader_body_g (R := R) n) := by
  unfold parse_reader_body_g
  rw [parse_reader_body_e]
  exact Good.fn (f := 46) (cx := parse_reader_body_cx R n) (by kernel_rfl) (AllGood.esc (AllGood.cons (parse_reader_must_ok n) (AllGood.cons (parse_reader_take_ok n) (AllGood.cons (parse_reader_begins_ok n) (AllGood.cons (parse_reader_literal_ok n) (AllGood.nil)))))) rfl Tryd.func46 (by kernel_rfl) rfl (by
    have e : fnLoops noJn Tryd.f46 = [((fnLoops noJn Tryd.f46)[0]?).getD (false, .skip)] := by kernel_rfl
    show LoopRuns _ _ (fnLoops noJn _)
    rw [e]
    exact ⟨LoopRun.loop (by kernel_rfl) (i := 2) (m := n) (step := parse_reader_body_l2 n) (by kernel_rfl) (fun a k1 k2 => by kernel_rfl) (fun _ _ => rfl), trivial⟩) 2 parse_reader_body_d (by kernel_rfl) (fun x k => by kernel_rfl)
end
end Go.Proofs.YtnnbinmomendnaaDoor.E
set_option linter.unusedVariables false
set_option maxRecDepth 100000
namespace Go.Proofs.YtnnbinmomendnaaDoor.E
open Go.Proofs
noncomputable section
variable {R : Type}
/-! (*verderer/parse.reader).rule: function 25 -/
@[reducible] def parse_reader_rule_d : Desc := ⟨[(0, .pt 0 0)], [.box true 67 [.d (.sl ty36), .d (.int .i64)]]⟩
noncomputable def parse_reader_rule_Fi [Esc R] (n : Nat) (a0 : (List ty36.D)) (a1 : Int) (k0 : ty44.D → (List ty36.D) → Int → Option R) : Option R :=
  parse_reader_kind_F n a0 a1 (fun y1 y2 y3 => parse_reader_name_F n y2 y3 (fun y4 y5 y6 => parse_reader_want_F n (⟨#[40]⟩ : ByteArray) y5 y6 (fun y7 y8 => parse_reader_head_F n y7 y8 y1 y4 0 (⟨#[]⟩ : ByteArray) 0 ([] : List ByteArray) ([] : List ty61.D) (fun y9 y10 y11 y12 y13 y14 y15 y16 y17 => parse_reader_want_F n (⟨#[41]⟩ : ByteArray) y9 y10 (fun y18 y19 => if (y11 == 3) = true then (parse_reader_want_F n (⟨#[108, 105, 109, 105, 116]⟩ : ByteArray) y18 y19 (fun y20 y21 => parse_reader_now_F n y20 y21 (fun y22 y23 y24 => if (y22.1 == 2) = true then (parse_reader_now_F n y23 y24 (fun y25 y26 y27 => parse_reader_must_F n (y25.2.2.1.1 == 2) 7 y26 y27 (fun y28 y29 => parse_reader_step_F n y28 y29 (fun y30 y31 y32 => parse_reader_want_F n (⟨#[105, 102]⟩ : ByteArray) y31 y32 (fun y33 y34 => parse_reader_body_F n y33 y34 y11 y12 y13 y14 y30.2.2.1.2.2.1 y16 y17 (fun y35 y36 y37 y38 y39 y40 y41 y42 y43 => parse_reader_now_F n y35 y36 (fun y44 y45 y46 => parse_reader_must_F n (y44.1 == 4) 7 y45 y46 (fun y47 y48 => k0 (y37, y38, y42, y39, y40, y41, y43, ()) y47 y48)))))))) else (parse_reader_must_F n false 7 y23 y24 (fun y49 y50 => parse_reader_step_F n y49 y50 (fun y51 y52 y53 => parse_reader_want_F n (⟨#[105, 102]⟩ : ByteArray) y52 y53 (fun y54 y55 => parse_reader_body_F n y54 y55 y11 y12 y13 y14 y51.2.2.1.2.2.1 y16 y17 (fun y56 y57 y58 y59 y60 y61 y62 y63 y64 => parse_reader_now_F n y56 y57 (fun y65 y66 y67 => parse_reader_must_F n (y65.1 == 4) 7 y66 y67 (fun y68 y69 => k0 (y58, y59, y63, y60, y61, y62, y64, ()) y68 y69)))))))))) else (parse_reader_want_F n (⟨#[105, 102]⟩ : ByteArray) y18 y19 (fun y70 y71 => parse_reader_body_F n y70 y71 y11 y12 y13 y14 y15 y16 y17 (fun y72 y73 y74 y75 y76 y77 y78 y79 y80 => parse_reader_now_F n y72 y73 (fun y81 y82 y83 => parse_reader_must_F n (y81.1 == 4) 7 y82 y83 (fun y84 y85 => k0 (y74, y75, y79, y76, y77, y78, y80, ()) y84 y85))))))))))
noncomputable def parse_reader_rule_F {R : Type} [i : Esc R] := lazyN (@parse_reader_rule_Fi R i)
theorem parse_reader_rule_e [i : Esc R] : @parse_reader_rule_F R i = @parse_reader_rule_Fi R i := lazyN_eq _
noncomputable def parse_reader_rule_g [Esc R] (n : Nat) : Gx R := typed 1 parse_reader_rule_d fun x k => parse_reader_rule_F n x.1 x.2.1 (fun y0 y1 y2 => k (.a (encA ty44 y0)) [(.box true 67 [(.fz ty36 y1), (.i .i64 y2)])])
noncomputable def parse_reader_rule_cs (R : Type) [Esc R] (n : Nat) : List (Nat × Gx R) := [(panF, escG), (39, parse_reader_kind_g n), (40, parse_reader_name_g n), (41, parse_reader_want_g n), (42, parse_reader_head_g n), (43, parse_reader_must_g n), (44, parse_reader_now_g n), (45, parse_reader_step_g n), (46, parse_reader_body_g n)]
noncomputable def parse_reader_rule_cx (R : Type) [Esc R] (n : Nat) : Cx R := ⟨Tryd.prog, Gof (parse_reader_rule_cs R n), noDs, noDx, noLp, drawP Tryd.prog (Gof (parse_reader_rule_cs R n)), true, noJn, noFz⟩
theorem parse_reader_rule_ok [Esc R] (n : Nat) : Good Tryd.prog 25 (parse_reader_rule_g (R := R) n) := by
  unfold parse_reader_rule_g
  rw [parse_reader_rule_e]
  exact Good.fn (f := 25) (cx := parse_reader_rule_cx R n) (by kernel_rfl) (AllGood.esc (AllGood.cons (parse_reader_kind_ok n) (AllGood.cons (parse_reader_name_ok n) (AllGood.cons (parse_reader_want_ok n) (AllGood.cons (parse_reader_head_ok n) (AllGood.cons (parse_reader_must_ok n) (AllGood.cons (parse_reader_now_ok n) (AllGood.cons (parse_reader_step_ok n) (AllGood.cons (parse_reader_body_ok n) (AllGood.nil)))))))))) rfl Tryd.func25 (by kernel_rfl) rfl trivial 1 parse_reader_rule_d (by kernel_rfl) (fun x k => by kernel_rfl)
end
end Go.Proofs.YtnnbinmomendnaaDoor.E
namespace Go.Proofs.YtnnbinmomendnaaDoor.E
open Go.RowKit
variable {R : Type}
/-! loops that look for the first place where something is so -/
theorem runC_scan {α β R ρ : Type} {step : α → (α → Option R) → β → Option R} (k : β) (K : ρ → Option R) (E : Option R) (f : Nat → Option ρ) (st : Nat → α) (m : Nat)
    (hs : ∀ i, i < m → ∀ k1, step (st i) k1 k = match f i with
      | none => k1 (st (i + 1))
      | some y => K y) (he : ∀ k1, step (st m) k1 k = E) {n : Nat} (hn : m < n) : runC step n (st 0) k = match (List.range m).findSome? f with
      | none => E
      | some y => K y := by
  have go : ∀ (d i n : Nat), i + d = m → d < n → runC step n (st i) k = match (List.range' i d).findSome? f with
      | none => E
      | some y => K y := by
    intro d
    induction d with
    | zero =>
      intro i n hi hn
      obtain ⟨n, rfl⟩ : ∃ q, n = q + 1 := ⟨n - 1, by omega⟩
      have : i = m := by omega
      subst this
      exact he _
    | succ d ih =>
      intro i n hi hn
      obtain ⟨n, rfl⟩ : ∃ q, n = q + 1 := ⟨n - 1, by omega⟩
      rw [List.range'_succ, List.findSome?_cons]
      have h := hs i (by omega) (fun b => runC step n b k)
      refine Eq.trans (show _ = step (st i) (fun b => runC step n b k) k from rfl) (h.trans ?_)
      cases hf : f i with
      | some y => rfl
      | none => exact ih (i + 1) n (by omega) (by omega)
  have := go m 0 n (by omega) hn
  rw [← List.range_eq_range'] at this
  exact this
theorem runC_all {α β R : Type} {step : α → (α → Option R) → β → Option R} (k : β) (K E : Option R) (p : Nat → Bool) (st : Nat → α) (m : Nat)
    (hs : ∀ i, i < m → ∀ k1, step (st i) k1 k = if p i = true then k1 (st (i + 1)) else K) (he : ∀ k1, step (st m) k1 k = E) {n : Nat} (hn : m < n) : runC step n (st 0) k = if ((List.range m).all p) = true then E else K := by
  have h := runC_scan (ρ := Unit) k (fun _ => K) E (fun i => if p i = true then none else some ()) st m (fun i hi k1 => by rw [hs i hi k1]; by_cases hp : p i = true <;> simp [hp]) he hn
  rw [h]
  by_cases ha : (List.range m).all p = true
  · rw [if_pos ha]
    have : (List.range m).findSome? (fun i => if p i = true then none else some ()) = none := by
      rw [List.findSome?_eq_none_iff]
      intro i hi
      rw [if_pos (List.all_eq_true.1 ha i hi)]
    rw [this]
  · rw [if_neg ha]
    cases hf : (List.range m).findSome? (fun i => if p i = true then none else some ()) with
    | some y => rfl
    | none =>
      refine absurd (List.all_eq_true.2 fun i hi => ?_) ha
      have := (List.findSome?_eq_none_iff.1 hf) i hi
      by_cases hp : p i = true
      · exact hp
      · rw [if_neg hp] at this; cases this
/-! names -/
def letS (c : Int) : Bool := decide (97 ≤ c) && decide (c ≤ 122)
def othS (c : Int) : Bool := decide (c = 95) || (!decide (c < 48) && !decide (57 < c))
def chS (s : ByteArray) (i : Nat) : Bool := letS (byteAt s i) || (decide (i ≠ 0) && othS (byteAt s i))
def nameS (s : ByteArray) : Bool := decide (1 ≤ s.size) && (decide (s.size ≤ 16) && (List.range s.size).all (chS s))
theorem letter_F (n : Nat) (c : Int) (k : Bool → Option R) : schema_letter_F n c k = k (letS c) := by
  rw [schema_letter_e]
  unfold schema_letter_Fi letS
  by_cases h : 97 ≤ c <;> simp [h]
theorem in_size {i m : Nat} (h : i < m) : ((0 : Int) ≤ (i : Int)) = True ∧ ((i : Int) < (m : Int)) = True := by simp; omega
theorem schName_F (n : Nat) (s : ByteArray) (hn : 16 < n) (k : Bool → Option R) : schema_Name_F n s k = k (nameS s) := by
  rw [schema_Name_e]
  unfold schema_Name_Fi
  simp only [beqB]
  by_cases h0 : s = (⟨#[]⟩ : ByteArray)
  · subst h0
    have : nameS (⟨#[]⟩ : ByteArray) = false := by unfold nameS; rfl
    simp [this]
  have h1 : 1 ≤ s.size := by
    rcases Nat.eq_zero_or_pos s.size with h | h
    · exact absurd (ByteArray.size_eq_zero_iff.1 h) h0
    · exact h
  by_cases h2 : s.size ≤ 16
  · have h2' : ¬ ((s.size : Int) > 16) := by omega
    have h3' : ((0 : Int) < (s.size : Int)) := by omega
    simp only [h0, h2', h3', decide_false, Bool.false_eq_true, if_false, Int.le_refl, if_true, letter_F]
    have e0 : byteAt s 0 = byteAt s ((0 : Nat) : Int) := rfl
    cases hl : letS (byteAt s 0) with
    | false =>
      simp only [Bool.not_false, if_true]
      have : nameS s = false := by
        unfold nameS
        have : (List.range s.size).all (chS s) = false := by
          rw [List.all_eq_false]
          exact ⟨0, List.mem_range.2 h1, by simp [chS, ← e0, hl]⟩
        rw [this]; simp
      rw [this]
    | true =>
      simp only [Bool.not_true, Bool.false_eq_true, if_false]
      refine (runC_all (R := R) (step := schema_Name_l4 n) _ (k false) (k true) (fun i => letS (byteAt s i) || othS (byteAt s i)) (fun i => (s, (s.size : Int), (i : Int), ())) s.size (fun i hi k1 => ?_) (fun k1 => ?_) (by omega)).trans ?_
      · simp only [schema_Name_l4, schema_Name_s4, lt_nat, hi, (in_size hi).1, (in_size hi).2, decide_true, if_true, wrap_succ i (by omega), letter_F, othS]
        obtain ⟨c, hc⟩ : ∃ c, byteAt s i = c := ⟨_, rfl⟩
        simp only [hc]
        cases letS c with
        | true => simp
        | false =>
          by_cases c4 : c = 95 <;> by_cases c5 : c < 48 <;> by_cases c6 : 57 < c <;> simp [c4, c5, c6]
      · simp only [schema_Name_l4, schema_Name_s4, lt_nat, Nat.lt_irrefl, decide_false, Bool.false_eq_true, if_false]
      · have : (List.range s.size).all (fun i => letS (byteAt s i) || othS (byteAt s i)) = (List.range s.size).all (chS s) := by
          rw [Bool.eq_iff_iff, List.all_eq_true, List.all_eq_true]
          refine forall_congr' fun i => forall_congr' fun hi => ?_
          unfold chS
          by_cases hi0 : i = 0
          · subst hi0; rw [← e0, hl]; simp
          · simp [hi0]
        rw [this]
        unfold nameS
        simp only [h1, h2, decide_true, Bool.true_and]
        cases (List.range s.size).all (chS s) <;> rfl
  · have h2' : ((s.size : Int) > 16) := by omega
    simp only [h0, h2', decide_false, decide_true, Bool.false_eq_true, if_false, if_true, nameS, h2, Bool.false_and, Bool.and_false]
end Go.Proofs.YtnnbinmomendnaaDoor.E
namespace Go.Proofs.YtnnbinmomendnaaDoor.E
open Go.RowKit
variable {R : Type}
/-! the document's reader: place, why it fails, where -/
abbrev RS := Nat × Int × Int
def zT : ty52.D := Ty.z ty52
def tk (l : Toks) (i : Nat) : ty52.D := l.getD i zT
def rIs (l : Toks) (w : ByteArray) (s : RS) : Bool := decide (s.2.1 = 0) && ((decide ((tk l s.1).1 = 1) || decide ((tk l s.1).1 = 3)) && decide ((tk l s.1).2.1 = w))
def rStep (l : Toks) (s : RS) : RS := (if s.1 + 1 < l.length then s.1 + 1 else s.1, s.2.1, s.2.2)
def rTake (l : Toks) (w : ByteArray) (s : RS) : Bool × RS := if rIs l w s = true then (true, rStep l s) else (false, s)
def rFail (e p : Int) (s : RS) : RS := if s.2.1 = 0 then (s.1, e, p) else s
def rMust (l : Toks) (w : ByteArray) (s : RS) : RS := if (rTake l w s).1 = true then (rTake l w s).2 else rFail 7 (tk l s.1).2.2.2.1 s
def resW : List ByteArray := [(⟨#[100, 101, 110, 121]⟩ : ByteArray), (⟨#[118, 105, 101, 119]⟩ : ByteArray), (⟨#[113, 117, 111, 116, 97]⟩ : ByteArray), (⟨#[108, 105, 109, 105, 116]⟩ : ByteArray), (⟨#[105, 102]⟩ : ByteArray), (⟨#[110, 111, 116]⟩ : ByteArray), (⟨#[99, 111, 117, 110, 116]⟩ : ByteArray), (⟨#[115, 117, 109]⟩ : ByteArray), (⟨#[108, 101, 97, 115, 116]⟩ : ByteArray), (⟨#[109, 111, 115, 116]⟩ : ByteArray)]
def resS (w : ByteArray) : Bool := resW.any fun x => decide (x = w)
def isName (t : ty52.D) : Bool := decide (t.1 = 1) && (nameS t.2.1 && !resS t.2.1)
def rNamed (l : Toks) (s : RS) : Bool := decide (s.2.1 = 0) && isName (tk l s.1)
def rName (l : Toks) (s : RS) : ByteArray × RS := if rNamed l s = true then ((tk l s.1).2.1, rStep l s) else ((⟨#[]⟩ : ByteArray), rFail 7 (tk l s.1).2.2.2.1 s)
theorem rStep_lt {l : Toks} {s : RS} (h : s.1 < l.length) : (rStep l s).1 < l.length := by unfold rStep; simp only []; split <;> omega
theorem rTake_lt {l : Toks} {s : RS} (w : ByteArray) (h : s.1 < l.length) : (rTake l w s).2.1 < l.length := by unfold rTake; split; exact rStep_lt h; exact h
theorem rFail_at (e p : Int) (s : RS) : (rFail e p s).1 = s.1 := by unfold rFail; split <;> rfl
theorem rFail_lt {l : Toks} {s : RS} (e p : Int) (h : s.1 < l.length) : (rFail e p s).1 < l.length := by rw [rFail_at]; exact h
theorem rMust_lt {l : Toks} {s : RS} (w : ByteArray) (h : s.1 < l.length) : (rMust l w s).1 < l.length := by unfold rMust; split; exact rTake_lt w h; exact rFail_lt _ _ h
theorem rName_lt {l : Toks} {s : RS} (h : s.1 < l.length) : (rName l s).2.1 < l.length := by unfold rName; split; exact rStep_lt h; exact rFail_lt _ _ h
/-- an aggregate's words -/
def aggW : List ByteArray := [(⟨#[]⟩ : ByteArray), (⟨#[99, 111, 117, 110, 116]⟩ : ByteArray), (⟨#[115, 117, 109]⟩ : ByteArray), (⟨#[108, 101, 97, 115, 116]⟩ : ByteArray), (⟨#[109, 111, 115, 116]⟩ : ByteArray)]
/-- the aggregate that stands there; 0: none -/
def rAggI (l : Toks) (s : RS) : Nat := if rIs l (aggW.getD 1 ByteArray.empty) s = true then 1 else if rIs l (aggW.getD 2 ByteArray.empty) s = true then 2 else if rIs l (aggW.getD 3 ByteArray.empty) s = true then 3 else if rIs l (aggW.getD 4 ByteArray.empty) s = true then 4 else 0
/-- of a rule: what aggregate, and of what -/
def rAgg (l : Toks) (kind : Int) (s : RS) (ag : Int) (of_ : ByteArray) : Bool × RS × Int × ByteArray :=
  if rAggI l s = 0 then (false, s, ag, of_)
  else if kind = 1 ∨ kind = 3 ∧ 2 < rAggI l s then (true, rFail 7 (tk l s.1).2.2.2.1 s, ag, of_)
  else if 1 < rAggI l s then (true, (rName l (rStep l s)).2, (rAggI l s : Int), (rName l (rStep l s)).1)
  else (true, rStep l s, (rAggI l s : Int), of_)
theorem rAgg_lt {l : Toks} {s : RS} (kind : Int) (ag : Int) (of_ : ByteArray) (h : s.1 < l.length) : (rAgg l kind s ag of_).2.1.1 < l.length := by
  unfold rAgg
  split
  · exact h
  · split
    · exact rFail_lt _ _ h
    · split
      · exact rName_lt (rStep_lt h)
      · exact rStep_lt h
end Go.Proofs.YtnnbinmomendnaaDoor.E
namespace Go.Proofs.YtnnbinmomendnaaDoor.E
open Go.RowKit
variable {R : Type}
set_option maxRecDepth 100000
theorem runC_s {α β R : Type} (step : α → (α → Option R) → β → Option R) (m : Nat) (a : α) (k : β) : runC step (m + 1) a k = step a (fun b => runC step m b k) k := rfl
def commaB : ByteArray := ⟨#[44]⟩
def rparB : ByteArray := ⟨#[41]⟩
def lparB : ByteArray := ⟨#[40]⟩
def anyB : ByteArray := ⟨#[95]⟩
def notB : ByteArray := ⟨#[110, 111, 116]⟩
def atT (l : Toks) (s : RS) : Int := (tk l s.1).2.2.2.1
/-! the head -/
def rHeadL (l : Toks) (kind : Int) : Nat → RS → Int → ByteArray → List ByteArray → RS × Int × ByteArray × List ByteArray
  | 0, s, ag, of_, hd => (s, ag, of_, hd)
  | f + 1, s, ag, of_, hd =>
    if s.2.1 = 0 then
      (if (rAgg l kind s ag of_).1 = true then ((rAgg l kind s ag of_).2.1, (rAgg l kind s ag of_).2.2.1, (rAgg l kind s ag of_).2.2.2, hd)
      else if (rTake l commaB (if 40 ≤ hd.length then rFail 9 (atT l s) (rName l s).2 else (rName l s).2)).1 = true then rHeadL l kind f (rTake l commaB (if 40 ≤ hd.length then rFail 9 (atT l s) (rName l s).2 else (rName l s).2)).2 ag of_ (hd ++ [(rName l s).1])
      else ((rTake l commaB (if 40 ≤ hd.length then rFail 9 (atT l s) (rName l s).2 else (rName l s).2)).2, ag, of_, hd ++ [(rName l s).1]))
    else (s, ag, of_, hd)
def rHead (l : Toks) (kind : Int) (s : RS) (ag : Int) (of_ : ByteArray) (hd : List ByteArray) : RS × Int × ByteArray × List ByteArray :=
  if kind = 3 then
    ((if (rAgg l kind (rMust l commaB (rName l s).2) ag of_).1 = true then (rAgg l kind (rMust l commaB (rName l s).2) ag of_).2.1 else rFail 7 (atT l (rAgg l kind (rMust l commaB (rName l s).2) ag of_).2.1) (rAgg l kind (rMust l commaB (rName l s).2) ag of_).2.1),
     (rAgg l kind (rMust l commaB (rName l s).2) ag of_).2.2.1, (rAgg l kind (rMust l commaB (rName l s).2) ag of_).2.2.2, hd ++ [(rName l s).1])
  else rHeadL l kind 400 s ag of_ hd
theorem rAgg_no {l : Toks} {kind : Int} {s : RS} {ag : Int} {of_ : ByteArray} (h : (rAgg l kind s ag of_).1 = false) : rAgg l kind s ag of_ = (false, s, ag, of_) := by
  unfold rAgg at h ⊢
  split
  · rfl
  · rename_i h1
    rw [if_neg h1] at h
    split at h
    · cases h
    · split at h <;> cases h
theorem rHeadL_rng {l : Toks} (kind : Int) : ∀ (f : Nat) (s : RS) (ag : Int) (of_ : ByteArray) (hd : List ByteArray), s.1 < l.length → (rHeadL l kind f s ag of_ hd).1.1 < l.length ∧ (rHeadL l kind f s ag of_ hd).2.2.2.length ≤ hd.length + f
  | 0, s, ag, of_, hd, h => ⟨h, Nat.le_refl _⟩
  | f + 1, s, ag, of_, hd, h => by
    unfold rHeadL
    split
    · split
      · exact ⟨rAgg_lt kind ag of_ h, by simp only []; omega⟩
      · have ht : (rTake l commaB (if 40 ≤ hd.length then rFail 9 (atT l s) (rName l s).2 else (rName l s).2)).2.1 < l.length := by
          refine rTake_lt _ ?_
          split
          · exact rFail_lt _ _ (rName_lt h)
          · exact rName_lt h
        generalize rTake l commaB (if 40 ≤ hd.length then rFail 9 (atT l s) (rName l s).2 else (rName l s).2) = t at ht ⊢
        split
        · have := rHeadL_rng kind f t.2 ag of_ (hd ++ [(rName l s).1]) ht
          exact ⟨this.1, by have := this.2; simp at this; omega⟩
        · exact ⟨ht, by simp⟩
    · exact ⟨h, by simp only []; omega⟩
theorem rHead_rng {l : Toks} (kind : Int) (s : RS) (ag : Int) (of_ : ByteArray) (hd : List ByteArray) (h : s.1 < l.length) : (rHead l kind s ag of_ hd).1.1 < l.length ∧ (rHead l kind s ag of_ hd).2.2.2.length ≤ hd.length + 400 := by
  unfold rHead
  split
  · have ha := rAgg_lt (l := l) kind ag of_ (rMust_lt commaB (rName_lt h))
    refine ⟨?_, by simp⟩
    simp only []
    split
    · exact ha
    · exact rFail_lt _ _ ha
  · exact rHeadL_rng kind 400 s ag of_ hd h
/-! terms and args -/
def rTerm (l : Toks) (s : RS) : ty58.D × RS := if s.2.1 = 0 ∧ (tk l s.1).1 = 2 then (((⟨#[]⟩ : ByteArray), false, (tk l s.1).2.2.1, ()), rStep l s) else (((rName l s).1, false, zV, ()), (rName l s).2)
theorem rTerm_lt {l : Toks} {s : RS} (h : s.1 < l.length) : (rTerm l s).2.1 < l.length := by unfold rTerm; split; exact rStep_lt h; exact rName_lt h
def anyT : ty58.D := ((⟨#[]⟩ : ByteArray), true, zV, ())
def rArg (l : Toks) (s : RS) : ty58.D × RS := if rIs l anyB s = true then (anyT, rStep l s) else rTerm l s
theorem rArg_lt {l : Toks} {s : RS} (h : s.1 < l.length) : (rArg l s).2.1 < l.length := by unfold rArg; split; exact rStep_lt h; exact rTerm_lt h
def rArgsL (l : Toks) : Nat → RS → List ty58.D → RS × List ty58.D
  | 0, s, acc => (s, acc)
  | f + 1, s, acc =>
    if s.2.1 = 0 then
      (if (rTake l commaB (if 40 < acc.length + 1 then rFail 9 (atT l s) (rArg l s).2 else (rArg l s).2)).1 = true then rArgsL l f (rTake l commaB (if 40 < acc.length + 1 then rFail 9 (atT l s) (rArg l s).2 else (rArg l s).2)).2 (acc ++ [(rArg l s).1])
      else (rMust l rparB (rTake l commaB (if 40 < acc.length + 1 then rFail 9 (atT l s) (rArg l s).2 else (rArg l s).2)).2, acc ++ [(rArg l s).1]))
    else (s, acc)
def rArgs (l : Toks) (s : RS) : RS × List ty58.D := if (rTake l rparB s).1 = true then ((rTake l rparB s).2, []) else rArgsL l 400 (rTake l rparB s).2 []
theorem rArgsL_rng {l : Toks} : ∀ (f : Nat) (s : RS) (acc : List ty58.D), s.1 < l.length → (rArgsL l f s acc).1.1 < l.length ∧ (rArgsL l f s acc).2.length ≤ acc.length + f
  | 0, s, acc, h => ⟨h, Nat.le_refl _⟩
  | f + 1, s, acc, h => by
    unfold rArgsL
    split
    · have ht : (rTake l commaB (if 40 < acc.length + 1 then rFail 9 (atT l s) (rArg l s).2 else (rArg l s).2)).2.1 < l.length := by
        refine rTake_lt _ ?_
        split
        · exact rFail_lt _ _ (rArg_lt h)
        · exact rArg_lt h
      generalize rTake l commaB (if 40 < acc.length + 1 then rFail 9 (atT l s) (rArg l s).2 else (rArg l s).2) = t at ht ⊢
      split
      · have := rArgsL_rng f t.2 (acc ++ [(rArg l s).1]) ht
        exact ⟨this.1, by have := this.2; simp at this; omega⟩
      · exact ⟨rMust_lt _ ht, by simp⟩
    · exact ⟨h, by simp only []; omega⟩
theorem rArgs_rng {l : Toks} (s : RS) (h : s.1 < l.length) : (rArgs l s).1.1 < l.length ∧ (rArgs l s).2.length ≤ 400 := by
  unfold rArgs
  split
  · exact ⟨rTake_lt _ h, by simp⟩
  · have := rArgsL_rng (l := l) 400 _ [] (rTake_lt rparB h)
    exact ⟨this.1, by simpa using this.2⟩
end Go.Proofs.YtnnbinmomendnaaDoor.E
namespace Go.Proofs.YtnnbinmomendnaaDoor.E
open Go.RowKit
variable {R : Type}
set_option maxRecDepth 100000
/-! comparisons' signs -/
def sgnW : List ByteArray := [(⟨#[]⟩ : ByteArray), (⟨#[61, 61]⟩ : ByteArray), (⟨#[33, 61]⟩ : ByteArray), (⟨#[60]⟩ : ByteArray), (⟨#[60, 61]⟩ : ByteArray), (⟨#[62]⟩ : ByteArray), (⟨#[62, 61]⟩ : ByteArray)]
def opS (w : ByteArray) : Int := match (List.range 6).findSome? fun i => if sgnW.getD (i + 1) ByteArray.empty = w then some i else none with
  | none => 0
  | some i => ((i + 1 : Nat) : Int)
/-! a literal -/
def rLone (l : Toks) (p : Int) (s : RS) : RS := if rIs l notB s = true ∨ rNamed l s = true ∨ (tk l s.1).1 = 2 then rFail 7 p (rFail 9 p s) else rFail 7 p s
theorem rLone_lt {l : Toks} {s : RS} (p : Int) (h : s.1 < l.length) : (rLone l p s).1 < l.length := by
  unfold rLone
  split
  · rw [rFail_at, rFail_at]; exact h
  · rw [rFail_at]; exact h
/-- does a left bracket stand behind? -/
def rPar (l : Toks) (s : RS) : Bool := decide (s.1 + 1 < l.length) && (decide ((tk l (s.1 + 1)).1 = 3) && decide ((tk l (s.1 + 1)).2.1 = lparB))
def rAtomS (l : Toks) (atoms : Int) (not_ : Bool) (at_ : Int) (s : RS) : RS := if not_ = false ∧ 6 ≤ atoms then rFail 9 at_ (rMust l lparB (rName l s).2) else rMust l lparB (rName l s).2
def rAtom (l : Toks) (atoms : Int) (not_ : Bool) (at_ : Int) (s : RS) : ty61.D × RS := ((not_, (rName l s).1, (rArgs l (rAtomS l atoms not_ at_ s)).2, 0, ()), (rArgs l (rAtomS l atoms not_ at_ s)).1)
/-- a comparison: behind the left term -/
def rCmpS (l : Toks) (s : RS) : RS := if (tk l s.1).1 ≠ 3 ∨ opS (tk l s.1).2.1 = 0 then rFail 7 (atT l s) s else s
def rCmp (l : Toks) (not_ : Bool) (s : RS) : ty61.D × RS :=
  ((not_, (⟨#[]⟩ : ByteArray), [(rTerm l s).1, (rTerm l (rStep l (rCmpS l (rTerm l s).2))).1], opS (tk l (rTerm l s).2.1).2.1, ()), (rTerm l (rStep l (rCmpS l (rTerm l s).2))).2)
def rLit (l : Toks) (atoms : Int) (s : RS) : ty61.D × RS :=
  if rNamed l (rTake l notB s).2 = true ∧ ((rTake l notB s).1 = true ∨ rPar l (rTake l notB s).2 = true) then rAtom l atoms (rTake l notB s).1 (atT l (rTake l notB s).2) (rTake l notB s).2
  else rCmp l (rTake l notB s).1 (if (rTake l notB s).1 = true then rFail 7 (atT l (rTake l notB s).2) (rTake l notB s).2 else (rTake l notB s).2)
theorem rAtomS_lt {l : Toks} {s : RS} (atoms : Int) (not_ : Bool) (at_ : Int) (h : s.1 < l.length) : (rAtomS l atoms not_ at_ s).1 < l.length := by
  unfold rAtomS
  split
  · exact rFail_lt _ _ (rMust_lt _ (rName_lt h))
  · exact rMust_lt _ (rName_lt h)
theorem rCmpS_lt {l : Toks} {s : RS} (h : s.1 < l.length) : (rCmpS l s).1 < l.length := by unfold rCmpS; split; exact rFail_lt _ _ h; exact h
theorem rCmp_rng {l : Toks} {s : RS} (not_ : Bool) (h : s.1 < l.length) : (rCmp l not_ s).2.1 < l.length ∧ (rCmp l not_ s).1.2.2.1.length ≤ 400 := ⟨rTerm_lt (rStep_lt (rCmpS_lt (rTerm_lt h))), by simp [rCmp]⟩
theorem rLit_rng {l : Toks} {s : RS} (atoms : Int) (h : s.1 < l.length) : (rLit l atoms s).2.1 < l.length ∧ (rLit l atoms s).1.2.2.1.length ≤ 400 := by
  have ht := rTake_lt notB h
  unfold rLit
  split
  · exact rArgs_rng _ (rAtomS_lt _ _ _ ht)
  · refine rCmp_rng _ ?_
    split
    · exact rFail_lt _ _ ht
    · exact ht
end Go.Proofs.YtnnbinmomendnaaDoor.E
namespace Go.Proofs.YtnnbinmomendnaaDoor.E
open Go.RowKit
variable {R : Type}
set_option maxRecDepth 100000
/-! the body -/
def bodySt (l : Toks) (s : RS) (bd : List ty61.D) : RS := if 10 ≤ bd.length then rLone l (atT l s) s else s
def isAtom (x : ty61.D) : Bool := decide (x.2.2.2.1 = 0) && !x.1
def rBodyL (l : Toks) : Nat → Int → RS → List ty61.D → RS × List ty61.D
  | 0, _, s, bd => (s, bd)
  | f + 1, atoms, s, bd =>
    if s.2.1 = 0 then
      (if (rTake l commaB (rLit l atoms (bodySt l s bd)).2).1 = true then rBodyL l f (if isAtom (rLit l atoms (bodySt l s bd)).1 = true then atoms + 1 else atoms) (rTake l commaB (rLit l atoms (bodySt l s bd)).2).2 (bd ++ [(rLit l atoms (bodySt l s bd)).1])
      else ((rTake l commaB (rLit l atoms (bodySt l s bd)).2).2, bd ++ [(rLit l atoms (bodySt l s bd)).1]))
    else (s, bd)
theorem bodySt_lt {l : Toks} {s : RS} (bd : List ty61.D) (h : s.1 < l.length) : (bodySt l s bd).1 < l.length := by unfold bodySt; split; exact rLone_lt _ h; exact h
theorem rBodyL_rng {l : Toks} : ∀ (f : Nat) (atoms : Int) (s : RS) (bd : List ty61.D), s.1 < l.length → (∀ x ∈ bd, x.2.2.1.length ≤ 400) → (rBodyL l f atoms s bd).1.1 < l.length ∧ (rBodyL l f atoms s bd).2.length ≤ bd.length + f ∧ ∀ x ∈ (rBodyL l f atoms s bd).2, x.2.2.1.length ≤ 400
  | 0, atoms, s, bd, h, hb => ⟨h, Nat.le_refl _, hb⟩
  | f + 1, atoms, s, bd, h, hb => by
    unfold rBodyL
    split
    · obtain ⟨h1, h2⟩ := rLit_rng atoms (bodySt_lt bd h)
      have h3 := rTake_lt commaB h1
      have hb2 : ∀ x ∈ bd ++ [(rLit l atoms (bodySt l s bd)).1], x.2.2.1.length ≤ 400 := by
        intro x hx
        rcases List.mem_append.1 hx with hx | hx
        · exact hb x hx
        · rw [List.mem_singleton] at hx; rw [hx]; exact h2
      split
      · have := rBodyL_rng f (if isAtom (rLit l atoms (bodySt l s bd)).1 = true then atoms + 1 else atoms) _ _ h3 hb2
        exact ⟨this.1, by have := this.2.1; simp at this; omega, this.2.2⟩
      · exact ⟨h3, by simp, hb2⟩
    · exact ⟨h, by simp only []; omega, hb⟩
def rBody (l : Toks) (s : RS) : RS × List ty61.D := rBodyL l 400 0 s []
/-! the rule: kind, name, aggregate, of what, limit, where, why, head, body -/
abbrev RR := Int × ByteArray × Int × ByteArray × Int × Int × Int × List ByteArray × List ty61.D
def denyB : ByteArray := ⟨#[100, 101, 110, 121]⟩
def viewB : ByteArray := ⟨#[118, 105, 101, 119]⟩
def quotaB : ByteArray := ⟨#[113, 117, 111, 116, 97]⟩
def limitB : ByteArray := ⟨#[108, 105, 109, 105, 116]⟩
def ifB : ByteArray := ⟨#[105, 102]⟩
def rErr (p e : Int) : RR := (0, ⟨#[]⟩, 0, ⟨#[]⟩, 0, p, e, [], [])
/-- what the rule is -/
def rKind (l : Toks) (s : RS) : Int × RS :=
  if (rTake l denyB s).1 = true then (1, (rTake l denyB s).2)
  else if (rTake l viewB (rTake l denyB s).2).1 = true then (2, (rTake l viewB (rTake l denyB s).2).2)
  else if (rTake l quotaB (rTake l viewB (rTake l denyB s).2).2).1 = true then (3, (rTake l quotaB (rTake l viewB (rTake l denyB s).2).2).2)
  else (0, rFail 7 (atT l (rTake l quotaB (rTake l viewB (rTake l denyB s).2).2).2) (rTake l quotaB (rTake l viewB (rTake l denyB s).2).2).2)
/-- a limit -/
def rLimS (l : Toks) (s : RS) : RS := if s.2.1 = 0 ∧ ((tk l s.1).1 ≠ 2 ∨ (tk l s.1).2.2.1.1 ≠ 2) then rFail 7 (atT l s) s else s
def rLim (l : Toks) (kind : Int) (s : RS) : Int × RS := if kind = 3 then ((tk l (rLimS l (rMust l limitB s)).1).2.2.1.2.2.1, rStep l (rLimS l (rMust l limitB s))) else (0, s)
/-- from 'if' on -/
def rEndS (l : Toks) (s : RS) : RS := if (tk l s.1).1 ≠ 4 then rFail 7 (atT l s) s else s
def rEnd (l : Toks) (kind : Int) (nm : ByteArray) (ag : Int) (of_ : ByteArray) (lim : Int) (hd : List ByteArray) (s : RS) : RR :=
  if (rEndS l (rBody l (rMust l ifB s)).1).2.1 ≠ 0 then rErr (rEndS l (rBody l (rMust l ifB s)).1).2.2 (rEndS l (rBody l (rMust l ifB s)).1).2.1
  else (kind, nm, ag, of_, lim, 0, 0, hd, (rBody l (rMust l ifB s)).2)
def rHd (l : Toks) (kind : Int) (s : RS) : RS × Int × ByteArray × List ByteArray := rHead l kind (rMust l lparB (rName l s).2) 0 (⟨#[]⟩ : ByteArray) []
/-- behind the kind -/
def rRest (l : Toks) (kind : Int) (s : RS) : RR :=
  rEnd l kind (rName l s).1 (rHd l kind s).2.1 (rHd l kind s).2.2.1 (rLim l kind (rMust l rparB (rHd l kind s).1)).1 (rHd l kind s).2.2.2 (rLim l kind (rMust l rparB (rHd l kind s).1)).2
def rTok (l : Toks) : RR := rRest l (rKind l (0, 0, 0)).1 (rKind l (0, 0, 0)).2
noncomputable def rRule (s : ByteArray) : RR := if (lexS s).2.1 ≠ 0 then rErr (lexS s).1 (lexS s).2.1 else rTok (lexS s).2.2
theorem rLimS_lt {l : Toks} {s : RS} (h : s.1 < l.length) : (rLimS l s).1 < l.length := by unfold rLimS; split; exact rFail_lt _ _ h; exact h
theorem rLim_lt {l : Toks} {s : RS} (kind : Int) (h : s.1 < l.length) : (rLim l kind s).2.1 < l.length := by unfold rLim; split; exact rStep_lt (rLimS_lt (rMust_lt _ h)); exact h
theorem rKind_lt {l : Toks} {s : RS} (h : s.1 < l.length) : (rKind l s).2.1 < l.length := by
  have h1 := rTake_lt denyB h
  have h2 := rTake_lt viewB h1
  have h3 := rTake_lt quotaB h2
  unfold rKind
  split
  · exact h1
  · split
    · exact h2
    · split
      · exact h3
      · exact rFail_lt _ _ h3
end Go.Proofs.YtnnbinmomendnaaDoor.E
namespace Go.Proofs.YtnnbinmomendnaaDoor.E
open Go.RowKit
variable {R : Type}
set_option maxRecDepth 100000
/-- rules are not large -/
theorem rRule_rng (s : ByteArray) : (rRule s).2.2.2.2.2.2.2.1.length ≤ 401 ∧ (rRule s).2.2.2.2.2.2.2.2.length ≤ 400 ∧ ∀ x ∈ (rRule s).2.2.2.2.2.2.2.2, x.2.2.1.length ≤ 400 := by
  have err : ∀ p e : Int, (rErr p e).2.2.2.2.2.2.2.1.length ≤ 401 ∧ (rErr p e).2.2.2.2.2.2.2.2.length ≤ 400 ∧ ∀ x ∈ (rErr p e).2.2.2.2.2.2.2.2, x.2.2.1.length ≤ 400 := fun p e => ⟨Nat.zero_le _, Nat.zero_le _, fun x hx => by cases hx⟩
  unfold rRule
  split
  · exact err _ _
  · rename_i he
    obtain ⟨t, ht, htl⟩ := lexS_rng s (by simpa using he)
    have hlen : 0 < (lexS s).2.2.length := by rw [ht]; simp
    generalize (lexS s).2.2 = l at hlen ⊢
    unfold rTok
    have hk := rKind_lt (l := l) (s := (0, 0, 0)) hlen
    generalize rKind l (0, 0, 0) = kq at hk ⊢
    unfold rRest
    have h2 := rMust_lt (l := l) lparB (rName_lt (l := l) hk)
    have hh := rHead_rng (l := l) kq.1 _ 0 (⟨#[]⟩ : ByteArray) [] h2
    change (rHd l kq.1 kq.2).1.1 < _ ∧ (rHd l kq.1 kq.2).2.2.2.length ≤ _ at hh
    have h5 := rLim_lt (l := l) kq.1 (rMust_lt (l := l) rparB hh.1)
    unfold rEnd
    have hb := rBodyL_rng (l := l) 400 0 _ [] (rMust_lt (l := l) ifB h5) (by simp)
    split
    · exact err _ _
    · exact ⟨Nat.le_trans (by simpa using hh.2) (show 400 ≤ 401 by omega), by simpa [rBody] using hb.2.1, by simpa [rBody] using hb.2.2⟩
end Go.Proofs.YtnnbinmomendnaaDoor.E
/-! parse's reader, out of the engine: what its methods come to, by the document's words -/
namespace Go.Proofs.YtnnbinmomendnaaDoor.E
open Go.RowKit
variable {R : Type}
/-- tokens as the lexer hands them on -/
structure TOk (l : Toks) : Prop where
  len : l.length ≤ 301
  last : ∀ i, i < l.length → ((tk l i).1 = 4 ↔ i + 1 = l.length)
  sign : ∀ i, i < l.length → (tk l i).1 = 3 → letN (bt (tk l i).2.1 0) = false
def escW [Esc R] (why at_ : Int) : Option R := Esc.esc (.iface 63 (.agg #[.int .i64 why, .int .i64 at_]))
/-- behind a method: it goes on, or the panic -/
def endS [Esc R] (s : RS) (k : Option R) : Option R := if s.2.1 = 0 then k else escW s.2.1 s.2.2
theorem endS_congr [Esc R] {s : RS} {k k' : Option R} (h : s.2.1 = 0 → k = k') : endS s k = endS s k' := by
  unfold endS
  by_cases h0 : s.2.1 = 0
  · rw [if_pos h0, if_pos h0, h h0]
  · rw [if_neg h0, if_neg h0]
theorem endS_then [Esc R] {s s' : RS} {k : Option R} (h : s.2.1 ≠ 0 → s'.2 = s.2) : endS s (endS s' k) = endS s' k := by
  unfold endS
  by_cases h0 : s.2.1 = 0
  · rw [if_pos h0]
  · rw [if_neg h0, h h0, if_neg h0]
theorem endS_ok [Esc R] {s : RS} (h : s.2.1 = 0) (k : Option R) : endS s k = k := by unfold endS; rw [if_pos h]
theorem endS_bad [Esc R] {s : RS} (h : s.2.1 ≠ 0) (k : Option R) : endS s k = escW s.2.1 s.2.2 := by unfold endS; rw [if_neg h]
/-! a state that has failed stays -/
theorem rStep_2 (l : Toks) (s : RS) : (rStep l s).2 = s.2 := rfl
theorem rTake_2 (l : Toks) (w : ByteArray) (s : RS) : (rTake l w s).2.2 = s.2 := by unfold rTake; split <;> rfl
theorem rFail_st {e p : Int} {s : RS} (h : s.2.1 ≠ 0) : rFail e p s = s := by unfold rFail; rw [if_neg h]
theorem rFail_0 {e p : Int} {s : RS} (h : s.2.1 = 0) : rFail e p s = (s.1, e, p) := by unfold rFail; rw [if_pos h]
theorem rIs_st {l : Toks} {w : ByteArray} {s : RS} (h : s.2.1 ≠ 0) : rIs l w s = false := by unfold rIs; rw [decide_eq_false h]; rfl
theorem rTake_st {l : Toks} {w : ByteArray} {s : RS} (h : s.2.1 ≠ 0) : rTake l w s = (false, s) := by unfold rTake; rw [rIs_st h]; rfl
theorem rMust_st {l : Toks} {w : ByteArray} {s : RS} (h : s.2.1 ≠ 0) : rMust l w s = s := by unfold rMust; rw [rTake_st h, rFail_st h]; rfl
theorem rNamed_st {l : Toks} {s : RS} (h : s.2.1 ≠ 0) : rNamed l s = false := by unfold rNamed; rw [decide_eq_false h]; rfl
theorem rName_st {l : Toks} {s : RS} (h : s.2.1 ≠ 0) : rName l s = ((⟨#[]⟩ : ByteArray), s) := by unfold rName; rw [rNamed_st h, rFail_st h]; rfl
/-! tokens -/
theorem nowP_F (n : Nat) (l : Toks) (i : Nat) (h : i < l.length) (k : ty36.D → Toks → Int → Option R) : parse_reader_now_F n l (i : Int) k = k (tk l i) l (i : Int) := by
  rw [parse_reader_now_e]
  unfold parse_reader_now_Fi
  rw [if_pos (by omega), Int.toNat_natCast]
  rfl
theorem stepP_F (n : Nat) (l : Toks) (ho : TOk l) (s : RS) (h : s.1 < l.length) (k : ty36.D → Toks → Int → Option R) : parse_reader_step_F n l (s.1 : Int) k = k (tk l s.1) l ((rStep l s).1 : Int) := by
  rw [parse_reader_step_e]
  unfold parse_reader_step_Fi rStep
  rw [nowP_F n l s.1 h]
  have hl := ho.len
  have hh := ho.last s.1 h
  by_cases h4 : (tk l s.1).1 = 4
  · rw [if_neg (by rw [h4]; decide), if_neg (show ¬ s.1 + 1 < l.length from by have := hh.1 h4; omega)]
  · rw [if_pos (by simpa using h4), if_pos (show s.1 + 1 < l.length from by
      have : ¬ s.1 + 1 = l.length := fun e => h4 (hh.2 e)
      omega), wrap_succ s.1 (by omega)]
theorem isP_F (n : Nat) (w : ByteArray) (l : Toks) (s : RS) (h0 : s.2.1 = 0) (h : s.1 < l.length) (k : Bool → Toks → Int → Option R) : parse_reader_is_F n w l (s.1 : Int) k = k (rIs l w s) l (s.1 : Int) := by
  rw [parse_reader_is_e]
  unfold parse_reader_is_Fi rIs
  rw [nowP_F n l s.1 h, beqB, decide_eq_true h0, Bool.true_and]
  by_cases h1 : (tk l s.1).1 = 1
  · rw [if_pos (by rw [h1]; rfl), decide_eq_true h1]; rfl
  · rw [if_neg (by simpa using h1), decide_eq_false h1, Bool.false_or]
    by_cases h3 : (tk l s.1).1 = 3
    · rw [if_pos (by rw [h3]; rfl), decide_eq_true h3]; rfl
    · rw [if_neg (by simpa using h3), decide_eq_false h3]; rfl
theorem takeP_F (n : Nat) (w : ByteArray) (l : Toks) (ho : TOk l) (s : RS) (h0 : s.2.1 = 0) (h : s.1 < l.length) (k : Bool → Toks → Int → Option R) : parse_reader_take_F n w l (s.1 : Int) k = k (rTake l w s).1 l ((rTake l w s).2.1 : Int) := by
  rw [parse_reader_take_e]
  unfold parse_reader_take_Fi rTake
  rw [isP_F n w l s h0 h]
  cases rIs l w s with
  | true => rw [if_pos rfl, if_pos rfl, stepP_F n l ho s h]
  | false => rw [if_neg (by decide), if_neg (by decide)]
theorem all_res (w : ByteArray) : ((List.range resW.length).all fun i => !decide ((resW.getD i ByteArray.empty) = w)) = !resS w := by
  rw [Bool.eq_iff_iff, List.all_eq_true]
  unfold resS
  rw [Bool.not_eq_true', List.any_eq_false]
  constructor
  · intro h x hx
    obtain ⟨i, hi, e⟩ := List.getElem_of_mem hx
    have := h i (List.mem_range.2 hi)
    rw [getD_nat _ i hi, e] at this
    simpa using this
  · intro h i hi
    have hi := List.mem_range.1 hi
    have := h _ (List.getElem_mem hi)
    rw [getD_nat _ i hi]
    simpa using this
/-- where a text stands among some -/
def ixF (ws : List ByteArray) (w : ByteArray) (i : Nat) : Option Nat := if ws.getD i ByteArray.empty = w then some i else none
theorem ixL_F (n : Nat) (ws : List ByteArray) (w : ByteArray) (hws : ws.length ≤ 15) (hn : 20 < n) (k : Int → Option R) : slices_Index_38_F n ws w k = match (List.range ws.length).findSome? (ixF ws w) with
    | none => k (-1)
    | some i => k (i : Int) := by
  rw [slices_Index_38_e]
  unfold slices_Index_38_Fi
  refine (runC_scan (R := R) (ρ := Nat) (step := slices_Index_38_l2 n) (fun b1 => k b1.1, fun b1 => k (-1), ()) (fun i => k (i : Int)) (k (-1)) (ixF ws w) (fun i => (ws, w, (ws.length : Int), (i : Int), ())) ws.length (fun i hi k1 => ?_) (fun k1 => ?_) (n := n) (by omega)).trans ?_
  · have hi2 : (0 : Int) ≤ (i : Int) ∧ (i : Int) < (ws.length : Int) := by omega
    have c : (i : Int) < (ws.length : Int) := by omega
    have e : ws.getD i (Ty.z .str) = ws.getD i ByteArray.empty := rfl
    simp only [slices_Index_38_l2, slices_Index_38_s2, c, hi2, decide_true, if_true, and_self, Int.toNat_natCast, beqB, e, wrap_succ i (by omega), ixF]
    by_cases h : ws.getD i ByteArray.empty = w
    · rw [if_pos (decide_eq_true h.symm), if_pos h]
    · have h' : ¬ w = ws.getD i ByteArray.empty := fun e => h e.symm
      rw [if_neg (by simpa using h'), if_neg h]
  · simp [slices_Index_38_l2, slices_Index_38_s2]
  · cases (List.range ws.length).findSome? (ixF ws w) <;> rfl
theorem reservedP_F (n : Nat) (w : ByteArray) (hn : 20 < n) (k : Bool → Option R) : lex_Reserved_F n w k = k (resS w) := by
  rw [lex_Reserved_e]
  unfold lex_Reserved_Fi
  rw [slices_Contains_23_e]
  unfold slices_Contains_23_Fi
  refine (ixL_F n resW w (by decide) hn _).trans ?_
  have ha := all_res w
  cases hf : (List.range resW.length).findSome? (ixF resW w) with
  | none =>
    have : ((List.range resW.length).all fun i => !decide ((resW.getD i ByteArray.empty) = w)) = true := by
      rw [List.all_eq_true]
      intro i hi
      have := (List.findSome?_eq_none_iff.1 hf) i hi
      unfold ixF at this
      by_cases he : resW.getD i ByteArray.empty = w
      · rw [if_pos he] at this; cases this
      · rw [decide_eq_false he]; rfl
    rw [this] at ha
    cases hr : resS w with
    | false => rfl
    | true => rw [hr] at ha; cases ha
  | some i =>
    obtain ⟨j, hj, he⟩ := List.exists_of_findSome?_eq_some hf
    unfold ixF at he
    simp only
    rw [decide_eq_true (show (i : Int) ≥ 0 by omega)]
    by_cases hw : resW.getD j ByteArray.empty = w
    · cases hr : resS w with
      | true => rfl
      | false =>
        rw [hr] at ha
        have := List.all_eq_true.1 ha j hj
        rw [decide_eq_true hw] at this
        cases this
    · rw [if_neg hw] at he; cases he
theorem namedP_F (n : Nat) (l : Toks) (s : RS) (h0 : s.2.1 = 0) (h : s.1 < l.length) (hn : 500 < n) (k : Bool → Toks → Int → Option R) : parse_reader_named_F n l (s.1 : Int) k = k (rNamed l s) l (s.1 : Int) := by
  rw [parse_reader_named_e]
  unfold parse_reader_named_Fi rNamed isName
  rw [nowP_F n l s.1 h, decide_eq_true h0, Bool.true_and]
  by_cases h1 : (tk l s.1).1 = 1
  · rw [if_pos (by rw [h1]; rfl), decide_eq_true h1, Bool.true_and]
    rw [schName_F n _ (by omega)]
    cases hs : nameS (tk l s.1).2.1 with
    | false => rfl
    | true =>
      simp only [if_true, Bool.true_and]
      rw [reservedP_F n _ (by omega)]
  · rw [if_neg (by simpa using h1), decide_eq_false h1, Bool.false_and]
/-- a failure that a condition tells -/
def rIf (b : Bool) (e p : Int) (s : RS) : RS := bif b then s else rFail e p s
theorem rIf_st {b : Bool} {e p : Int} {s : RS} (h : s.2.1 ≠ 0) : rIf b e p s = s := by unfold rIf; rw [rFail_st h]; cases b <;> rfl
theorem rIf_at (b : Bool) (e p : Int) (s : RS) : (rIf b e p s).1 = s.1 := by unfold rIf; cases b; exact rFail_at _ _ _; rfl
theorem mustP_F [Esc R] (n : Nat) (b : Bool) (e : Int) (he : e ≠ 0) (l : Toks) (s : RS) (h0 : s.2.1 = 0) (h : s.1 < l.length) (k : Toks → Int → Option R) : parse_reader_must_F n b e l (s.1 : Int) k = endS (rIf b e (atT l s) s) (k l (s.1 : Int)) := by
  rw [parse_reader_must_e]
  unfold parse_reader_must_Fi
  cases b with
  | true =>
    simp only [Bool.not_true, Bool.false_eq_true, if_false, rIf, cond_true]
    rw [endS_ok h0]
  | false =>
    simp only [Bool.not_false, if_true, rIf, cond_false]
    rw [nowP_F n l s.1 h, rFail_0 h0, endS_bad he]
    rfl
theorem wantP_F [Esc R] (n : Nat) (w : ByteArray) (l : Toks) (ho : TOk l) (s : RS) (h0 : s.2.1 = 0) (h : s.1 < l.length) (k : Toks → Int → Option R) : parse_reader_want_F n w l (s.1 : Int) k = endS (rMust l w s) (k l ((rMust l w s).1 : Int)) := by
  rw [parse_reader_want_e]
  unfold parse_reader_want_Fi
  rw [takeP_F n w l ho s h0 h]
  have h2 : (rTake l w s).2.2.1 = 0 := by rw [rTake_2]; exact h0
  refine (mustP_F n _ 7 (by decide) l (rTake l w s).2 h2 (rTake_lt w h) _).trans ?_
  unfold rMust
  cases ht : (rTake l w s).1 with
  | true => rfl
  | false =>
    have e : (rTake l w s).2 = s := by
      unfold rTake at ht ⊢
      split at ht
      · cases ht
      · rename_i hh; rw [if_neg hh]
    rw [e]
    simp only [rIf, cond_false, Bool.false_eq_true, if_false]
    rw [rFail_at]
    rfl
theorem nameP_F [Esc R] (n : Nat) (l : Toks) (ho : TOk l) (s : RS) (h0 : s.2.1 = 0) (h : s.1 < l.length) (hn : 500 < n) (k : ByteArray → Toks → Int → Option R) : parse_reader_name_F n l (s.1 : Int) k = endS (rName l s).2 (k (rName l s).1 l ((rName l s).2.1 : Int)) := by
  rw [parse_reader_name_e]
  unfold parse_reader_name_Fi
  rw [namedP_F n l s h0 h hn]
  refine (mustP_F n _ 7 (by decide) l s h0 h _).trans ?_
  unfold rName
  cases rNamed l s with
  | true =>
    simp only [rIf, cond_true, if_true]
    rw [stepP_F n l ho s h, endS_ok h0, endS_ok (by rw [rStep_2]; exact h0)]
  | false =>
    simp only [rIf, cond_false, Bool.false_eq_true, if_false]
    have hb : (rFail 7 (atT l s) s).2.1 ≠ 0 := by rw [rFail_0 h0]; show (7 : Int) ≠ 0; decide
    rw [endS_bad hb]
    exact (endS_bad hb _).symm
end Go.Proofs.YtnnbinmomendnaaDoor.E
namespace Go.Proofs.YtnnbinmomendnaaDoor.E
open Go.RowKit
variable {R : Type}
/-- which aggregate a word is; 0: none -/
def aggN (w : ByteArray) : Nat := if aggW.getD 1 ByteArray.empty = w then 1 else if aggW.getD 2 ByteArray.empty = w then 2 else if aggW.getD 3 ByteArray.empty = w then 3 else if aggW.getD 4 ByteArray.empty = w then 4 else 0
theorem aggN_le (w : ByteArray) : aggN w ≤ 4 := by unfold aggN; split; omega; split; omega; split; omega; split <;> omega
theorem aggIx_F (n : Nat) (w : ByteArray) (hn : 20 < n) (k : Int → Option R) : slices_Index_38_F n [(⟨#[99, 111, 117, 110, 116]⟩ : ByteArray), (⟨#[115, 117, 109]⟩ : ByteArray), (⟨#[108, 101, 97, 115, 116]⟩ : ByteArray), (⟨#[109, 111, 115, 116]⟩ : ByteArray)] w k = k ((aggN w : Int) - 1) := by
  refine (ixL_F n _ w (by decide) hn k).trans ?_
  have hr : List.range [(⟨#[99, 111, 117, 110, 116]⟩ : ByteArray), (⟨#[115, 117, 109]⟩ : ByteArray), (⟨#[108, 101, 97, 115, 116]⟩ : ByteArray), (⟨#[109, 111, 115, 116]⟩ : ByteArray)].length = [0, 1, 2, 3] := rfl
  rw [hr]
  have e1 : ixF [(⟨#[99, 111, 117, 110, 116]⟩ : ByteArray), (⟨#[115, 117, 109]⟩ : ByteArray), (⟨#[108, 101, 97, 115, 116]⟩ : ByteArray), (⟨#[109, 111, 115, 116]⟩ : ByteArray)] w 0 = if aggW.getD 1 ByteArray.empty = w then some 0 else none := rfl
  have e2 : ixF [(⟨#[99, 111, 117, 110, 116]⟩ : ByteArray), (⟨#[115, 117, 109]⟩ : ByteArray), (⟨#[108, 101, 97, 115, 116]⟩ : ByteArray), (⟨#[109, 111, 115, 116]⟩ : ByteArray)] w 1 = if aggW.getD 2 ByteArray.empty = w then some 1 else none := rfl
  have e3 : ixF [(⟨#[99, 111, 117, 110, 116]⟩ : ByteArray), (⟨#[115, 117, 109]⟩ : ByteArray), (⟨#[108, 101, 97, 115, 116]⟩ : ByteArray), (⟨#[109, 111, 115, 116]⟩ : ByteArray)] w 2 = if aggW.getD 3 ByteArray.empty = w then some 2 else none := rfl
  have e4 : ixF [(⟨#[99, 111, 117, 110, 116]⟩ : ByteArray), (⟨#[115, 117, 109]⟩ : ByteArray), (⟨#[108, 101, 97, 115, 116]⟩ : ByteArray), (⟨#[109, 111, 115, 116]⟩ : ByteArray)] w 3 = if aggW.getD 4 ByteArray.empty = w then some 3 else none := rfl
  simp only [List.findSome?, e1, e2, e3, e4]
  unfold aggN
  by_cases h1 : aggW.getD 1 ByteArray.empty = w
  · rw [if_pos h1, if_pos h1]; rfl
  · rw [if_neg h1, if_neg h1]
    by_cases h2 : aggW.getD 2 ByteArray.empty = w
    · rw [if_pos h2, if_pos h2]; rfl
    · rw [if_neg h2, if_neg h2]
      by_cases h3 : aggW.getD 3 ByteArray.empty = w
      · rw [if_pos h3, if_pos h3]; rfl
      · rw [if_neg h3, if_neg h3]
        by_cases h4 : aggW.getD 4 ByteArray.empty = w
        · rw [if_pos h4, if_pos h4]; rfl
        · rw [if_neg h4, if_neg h4]; rfl
theorem rAggI_word {l : Toks} {s : RS} (h0 : s.2.1 = 0) (h1 : (tk l s.1).1 = 1) : rAggI l s = aggN (tk l s.1).2.1 := by
  have e : ∀ w : ByteArray, rIs l w s = decide ((tk l s.1).2.1 = w) := fun w => by unfold rIs; rw [decide_eq_true h0, decide_eq_true h1]; simp
  have e2 : ∀ (w : ByteArray), ((decide ((tk l s.1).2.1 = w)) = true) = (w = (tk l s.1).2.1) := fun w => propext ⟨fun h => (of_decide_eq_true h).symm, fun h => decide_eq_true h.symm⟩
  unfold rAggI aggN
  simp only [e, e2]
theorem rAggI_else {l : Toks} {s : RS} (ho : TOk l) (h : s.1 < l.length) (h1 : (tk l s.1).1 ≠ 1) : rAggI l s = 0 := by
  have key : ∀ w : ByteArray, letN (bt w 0) = true → rIs l w s = false := by
    intro w hw
    unfold rIs
    by_cases h3 : (tk l s.1).1 = 3
    · have hs := ho.sign s.1 h h3
      have : (tk l s.1).2.1 ≠ w := fun e => by rw [e, hw] at hs; cases hs
      rw [decide_eq_false this]; simp
    · rw [decide_eq_false h1, decide_eq_false h3]; simp
  unfold rAggI
  rw [key (aggW.getD 1 ByteArray.empty) (by decide), key (aggW.getD 2 ByteArray.empty) (by decide), key (aggW.getD 3 ByteArray.empty) (by decide), key (aggW.getD 4 ByteArray.empty) (by decide)]
  rfl
theorem rAgg_st {l : Toks} {s : RS} {kind ag : Int} {of_ : ByteArray} (h : s.2.1 ≠ 0) : rAgg l kind s ag of_ = (false, s, ag, of_) := by
  have : rAggI l s = 0 := by unfold rAggI; rw [rIs_st h, rIs_st h, rIs_st h, rIs_st h]; rfl
  unfold rAgg
  rw [if_pos this]
theorem aggP_F [Esc R] (n : Nat) (l : Toks) (ho : TOk l) (s : RS) (h0 : s.2.1 = 0) (h : s.1 < l.length) (hn : 500 < n) (kind : Int) (hk : kind = 1 ∨ kind = 2 ∨ kind = 3) (nm : ByteArray) (ag : Int) (of_ : ByteArray) (lim : Int) (hd : List ByteArray) (bd : List ty61.D) (k : Bool → Toks → Int → Int → ByteArray → Int → ByteArray → Int → List ByteArray → List ty61.D → Option R) :
    parse_reader_agg_F n l (s.1 : Int) kind nm ag of_ lim hd bd k = endS (rAgg l kind s ag of_).2.1 (k (rAgg l kind s ag of_).1 l ((rAgg l kind s ag of_).2.1.1 : Int) kind nm (rAgg l kind s ag of_).2.2.1 (rAgg l kind s ag of_).2.2.2 lim hd bd) := by
  rw [parse_reader_agg_e]
  unfold parse_reader_agg_Fi
  rw [nowP_F n l s.1 h, aggIx_F n _ (by omega), nowP_F n l s.1 h]
  have hle := aggN_le (tk l s.1).2.1
  have hw : IntKind.i64.wrap ((aggN (tk l s.1).2.1 : Int) - 1 + 1) = (aggN (tk l s.1).2.1 : Int) := by rw [wrap_i64 (by omega) (by omega)]; omega
  simp only [hw]
  by_cases h1 : (tk l s.1).1 = 1
  · have e1 : ((tk l s.1).1 != 1) = false := by rw [bne_eq_false_iff_eq]; exact h1
    rw [if_neg (by rw [e1]; decide)]
    have ha := rAggI_word h0 h1
    unfold rAgg
    rw [ha]
    generalize aggN (tk l s.1).2.1 = a at hle ⊢
    by_cases a0 : a = 0
    · rw [if_pos (decide_eq_true (show (a : Int) < 1 by omega)), if_pos a0, endS_ok h0]
    · rw [if_neg (show ¬ decide ((a : Int) < 1) = true by simp; omega), if_neg a0]
      have hst : (rStep l s).2.1 = 0 := by rw [rStep_2]; exact h0
      have hlt := rStep_lt (l := l) h
      have tail : parse_reader_step_F n l (s.1 : Int) (fun y10 y11 y12 => if ((a : Int) != 1) = true then (parse_reader_name_F n y11 y12 (fun y13 y14 y15 => k true y14 y15 kind nm (a : Int) y13 lim hd bd)) else (k true y11 y12 kind nm (a : Int) of_ lim hd bd))
          = endS (if 1 < a then (true, (rName l (rStep l s)).2, (a : Int), (rName l (rStep l s)).1) else (true, rStep l s, (a : Int), of_) : Bool × RS × Int × ByteArray).2.1
            (k (if 1 < a then (true, (rName l (rStep l s)).2, (a : Int), (rName l (rStep l s)).1) else (true, rStep l s, (a : Int), of_) : Bool × RS × Int × ByteArray).1 l ((if 1 < a then (true, (rName l (rStep l s)).2, (a : Int), (rName l (rStep l s)).1) else (true, rStep l s, (a : Int), of_) : Bool × RS × Int × ByteArray).2.1.1 : Int) kind nm
              (if 1 < a then (true, (rName l (rStep l s)).2, (a : Int), (rName l (rStep l s)).1) else (true, rStep l s, (a : Int), of_) : Bool × RS × Int × ByteArray).2.2.1 (if 1 < a then (true, (rName l (rStep l s)).2, (a : Int), (rName l (rStep l s)).1) else (true, rStep l s, (a : Int), of_) : Bool × RS × Int × ByteArray).2.2.2 lim hd bd) := by
        rw [stepP_F n l ho s h]
        by_cases hg : 1 < a
        · have e2 : ((a : Int) != 1) = true := by rw [bne_iff_ne]; omega
          rw [if_pos e2, if_pos hg]
          exact nameP_F n l ho (rStep l s) hst hlt hn _
        · have e2 : ((a : Int) != 1) = false := by rw [bne_eq_false_iff_eq]; omega
          rw [if_neg (by rw [e2]; decide), if_neg hg, endS_ok hst]
      rcases hk with rfl | rfl | rfl
      · rw [if_neg (by decide), if_neg (by decide), if_pos (Or.inl rfl)]
        refine (mustP_F n false 7 (by decide) l s h0 h _).trans ?_
        have hb : (rFail 7 (atT l s) s).2.1 ≠ 0 := by rw [rFail_0 h0]; show (7 : Int) ≠ 0; decide
        exact (endS_bad hb _).trans (endS_bad hb _).symm
      · rw [if_pos (by decide), if_neg (by omega)]
        refine (mustP_F n true 7 (by decide) l s h0 h _).trans ?_
        rw [show rIf true 7 (atT l s) s = s from rfl, endS_ok h0]
        exact tail
      · rw [if_neg (by decide), if_pos (by decide)]
        refine (mustP_F n _ 7 (by decide) l s h0 h _).trans ?_
        by_cases hg : 2 < a
        · rw [if_pos (Or.inr ⟨rfl, hg⟩), decide_eq_false (show ¬ (a : Int) ≤ 2 by omega)]
          have hb : (rFail 7 (atT l s) s).2.1 ≠ 0 := by rw [rFail_0 h0]; show (7 : Int) ≠ 0; decide
          exact (endS_bad hb _).trans (endS_bad hb _).symm
        · rw [if_neg (by omega), decide_eq_true (show (a : Int) ≤ 2 by omega), show rIf true 7 (atT l s) s = s from rfl, endS_ok h0]
          exact tail
  · have e1 : ((tk l s.1).1 != 1) = true := bne_iff_ne.2 h1
    have ha := rAggI_else ho h h1
    have hr : rAgg l kind s ag of_ = (false, s, ag, of_) := by unfold rAgg; rw [if_pos ha]
    rw [if_pos e1, hr, endS_ok h0]
end Go.Proofs.YtnnbinmomendnaaDoor.E
namespace Go.Proofs.YtnnbinmomendnaaDoor.E
open Go.RowKit
variable {R : Type}
set_option maxRecDepth 100000
theorem rStep_ge (l : Toks) (s : RS) : s.1 ≤ (rStep l s).1 := by unfold rStep; simp only []; split <;> omega
theorem rTake_ge (l : Toks) (w : ByteArray) (s : RS) : s.1 ≤ (rTake l w s).2.1 := by unfold rTake; split; exact rStep_ge l s; exact Nat.le_refl _
/-- a step over what is not the end -/
theorem rStep_on {l : Toks} (ho : TOk l) {s : RS} (h : s.1 < l.length) (h4 : (tk l s.1).1 ≠ 4) : (rStep l s).1 = s.1 + 1 := by
  have hh := ho.last s.1 h
  unfold rStep
  exact if_pos (show s.1 + 1 < l.length from by
    have : ¬ s.1 + 1 = l.length := fun e => h4 (hh.2 e)
    omega)
theorem rIs_on {l : Toks} {w : ByteArray} {s : RS} (h : rIs l w s = true) : (tk l s.1).1 ≠ 4 := by
  unfold rIs at h
  intro e
  rw [e] at h
  simp at h
theorem rTake_on {l : Toks} (ho : TOk l) {w : ByteArray} {s : RS} (h : s.1 < l.length) (ht : (rTake l w s).1 = true) : (rTake l w s).2.1 = s.1 + 1 := by
  unfold rTake at ht ⊢
  split at ht
  · rename_i hi
    rw [if_pos hi]
    exact rStep_on ho h (rIs_on hi)
  · cases ht
theorem rNamed_on {l : Toks} {s : RS} (h : rNamed l s = true) : (tk l s.1).1 = 1 := by
  unfold rNamed isName at h
  simp only [Bool.and_eq_true, decide_eq_true_eq] at h
  exact h.2.1
theorem head_loopP [Esc R] (n : Nat) (l : Toks) (ho : TOk l) (hn : 500 < n) (kind : Int) (hk : kind = 1 ∨ kind = 2 ∨ kind = 3) (nm : ByteArray) (lim : Int) (bd : List ty61.D) (K : exK R (parse_reader_head_dx 4)) (ret : Toks → Int → Int → ByteArray → Int → ByteArray → Int → List ByteArray → List ty61.D → Option R)
    (hK1 : ∀ a b c d e f g h i, K.1 (a, b, c, d, e, f, g, h, i, ()) = ret a b c d e f g h i) (hK2 : ∀ a b c d e f g h i, K.2.1 (a, b, c, d, e, f, g, h, i, ()) = ret a b c d e f g h i) : ∀ (f m : Nat) (s : RS) (ag : Int) (of_ : ByteArray) (hd : List ByteArray), s.2.1 = 0 → s.1 < l.length → l.length ≤ s.1 + f → hd.length + f ≤ 2000 → f < m →
    runC (parse_reader_head_l4 n) m (l, (s.1 : Int), kind, nm, ag, of_, lim, hd, bd, ()) K = endS (rHeadL l kind f s ag of_ hd).1 (ret l ((rHeadL l kind f s ag of_ hd).1.1 : Int) kind nm (rHeadL l kind f s ag of_ hd).2.1 (rHeadL l kind f s ag of_ hd).2.2.1 lim (rHeadL l kind f s ag of_ hd).2.2.2 bd)
  | 0, m, s, ag, of_, hd, h0, h, hf, hh, hm => by omega
  | f + 1, m, s, ag, of_, hd, h0, h, hf, hh, hm => by
    obtain ⟨m, rfl⟩ : ∃ q, m = q + 1 := ⟨m - 1, by omega⟩
    refine (runC_s _ _ _ _).trans ?_
    simp only [parse_reader_head_l4, parse_reader_head_s4]
    refine (aggP_F n l ho s h0 h hn kind hk nm ag of_ lim hd bd _).trans ?_
    rw [rHeadL, if_pos h0]
    cases hb : (rAgg l kind s ag of_).1 with
    | true =>
      simp only [Bool.not_true, Bool.false_eq_true, if_false, if_true]
      exact endS_congr fun _ => hK2 _ _ _ _ _ _ _ _ _
    | false =>
      have hr : rAgg l kind s ag of_ = (false, s, ag, of_) := rAgg_no hb
      simp only [hr, Bool.not_false, if_true, Bool.false_eq_true, if_false]
      rw [endS_ok h0, namedP_F n l s h0 h hn]
      have gd : ∀ x : ByteArray, (List.length hd + List.length [x]) * 16 ≤ 140737488355328 := fun x => by simp only [List.length_cons, List.length_nil]; omega
      cases hn2 : rNamed l s with
      | true =>
        simp only [if_true]
        have h1 := rNamed_on hn2
        have hN : rName l s = ((tk l s.1).2.1, rStep l s) := by unfold rName; rw [if_pos hn2]
        have hst : (rStep l s).2.1 = 0 := by rw [rStep_2]; exact h0
        have hlt := rStep_lt (l := l) h
        have hon := rStep_on ho h (by rw [h1]; decide)
        refine (mustP_F n _ 9 (by decide) l s h0 h _).trans ?_
        by_cases hg : 40 ≤ hd.length
        · have hd9 : decide ((hd.length : Int) < 40) = false := decide_eq_false (by omega)
          rw [hd9]
          have hb1 : (rIf false 9 (atT l s) s).2.1 ≠ 0 := by show (rFail 9 (atT l s) s).2.1 ≠ 0; rw [rFail_0 h0]; show (9 : Int) ≠ 0; decide
          rw [endS_bad hb1]
          simp only [hg, if_true, hN]
          have e9 : rFail 9 (atT l s) (rStep l s) = ((rStep l s).1, 9, atT l s) := rFail_0 hst
          rw [e9]
          have hb2 : (((rStep l s).1, 9, atT l s) : RS).2.1 ≠ 0 := by show (9 : Int) ≠ 0; decide
          rw [rTake_st hb2]
          simp only [Bool.false_eq_true, if_false]
          rw [endS_bad hb2]
          show escW (rFail 9 (atT l s) s).2.1 (rFail 9 (atT l s) s).2.2 = _
          rw [rFail_0 h0]
        · have hd9 : decide ((hd.length : Int) < 40) = true := decide_eq_true (by omega)
          rw [hd9, show rIf true 9 (atT l s) s = s from rfl, endS_ok h0]
          refine (nameP_F n l ho s h0 h hn _).trans ?_
          simp only [hg, if_false, hN, gd, if_true]
          rw [endS_ok hst]
          refine (takeP_F n commaB l ho (rStep l s) hst hlt _).trans ?_
          have ht2 : (rTake l commaB (rStep l s)).2.2.1 = 0 := by rw [rTake_2]; exact hst
          cases ht : (rTake l commaB (rStep l s)).1 with
          | false =>
            simp only [Bool.not_false, if_true, Bool.false_eq_true, if_false]
            rw [endS_ok ht2]
            exact hK1 _ _ _ _ _ _ _ _ _
          | true =>
            simp only [Bool.not_true, if_true, Bool.false_eq_true, if_false]
            have hge := rTake_ge l commaB (rStep l s)
            exact head_loopP n l ho hn kind hk nm lim bd K ret hK1 hK2 f m (rTake l commaB (rStep l s)).2 ag of_ _ ht2 (rTake_lt _ hlt) (by omega) (by simp; omega) (by omega)
      | false =>
        simp only [Bool.false_eq_true, if_false]
        have hN : rName l s = ((⟨#[]⟩ : ByteArray), rFail 7 (tk l s.1).2.2.2.1 s) := by unfold rName; rw [if_neg (by rw [hn2]; decide)]
        have hb1 : (rFail 7 (tk l s.1).2.2.2.1 s).2.1 ≠ 0 := by rw [rFail_0 h0]; show (7 : Int) ≠ 0; decide
        refine (nameP_F n l ho s h0 h hn _).trans ?_
        simp only [hN]
        rw [endS_bad hb1]
        have e9 : (if 40 ≤ hd.length then rFail 9 (atT l s) (rFail 7 (tk l s.1).2.2.2.1 s) else rFail 7 (tk l s.1).2.2.2.1 s) = rFail 7 (tk l s.1).2.2.2.1 s := by rw [rFail_st hb1]; split <;> rfl
        simp only [e9]
        rw [rTake_st hb1]
        simp only [Bool.false_eq_true, if_false]
        exact (endS_bad hb1 _).symm
theorem headP_F [Esc R] (n : Nat) (l : Toks) (ho : TOk l) (s : RS) (h0 : s.2.1 = 0) (h : s.1 < l.length) (hn : 500 < n) (kind : Int) (hk : kind = 1 ∨ kind = 2 ∨ kind = 3) (nm : ByteArray) (ag : Int) (of_ : ByteArray) (lim : Int) (hd : List ByteArray) (hh : hd.length ≤ 1000) (bd : List ty61.D) (k : Toks → Int → Int → ByteArray → Int → ByteArray → Int → List ByteArray → List ty61.D → Option R) :
    parse_reader_head_F n l (s.1 : Int) kind nm ag of_ lim hd bd k = endS (rHead l kind s ag of_ hd).1 (k l ((rHead l kind s ag of_ hd).1.1 : Int) kind nm (rHead l kind s ag of_ hd).2.1 (rHead l kind s ag of_ hd).2.2.1 lim (rHead l kind s ag of_ hd).2.2.2 bd) := by
  rw [parse_reader_head_e]
  unfold parse_reader_head_Fi
  by_cases hk3 : kind = 3
  · subst hk3
    rw [if_pos (by decide)]
    have hH : rHead l 3 s ag of_ hd = ((if (rAgg l 3 (rMust l commaB (rName l s).2) ag of_).1 = true then (rAgg l 3 (rMust l commaB (rName l s).2) ag of_).2.1 else rFail 7 (atT l (rAgg l 3 (rMust l commaB (rName l s).2) ag of_).2.1) (rAgg l 3 (rMust l commaB (rName l s).2) ag of_).2.1),
      (rAgg l 3 (rMust l commaB (rName l s).2) ag of_).2.2.1, (rAgg l 3 (rMust l commaB (rName l s).2) ag of_).2.2.2, hd ++ [(rName l s).1]) := by unfold rHead; rw [if_pos rfl]
    rw [hH]
    refine (nameP_F n l ho s h0 h hn _).trans ?_
    have h1 := rName_lt (l := l) h
    have gd : (List.length hd + List.length [(rName l s).1]) * 16 ≤ 140737488355328 := by simp only [List.length_cons, List.length_nil]; omega
    generalize rName l s = a1 at h1 gd ⊢
    simp only [gd, if_true]
    refine (endS_congr fun g1 => wantP_F n commaB l ho a1.2 g1 h1 _).trans ?_
    rw [endS_then (fun g => by rw [rMust_st g])]
    have h2 := rMust_lt (l := l) commaB h1
    generalize hs2 : rMust l commaB a1.2 = s2 at h2 ⊢
    refine (endS_congr fun g2 => aggP_F n l ho s2 g2 h2 hn 3 (.inr (.inr rfl)) nm ag of_ lim (hd ++ [a1.1]) bd _).trans ?_
    rw [endS_then (fun g => by rw [rAgg_st g])]
    have h3 := rAgg_lt (l := l) 3 ag of_ h2
    generalize rAgg l 3 s2 ag of_ = q at h3 ⊢
    refine (endS_congr fun g3 => mustP_F n q.1 7 (by decide) l q.2.1 g3 h3 _).trans ?_
    rw [endS_then (fun g => by rw [rIf_st g])]
    have e : rIf q.1 7 (atT l q.2.1) q.2.1 = if q.1 = true then q.2.1 else rFail 7 (atT l q.2.1) q.2.1 := by cases q.1 <;> rfl
    have e1 : (if q.1 = true then q.2.1 else rFail 7 (atT l q.2.1) q.2.1).1 = q.2.1.1 := by rw [← e, rIf_at]
    simp only [e, e1]
  · have b : (kind == 3) = false := by simp [hk3]
    have hH : rHead l kind s ag of_ hd = rHeadL l kind 400 s ag of_ hd := by unfold rHead; rw [if_neg hk3]
    rw [if_neg (by rw [b]; decide), hH]
    have := ho.len
    exact head_loopP n l ho hn kind hk nm lim bd _ k (fun _ _ _ _ _ _ _ _ _ => rfl) (fun _ _ _ _ _ _ _ _ _ => rfl) 400 n s ag of_ hd h0 h (by omega) (by omega) (by omega)
theorem rHeadL_st {l : Toks} {s : RS} {kind ag : Int} {of_ : ByteArray} {hd : List ByteArray} (f : Nat) (h : s.2.1 ≠ 0) : rHeadL l kind f s ag of_ hd = (s, ag, of_, hd) := by
  cases f with
  | zero => rfl
  | succ f => rw [rHeadL, if_neg h]
theorem rHead_st {l : Toks} {s : RS} {kind ag : Int} {of_ : ByteArray} {hd : List ByteArray} (h : s.2.1 ≠ 0) : (rHead l kind s ag of_ hd).1 = s := by
  unfold rHead
  split
  · simp only [rName_st h, rMust_st h, rAgg_st h]
    simp only [Bool.false_eq_true, if_false]
    exact rFail_st h
  · rw [rHeadL_st 400 h]
end Go.Proofs.YtnnbinmomendnaaDoor.E
namespace Go.Proofs.YtnnbinmomendnaaDoor.E
open Go.RowKit
variable {R : Type}
set_option maxRecDepth 100000
theorem rTerm_st {l : Toks} {s : RS} (h : s.2.1 ≠ 0) : (rTerm l s).2 = s := by unfold rTerm; rw [if_neg (fun g => h g.1)]; simp only [rName_st h]
theorem termP_F [Esc R] (n : Nat) (l : Toks) (ho : TOk l) (s : RS) (h0 : s.2.1 = 0) (h : s.1 < l.length) (hn : 500 < n) (k : ty58.D → Toks → Int → Option R) : parse_reader_term_F n l (s.1 : Int) k = endS (rTerm l s).2 (k (rTerm l s).1 l ((rTerm l s).2.1 : Int)) := by
  rw [parse_reader_term_e]
  unfold parse_reader_term_Fi
  rw [nowP_F n l s.1 h]
  unfold rTerm
  by_cases h2 : (tk l s.1).1 = 2
  · rw [if_pos (by rw [h2]; rfl), if_pos ⟨h0, h2⟩, stepP_F n l ho s h, endS_ok (by rw [rStep_2]; exact h0)]
  · rw [if_neg (by simpa using h2), if_neg (fun g => h2 g.2)]
    exact nameP_F n l ho s h0 h hn _
/-- an argument, that may be one too many -/
def rArgM (l : Toks) (many : Nat) (s : RS) : RS := if 40 < many + 1 then rFail 9 (atT l s) (rArg l s).2 else (rArg l s).2
theorem rArgM_lt {l : Toks} (many : Nat) {s : RS} (h : s.1 < l.length) : (rArgM l many s).1 < l.length := by unfold rArgM; split; exact rFail_lt _ _ (rArg_lt h); exact rArg_lt h
theorem argP_F [Esc R] (n : Nat) (many : Nat) (l : Toks) (ho : TOk l) (s : RS) (h0 : s.2.1 = 0) (h : s.1 < l.length) (hn : 500 < n) (k : ty58.D → Toks → Int → Option R) : parse_reader_arg_F n (many : Int) l (s.1 : Int) k = endS (rArgM l many s) (k (rArg l s).1 l ((rArgM l many s).1 : Int)) := by
  rw [parse_reader_arg_e]
  unfold parse_reader_arg_Fi
  rw [isP_F n _ l s h0 h]
  have hplace : (rArgM l many s).1 = (rArg l s).2.1 := by unfold rArgM; split; exact rFail_at _ _ _; rfl
  rw [hplace]
  -- what follows, when one more may stand there
  have tail : (parse_reader_take_F n (⟨#[95]⟩ : ByteArray) l (s.1 : Int) (fun y6 y7 y8 => if y6 = true then (k ((⟨#[]⟩ : ByteArray), true, (0, false, 0, (⟨#[]⟩ : ByteArray), ()), ()) y7 y8) else (parse_reader_term_F n y7 y8 (fun y9 y10 y11 => k y9 y10 y11)))) = endS (rArg l s).2 (k (rArg l s).1 l ((rArg l s).2.1 : Int)) := by
    refine (takeP_F n anyB l ho s h0 h _).trans ?_
    unfold rArg rTake
    cases hi : rIs l anyB s with
    | true =>
      simp only [if_true]
      rw [endS_ok (by rw [rStep_2]; exact h0)]
      rfl
    | false =>
      simp only [Bool.false_eq_true, if_false]
      exact termP_F n l ho s h0 h hn _
  have must : (rArg l s).2.2.1 = 0 → (parse_reader_must_F n (decide ((many : Int) < 40)) 9 l (s.1 : Int) (fun y4 y5 => parse_reader_take_F n (⟨#[95]⟩ : ByteArray) y4 y5 (fun y6 y7 y8 => if y6 = true then (k ((⟨#[]⟩ : ByteArray), true, (0, false, 0, (⟨#[]⟩ : ByteArray), ()), ()) y7 y8) else (parse_reader_term_F n y7 y8 (fun y9 y10 y11 => k y9 y10 y11))))) = endS (rArgM l many s) (k (rArg l s).1 l ((rArg l s).2.1 : Int)) := by
    intro hok
    refine (mustP_F n _ 9 (by decide) l s h0 h _).trans ?_
    unfold rArgM
    by_cases hg : 40 < many + 1
    · rw [if_pos hg, decide_eq_false (show ¬ (many : Int) < 40 by omega)]
      show endS (rFail 9 (atT l s) s) _ = _
      have e1 : rFail 9 (atT l s) s = (s.1, 9, atT l s) := rFail_0 h0
      have e2 : rFail 9 (atT l s) (rArg l s).2 = ((rArg l s).2.1, 9, atT l s) := rFail_0 hok
      rw [e1, e2, endS_bad (by show (9 : Int) ≠ 0; decide), endS_bad (by show (9 : Int) ≠ 0; decide)]
    · rw [if_neg hg, decide_eq_true (show (many : Int) < 40 by omega)]
      show endS s _ = _
      rw [endS_ok h0]
      exact tail
  cases hi : rIs l (⟨#[95]⟩ : ByteArray) s with
  | true =>
    have hi' : rIs l anyB s = true := hi
    rw [if_pos rfl]
    exact must (by unfold rArg; rw [if_pos hi', rStep_2]; exact h0)
  | false =>
    have hi' : rIs l anyB s = false := hi
    have hA : rArg l s = rTerm l s := by unfold rArg; rw [if_neg (by rw [hi']; decide)]
    rw [if_neg (by decide), namedP_F n l s h0 h hn]
    cases hnm : rNamed l s with
    | true =>
      have h1 := rNamed_on hnm
      rw [if_pos rfl]
      exact must (by rw [hA]; unfold rTerm; rw [if_neg (fun g => by have := g.2; rw [h1] at this; cases this)]; unfold rName; rw [if_pos hnm, rStep_2]; exact h0)
    | false =>
      rw [if_neg (by decide), nowP_F n l s.1 h]
      by_cases h2 : (tk l s.1).1 = 2
      · rw [if_pos (by rw [h2]; rfl)]
        exact must (by rw [hA]; unfold rTerm; rw [if_pos ⟨h0, h2⟩, rStep_2]; exact h0)
      · rw [if_neg (by simpa using h2)]
        refine tail.trans ?_
        have hb : (rArg l s).2.2.1 ≠ 0 := by
          rw [hA]
          unfold rTerm
          rw [if_neg (fun g => h2 g.2)]
          unfold rName
          rw [if_neg (by rw [hnm]; decide)]
          simp only
          rw [rFail_0 h0]
          show (7 : Int) ≠ 0
          decide
        have e : rArgM l many s = (rArg l s).2 := by unfold rArgM; rw [rFail_st hb]; split <;> rfl
        rw [e]
theorem rArgsL_s (l : Toks) (f : Nat) (s : RS) (acc : List ty58.D) (h0 : s.2.1 = 0) : rArgsL l (f + 1) s acc = if (rTake l commaB (rArgM l acc.length s)).1 = true then rArgsL l f (rTake l commaB (rArgM l acc.length s)).2 (acc ++ [(rArg l s).1]) else (rMust l rparB (rTake l commaB (rArgM l acc.length s)).2, acc ++ [(rArg l s).1]) := by
  rw [rArgsL, if_pos h0]
  rfl
theorem args_loopP [Esc R] (n : Nat) (l : Toks) (ho : TOk l) (hn : 500 < n) (K : exK R (parse_reader_args_dx 4)) (ret : Toks → Int → List ty58.D → Option R)
    (hK : ∀ (s : RS) (acc : List ty58.D), s.2.1 = 0 → s.1 < l.length → K.1 (l, (s.1 : Int), acc, ()) = endS (rMust l rparB s) (ret l ((rMust l rparB s).1 : Int) acc)) : ∀ (f m : Nat) (s : RS) (acc : List ty58.D), s.2.1 = 0 → s.1 < l.length → l.length ≤ s.1 + f → acc.length + f ≤ 2000 → f < m →
    runC (parse_reader_args_l4 n) m (l, (s.1 : Int), acc, ()) K = endS (if (rTake l commaB s).1 = true then rArgsL l f (rTake l commaB s).2 acc else (rMust l rparB (rTake l commaB s).2, acc)).1
      (ret l ((if (rTake l commaB s).1 = true then rArgsL l f (rTake l commaB s).2 acc else (rMust l rparB (rTake l commaB s).2, acc)).1.1 : Int) (if (rTake l commaB s).1 = true then rArgsL l f (rTake l commaB s).2 acc else (rMust l rparB (rTake l commaB s).2, acc)).2)
  | 0, m, s, acc, h0, h, hf, hh, hm => by omega
  | f + 1, m, s, acc, h0, h, hf, hh, hm => by
    obtain ⟨m, rfl⟩ : ∃ q, m = q + 1 := ⟨m - 1, by omega⟩
    refine (runC_s _ _ _ _).trans ?_
    simp only [parse_reader_args_l4, parse_reader_args_s4]
    refine (takeP_F n commaB l ho s h0 h _).trans ?_
    have ht2 : (rTake l commaB s).2.2.1 = 0 := by rw [rTake_2]; exact h0
    have htl := rTake_lt (l := l) commaB h
    cases ht : (rTake l commaB s).1 with
    | false =>
      simp only [Bool.false_eq_true, if_false]
      exact hK _ _ ht2 htl
    | true =>
      simp only [if_true]
      have hon := rTake_on ho h ht
      generalize (rTake l commaB s).2 = t at ht2 htl hon ⊢
      refine (argP_F n acc.length l ho t ht2 htl hn _).trans ?_
      rw [rArgsL_s l f t acc ht2]
      have gd : (List.length acc + List.length [(rArg l t).1]) * 64 ≤ 140737488355328 := by simp only [List.length_cons, List.length_nil]; omega
      simp only [gd, if_true]
      have hml := rArgM_lt (l := l) acc.length htl
      have hge : t.1 ≤ (rArgM l acc.length t).1 := by
        unfold rArgM rArg rTerm rName
        split <;> (try rw [rFail_at]) <;> (split; exact rStep_ge l t; split; exact rStep_ge l t; split; exact rStep_ge l t; rw [rFail_at]; exact Nat.le_refl _)
      generalize rArgM l acc.length t = q at hml hge ⊢
      by_cases hq : q.2.1 = 0
      · rw [endS_ok hq]
        exact args_loopP n l ho hn K ret hK f m q _ hq hml (by omega) (by simp; omega) (by omega)
      · rw [endS_bad hq, rTake_st hq]
        simp only [Bool.false_eq_true, if_false]
        rw [rMust_st hq, endS_bad hq]
theorem rArgsL_st {l : Toks} {s : RS} {acc : List ty58.D} (f : Nat) (h : s.2.1 ≠ 0) : rArgsL l f s acc = (s, acc) := by
  cases f with
  | zero => rfl
  | succ f => rw [rArgsL, if_neg h]
theorem rArgs_st {l : Toks} {s : RS} (h : s.2.1 ≠ 0) : (rArgs l s).1 = s := by
  unfold rArgs
  rw [rTake_st h]
  simp only [Bool.false_eq_true, if_false]
  rw [rArgsL_st 400 h]
theorem argsP_F [Esc R] (n : Nat) (l : Toks) (ho : TOk l) (s : RS) (h0 : s.2.1 = 0) (h : s.1 < l.length) (hn : 500 < n) (k : Toks → Int → List ty58.D → Option R) : parse_reader_args_F n l (s.1 : Int) k = endS (rArgs l s).1 (k l ((rArgs l s).1.1 : Int) (rArgs l s).2) := by
  rw [parse_reader_args_e]
  unfold parse_reader_args_Fi rArgs
  refine (takeP_F n rparB l ho s h0 h _).trans ?_
  have ht2 : (rTake l rparB s).2.2.1 = 0 := by rw [rTake_2]; exact h0
  have htl := rTake_lt (l := l) rparB h
  cases ht : (rTake l rparB s).1 with
  | true =>
    simp only [if_true]
    rw [endS_ok ht2]
  | false =>
    simp only [Bool.false_eq_true, if_false]
    generalize (rTake l rparB s).2 = t at ht2 htl ⊢
    refine (argP_F n 0 l ho t ht2 htl hn _).trans ?_
    rw [show (400 : Nat) = 399 + 1 from rfl, rArgsL_s l 399 t [] ht2]
    simp only [List.length_nil, List.nil_append]
    have hml := rArgM_lt (l := l) 0 htl
    have hlen := ho.len
    generalize rArgM l 0 t = q at hml ⊢
    by_cases hq : q.2.1 = 0
    · rw [endS_ok hq]
      exact args_loopP n l ho hn _ k (fun s2 acc h02 h2 => wantP_F n rparB l ho s2 h02 h2 _) 399 n q [(rArg l t).1] hq hml (by omega) (by simp) (by omega)
    · rw [endS_bad hq, rTake_st hq]
      simp only [Bool.false_eq_true, if_false]
      rw [rMust_st hq, endS_bad hq]
theorem atomP_F [Esc R] (n : Nat) (b : Bool) (atoms : Int) (l : Toks) (ho : TOk l) (s : RS) (h0 : s.2.1 = 0) (h : s.1 < l.length) (hn : 500 < n) (k : ty61.D → Toks → Int → Option R) : parse_reader_atom_F n b atoms l (s.1 : Int) k = endS (rAtom l atoms b (atT l s) s).2 (k (rAtom l atoms b (atT l s) s).1 l ((rAtom l atoms b (atT l s) s).2.1 : Int)) := by
  rw [parse_reader_atom_e]
  unfold parse_reader_atom_Fi
  refine (nameP_F n l ho s h0 h hn _).trans ?_
  have hA : rAtom l atoms b (atT l s) s = ((b, (rName l s).1, (rArgs l (rAtomS l atoms b (atT l s) s)).2, 0, ()), (rArgs l (rAtomS l atoms b (atT l s) s)).1) := rfl
  have hS : rAtomS l atoms b (atT l s) s = if b = false ∧ 6 ≤ atoms then rFail 9 (atT l s) (rMust l lparB (rName l s).2) else rMust l lparB (rName l s).2 := rfl
  rw [hA]
  have h1 := rName_lt (l := l) h
  generalize rName l s = a1 at h1 hS ⊢
  refine (endS_congr fun g1 => wantP_F n lparB l ho a1.2 g1 h1 _).trans ?_
  rw [endS_then (fun g => by rw [rMust_st g])]
  have h2 := rMust_lt (l := l) lparB h1
  generalize rMust l lparB a1.2 = s2 at h2 hS ⊢
  have atP : (0 : Int) ≤ (s.1 : Int) ∧ (s.1 : Int) < (l.length : Int) := by omega
  by_cases hc : b = false ∧ 6 ≤ atoms
  · obtain ⟨rfl, h6⟩ := hc
    rw [if_pos ⟨rfl, h6⟩] at hS
    rw [hS]
    simp only [Bool.not_false, if_true, atP, and_self]
    rw [if_pos (decide_eq_true (show atoms ≥ 6 from h6))]
    by_cases g2 : s2.2.1 = 0
    · rw [endS_ok g2]
      have e : rFail 9 (atT l s) s2 = (s2.1, 9, atT l s) := rFail_0 g2
      have hb : (rFail 9 (atT l s) s2).2.1 ≠ 0 := by rw [e]; show (9 : Int) ≠ 0; decide
      rw [rArgs_st hb, endS_bad hb, e, Int.toNat_natCast]
      rfl
    · rw [endS_bad g2, rFail_st g2, rArgs_st g2, endS_bad g2]
  · rw [if_neg hc] at hS
    rw [hS]
    refine Eq.trans (endS_congr (k' := endS (rArgs l s2).1 (k (b, a1.1, (rArgs l s2).2, 0, ()) l ((rArgs l s2).1.1 : Int))) fun g2 => ?_) (endS_then fun g => by rw [rArgs_st g])
    cases b with
    | true =>
      simp only [Bool.not_true, Bool.false_eq_true, if_false]
      exact argsP_F n l ho s2 g2 h2 hn _
    | false =>
      have h6 : ¬ atoms ≥ 6 := fun g => hc ⟨rfl, g⟩
      simp only [Bool.not_false, if_true]
      rw [if_neg (by simpa using h6)]
      exact argsP_F n l ho s2 g2 h2 hn _
end Go.Proofs.YtnnbinmomendnaaDoor.E
