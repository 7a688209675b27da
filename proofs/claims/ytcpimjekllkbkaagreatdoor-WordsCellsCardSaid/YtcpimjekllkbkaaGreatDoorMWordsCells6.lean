/- For the law WordsCells. -/
import Derived.Test.YtcpimjekllkbkaaGreatDoorMWordsCells5
import Derived.KernelRfl
import Derived.Test.YtcpimjekllkbkaaGreatDoorMWordsCells4
import Derived.Lib.Bytealg
import Derived.Test.YtcpimjekllkbkaaGreatDoorRows
import Derived.Test.YtcpimjekllkbkaaGreatDoorMWordsCells1
import Derived.Stop.LaidErr
import Derived.Lib.LaidTab
import Derived.LaidLaws
set_option linter.unusedVariables false
set_option linter.unusedSimpArgs false
set_option linter.unusedSectionVars false
namespace Go.Proofs.YtcpimjekllkbkaaGreatDoor.E
open Go.RowKit
variable {R : Type}
theorem runC_upx {α β γ R : Type} {step : α → (α → Option R) → β → Option R} (out : γ → β → Option R) (Q : γ → Prop) (I : Nat → α → Prop) (m : Nat)
    (hs : ∀ i a, i < m → I i a → (∃ a', I (i + 1) a' ∧ ∀ k1 k2, step a k1 k2 = k1 a') ∨ ∃ y, Q y ∧ ∀ k1 k2, step a k1 k2 = out y k2) (he : ∀ a, I m a → ∃ y, Q y ∧ ∀ k1 k2, step a k1 k2 = out y k2) {n : Nat} {a : α} (hn : m < n) (ha : I 0 a) : ∃ y, Q y ∧ ∀ k2, runC step n a k2 = out y k2 := by
  have go : ∀ (d i n : Nat) (a : α), i + d = m → d < n → I i a → ∃ y, Q y ∧ ∀ k2, runC step n a k2 = out y k2 := by
    intro d
    induction d with
    | zero =>
      intro i n a hi hn ha
      obtain ⟨n, rfl⟩ : ∃ q, n = q + 1 := ⟨n - 1, by omega⟩
      have : i = m := by omega
      subst this
      obtain ⟨y, h1, h2⟩ := he a ha
      exact ⟨y, h1, fun k2 => h2 _ k2⟩
    | succ d ih =>
      intro i n a hi hn ha
      obtain ⟨n, rfl⟩ : ∃ q, n = q + 1 := ⟨n - 1, by omega⟩
      rcases hs i a (by omega) ha with ⟨a', h1, h2⟩ | ⟨y, h1, h2⟩
      · obtain ⟨y, h3, h4⟩ := ih (i + 1) n a' (by omega) (by omega) h1
        exact ⟨y, h3, fun k2 => (h2 _ k2).trans (h4 k2)⟩
      · exact ⟨y, h1, fun k2 => h2 _ k2⟩
  exact go m 0 n a (by omega) hn ha
/-! back -/
def hexS (x : Int) : Int := if 48 ≤ x ∧ x ≤ 57 then x - 48 else if 97 ≤ x ∧ x ≤ 102 then x - 87 else -1
theorem hex_F (n : Nat) (x : Int) (k : Int → Option R) : verdererref01_hex_F n x k = k (hexS x) := by
  rw [verdererref01_hex_e]
  unfold verdererref01_hex_Fi hexS
  by_cases h1 : 48 ≤ x
  · by_cases h2 : x ≤ 57
    · simp only [ge_iff_le, h1, h2, decide_true, if_true, and_self]
      rw [u8w _ (by omega) (by omega), wrap_i64 (by omega) (by omega)]
    · by_cases h3 : 97 ≤ x
      · by_cases h4 : x ≤ 102
        · simp only [ge_iff_le, h1, h2, h3, h4, decide_true, decide_false, Bool.false_eq_true, if_true, if_false, and_self, and_false]
          rw [u8w _ (by omega) (by omega), wrap_i64 (x := x - 97) (by omega) (by omega), wrap_i64 (by omega) (by omega)]
          congr 1; omega
        · simp only [ge_iff_le, h1, h2, h3, h4, decide_true, decide_false, Bool.false_eq_true, if_true, if_false, and_false]
      · simp only [ge_iff_le, h1, h2, h3, decide_true, decide_false, Bool.false_eq_true, if_true, if_false, and_false, false_and]
  · have h3 : ¬ 97 ≤ x := by omega
    simp only [ge_iff_le, h1, h3, decide_false, Bool.false_eq_true, if_false, false_and]
theorem hexS_d (i : Nat) (h : i < 16) : hexS ((hexd i).toNat : Int) = (i : Int) := by
  have e := hexd_nat i h
  unfold hexS
  split at e <;> rw [e]
  · rw [if_pos (by omega)]; omega
  · rw [if_neg (by omega), if_pos (by omega)]; omega
theorem w1 (i : Nat) (h : i ≤ 4000000) : IntKind.i64.wrap ((i : Int) + 1) = ((i + 1 : Nat) : Int) := wrap_succ i (by omega)
theorem w2 (i : Nat) (h : i ≤ 4000000) : IntKind.i64.wrap ((i : Int) + 2) = ((i + 2 : Nat) : Int) := by rw [wrap_i64 (by omega) (by omega)]; omega
theorem w3 (i : Nat) (h : i ≤ 4000000) : IntKind.i64.wrap ((i : Int) + 3) = ((i + 3 : Nat) : Int) := by rw [wrap_i64 (by omega) (by omega)]; omega
theorem wm (i : Nat) (h : i ≤ 4000000) : IntKind.i64.wrap ((i : Int) - 1) = (i : Int) - 1 := wrap_i64 (by omega) (by omega)
theorem w6 (x : Nat) (h : x < 256) : IntKind.u8.wrap (IntKind.i64.wrap ((IntKind.i64.wrap (16 * ((x / 16 : Nat) : Int))) + ((x % 16 : Nat) : Int))) = (x : Int) := by
  rw [wrap_i64 (x := 16 * ((x / 16 : Nat) : Int)) (by omega) (by omega), wrap_i64 (by omega) (by omega), u8w _ (by omega) (by omega)]
  omega
/-- it comes to an end -/
theorem unq_ex (n : Nat) (s : ByteArray) (hs : s.size ≤ 1000) (h1 : 1 ≤ s.size) (hn : s.size + 2 < n) : ∃ t : ByteArray, ∀ k : ByteArray → Option R, verdererref01_unquoted_F n s k = k t := by
  rw [verdererref01_unquoted_e]
  unfold verdererref01_unquoted_Fi
  have h := runC_upx (R := R) (step := verdererref01_unquoted_l3 n) (γ := ByteArray ⊕ List Int) (fun y k2 => match y with
      | .inl t => k2.1 (t, ())
      | .inr l => k2.2.1 (l, ())) (fun _ => True) (fun i a => ∃ (j : Nat) (acc : List Int), a = (s, (j : Int), acc, ()) ∧ i < j ∧ j ≤ s.size + 3 ∧ acc.length ≤ i) (s.size + 1) (fun i a hi ha => ?_) (fun a ha => ?_) (n := n) (a := (s, (1 : Int), [], ())) (by omega) ⟨1, [], rfl, by omega, by omega, by simp⟩
  · obtain ⟨y, _, hy⟩ := h
    cases y with
    | inl t => exact ⟨t, fun k => hy _⟩
    | inr l => exact ⟨strOfNums l, fun k => hy _⟩
  · obtain ⟨j, acc, rfl, hij, hj, hacc⟩ := ha
    simp only [verdererref01_unquoted_l3, verdererref01_unquoted_s3, wm s.size (by omega)]
    by_cases hlt : (j : Int) < (s.size : Int) - 1
    · have c0 : (0 : Int) ≤ (j : Int) := by omega
      have c1 : (j : Int) < (s.size : Int) := by omega
      simp only [hlt, decide_true, if_true, c0, c1]
      by_cases hb : byteAt s (j : Int) = 92
      · have : (byteAt s (j : Int) != 92) = false := by simp [hb]
        simp only [this, Bool.false_eq_true, if_false, w1 j (by omega)]
        have d0 : (0 : Int) ≤ ((j + 1 : Nat) : Int) := by omega
        have d1 : ((j + 1 : Nat) : Int) < (s.size : Int) := by omega
        simp only [d0, d1, if_true]
        by_cases hb2 : byteAt s ((j + 1 : Nat) : Int) = 120
        · have : (byteAt s ((j + 1 : Nat) : Int) != 120) = false := by rw [hb2]; rfl
          simp only [this, Bool.false_eq_true, if_false, w3 j (by omega), w2 j (by omega)]
          by_cases he : ((j + 3 : Nat) : Int) ≥ (s.size : Int) - 1
          · exact .inr ⟨.inl (strOfNums acc), trivial, fun k1 k2 => by rw [if_pos (decide_eq_true he)]⟩
          · have d2 : (0 : Int) ≤ ((j + 2 : Nat) : Int) := by omega
            have d3 : ((j + 2 : Nat) : Int) < (s.size : Int) := by omega
            have d4 : (0 : Int) ≤ ((j + 3 : Nat) : Int) := by omega
            have d5 : ((j + 3 : Nat) : Int) < (s.size : Int) := by omega
            refine .inl ⟨(s, ((j + 4 : Nat) : Int), acc ++ [IntKind.u8.wrap (IntKind.i64.wrap (IntKind.i64.wrap (16 * hexS (byteAt s ((j + 2 : Nat) : Int))) + hexS (byteAt s ((j + 3 : Nat) : Int))))], ()), ⟨j + 4, _, rfl, by omega, by omega, by simp; omega⟩, fun k1 k2 => ?_⟩
            rw [if_neg (by simpa using he)]
            simp only [d2, d3, d4, d5, if_true, hex_F, w1 (j + 3) (by omega), List.length_cons, List.length_nil]
            rw [if_pos (by omega)]
        · have : (byteAt s ((j + 1 : Nat) : Int) != 120) = true := bne_iff_ne.2 hb2
          refine .inl ⟨(s, ((j + 2 : Nat) : Int), acc ++ [byteAt s ((j + 1 : Nat) : Int)], ()), ⟨j + 2, _, rfl, by omega, by omega, by simp; omega⟩, fun k1 k2 => ?_⟩
          simp only [this, if_true, w1 (j + 1) (by omega), List.length_cons, List.length_nil]
          rw [if_pos (by omega)]
      · have : (byteAt s (j : Int) != 92) = true := by simp [hb]
        refine .inl ⟨(s, ((j + 1 : Nat) : Int), acc ++ [byteAt s (j : Int)], ()), ⟨j + 1, _, rfl, by omega, by omega, by simp; omega⟩, fun k1 k2 => ?_⟩
        simp only [this, if_true, w1 j (by omega), List.length_cons, List.length_nil]
        rw [if_pos (by omega)]
    · exact .inr ⟨.inr acc, trivial, fun k1 k2 => by rw [if_neg (by simpa using hlt)]⟩
  · obtain ⟨j, acc, rfl, hij, hj, hacc⟩ := ha
    have hlt : ¬ (j : Int) < (s.size : Int) - 1 := by omega
    exact ⟨.inr acc, trivial, fun k1 k2 => by simp only [verdererref01_unquoted_l3, verdererref01_unquoted_s3, wm s.size (by omega)]; rw [if_neg (by simpa using hlt)]⟩
theorem nums_back (t : List UInt8) : strOfNums (t.map (fun c => (c.toNat : Int))) = mkB t := by
  apply ba_eq
  rw [strOfNums_data, List.map_map]
  simp [Function.comp_def, mkB]
/-- a text that is quoted comes back -/
theorem unq_l (n : Nat) (s : ByteArray) (hs : s.size ≤ 1000000) (k2 : exK R (verdererref01_unquoted_dx 3)) : ∀ (t : List UInt8) (i m : Nat) (acc : List Int), s.data.toList.drop i = t.flatMap qByte ++ [34] → acc.length + t.length ≤ 1000000 → t.length < m →
    runC (verdererref01_unquoted_l3 n) m (s, (i : Int), acc, ()) k2 = k2.2.1 (acc ++ t.map (fun c => (c.toNat : Int)), ())
  | [], i, m, acc, hd, ha, hm => by
    have hl := congrArg List.length hd
    rw [List.length_drop, ← ba_size] at hl
    simp at hl
    obtain ⟨m, rfl⟩ : ∃ q, m = q + 1 := ⟨m - 1, by omega⟩
    show verdererref01_unquoted_l3 n (s, (i : Int), acc, ()) (fun b => runC (verdererref01_unquoted_l3 n) m b k2) k2 = _
    have hlt : ¬ (i : Int) < (s.size : Int) - 1 := by omega
    simp only [verdererref01_unquoted_l3, verdererref01_unquoted_s3, wm s.size (by omega)]
    rw [if_neg (by simpa using hlt)]
    simp
  | c :: t, i, m, acc, hd, ha, hm => by
    simp only [List.length_cons] at ha hm
    have hl := congrArg List.length hd
    rw [List.length_drop, ← ba_size] at hl
    have hb : ∀ (j : Nat) (d : UInt8), ((c :: t).flatMap qByte ++ [34])[j]? = some d → byteAt s ((i + j : Nat) : Int) = (d.toNat : Int) := by
      intro j d hj
      rw [← hd, List.getElem?_drop] at hj
      exact byteAt_q s (i + j) d hj
    obtain ⟨m, rfl⟩ : ∃ q, m = q + 1 := ⟨m - 1, by omega⟩
    show verdererref01_unquoted_l3 n (s, (i : Int), acc, ()) (fun b => runC (verdererref01_unquoted_l3 n) m b k2) k2 = _
    simp only [List.flatMap_cons, List.length_append, List.length_cons, List.length_nil] at hl
    simp only [List.flatMap_cons] at hb hd
    simp only [verdererref01_unquoted_l3, verdererref01_unquoted_s3, wm s.size (by omega)]
    rcases qByte_cases c with ⟨e, h⟩ | e | ⟨e, h, h'⟩
    · rw [e] at hl hb hd
      simp only [List.length_cons, List.length_nil] at hl
      have b0 : byteAt s (i : Int) = 92 := hb 0 92 rfl
      have b1 : byteAt s ((i + 1 : Nat) : Int) = (c.toNat : Int) := hb 1 c rfl
      have hne : ((c.toNat : Int) != 120) = true := by rcases h with rfl | rfl <;> decide
      rw [if_pos (decide_eq_true (by omega)), if_pos (by omega), if_pos (by omega), b0, if_neg (by decide), w1 i (by omega), if_pos (by omega), if_pos (by omega), b1, if_pos hne, if_pos (by omega), if_pos (by omega), if_pos (by simp only [List.length_cons, List.length_nil]; omega), w1 (i + 1) (by omega)]
      refine (unq_l n s hs k2 t (i + 2) m _ (by rw [← List.drop_drop, hd]; simp) (by simp; omega) (by omega)).trans ?_
      simp
    · rw [e] at hl hb hd
      simp only [List.length_cons, List.length_nil] at hl
      have b0 : byteAt s (i : Int) = 92 := hb 0 92 rfl
      have b1 : byteAt s ((i + 1 : Nat) : Int) = 120 := hb 1 120 rfl
      have b2 : byteAt s ((i + 2 : Nat) : Int) = ((hexd (c.toNat / 16)).toNat : Int) := hb 2 _ rfl
      have b3 : byteAt s ((i + 3 : Nat) : Int) = ((hexd (c.toNat % 16)).toNat : Int) := hb 3 _ rfl
      have hc : c.toNat < 256 := c.toNat_lt
      rw [if_pos (decide_eq_true (by omega)), if_pos (by omega), if_pos (by omega), b0, if_neg (by decide), w1 i (by omega), if_pos (by omega), if_pos (by omega), b1, if_neg (by decide), w3 i (by omega), if_neg (by simp; omega), w2 i (by omega), if_pos (by omega), if_pos (by omega), b2, hex_F, if_pos (by omega), if_pos (by omega), b3, hex_F,
        hexS_d _ (by omega), hexS_d _ (by omega), if_pos (by simp only [List.length_cons, List.length_nil]; omega), w1 (i + 3) (by omega), w6 _ hc]
      refine (unq_l n s hs k2 t (i + 4) m _ (by rw [← List.drop_drop, hd]; simp) (by simp; omega) (by omega)).trans ?_
      simp
    · rw [e] at hl hb hd
      simp only [List.length_cons, List.length_nil] at hl
      have b0 : byteAt s (i : Int) = (c.toNat : Int) := hb 0 c rfl
      have hne : ((c.toNat : Int) != 92) = true := by
        simp only [bne_iff_ne, ne_eq]
        intro h'
        exact h (UInt8.toNat_inj.1 (show c.toNat = 92 by omega))
      rw [if_pos (decide_eq_true (by omega)), if_pos (by omega), if_pos (by omega), b0, if_pos hne, if_pos (by omega), if_pos (by omega), if_pos (by simp only [List.length_cons, List.length_nil]; omega), w1 i (by omega)]
      refine (unq_l n s hs k2 t (i + 1) m _ (by rw [← List.drop_drop, hd]; simp) (by simp; omega) (by omega)).trans ?_
      simp
theorem unq_F (n : Nat) (t : ByteArray) (ht : t.size ≤ 1000) (hn : 1000 < n) (k : ByteArray → Option R) : verdererref01_unquoted_F n (mkB (quotedL t.data.toList)) k = k t := by
  have hf := flat_len t.data.toList
  have hsz := ba_size t
  have sz : (mkB (quotedL t.data.toList)).size = (t.data.toList.flatMap qByte).length + 2 := by rw [mkB_size]; simp [quotedL]
  rw [verdererref01_unquoted_e]
  unfold verdererref01_unquoted_Fi
  have := unq_l n (mkB (quotedL t.data.toList)) (by omega) (fun b3 => k b3.1, fun b4 => k (strOfNums b4.1), ()) t.data.toList 1 n [] (by simp [quotedL, mkB]) (by simp; omega) (by omega)
  refine this.trans ?_
  simp [nums_back, mkB_id]
end Go.Proofs.YtcpimjekllkbkaaGreatDoor.E
namespace Go.Proofs.YtcpimjekllkbkaaGreatDoor.E
open Go.RowKit
variable {R : Type}
theorem i64_rng (x : Int) : inR (IntKind.i64.wrap x) := by
  unfold inR
  simp only [IntKind.wrap, IntKind.bits, IntKind.signed]
  simp
  split <;> omega
theorem inR0 : inR 0 := by unfold inR; omega
/-! numbers back -/
theorem refNum_tail (n : Nat) (s : ByteArray) (x1 x2 : Int) (hn : 20 < n) (qr : Int → Bool → Option R) : (if (x2 == 1) = true then verdererref01_Num_F n (IntKind.i64.wrap (IntKind.u64.wrap (0 - x1))) (fun y6 => qr (IntKind.i64.wrap (IntKind.u64.wrap (0 - x1))) (y6.toList == s.toList)) else verdererref01_Num_F n (IntKind.i64.wrap x1) (fun y7 => qr (IntKind.i64.wrap x1) (y7.toList == s.toList)))
    = qr (if x2 = 1 then IntKind.i64.wrap (IntKind.u64.wrap (0 - x1)) else IntKind.i64.wrap x1) (decide (numS (if x2 = 1 then IntKind.i64.wrap (IntKind.u64.wrap (0 - x1)) else IntKind.i64.wrap x1) = s)) := by
  by_cases h : x2 = 1
  · have : (x2 == 1) = true := by simp [h]
    rw [if_pos this, if_pos h, num_F n _ (i64_rng _) hn, beqB]
  · have : (x2 == 1) = false := by simp [h]
    rw [if_neg (by rw [this]; decide), if_neg h, num_F n _ (i64_rng _) hn, beqB]
/-- the digits' loop, whatever stands there -/
theorem numl_ex (n : Nat) (s : ByteArray) (hs : s.size ≤ 1000) (hn : s.size + 2 < n) (x1 x2 : Int) (from_ : Nat) : ∃ y : Option Int, ∀ k2 : exK R (verdererref01_Number_dx 8), runC (verdererref01_Number_l8 n) n (s, x1, x2, (from_ : Int), ()) k2 = match y with
      | none => k2.1 (0, false, ())
      | some z => k2.2.1 (s, z, x2, ()) := by
  have h := runC_upx (R := R) (step := verdererref01_Number_l8 n) (γ := Option Int) (fun y k2 => match y with
      | none => k2.1 (0, false, ())
      | some z => k2.2.1 (s, z, x2, ())) (fun _ => True) (fun i a => ∃ (j : Nat) (acc : Int), a = (s, acc, x2, (j : Int), ()) ∧ i ≤ j ∧ (j ≤ 1000 ∨ j = from_)) (s.size + 1) (fun i a hi ha => ?_) (fun a ha => ?_) (n := n) (a := (s, x1, x2, (from_ : Int), ())) (by omega) ⟨from_, x1, rfl, by omega, .inr rfl⟩
  · obtain ⟨y, _, hy⟩ := h
    exact ⟨y, hy⟩
  · obtain ⟨j, acc, rfl, hij, hj⟩ := ha
    simp only [verdererref01_Number_l8, verdererref01_Number_s8]
    by_cases hlt : (j : Int) < (s.size : Int)
    · have c0 : (0 : Int) ≤ (j : Int) := by omega
      simp only [hlt, decide_true, if_true, c0]
      by_cases h1 : byteAt s (j : Int) < 48
      · exact .inr ⟨none, trivial, fun k1 k2 => by rw [if_pos (decide_eq_true h1)]⟩
      · by_cases h2 : byteAt s (j : Int) > 57
        · exact .inr ⟨none, trivial, fun k1 k2 => by rw [if_neg (by simpa using h1), if_pos (decide_eq_true h2)]⟩
        · exact .inl ⟨(s, _, x2, ((j + 1 : Nat) : Int), ()), ⟨j + 1, IntKind.u64.wrap ((IntKind.u64.wrap (acc * 10)) + (IntKind.u64.wrap (IntKind.u8.wrap ((byteAt s (j : Int)) - 48)))), rfl, by omega, by omega⟩, fun k1 k2 => by rw [if_neg (by simpa using h1), if_neg (by simpa using h2), w1 j (by omega)]⟩
    · exact .inr ⟨some acc, trivial, fun k1 k2 => by rw [if_neg (by simpa using hlt)]⟩
  · obtain ⟨j, acc, rfl, hij, hj⟩ := ha
    have hlt : ¬ (j : Int) < (s.size : Int) := by omega
    exact ⟨some acc, trivial, fun k1 k2 => by simp only [verdererref01_Number_l8, verdererref01_Number_s8]; rw [if_neg (by simpa using hlt)]⟩
/-- the digits' loop over digits -/
theorem numl_dig (n : Nat) (s : ByteArray) (hs : s.size ≤ 1000) (hn : s.size + 2 < n) (x2 : Int) (l : List UInt8) (f : Nat) (hd : s.data.toList.drop f = l) (hl : f + l.length = s.size) (hdig : ∀ c ∈ l, dig c) (hv : dval 0 l < 18446744073709551616) (k2 : exK R (verdererref01_Number_dx 8)) :
    runC (verdererref01_Number_l8 n) n (s, (0 : Int), x2, (f : Int), ()) k2 = k2.2.1 (s, (dval 0 l : Int), x2, ()) := by
  have := runC_st (R := R) (step := verdererref01_Number_l8 n) k2 (k2.2.1 (s, (dval 0 l : Int), x2, ())) (fun i => (s, (dval 0 (l.take i) : Int), x2, ((f + i : Nat) : Int), ())) l.length (fun i hi => .inl fun k1 => ?_) (fun k1 => ?_) (n := n) (by omega)
  · exact this
  · have hb : byteAt s ((f + i : Nat) : Int) = (l[i].toNat : Int) := byteAt_q s (f + i) l[i] (by rw [← List.getElem?_drop, hd]; exact List.getElem?_eq_getElem hi)
    have hc := hdig l[i] (List.getElem_mem hi)
    unfold dig at hc
    have hsn : dval 0 (l.take (i + 1)) = dval 0 (l.take i) * 10 + (l[i].toNat - 48) := by rw [take_snoc l i hi, dval_app]; rfl
    have hle : dval 0 (l.take (i + 1)) ≤ dval 0 l := by
      conv => rhs; rw [← List.take_append_drop (i + 1) l]
      rw [dval_app]
      exact dval_le _ _
    have c1 : ((f + i : Nat) : Int) < (s.size : Int) := by omega
    have c0 : (0 : Int) ≤ ((f + i : Nat) : Int) := by omega
    have e6 : IntKind.u64.wrap ((IntKind.u64.wrap ((dval 0 (l.take i) : Int) * 10)) + (IntKind.u64.wrap (IntKind.u8.wrap ((l[i].toNat : Int) - 48)))) = (dval 0 (l.take (i + 1)) : Int) := by
      rw [u8w _ (by omega) (by omega), u64w ((l[i].toNat : Int) - 48) (by omega) (by omega), u64w ((dval 0 (l.take i) : Int) * 10) (by omega) (by omega), u64w _ (by omega) (by omega)]
      omega
    have n1 : ¬ ((l[i].toNat : Int) < 48) := by omega
    have n2 : ¬ ((l[i].toNat : Int) > 57) := by omega
    simp only [verdererref01_Number_l8, verdererref01_Number_s8, c1, c0, decide_true, if_true, hb, n1, n2, decide_false, Bool.false_eq_true, if_false, e6, w1 (f + i) (by omega)]
    rfl
  · have : ¬ (((f + l.length : Nat) : Int) < (s.size : Int)) := by omega
    simp only [verdererref01_Number_l8, verdererref01_Number_s8]
    rw [if_neg (by simpa using this), List.take_length]
/-- a text as a number: it is one just if it is a number's word -/
theorem number_ex (n : Nat) (s : ByteArray) (hs : s.size ≤ 1000) (hn : 1100 < n) : ∃ (x : Int) (ok : Bool), inR x ∧ (ok = true → numS x = s) ∧ ∀ k : Int → Bool → Option R, verdererref01_Number_F n s k = k x ok := by
  rw [verdererref01_Number_e]
  unfold verdererref01_Number_Fi
  have join : ∀ f : Nat, f ≤ s.size → ∃ (x : Int) (ok : Bool), inR x ∧ (ok = true → numS x = s) ∧ ∀ k : exK R (verdererref01_Number_dx 1000005), verdererref01_Number_l1000005 n (s, (0 : Int), (f : Int), ()) k = k.1 (x, ok, ()) := by
    intro f hf
    rw [verdererref01_Number_e1000005]
    unfold verdererref01_Number_li1000005 verdererref01_Number_s1000005
    by_cases h1 : s.size = f
    · exact ⟨0, false, inR0, (fun h => by cases h), fun k => by rw [if_pos (by simp [h1])]⟩
    have hw : IntKind.i64.wrap ((s.size : Int) - (f : Int)) = (s.size : Int) - (f : Int) := wrap_i64 (by omega) (by omega)
    by_cases h2 : (s.size : Int) - (f : Int) > 19
    · exact ⟨0, false, inR0, (fun h => by cases h), fun k => by rw [if_neg (by simp; omega), hw, if_pos (decide_eq_true h2)]⟩
    obtain ⟨y, hy⟩ := numl_ex (R := R) n s hs (by omega) 0 (f : Int) f
    cases y with
    | none => exact ⟨0, false, inR0, (fun h => by cases h), fun k => by rw [if_neg (by simp; omega), hw, if_neg (by simpa using h2)]; exact hy _⟩
    | some z =>
      refine ⟨if (f : Int) = 1 then IntKind.i64.wrap (IntKind.u64.wrap (0 - z)) else IntKind.i64.wrap z, _, ?_, fun h => of_decide_eq_true h, fun k => ?_⟩
      · split <;> exact i64_rng _
      · rw [if_neg (by simp; omega), hw, if_neg (by simpa using h2)]
        refine (hy _).trans ?_
        exact refNum_tail n s z (f : Int) (by omega) (fun x0 x1 => k.1 (x0, x1, ()))
  by_cases h0 : (s.size : Int) > 0
  · have c0 : (0 : Int) < (s.size : Int) := by omega
    by_cases h1 : byteAt s 0 = 45
    · obtain ⟨x, ok, p1, p2, p3⟩ := join 1 (by omega)
      exact ⟨x, ok, p1, p2, fun k => by rw [if_pos (decide_eq_true h0), if_pos (Int.le_refl _), if_pos c0, if_pos (by rw [h1]; rfl)]; exact p3 _⟩
    · obtain ⟨x, ok, p1, p2, p3⟩ := join 0 (by omega)
      exact ⟨x, ok, p1, p2, fun k => by rw [if_pos (decide_eq_true h0), if_pos (Int.le_refl _), if_pos c0, if_neg (by simpa using h1)]; exact p3 _⟩
  · obtain ⟨x, ok, p1, p2, p3⟩ := join 0 (by omega)
    exact ⟨x, ok, p1, p2, fun k => by rw [if_neg (by simpa using h0)]; exact p3 _⟩
theorem number_F (n : Nat) (x : Int) (h : inR x) (hn : 1100 < n) (k : Int → Bool → Option R) : verdererref01_Number_F n (numS x) k = k x true := by
  rw [verdererref01_Number_e]
  unfold verdererref01_Number_Fi
  have hz := numS_size x h
  have join : ∀ (f : Nat) (l : List UInt8), (numS x).data.toList.drop f = l → f + l.length = (numS x).size → 1 ≤ l.length → l.length ≤ 19 → (∀ c ∈ l, dig c) → dval 0 l < 18446744073709551616 → (if (f : Int) = 1 then IntKind.i64.wrap (IntKind.u64.wrap (0 - (dval 0 l : Int))) else IntKind.i64.wrap (dval 0 l : Int)) = x →
      ∀ k : exK R (verdererref01_Number_dx 1000005), verdererref01_Number_l1000005 n (numS x, (0 : Int), (f : Int), ()) k = k.1 (x, true, ()) := by
    intro f l hd hl h1 h19 hdig hv hx k
    rw [verdererref01_Number_e1000005]
    unfold verdererref01_Number_li1000005 verdererref01_Number_s1000005
    have hw : IntKind.i64.wrap (((numS x).size : Int) - (f : Int)) = ((numS x).size : Int) - (f : Int) := wrap_i64 (by omega) (by omega)
    have h2 : ¬ (((numS x).size : Int) - (f : Int) > 19) := by omega
    rw [if_neg (by simp; omega), hw, if_neg (by simpa using h2)]
    refine (numl_dig (R := R) n (numS x) (by omega) (by omega) (f : Int) l f hd hl hdig hv _).trans ?_
    refine (refNum_tail n (numS x) (dval 0 l : Int) (f : Int) (by omega) (fun x0 x1 => k.1 (x0, x1, ()))).trans ?_
    simp only [hx, decide_true]
  obtain ⟨h0, h1⟩ := h
  by_cases hneg : x < 0
  · have hi : (numS x).data.toList = 45 :: Lib.decDigits x.natAbs := by unfold numS Lib.itoa; rw [if_pos hneg]
    have hl : (Lib.decDigits x.natAbs).length ≤ 19 := by rw [Lib.decDigits_length]; exact nd_le 19 _ (by omega) (by omega)
    have hne := dec_ne x.natAbs
    have hv := dval_dec x.natAbs
    have hlen : 1 ≤ (Lib.decDigits x.natAbs).length := by cases hc : Lib.decDigits x.natAbs with | nil => exact absurd hc hne | cons _ _ => simp
    have hsz : (numS x).size = (Lib.decDigits x.natAbs).length + 1 := by rw [ba_size, hi]; simp
    have hb : byteAt (numS x) 0 = 45 := byteAt_q (numS x) 0 45 (by rw [hi]; rfl)
    have e : IntKind.i64.wrap (IntKind.u64.wrap (0 - ((x.natAbs : Nat) : Int))) = x := by
      simp only [IntKind.wrap, IntKind.bits, IntKind.signed]
      simp
      split <;> omega
    rw [if_pos (decide_eq_true (by omega)), if_pos (Int.le_refl _), if_pos (by omega), if_pos (by rw [hb]; rfl)]
    exact join 1 (Lib.decDigits x.natAbs) (by rw [hi]; rfl) (by omega) hlen hl (dec_dig _) (by rw [hv]; omega) (by rw [hv, if_pos (by decide)]; exact e) _
  · have hi : (numS x).data.toList = Lib.decDigits x.toNat := by unfold numS Lib.itoa; rw [if_neg hneg]
    have hl : (Lib.decDigits x.toNat).length ≤ 19 := by rw [Lib.decDigits_length]; exact nd_le 19 _ (by omega) (by omega)
    have hne := dec_ne x.toNat
    have hv := dval_dec x.toNat
    have hdd := dec_dig x.toNat
    have hsz : (numS x).size = (Lib.decDigits x.toNat).length := by rw [ba_size, hi]
    have hlen : 1 ≤ (Lib.decDigits x.toNat).length := by cases hc : Lib.decDigits x.toNat with | nil => exact absurd hc hne | cons _ _ => simp
    have hb : byteAt (numS x) 0 ≠ 45 := by
      have h3 : (numS x).data.toList[0]? = some ((Lib.decDigits x.toNat)[0]) := by rw [hi]; exact List.getElem?_eq_getElem hlen
      rw [show (0 : Int) = ((0 : Nat) : Int) from rfl, byteAt_q (numS x) 0 _ h3]
      have := hdd _ (List.getElem_mem hlen)
      unfold dig at this
      omega
    have e : IntKind.i64.wrap ((x.toNat : Nat) : Int) = x := by rw [wrap_i64 (by omega) (by omega)]; omega
    rw [if_pos (decide_eq_true (by omega)), if_pos (Int.le_refl _), if_pos (by omega), if_neg (by simpa using hb)]
    exact join 0 (Lib.decDigits x.toNat) (by rw [hi]; rfl) (by omega) hlen hl hdd (by rw [hv]; omega) (by rw [hv, if_neg (by decide)]; exact e) _
theorem numS_inj {x y : Int} (hx : inR x) (hy : inR y) (h : numS x = numS y) : x = y := by
  have h1 := number_F (R := Int × Bool) 2000 x hx (by omega) (fun a b => some (a, b))
  have h2 := number_F (R := Int × Bool) 2000 y hy (by omega) (fun a b => some (a, b))
  rw [h, h2] at h1
  injection h1 with h1
  injection h1 with h1
  exact h1.symm
open Classical in
theorem number_all (n : Nat) (s : ByteArray) (hs : s.size ≤ 1000) (hn : 1100 < n) : ∃ (x : Int) (ok : Bool), inR x ∧ (ok = true → numS x = s) ∧ (∀ y, inR y → numS y = s → ok = true ∧ x = y) ∧ ∀ k : Int → Bool → Option R, verdererref01_Number_F n s k = k x ok := by
  by_cases h : ∃ y, inR y ∧ numS y = s
  · obtain ⟨y, hy, e⟩ := h
    exact ⟨y, true, hy, fun _ => e, fun z hz ez => ⟨rfl, numS_inj hy hz (e.trans ez.symm)⟩, fun k => by rw [← e]; exact number_F n y hy hn k⟩
  · obtain ⟨x, ok, h1, h2, h3⟩ := number_ex (R := R) n s hs hn
    exact ⟨x, ok, h1, h2, fun y hy e => absurd ⟨y, hy, e⟩ h, h3⟩
end Go.Proofs.YtcpimjekllkbkaaGreatDoor.E
namespace Go.Proofs.YtcpimjekllkbkaaGreatDoor.E
open Go.RowKit
variable {R : Type}
/-! a word as a value -/
def zV : ty25.D := (0, false, 0, (⟨#[]⟩ : ByteArray), ())
theorem right_cases {v : ty25.D} (h : rightV v = true) : v = zV ∨ (∃ b, v = (1, b, 0, (⟨#[]⟩ : ByteArray), ())) ∨ (∃ x : Int, v = (2, false, x, (⟨#[]⟩ : ByteArray), ())) ∨ (∃ t : ByteArray, t.size ≤ 60 ∧ v = (3, false, 0, t, ())) := by
  obtain ⟨a, b, x, t, u⟩ := v
  unfold rightV at h
  rw [decide_eq_true_eq] at h
  rcases h with ⟨h1, h2, h3, h4⟩ | ⟨h1, h3, h4⟩ | ⟨h1, h2, h4⟩ | ⟨h1, h2, h3, h4⟩
  · simp only at h1 h2 h3 h4
    rw [← nil_size] at h4
    subst h1 h2 h3 h4
    exact .inl rfl
  · simp only at h1 h3 h4
    rw [← nil_size] at h4
    subst h1 h3 h4
    exact .inr (.inl ⟨b, rfl⟩)
  · simp only at h1 h2 h4
    rw [← nil_size] at h4
    subst h1 h2 h4
    exact .inr (.inr (.inl ⟨x, rfl⟩))
  · simp only at h1 h2 h3 h4
    subst h1 h2 h3
    exact .inr (.inr (.inr ⟨t, h4, rfl⟩))
theorem show_null : showS zV = ⟨#[110, 117, 108, 108]⟩ := by unfold showS; rfl
theorem show_bool (b : Bool) : showS (1, b, 0, (⟨#[]⟩ : ByteArray), ()) = if b = true then ⟨#[116, 114, 117, 101]⟩ else ⟨#[102, 97, 108, 115, 101]⟩ := by unfold showS; cases b <;> rfl
theorem show_num (x : Int) : showS (2, false, x, (⟨#[]⟩ : ByteArray), ()) = numS x := by
  unfold showS
  have : rightV (2, false, x, (⟨#[]⟩ : ByteArray), ()) = true := by unfold rightV; exact decide_eq_true (.inr (.inr (.inl ⟨rfl, rfl, rfl⟩)))
  rw [if_pos this]
  rfl
theorem show_text (t : ByteArray) (h : t.size ≤ 60) : showS (3, false, 0, t, ()) = mkB (quotedL t.data.toList) := by
  unfold showS
  have : rightV (3, false, 0, t, ()) = true := by unfold rightV; exact decide_eq_true (.inr (.inr (.inr ⟨rfl, rfl, rfl, h⟩)))
  rw [if_pos this]
  rfl
theorem show_wrong (v : ty25.D) (h : rightV v = false) : showS v = ⟨#[]⟩ := by unfold showS; rw [h]; rfl
theorem ne_nil {s : ByteArray} (h : 0 < s.size) : s ≠ (⟨#[]⟩ : ByteArray) := fun e => by rw [e] at h; exact absurd h (by decide)
theorem numS_pos (x : Int) : 0 < (numS x).size := by
  unfold numS Lib.itoa
  rw [mk_sz]
  split
  · simp
  · cases hc : Lib.decDigits x.toNat with
    | nil => exact absurd hc (dec_ne _)
    | cons _ _ => simp
theorem show_ne {v : ty25.D} (h : rightV v = true) : showS v ≠ (⟨#[]⟩ : ByteArray) := by
  rcases right_cases h with rfl | ⟨b, rfl⟩ | ⟨x, rfl⟩ | ⟨t, ht, rfl⟩
  · rw [show_null]; exact ne_nil (by decide)
  · rw [show_bool]; cases b <;> exact ne_nil (by decide)
  · rw [show_num]; exact ne_nil (numS_pos x)
  · rw [show_text t ht]; exact ne_nil (by rw [mkB_size]; simp [quotedL])
theorem show_size (v : ty25.D) (hx : inR v.2.2.1) : (showS v).size ≤ 242 := by
  cases h : rightV v with
  | false => rw [show_wrong v h]; exact Nat.zero_le _
  | true =>
    rcases right_cases h with rfl | ⟨b, rfl⟩ | ⟨x, rfl⟩ | ⟨t, ht, rfl⟩
    · rw [show_null]; decide
    · rw [show_bool]; cases b <;> decide
    · rw [show_num]; have := numS_size x hx; omega
    · rw [show_text t ht, mkB_size]
      have := flat_len t.data.toList
      rw [ba_size] at ht
      simp only [quotedL, List.length_cons, List.length_append, List.length_nil]
      omega
/-- is a text a value's word? -/
def isW (s : ByteArray) (v : ty25.D) : Prop := rightV v = true ∧ inR v.2.2.1 ∧ showS v = s
open Classical in
/-- the value whose word a text is -/
noncomputable def readV (s : ByteArray) : ty25.D × Int := if h : ∃ v, isW s v then (h.choose, 0) else (zV, 7)
/-- a guess that finds each value by its word -/
def Guess (g : ByteArray → ty25.D) : Prop := ∀ s, s.size ≤ 1000 → inR (g s).2.2.1 ∧ ∀ v, isW s v → g s = v
theorem readV_guess {g : ByteArray → ty25.D} (hg : Guess g) (s : ByteArray) (hs : s.size ≤ 1000) : readV s = if s ≠ (⟨#[]⟩ : ByteArray) ∧ showS (g s) = s then (g s, 0) else (zV, 7) := by
  obtain ⟨h1, h2⟩ := hg s hs
  unfold readV
  by_cases h : ∃ v, isW s v
  · rw [dif_pos h]
    have hc := h.choose_spec
    have e := h2 _ hc
    have hs0 : s ≠ (⟨#[]⟩ : ByteArray) := by rw [← hc.2.2]; exact show_ne hc.1
    rw [if_pos ⟨hs0, by rw [e]; exact hc.2.2⟩, e]
  · rw [dif_neg h, if_neg]
    rintro ⟨h3, h4⟩
    refine h ⟨g s, ?_, h1, h4⟩
    cases hr : rightV (g s) with
    | true => rfl
    | false => rw [show_wrong _ hr] at h4; exact absurd h4.symm h3
theorem readV_show (v : ty25.D) (h : rightV v = true) (hx : inR v.2.2.1) {g : ByteArray → ty25.D} (hg : Guess g) : readV (showS v) = (v, 0) := by
  have hw : isW (showS v) v := ⟨h, hx, rfl⟩
  have hs := show_size v hx
  have := (hg (showS v) (by omega)).2 v hw
  rw [readV_guess hg _ (by omega), this, if_pos ⟨show_ne h, rfl⟩]
theorem readV_ok (s : ByteArray) (h : (readV s).2 = 0) : isW s (readV s).1 := by
  unfold readV at h ⊢
  by_cases hh : ∃ v, isW s v
  · rw [dif_pos hh]; exact hh.choose_spec
  · rw [dif_neg hh] at h; cases h
theorem readV_no (s : ByteArray) (h : (readV s).2 ≠ 0) : readV s = (zV, 7) := by
  unfold readV at h ⊢
  by_cases hh : ∃ v, isW s v
  · rw [dif_pos hh] at h; exact absurd rfl h
  · rw [dif_neg hh]
theorem readV_err (s : ByteArray) : (readV s).2 = 0 ∨ readV s = (zV, 7) := by
  by_cases h : (readV s).2 = 0
  · exact .inl h
  · exact .inr (readV_no s h)
theorem numS_ne (x : Int) (h : inR x) (s : ByteArray) (c : UInt8) (hs : s.data.toList.head? = some c) (hc : ¬ dig c ∧ c ≠ 45) : numS x ≠ s := by
  intro e
  rw [← e] at hs
  unfold numS Lib.itoa at hs
  simp only [List.toList_toArray] at hs
  split at hs
  · simp at hs; exact hc.2 hs.symm
  · have hd := dec_dig x.toNat
    cases hl : Lib.decDigits x.toNat with
    | nil => exact dec_ne _ hl
    | cons a r =>
      rw [hl] at hs hd
      simp at hs
      rw [← hs] at hc
      exact hc.1 (hd a (by simp))
def trueB : ByteArray := ⟨#[116, 114, 117, 101]⟩
def falseB : ByteArray := ⟨#[102, 97, 108, 115, 101]⟩
/-- reading, by the document -/
theorem refRead_F (n : Nat) (s : ByteArray) (hs : s.size ≤ 1000) (hn : 2000 < n) : ∃ g : ty25.D, (inR g.2.2.1 ∧ ∀ v, isW s v → g = v) ∧ ∀ k : ty25.D → Int → Option R, verdererref01_Read_F n s k = if s ≠ (⟨#[]⟩ : ByteArray) ∧ showS g = s then k g 0 else k zV 7 := by
  rw [verdererref01_Read_e]
  unfold verdererref01_Read_Fi
  obtain ⟨x, ok, hx, hok, hall, hN⟩ := number_all (R := R) n s hs (by omega)
  have join : ∀ (v : ty25.D) (hv : inR v.2.2.1) (k : exK R (verdererref01_Read_dx 1000009)), verdererref01_Read_l1000009 n (s, (0 : Int), false, (0 : Int), (⟨#[]⟩ : ByteArray), v.1, v.2.1, v.2.2.1, v.2.2.2.1, ()) k = if s ≠ (⟨#[]⟩ : ByteArray) ∧ showS v = s then k.1 (0, v.1, v.2.1, v.2.2.1, v.2.2.2.1, ()) else k.1 (7, 0, false, 0, (⟨#[]⟩ : ByteArray), ()) := by
    intro v hv k
    rw [verdererref01_Read_e1000009]
    unfold verdererref01_Read_li1000009 verdererref01_Read_s1000009
    simp only [beqB]
    by_cases h0 : s = (⟨#[]⟩ : ByteArray)
    · simp [h0]
    · simp only [h0, decide_false, Bool.false_eq_true, if_false, ne_eq, not_false_eq_true, true_and]
      rw [show_F n (v.1, v.2.1, v.2.2.1, v.2.2.2.1, ()) hv (by omega)]
      by_cases h1 : showS (v.1, v.2.1, v.2.2.1, v.2.2.2.1, ()) = s
      · have h1' : showS v = s := h1
        simp [h1, h1']
      · have h1' : ¬ showS v = s := h1
        simp [h1, h1']
  have tf : ∀ v, isW s v → (s = trueB → v = (1, true, 0, (⟨#[]⟩ : ByteArray), ())) ∧ (s = falseB → v = (1, false, 0, (⟨#[]⟩ : ByteArray), ())) := by
    rintro v ⟨h1, h2, h3⟩
    rcases right_cases h1 with rfl | ⟨b, rfl⟩ | ⟨y, rfl⟩ | ⟨t, ht, rfl⟩
    · rw [show_null] at h3
      exact ⟨fun e => absurd (h3.trans e) (by decide), fun e => absurd (h3.trans e) (by decide)⟩
    · rw [show_bool] at h3
      cases b
      · exact ⟨fun e => absurd (h3.trans e) (by decide), fun _ => rfl⟩
      · exact ⟨fun _ => rfl, fun e => absurd (h3.trans e) (by decide)⟩
    · rw [show_num] at h3
      exact ⟨fun e => absurd (h3.trans e) (numS_ne y h2 trueB 116 rfl (by unfold dig; decide)), fun e => absurd (h3.trans e) (numS_ne y h2 falseB 102 rfl (by unfold dig; decide))⟩
    · rw [show_text t ht] at h3
      have hq : (mkB (quotedL t.data.toList)).data.toList.head? = some 34 := rfl
      exact ⟨fun e => by rw [h3, e] at hq; exact absurd hq (by decide), fun e => by rw [h3, e] at hq; exact absurd hq (by decide)⟩
  have fin : ∀ (g : ty25.D) (k : ty25.D → Int → Option R), (if s ≠ (⟨#[]⟩ : ByteArray) ∧ showS g = s then k (g.1, g.2.1, g.2.2.1, g.2.2.2.1, ()) 0 else k (0, false, 0, (⟨#[]⟩ : ByteArray), ()) 7) = if s ≠ (⟨#[]⟩ : ByteArray) ∧ showS g = s then k g 0 else k zV 7 := fun g k => rfl
  by_cases ht : s = trueB
  · refine ⟨(1, true, 0, (⟨#[]⟩ : ByteArray), ()), ⟨inR0, fun v hv => ((tf v hv).1 ht).symm⟩, fun k => ?_⟩
    rw [hN]
    simp only [beqB]
    have ht' : s = (⟨#[116, 114, 117, 101]⟩ : ByteArray) := ht
    rw [if_pos (decide_eq_true ht'), decide_eq_true (show s = (⟨#[116, 114, 117, 101]⟩ : ByteArray) from ht)]
    exact (join (1, true, 0, (⟨#[]⟩ : ByteArray), ()) inR0 _).trans (fin _ k)
  by_cases hf : s = falseB
  · refine ⟨(1, false, 0, (⟨#[]⟩ : ByteArray), ()), ⟨inR0, fun v hv => ((tf v hv).2 hf).symm⟩, fun k => ?_⟩
    rw [hN]
    simp only [beqB]
    have ht' : ¬ s = (⟨#[116, 114, 117, 101]⟩ : ByteArray) := ht
    have hf' : s = (⟨#[102, 97, 108, 115, 101]⟩ : ByteArray) := hf
    rw [if_neg (by simpa using ht'), if_pos (decide_eq_true hf'), decide_eq_false ht']
    exact (join (1, false, 0, (⟨#[]⟩ : ByteArray), ()) inR0 _).trans (fin _ k)
  have ht' : ¬ s = (⟨#[116, 114, 117, 101]⟩ : ByteArray) := ht
  have hf' : ¬ s = (⟨#[102, 97, 108, 115, 101]⟩ : ByteArray) := hf
  cases ok with
  | true =>
    refine ⟨(2, false, x, (⟨#[]⟩ : ByteArray), ()), ⟨hx, fun v hv => ?_⟩, fun k => ?_⟩
    · have e := hok rfl
      obtain ⟨h1, h2, h3⟩ := hv
      rcases right_cases h1 with rfl | ⟨b, rfl⟩ | ⟨y, rfl⟩ | ⟨t, htt, rfl⟩
      · rw [show_null] at h3
        exact absurd (e.trans h3.symm) (numS_ne x hx _ 110 rfl (by unfold dig; decide))
      · rw [show_bool] at h3
        cases b
        · exact absurd h3.symm hf
        · exact absurd h3.symm ht
      · rw [show_num] at h3
        rw [(hall y h2 h3).2]
      · rw [show_text t htt] at h3
        exact absurd (e.trans h3.symm) (numS_ne x hx _ 34 rfl (by unfold dig; decide))
    · rw [hN]
      simp only [beqB]
      rw [if_neg (by simpa using ht'), if_neg (by simpa using hf'), if_pos trivial]
      exact (join (2, false, x, (⟨#[]⟩ : ByteArray), ()) hx _).trans (fin _ k)
  | false =>
    have nn : ∀ y, inR y → numS y ≠ s := fun y hy e => absurd (hall y hy e).1 (by decide)
    -- not a quoted text: null
    have nul : (¬ ∃ t : ByteArray, t.size ≤ 60 ∧ mkB (quotedL t.data.toList) = s) → ∀ v, isW s v → zV = v := by
      rintro hq v ⟨h1, h2, h3⟩
      rcases right_cases h1 with rfl | ⟨b, rfl⟩ | ⟨y, rfl⟩ | ⟨t, htt, rfl⟩
      · rfl
      · rw [show_bool] at h3
        cases b
        · exact absurd h3.symm hf
        · exact absurd h3.symm ht
      · rw [show_num] at h3
        exact absurd h3 (nn y h2)
      · rw [show_text t htt] at h3
        exact absurd ⟨t, htt, h3⟩ hq
    have qsz : ∀ t : ByteArray, t.size ≤ 60 → mkB (quotedL t.data.toList) = s → 2 ≤ s.size ∧ byteAt s 0 = 34 ∧ s.size ≤ 242 := by
      intro t htt e
      have := flat_len t.data.toList
      rw [ba_size] at htt
      rw [← e, mkB_size]
      refine ⟨by simp [quotedL], rfl, by simp only [quotedL, List.length_cons, List.length_append, List.length_nil]; omega⟩
    by_cases h2 : (s.size : Int) ≥ 2
    · by_cases h3 : byteAt s 0 = 34
      · by_cases h4 : (s.size : Int) ≤ 300
        · obtain ⟨t0, hT⟩ := unq_ex (R := R) n s hs (by omega) (by omega)
          have : ∃ t : ByteArray, (∀ t2 : ByteArray, t2.size ≤ 60 → mkB (quotedL t2.data.toList) = s → t = t2) ∧ ∀ k : ByteArray → Option R, verdererref01_unquoted_F n s k = k t := by
            by_cases hq : ∃ t : ByteArray, t.size ≤ 60 ∧ mkB (quotedL t.data.toList) = s
            · obtain ⟨t, htt, e⟩ := hq
              refine ⟨t, fun t2 h6 e2 => ?_, fun k => by rw [← e]; exact unq_F n t (by omega) (by omega) k⟩
              have a1 := unq_F (R := ByteArray) 2000 t (by omega) (by omega) some
              have a2 := unq_F (R := ByteArray) 2000 t2 (by omega) (by omega) some
              rw [e, ← e2, a2] at a1
              injection a1 with a1
              exact a1.symm
            · exact ⟨t0, fun t2 h6 e2 => absurd ⟨t2, h6, e2⟩ hq, hT⟩
          obtain ⟨t, ht2, hT⟩ := this
          refine ⟨(3, false, 0, t, ()), ⟨inR0, ?_⟩, fun k => ?_⟩
          · rintro v ⟨h5, h6, h7⟩
            rcases right_cases h5 with rfl | ⟨b, rfl⟩ | ⟨y, rfl⟩ | ⟨t2, htt, rfl⟩
            · rw [show_null] at h7
              rw [← h7] at h3
              exact absurd h3 (by decide)
            · rw [show_bool] at h7
              cases b
              · exact absurd h7.symm hf
              · exact absurd h7.symm ht
            · rw [show_num] at h7
              exact absurd h7 (nn y h6)
            · rw [show_text t2 htt] at h7
              rw [ht2 t2 htt h7]
          · rw [hN]
            simp only [beqB]
            rw [if_neg (by simpa using ht'), if_neg (by simpa using hf'), if_neg (by decide), if_pos (decide_eq_true h2), if_pos (Int.le_refl _), if_pos (by omega), if_pos (by rw [h3]; rfl), if_pos (decide_eq_true h4), hT]
            exact (join (3, false, 0, t, ()) inR0 _).trans (fin _ k)
        · refine ⟨zV, ⟨inR0, nul (fun ⟨t, h6, e⟩ => h4 (by have := (qsz t h6 e).2.2; omega))⟩, fun k => ?_⟩
          rw [hN]
          simp only [beqB]
          rw [if_neg (by simpa using ht'), if_neg (by simpa using hf'), if_neg (by decide), if_pos (decide_eq_true h2), if_pos (Int.le_refl _), if_pos (by omega), if_pos (by rw [h3]; rfl), if_neg (by simpa using h4)]
          exact (join zV inR0 _).trans (fin _ k)
      · refine ⟨zV, ⟨inR0, nul (fun ⟨t, h6, e⟩ => h3 (qsz t h6 e).2.1)⟩, fun k => ?_⟩
        rw [hN]
        simp only [beqB]
        rw [if_neg (by simpa using ht'), if_neg (by simpa using hf'), if_neg (by decide), if_pos (decide_eq_true h2), if_pos (Int.le_refl _), if_pos (by omega), if_neg (by simpa using h3)]
        exact (join zV inR0 _).trans (fin _ k)
    · refine ⟨zV, ⟨inR0, nul (fun ⟨t, h6, e⟩ => h2 (by have := (qsz t h6 e).1; omega))⟩, fun k => ?_⟩
      rw [hN]
      simp only [beqB]
      rw [if_neg (by simpa using ht'), if_neg (by simpa using hf'), if_neg (by decide), if_neg (by simpa using h2)]
      exact (join zV inR0 _).trans (fin _ k)
open Classical in
/-- what the document guesses -/
theorem refGuess (n : Nat) (hn : 2000 < n) : ∃ g : ByteArray → ty25.D, Guess g ∧ ∀ s : ByteArray, s.size ≤ 1000 → ∀ k : ty25.D → Int → Option R, verdererref01_Read_F n s k = if s ≠ (⟨#[]⟩ : ByteArray) ∧ showS (g s) = s then k (g s) 0 else k zV 7 := by
  have h : ∀ s : ByteArray, ∃ g : ty25.D, s.size ≤ 1000 → (inR g.2.2.1 ∧ ∀ v, isW s v → g = v) ∧ ∀ k : ty25.D → Int → Option R, verdererref01_Read_F n s k = if s ≠ (⟨#[]⟩ : ByteArray) ∧ showS g = s then k g 0 else k zV 7 := by
    intro s
    by_cases hs : s.size ≤ 1000
    · obtain ⟨g, h1⟩ := refRead_F (R := R) n s hs hn
      exact ⟨g, fun _ => h1⟩
    · exact ⟨zV, fun h => absurd h hs⟩
  exact ⟨fun s => (h s).choose, fun s hs => ((h s).choose_spec hs).1, fun s hs => ((h s).choose_spec hs).2⟩
theorem refReadV_F (n : Nat) (s : ByteArray) (hs : s.size ≤ 1000) (hn : 2000 < n) (k : ty25.D → Int → Option R) : verdererref01_Read_F n s k = k (readV s).1 (readV s).2 := by
  obtain ⟨g, hg, h⟩ := refGuess (R := R) n hn
  rw [h s hs, readV_guess hg s hs]
  split <;> rfl
theorem readV_back (v : ty25.D) (h : rightV v = true) (hx : inR v.2.2.1) : readV (showS v) = (v, 0) := by
  obtain ⟨g, hg, _⟩ := refGuess (R := Unit) 3000 (by omega)
  exact readV_show v h hx hg
end Go.Proofs.YtcpimjekllkbkaaGreatDoor.E
namespace Go.Proofs.YtcpimjekllkbkaaGreatDoor.E
open Go.RowKit
variable {R : Type}
/-! tokens, by the document -/
def scanN (p : Nat → Bool) : Nat → Nat → Nat
  | 0, i => i
  | f + 1, i => if p i = true then scanN p f (i + 1) else i
theorem scanN_le (p : Nat → Bool) : ∀ f i, i ≤ scanN p f i ∧ scanN p f i ≤ i + f
  | 0, i => ⟨Nat.le_refl _, Nat.le_refl _⟩
  | f + 1, i => by
    unfold scanN
    split
    · have := scanN_le p f (i + 1); omega
    · omega
theorem runC_span {α β R : Type} {step : α → (α → Option R) → β → Option R} (k : β) (p : Nat → Bool) (st : Nat → α) (m : Nat) (E : Nat → Option R)
    (hs : ∀ i, i < m → ∀ k1, step (st i) k1 k = if p i = true then k1 (st (i + 1)) else E i) (he : ∀ k1, step (st m) k1 k = E m) {n i : Nat} (hi : i ≤ m) (hn : m - i < n) : runC step n (st i) k = E (scanN p (m - i) i) := by
  have go : ∀ (d i n : Nat), i + d = m → d < n → runC step n (st i) k = E (scanN p d i) := by
    intro d
    induction d with
    | zero =>
      intro i n hi hn
      obtain ⟨n, rfl⟩ : ∃ q, n = q + 1 := ⟨n - 1, by omega⟩
      have : i = m := by omega
      subst this
      exact he _
    | succ d ih =>
      intro i n hi hn
      obtain ⟨n, rfl⟩ : ∃ q, n = q + 1 := ⟨n - 1, by omega⟩
      refine Eq.trans (show _ = step (st i) (fun b => runC step n b k) k from rfl) ((hs i (by omega) _).trans ?_)
      unfold scanN
      split
      · exact ih (i + 1) n (by omega) (by omega)
      · rfl
  exact go (m - i) i n (by omega) hn
/-- a byte of a text, as a number -/
def bt (s : ByteArray) (i : Nat) : Nat := (s.data.toList.getD i 0).toNat
theorem byteAt_bt (s : ByteArray) (i : Nat) : byteAt s (i : Int) = (bt s i : Int) := by unfold byteAt bt; rw [Int.toNat_natCast]
theorem byteAt_0 (s : ByteArray) : byteAt s 0 = (bt s 0 : Int) := byteAt_bt s 0
theorem byteAt_1 (s : ByteArray) : byteAt s 1 = (bt s 1 : Int) := byteAt_bt s 1
def letN (c : Nat) : Bool := decide (97 ≤ c) && decide (c ≤ 122)
def digN (c : Nat) : Bool := decide (48 ≤ c) && decide (c ≤ 57)
def wchN (s : ByteArray) (i : Nat) : Bool := letN (bt s i) || (decide (0 < i) && (digN (bt s i) || decide (bt s i = 95)))

def textN (s : ByteArray) : Nat → Nat → Nat
  | 0, _ => 0
  | f + 1, i => if i < s.size then (if bt s i = 92 then textN s f (i + 2) else if bt s i = 34 then i + 1 else textN s f (i + 1)) else 0
theorem textN_le (s : ByteArray) : ∀ f i, textN s f i ≤ s.size
  | 0, _ => Nat.zero_le _
  | f + 1, i => by
    unfold textN
    split
    · split
      · exact textN_le s f (i + 2)
      · split
        · omega
        · exact textN_le s f (i + 1)
    · exact Nat.zero_le _
theorem beq_nat (a b : Nat) : ((a : Int) == (b : Int)) = decide (a = b) := by
  rw [Bool.eq_iff_iff, beq_iff_eq, decide_eq_true_eq]
  omega
theorem bt_at {s : ByteArray} {i : Nat} {c : UInt8} (h : s.data.toList[i]? = some c) : bt s i = c.toNat := by
  unfold bt
  rw [List.getD_eq_getElem?_getD, h]
  rfl
/-- where the word of a value ends with which a text begins -/
def endN (s : ByteArray) (f i : Nat) : Nat := if 0 < textN s f i then textN s f i else s.size
def cutN (s : ByteArray) : Nat := if bt s 0 = 34 then endN s (s.size + 1) 1 else scanN (fun j => decide (bt s j ≠ 32)) s.size 0
theorem cutN_le (s : ByteArray) : cutN s ≤ s.size := by
  unfold cutN
  split
  · unfold endN
    split
    · exact textN_le s _ _
    · exact Nat.le_refl _
  · have := (scanN_le (fun j => decide (bt s j ≠ 32)) s.size 0).2
    omega
theorem hexd_ok (i : Nat) (h : i < 16) : hexd i ≠ 92 ∧ hexd i ≠ 34 := by
  have : ∀ i : Fin 16, hexd i.val ≠ 92 ∧ hexd i.val ≠ 34 := by decide +kernel
  exact this ⟨i, h⟩
theorem text_q (s : ByteArray) : ∀ (t : List UInt8) (r : List UInt8) (f i : Nat), s.data.toList.drop i = t.flatMap qByte ++ 34 :: r → (t.flatMap qByte).length < f → textN s f i = i + (t.flatMap qByte).length + 1
  | [], r, f, i, h, hf => by
    obtain ⟨f, rfl⟩ : ∃ q, f = q + 1 := ⟨f - 1, by omega⟩
    have h0 : s.data.toList[i]? = some 34 := by
      have := congrArg (·[0]?) h
      simpa using this
    have hlt : i < s.size := by rw [ba_size]; exact (List.getElem?_eq_some_iff.1 h0).1
    have hb : bt s i = 34 := bt_at h0
    rw [textN, if_pos hlt, hb, if_neg (by decide), if_pos rfl]
    simp
  | c :: t, r, f, i, h, hf => by
    have at_ : ∀ (j : Nat) (x : UInt8), (qByte c)[j]? = some x → s.data.toList[i + j]? = some x := by
      intro j x hx
      have := congrArg (·[j]?) h
      simp only [List.getElem?_drop, List.flatMap_cons, List.append_assoc] at this
      rw [this, List.getElem?_append_left (List.getElem?_eq_some_iff.1 hx).1]
      exact hx
    have dr : ∀ m, m = (qByte c).length → s.data.toList.drop (i + m) = t.flatMap qByte ++ 34 :: r := by
      intro m hm
      rw [← List.drop_drop, h, hm, List.flatMap_cons, List.append_assoc, List.drop_left]
    have hlen : ((c :: t).flatMap qByte).length = (qByte c).length + (t.flatMap qByte).length := by rw [List.flatMap_cons, List.length_append]
    rw [hlen] at hf ⊢
    have lt : ∀ (j : Nat) (x : UInt8), (qByte c)[j]? = some x → i + j < s.size := fun j x hx => by rw [ba_size]; exact (List.getElem?_eq_some_iff.1 (at_ j x hx)).1
    rcases qByte_cases c with ⟨e, _⟩ | e | ⟨e, h1, h2⟩
    · rw [e] at hf ⊢
      simp only [List.length_cons, List.length_nil] at hf ⊢
      obtain ⟨f, rfl⟩ : ∃ q, f = q + 1 := ⟨f - 1, by omega⟩
      have b0 : bt s i = 92 := bt_at (at_ 0 92 (by rw [e]; rfl))
      have l0 : i < s.size := lt 0 92 (by rw [e]; rfl)
      rw [textN, if_pos l0, if_pos b0, text_q s t r f (i + 2) (dr 2 (by rw [e]; rfl)) (by omega)]
      omega
    · rw [e] at hf ⊢
      simp only [List.length_cons, List.length_nil] at hf ⊢
      have hc : c.toNat < 256 := c.toNat_lt
      have k1 := hexd_ok (c.toNat / 16) (by omega)
      have k2 := hexd_ok (c.toNat % 16) (by omega)
      have n92 : ∀ x : UInt8, x ≠ 92 → x.toNat ≠ 92 := fun x h hh => h (UInt8.toNat_inj.1 hh)
      have n34 : ∀ x : UInt8, x ≠ 34 → x.toNat ≠ 34 := fun x h hh => h (UInt8.toNat_inj.1 hh)
      obtain ⟨f, rfl⟩ : ∃ q, f = q + 3 := ⟨f - 3, by omega⟩
      have b0 : bt s i = 92 := bt_at (at_ 0 92 (by rw [e]; rfl))
      have b2 : bt s (i + 2) = (hexd (c.toNat / 16)).toNat := bt_at (at_ 2 _ (by rw [e]; rfl))
      have b3 : bt s (i + 3) = (hexd (c.toNat % 16)).toNat := bt_at (at_ 3 _ (by rw [e]; rfl))
      have l0 : i < s.size := lt 0 92 (by rw [e]; rfl)
      have l2 : i + 2 < s.size := lt 2 _ (by rw [e]; rfl)
      have l3 : i + 3 < s.size := lt 3 _ (by rw [e]; rfl)
      rw [textN, if_pos l0, if_pos b0, textN, if_pos l2, b2, if_neg (n92 _ k1.1), if_neg (n34 _ k1.2), textN, if_pos l3, b3, if_neg (n92 _ k2.1), if_neg (n34 _ k2.2), text_q s t r f (i + 4) (dr 4 (by rw [e]; rfl)) (by omega)]
      omega
    · rw [e] at hf ⊢
      simp only [List.length_cons, List.length_nil] at hf ⊢
      have n92 : ∀ x : UInt8, x ≠ 92 → x.toNat ≠ 92 := fun x h hh => h (UInt8.toNat_inj.1 hh)
      have n34 : ∀ x : UInt8, x ≠ 34 → x.toNat ≠ 34 := fun x h hh => h (UInt8.toNat_inj.1 hh)
      obtain ⟨f, rfl⟩ : ∃ q, f = q + 1 := ⟨f - 1, by omega⟩
      have b0 : bt s i = c.toNat := bt_at (at_ 0 c (by rw [e]; rfl))
      have l0 : i < s.size := lt 0 c (by rw [e]; rfl)
      rw [textN, if_pos l0, b0, if_neg (n92 _ h1), if_neg (n34 _ h2), text_q s t r f (i + 1) (dr 1 (by rw [e]; rfl)) (by omega)]
      omega
theorem scan_w (s : ByteArray) : ∀ (w r : List UInt8) (f i : Nat), s.data.toList.drop i = w ++ r → (∀ c ∈ w, c ≠ 32) → (r = [] ∨ r.head? = some 32) → i + f = s.size → scanN (fun j => decide (bt s j ≠ 32)) f i = i + w.length
  | [], r, 0, i, h, _, _, hf => rfl
  | [], r, f + 1, i, h, _, hr, hf => by
    have hlt : i < s.data.toList.length := by rw [← ba_size]; omega
    rcases hr with rfl | hr
    · have := congrArg List.length h
      simp only [List.length_drop, List.nil_append, List.length_nil] at this
      omega
    · have h0 : s.data.toList[i]? = some 32 := by
        have := congrArg (·[0]?) h
        simpa [← List.head?_eq_getElem?, hr] using this
      have hb : bt s i = 32 := bt_at h0
      rw [scanN, if_neg (by simp [hb])]
      rfl
  | c :: w, r, 0, i, h, _, _, hf => by
    have := congrArg List.length h
    simp only [List.length_drop, ← ba_size, List.length_append, List.length_cons] at this
    omega
  | c :: w, r, f + 1, i, h, hw, hr, hf => by
    have h0 : s.data.toList[i]? = some c := by
      have := congrArg (·[0]?) h
      simpa using this
    have hb : bt s i = c.toNat := bt_at h0
    have hc : c ≠ 32 := hw c (List.mem_cons_self ..)
    have hn : c.toNat ≠ 32 := fun hh => hc (UInt8.toNat_inj.1 hh)
    rw [scanN, if_pos (by simp [hb, hn]), scan_w s w r f (i + 1) (by rw [← List.drop_drop, h]; rfl) (fun x hx => hw x (List.mem_cons_of_mem _ hx)) hr (by omega), List.length_cons]
    omega
theorem itoa_ne (x : Int) : ∀ c ∈ Lib.itoa x, c ≠ 32 ∧ c ≠ 34 := by
  have hd : ∀ u, ∀ c ∈ Lib.decDigits u, c ≠ 32 ∧ c ≠ 34 := fun u c hc => by
    have := dec_dig u c hc
    unfold dig at this
    constructor
    · rintro rfl; exact absurd this (by decide)
    · rintro rfl; exact absurd this (by decide)
  intro c hc
  unfold Lib.itoa at hc
  split at hc
  · rcases List.mem_cons.1 hc with rfl | hc
    · decide
    · exact hd _ c hc
  · exact hd _ c hc
/-- a value's word, with what may stand behind it -/
theorem cut_show {v : ty25.D} (h : rightV v = true) (r : List UInt8) (hr : r = [] ∨ r.head? = some 32) : cutN (mkB ((showS v).data.toList ++ r)) = (showS v).size := by
  have plain : ∀ w : List UInt8, w ≠ [] → (∀ c ∈ w, c ≠ 32 ∧ c ≠ 34) → (showS v).data.toList = w → cutN (mkB ((showS v).data.toList ++ r)) = (showS v).size := by
    intro w hne hw e
    rw [e, ba_size, e]
    obtain ⟨c, w', rfl⟩ : ∃ c w', w = c :: w' := by cases w with
      | nil => exact absurd rfl hne
      | cons c w' => exact ⟨c, w', rfl⟩
    have hb : bt (mkB ((c :: w') ++ r)) 0 = c.toNat := bt_at (by simp [mkB])
    have hc : c.toNat ≠ 34 := fun hh => (hw c (List.mem_cons_self ..)).2 (UInt8.toNat_inj.1 hh)
    unfold cutN
    rw [hb, if_neg hc, scan_w (mkB ((c :: w') ++ r)) (c :: w') r _ 0 (by simp [mkB]) (fun x hx => (hw x hx).1) hr (by omega)]
    omega
  rcases right_cases h with rfl | ⟨b, rfl⟩ | ⟨x, rfl⟩ | ⟨t, ht, rfl⟩
  · exact plain [110, 117, 108, 108] (by simp) (by decide) (by rw [show_null])
  · cases b with
    | true => exact plain [116, 114, 117, 101] (by simp) (by decide) (by rw [show_bool]; rfl)
    | false => exact plain [102, 97, 108, 115, 101] (by simp) (by decide) (by rw [show_bool]; rfl)
  · refine plain (Lib.itoa x) ?_ (itoa_ne x) (by rw [show_num]; simp [numS])
    intro e
    have := numS_pos x
    rw [numS, e] at this
    exact absurd this (by decide)
  · have e : (showS (3, false, 0, t, ())).data.toList = quotedL t.data.toList := by rw [show_text t ht]; simp [mkB]
    rw [e, ba_size, e]
    have hb : bt (mkB (quotedL t.data.toList ++ r)) 0 = 34 := bt_at (c := 34) (by simp [mkB, quotedL])
    have ht := text_q (mkB (quotedL t.data.toList ++ r)) t.data.toList r ((mkB (quotedL t.data.toList ++ r)).size + 1) 1 (by simp [mkB, quotedL]) (by rw [mkB_size]; simp [quotedL]; omega)
    unfold cutN endN
    rw [hb, if_pos rfl, ht, if_pos (by omega)]
    simp [quotedL]
    omega
/-! words, one behind the other -/
def jnW : List ByteArray → List UInt8
  | [] => []
  | [x] => x.data.toList
  | x :: y :: r => x.data.toList ++ 32 :: jnW (y :: r)
theorem jnW_cons (x : ByteArray) (r : List ByteArray) : ∃ q, jnW (x :: r) = x.data.toList ++ q ∧ (q = [] ∨ q.head? = some 32) := by
  cases r with
  | nil => exact ⟨[], by simp [jnW], .inl rfl⟩
  | cons y r => exact ⟨32 :: jnW (y :: r), rfl, .inr rfl⟩
theorem jnW_join : ∀ l : List ByteArray, Lib.join (l.map (·.data.toList)) [32] = jnW l
  | [] => rfl
  | [x] => by rw [List.map_cons, List.map_nil, Lib.join_one]; rfl
  | x :: y :: r => by
    have h := jnW_join (y :: r)
    rw [List.map_cons, Lib.join_cons] at h
    rw [List.map_cons, List.map_cons, Lib.join_cons, jnW, ← h]
    simp [Lib.joinTail]
theorem jnW_snoc : ∀ (l : List ByteArray) (x : ByteArray), l ≠ [] → jnW (l ++ [x]) = jnW l ++ 32 :: x.data.toList
  | [], _, h => absurd rfl h
  | [y], x, _ => by simp [jnW]
  | y :: z :: r, x, _ => by
    have := jnW_snoc (z :: r) x (by simp)
    simp only [List.cons_append, jnW] at this ⊢
    rw [this]
    simp
theorem jnW_len (b : Nat) : ∀ l : List ByteArray, (∀ x ∈ l, x.size ≤ b) → (jnW l).length ≤ l.length * (b + 1)
  | [], _ => Nat.zero_le _
  | [x], h => by
    have := h x (by simp)
    rw [ba_size] at this
    simp only [jnW, List.length_cons, List.length_nil]
    omega
  | x :: y :: r, h => by
    have h1 := h x (by simp)
    have h2 := jnW_len b (y :: r) (fun z hz => h z (List.mem_cons_of_mem _ hz))
    rw [ba_size] at h1
    simp only [jnW, List.length_append, List.length_cons, Nat.succ_mul] at h2 ⊢
    omega
/-- all values' words -/
def cellsS (l : List ty25.D) : Option ByteArray := if (l.all rightV) = true then some (mkB (jnW (l.map showS))) else none
theorem nil_beq (s : ByteArray) : (s.toList == (⟨#[]⟩ : ByteArray).toList) = decide (s.size = 0) := by
  rw [beqB]
  simp only [nil_size]
theorem show_nil (v : ty25.D) : ((showS v).toList == (⟨#[]⟩ : ByteArray).toList) = !(rightV v) := by
  rw [nil_beq]
  cases h : rightV v with
  | false => rw [show_wrong v h]; rfl
  | true =>
    have := show_ne h
    have : ¬ (showS v).size = 0 := fun e => this ((nil_size _).2 e)
    simp [this]
open Classical in
/-- a text as values: what is done so far -/
noncomputable def backS : Nat → ByteArray → List ty25.D → Option (List ty25.D)
  | 0, _, _ => none
  | f + 1, s, acc =>
    if (readV (s.extract 0 (cutN s))).2 = 0 then
      (if cutN s = s.size then some (acc ++ [(readV (s.extract 0 (cutN s))).1])
       else if bt s (cutN s) = 32 ∧ cutN s + 1 < s.size then backS f (s.extract (cutN s + 1) s.size) (acc ++ [(readV (s.extract 0 (cutN s))).1]) else none)
    else none
end Go.Proofs.YtcpimjekllkbkaaGreatDoor.E
namespace Go.Proofs.YtcpimjekllkbkaaGreatDoor.E
open Go.RowKit
variable {R : Type}
/-! the program's values, by the document's words -/
theorem parse_dig : ∀ (l : List UInt8) (acc : Nat), (∀ c ∈ l, dig c) → dval acc l < 18446744073709551616 → Lib.parseUintM (2 ^ 64 - 1) acc l = .ok (dval acc l)
  | [], _, _, _ => rfl
  | c :: r, acc, hd, hv => by
    have hc := hd c List.mem_cons_self
    unfold dig at hc
    have hv' : dval (acc * 10 + (c.toNat - 48)) r < 18446744073709551616 := hv
    have hl := Nat.lt_of_le_of_lt (dval_le r (acc * 10 + (c.toNat - 48))) hv'
    clear hv
    have ih := parse_dig r (acc * 10 + (c.toNat - 48)) (fun x hx => hd x (List.mem_cons_of_mem _ hx)) hv'
    clear hv'
    rw [Lib.parseUintM, if_pos hc, if_neg (by omega), if_neg (by omega)]
    exact ih
theorem parse_itoa (n : Int) (h0 : -9223372036854775808 ≤ n) (h1 : n ≤ 9223372036854775807) : Lib.parseIntB 64 (Lib.itoa n) = .ok n := by
  unfold Lib.itoa
  split
  · rename_i h
    have hv := dval_dec n.natAbs
    have hp := parse_dig (Lib.decDigits n.natAbs) 0 (dec_dig _) (by rw [hv]; omega)
    rw [hv] at hp
    simp only [Lib.parseIntB, show (45 : UInt8).toNat = 45 by decide, or_true, if_true, Lib.parseUintB, dec_ne, if_false, hp]
    simp only [true_and, not_true, false_and, if_false]
    rw [if_neg (by omega)]
    congr 1; omega
  · rename_i h
    have hv := dval_dec n.toNat
    have hp := parse_dig (Lib.decDigits n.toNat) 0 (dec_dig _) (by rw [hv]; omega)
    rw [hv] at hp
    have hne := dec_ne n.toNat
    have hd := dec_dig n.toNat
    generalize Lib.decDigits n.toNat = l at hp hne hd
    cases l with
    | nil => exact absurd rfl hne
    | cons c r =>
      have hc := hd c List.mem_cons_self
      unfold dig at hc
      have e1 : ¬ (c.toNat = 43 ∨ c.toNat = 45) := by omega
      have e2 : ¬ (c.toNat = 45) := by omega
      have e3 : ¬ (2 ^ 63 ≤ n.toNat) := by omega
      have e4 : ((n.toNat : Nat) : Int) = n := by omega
      simp only [Lib.parseIntB, e1, e2, if_false, Lib.parseUintB, hne, hp]
      have e5 : ¬ (c.toNat = 43) := by omega
      have hp' : Lib.parseUintM 18446744073709551615 0 (c :: r) = Lib.NumEnd.ok n.toNat := hp
      have e6 : ¬ (9223372036854775808 ≤ n.toNat) := by omega
      simp [e5, hp', e6, e4]
theorem parse_range (l : List UInt8) (v : Int) (h : Lib.parseIntB 64 l = .ok v) : -9223372036854775808 ≤ v ∧ v ≤ 9223372036854775807 := by
  unfold Lib.parseIntB at h
  split at h
  · cases h
  · simp only at h
    split at h
    · cases h
    · cases h
    · split at h
      · cases h
      · split at h
        · cases h
        · injection h with h
          split at h <;> omega
theorem quB_eq (s : ByteArray) : quB s = mkB (quotedL s.data.toList) := rfl
theorem quo_F (n : Nat) (s : ByteArray) (h : s.size ≤ 1048576) (k : ByteArray → Option R) : value_quoted_F n s k = k (mkB (quotedL s.data.toList)) := by
  rw [value_quoted_e]
  unfold value_quoted_Fi
  rw [if_pos h]
  rfl
theorem fmt_F (n : Nat) (x : Int) (h : inR x) (k : ByteArray → Option R) : strconv_FormatInt_F n x 10 k = k (numS x) := by
  rw [strconv_FormatInt_e]
  unfold strconv_FormatInt_Fi
  rw [if_pos ⟨rfl, h.1, h.2⟩]
  rfl
theorem pi_F (n : Nat) (s : ByteArray) (h : s.size ≤ 1000) (k : Int → Bool → Option R) : strconv_ParseInt_F n s 10 64 k = k (piV s) (piE s) := by
  rw [strconv_ParseInt_e]
  unfold strconv_ParseInt_Fi
  rw [if_pos ⟨rfl, rfl, by omega⟩]
theorem fb_F (n : Nat) (b : Bool) (k : ByteArray → Option R) : strconv_FormatBool_F n b k = k (if b = true then ⟨#[116, 114, 117, 101]⟩ else ⟨#[102, 97, 108, 115, 101]⟩) := by
  rw [strconv_FormatBool_e]
  unfold strconv_FormatBool_Fi
  rw [strconv_FormatBool_52_e]
  unfold strconv_FormatBool_52_Fi
  cases b <;> rfl
theorem nullP_F (n : Nat) (k : ty25.D → Option R) : value_Null_F n k = k zV := by rw [value_Null_e]; rfl
theorem boolP_F (n : Nat) (b : Bool) (k : ty25.D → Option R) : value_Bool_F n b k = k (1, b, 0, (⟨#[]⟩ : ByteArray), ()) := by rw [value_Bool_e]; rfl
theorem intP_F (n : Nat) (x : Int) (k : ty25.D → Option R) : value_Int_F n x k = k (2, false, x, (⟨#[]⟩ : ByteArray), ()) := by rw [value_Int_e]; rfl
theorem textP_F (n : Nat) (s : ByteArray) (k : ty25.D → Option R) : value_Text_F n s k = k (3, false, 0, s, ()) := by rw [value_Text_e]; rfl
theorem rightP_F (n : Nat) (v : ty25.D) (k : Bool → Option R) : value_Right_F n v k = k (rightV v) := by
  obtain ⟨kd, fl, i, t, ⟨⟩⟩ := v
  rw [value_Right_e]
  unfold value_Right_Fi rightV
  simp only [nullP_F, boolP_F, intP_F, textP_F, beqB, zV, beq_self_eq_true, Bool.true_and, Bool.and_true]
  by_cases h0 : kd = 0
  · subst h0
    simp only [beq_self_eq_true, if_true, Bool.true_and]
    congr 1
    rw [Bool.eq_iff_iff]
    simp [nil_size]
  · by_cases h1 : kd = 1
    · subst h1
      simp only [show ((1 : Int) == 0) = false from rfl, beq_self_eq_true, if_true, Bool.false_eq_true, if_false, Bool.true_and]
      congr 1
      rw [Bool.eq_iff_iff]
      simp [nil_size]
    · by_cases h2 : kd = 2
      · subst h2
        simp only [show ((2 : Int) == 0) = false from rfl, show ((2 : Int) == 1) = false from rfl, beq_self_eq_true, if_true, Bool.false_eq_true, if_false, Bool.true_and]
        congr 1
        rw [Bool.eq_iff_iff]
        simp [nil_size]
      · by_cases h3 : kd = 3
        · subst h3
          simp only [show ((3 : Int) == 0) = false from rfl, show ((3 : Int) == 1) = false from rfl, show ((3 : Int) == 2) = false from rfl, beq_self_eq_true, if_true, Bool.false_eq_true, if_false, Bool.true_and]
          cases fl with
          | true => simp
          | false =>
            by_cases hi : i = 0
            · subst hi
              simp
              congr 1
              rw [Bool.eq_iff_iff]
              simp
              exact Int.ofNat_le (n := 60)
            · have ei : (i == 0) = false := by simpa using hi
              simp [ei, hi]
        · have e0 : (kd == 0) = false := by simpa using h0
          have e1 : (kd == 1) = false := by simpa using h1
          have e2 : (kd == 2) = false := by simpa using h2
          have e3 : (kd == 3) = false := by simpa using h3
          simp only [e0, e1, e2, e3, Bool.false_eq_true, if_false]
          congr 1
          simp [h0, h1, h2, h3]
theorem showP_F (n : Nat) (v : ty25.D) (hv : inR v.2.2.1) (k : ByteArray → Option R) : value_Show_F n v k = k (showS v) := by
  obtain ⟨kd, fl, i, t, ⟨⟩⟩ := v
  rw [value_Show_e]
  unfold value_Show_Fi
  rw [rightP_F]
  unfold showS
  by_cases hr : rightV (kd, fl, i, t, ()) = true
  · have hsz := right_size _ hr
    rw [if_pos hr]
    simp only [hr, Bool.not_true, Bool.false_eq_true, if_false]
    by_cases h1 : kd = 1
    · subst h1
      rw [fb_F]
      rfl
    · have e1 : (kd == 1) = false := by simpa using h1
      simp only [e1, Bool.false_eq_true, if_false]
      by_cases h2 : kd = 2
      · subst h2
        rw [fmt_F _ _ hv]
        rfl
      · have e2 : (kd == 2) = false := by simpa using h2
        simp only [e2, Bool.false_eq_true, if_false]
        by_cases h3 : kd = 3
        · subst h3
          rw [quo_F _ _ (by have : t.size ≤ 60 := hsz; omega)]
          rfl
        · have e3 : (kd == 3) = false := by simpa using h3
          simp only [e3, Bool.false_eq_true, if_false]
          have h0 : kd = 0 := by
            unfold rightV at hr
            simp only [decide_eq_true_eq] at hr
            rcases hr with h | h | h | h
            · exact h.1
            · exact absurd h.1 h1
            · exact absurd h.1 h2
            · exact absurd h.1 h3
          rw [if_pos h0]
  · rw [if_neg hr]
    simp only [Bool.not_eq_true] at hr
    simp [hr]
end Go.Proofs.YtcpimjekllkbkaaGreatDoor.E
namespace Go.Proofs.YtcpimjekllkbkaaGreatDoor.E
open Go.RowKit
variable {R : Type}
def hexB : ByteArray := ⟨#[48, 49, 50, 51, 52, 53, 54, 55, 56, 57, 97, 98, 99, 100, 101, 102]⟩
theorem ixb_F (n : Nat) (s : ByteArray) (c : Int) (k : Int → Option R) : strings_IndexByte_F n s c k = k (idxB s c) := by
  rw [strings_IndexByte_e]
  unfold strings_IndexByte_Fi
  rw [stringslite_IndexByte_e]
  unfold stringslite_IndexByte_Fi
  rw [bytealg_IndexByteString_e]
  unfold bytealg_IndexByteString_Fi
  rfl
theorem idx_hex (i : Nat) (h : i < 16) : idxB hexB ((hexd i).toNat : Int) = (i : Int) := by
  have : ∀ i : Fin 16, idxB hexB ((hexd i.val).toNat : Int) = (i.val : Int) := by decide +kernel
  exact this ⟨i, h⟩
theorem hex_two (x : Nat) (h : x < 256) : IntKind.u8.wrap (bitsI .or .i64 (shlI .i64 ((x / 16 : Nat) : Int) 4) ((x % 16 : Nat) : Int)) = (x : Int) := by
  have : ∀ x : Fin 256, IntKind.u8.wrap (bitsI .or .i64 (shlI .i64 ((x.val / 16 : Nat) : Int) 4) ((x.val % 16 : Nat) : Int)) = (x.val : Int) := by decide +kernel
  exact this ⟨x, h⟩
/-- the byte that a quoted text goes on with -/
def nextS (s : ByteArray) : Int × ByteArray × Bool :=
  if byteAt s 0 ≠ 92 then (byteAt s 0, s.extract 1 s.size, true)
  else if 1 < s.size ∧ byteAt s 1 ≠ 120 then (byteAt s 1, s.extract 2 s.size, true)
  else if s.size < 4 then (0, (⟨#[]⟩ : ByteArray), false)
  else (IntKind.u8.wrap (bitsI .or .i64 (shlI .i64 (idxB hexB (byteAt s 2)) 4) (idxB hexB (byteAt s 3))), s.extract 4 s.size, decide (idxB hexB (byteAt s 2) ≥ 0) && decide (idxB hexB (byteAt s 3) ≥ 0))
theorem nextS_size (s : ByteArray) (h : 0 < s.size) : (nextS s).2.1.size < s.size := by
  unfold nextS
  split
  · show (s.extract 1 s.size).size < _; rw [ByteArray.size_extract]; omega
  · split
    · show (s.extract 2 s.size).size < _; rw [ByteArray.size_extract]; omega
    · split
      · exact h
      · show (s.extract 4 s.size).size < _; rw [ByteArray.size_extract]; omega
theorem next_F (n : Nat) (s : ByteArray) (h : 0 < s.size) (k : Int → ByteArray → Bool → Option R) : value_next_F n s k = k (nextS s).1 (nextS s).2.1 (nextS s).2.2 := by
  rw [value_next_e]
  unfold value_next_Fi nextS
  have c1 : (0 : Int) < (s.size : Int) := by omega
  by_cases h0 : byteAt s 0 = 92
  · have e0 : (byteAt s 0 != 92) = false := by rw [h0]; rfl
    have n0 : ¬ byteAt s 0 ≠ 92 := fun hh => hh h0
    simp only [Int.le_refl, if_true, c1, e0, Bool.false_eq_true, if_false, n0]
    by_cases h1 : 1 < s.size
    · have g1 : (s.size : Int) > 1 := by omega
      have g2 : (1 : Int) < (s.size : Int) := by omega
      simp only [g1, decide_true, if_true, g2, show (0 : Int) ≤ 1 by decide]
      by_cases h2 : byteAt s 1 = 120
      · have e1 : (byteAt s 1 != 120) = false := by rw [h2]; rfl
        have n1 : ¬ (1 < s.size ∧ byteAt s 1 ≠ 120) := fun hh => hh.2 h2
        simp only [e1, Bool.false_eq_true, if_false, n1]
        by_cases h4 : s.size < 4
        · have g4 : (s.size : Int) < 4 := by omega
          simp only [g4, decide_true, if_true, h4]
        · have g4 : ¬ (s.size : Int) < 4 := by omega
          have g5 : (2 : Int) < (s.size : Int) := by omega
          have g6 : (3 : Int) < (s.size : Int) := by omega
          have g7 : (0 : Int) ≤ 4 ∧ (4 : Int) ≤ (s.size : Int) := by omega
          simp only [g4, decide_false, Bool.false_eq_true, if_false, h4, show (0 : Int) ≤ 2 by decide, show (0 : Int) ≤ 3 by decide, if_true, g5, g6, ixb_F, g7, and_self]
          by_cases hh : idxB hexB (byteAt s 2) ≥ 0
          · have hh' : idxB (⟨#[48, 49, 50, 51, 52, 53, 54, 55, 56, 57, 97, 98, 99, 100, 101, 102]⟩ : ByteArray) (byteAt s 2) ≥ 0 := hh
            simp only [hh, hh', decide_true, if_true, Bool.true_and]
            rfl
          · have hh' : ¬ idxB (⟨#[48, 49, 50, 51, 52, 53, 54, 55, 56, 57, 97, 98, 99, 100, 101, 102]⟩ : ByteArray) (byteAt s 2) ≥ 0 := hh
            simp only [hh, hh', decide_false, Bool.false_eq_true, if_false, Bool.false_and]
            rfl
      · have e1 : (byteAt s 1 != 120) = true := bne_iff_ne.2 h2
        have n1 : 1 < s.size ∧ byteAt s 1 ≠ 120 := ⟨h1, h2⟩
        have g7 : (0 : Int) ≤ 2 ∧ (2 : Int) ≤ (s.size : Int) := by omega
        simp only [e1, if_true, n1, g7, and_self, ne_eq, not_false_eq_true]
        rfl
    · have g1 : ¬ (s.size : Int) > 1 := by omega
      have n1 : ¬ (1 < s.size ∧ byteAt s 1 ≠ 120) := fun hh => h1 hh.1
      have g4 : (s.size : Int) < 4 := by omega
      have h4 : s.size < 4 := by omega
      simp only [g1, decide_false, Bool.false_eq_true, if_false, n1, g4, decide_true, if_true, h4]
  · have e0 : (byteAt s 0 != 92) = true := bne_iff_ne.2 h0
    have g7 : (0 : Int) ≤ 1 ∧ (1 : Int) ≤ (s.size : Int) := by omega
    simp only [Int.le_refl, if_true, c1, e0, h0, ne_eq, not_false_eq_true, g7, and_self]
    rfl
/-- the bytes behind the first quote -/
def unqS : Nat → ByteArray → List Int → Option (List Int)
  | 0, _, acc => some acc
  | f + 1, s, acc => if s.size = 0 then some acc else if (nextS s).2.2 = true then unqS f (nextS s).2.1 (acc ++ [(nextS s).1]) else none
def unqP (s : ByteArray) : Option ByteArray :=
  if s.size < 2 ∨ byteAt s 0 ≠ 34 ∨ byteAt s ((s.size : Int) - 1) ≠ 34 then none else (unqS s.size (s.extract 1 (s.size - 1)) []).map strOfNums
theorem unq_loop (n : Nat) (k2 : exK R (value_unquoted_dx 5)) : ∀ (f m : Nat) (s : ByteArray) (acc : List Int), s.size ≤ f → f < m → acc.length + s.size ≤ 100000 →
    runC (value_unquoted_l5 n) m (s, acc, ()) k2 = match unqS (f + 1) s acc with
      | some l => k2.2.1 (l, ())
      | none => k2.1 ((⟨#[]⟩ : ByteArray), false, ())
  | f, m, s, acc, hf, hm, ha => by
    obtain ⟨m, rfl⟩ : ∃ q, m = q + 1 := ⟨m - 1, by omega⟩
    show value_unquoted_l5 n (s, acc, ()) (fun b => runC (value_unquoted_l5 n) m b k2) k2 = _
    simp only [value_unquoted_l5, value_unquoted_s5, unqS]
    simp only [beqB]
    by_cases h0 : s = (⟨#[]⟩ : ByteArray)
    · have hz : s.size = 0 := (nil_size s).1 h0
      simp only [h0, decide_true, Bool.not_true, Bool.false_eq_true, if_false]
      rfl
    · have hz : ¬ s.size = 0 := fun e => h0 ((nil_size s).2 e)
      obtain ⟨f, rfl⟩ : ∃ q, f = q + 1 := ⟨f - 1, by omega⟩
      simp only [h0, decide_false, Bool.not_false, if_true, hz, if_false]
      rw [next_F n s (by omega)]
      have hn := nextS_size s (by omega)
      cases hk : (nextS s).2.2 with
      | false => rfl
      | true =>
        simp only [Bool.not_true, Bool.false_eq_true, if_false, if_true, List.length_cons, List.length_nil]
        rw [if_pos (by omega)]
        exact unq_loop n k2 f m (nextS s).2.1 (acc ++ [(nextS s).1]) (by omega) (by omega) (by simp; omega)
theorem unqP_F (n : Nat) (s : ByteArray) (hs : s.size ≤ 1000) (hn : 2000 < n) (k : ByteArray → Bool → Option R) : value_unquoted_F n s k = match unqP s with
    | some t => k t true
    | none => k (⟨#[]⟩ : ByteArray) false := by
  rw [value_unquoted_e]
  unfold value_unquoted_Fi unqP
  by_cases h2 : s.size < 2
  · have g2 : (s.size : Int) < 2 := by omega
    simp only [g2, decide_true, if_true, h2, true_or]
  · have g2 : ¬ (s.size : Int) < 2 := by omega
    have c1 : (0 : Int) < (s.size : Int) := by omega
    simp only [g2, decide_false, Bool.false_eq_true, if_false, Int.le_refl, if_true, c1, h2, false_or, wm s.size (by omega)]
    by_cases h0 : byteAt s 0 = 34
    · have e0 : (byteAt s 0 != 34) = false := by rw [h0]; rfl
      have c2 : (0 : Int) ≤ (s.size : Int) - 1 := by omega
      have c3 : (s.size : Int) - 1 < (s.size : Int) := by omega
      simp only [e0, Bool.false_eq_true, if_false, c2, c3, if_true, h0, ne_eq, not_true_eq_false, false_or]
      by_cases h1 : byteAt s ((s.size : Int) - 1) = 34
      · have e1 : (byteAt s ((s.size : Int) - 1) != 34) = false := by rw [h1]; rfl
        have c4 : (s.size : Int) - 1 ≤ (s.size : Int) := by omega
        have e5 : Int.toNat ((s.size : Int) - 1) = s.size - 1 := by omega
        have c5 : (1 : Int) ≤ ((s.size - 1 : Nat) : Int) := by omega
        simp only [e1, Bool.false_eq_true, if_false, c4, and_self, if_true, e5, show (0 : Int) ≤ 1 by decide, c5, h1, not_true_eq_false]
        obtain ⟨q, hq⟩ : ∃ q, s.size = q + 1 := ⟨s.size - 1, by omega⟩
        have hx : (s.extract 1 (s.size - 1)).size = s.size - 2 := by rw [ByteArray.size_extract]; omega
        refine (unq_loop n _ q n (s.extract 1 (s.size - 1)) [] (by omega) (by omega) (by simp; omega)).trans ?_
        rw [← hq]
        cases unqS s.size (s.extract 1 (s.size - 1)) [] <;> rfl
      · have e1 : (byteAt s ((s.size : Int) - 1) != 34) = true := bne_iff_ne.2 h1
        simp only [e1, if_true, h1, not_false_eq_true]
        split <;> rfl
    · have e0 : (byteAt s 0 != 34) = true := bne_iff_ne.2 h0
      simp only [e0, if_true, h0, ne_eq, not_false_eq_true, true_or]
end Go.Proofs.YtcpimjekllkbkaaGreatDoor.E
namespace Go.Proofs.YtcpimjekllkbkaaGreatDoor.E
open Go.RowKit
variable {R : Type}
theorem mkB_at (l : List UInt8) (i : Nat) (c : UInt8) (h : l[i]? = some c) : byteAt (mkB l) (i : Int) = (c.toNat : Int) := byteAt_q _ _ _ (by simpa [mkB] using h)
theorem mkB_drop (l m : List UInt8) : (mkB (l ++ m)).extract l.length (mkB (l ++ m)).size = mkB m := by
  rw [mkB_size, List.length_append]
  apply ba_eq
  simp [mkB]
theorem nextS_q (c : UInt8) (r : List UInt8) : nextS (mkB (qByte c ++ r)) = ((c.toNat : Int), mkB r, true) := by
  unfold nextS
  rcases qByte_cases c with ⟨e, h⟩ | e | ⟨e, h, h'⟩
  · have b0 : byteAt (mkB (qByte c ++ r)) 0 = 92 := mkB_at _ 0 92 (by rw [e]; rfl)
    have b1 : byteAt (mkB (qByte c ++ r)) 1 = (c.toNat : Int) := mkB_at _ 1 c (by rw [e]; rfl)
    have hs : 1 < (mkB (qByte c ++ r)).size := by rw [mkB_size, e]; simp
    have hne : (c.toNat : Int) ≠ 120 := by rcases h with rfl | rfl <;> decide
    have hd := mkB_drop (qByte c) r
    rw [show (qByte c).length = 2 from by rw [e]; rfl] at hd
    rw [if_neg (by simp [b0]), if_pos ⟨hs, by rw [b1]; exact hne⟩, b1, hd]
  · have b0 : byteAt (mkB (qByte c ++ r)) 0 = 92 := mkB_at _ 0 92 (by rw [e]; rfl)
    have b1 : byteAt (mkB (qByte c ++ r)) 1 = 120 := mkB_at _ 1 120 (by rw [e]; rfl)
    have b2 : byteAt (mkB (qByte c ++ r)) 2 = ((hexd (c.toNat / 16)).toNat : Int) := mkB_at _ 2 _ (by rw [e]; rfl)
    have b3 : byteAt (mkB (qByte c ++ r)) 3 = ((hexd (c.toNat % 16)).toNat : Int) := mkB_at _ 3 _ (by rw [e]; rfl)
    have hs : ¬ (mkB (qByte c ++ r)).size < 4 := by rw [mkB_size, e]; simp
    have hc : c.toNat < 256 := c.toNat_lt
    have hd := mkB_drop (qByte c) r
    rw [show (qByte c).length = 4 from by rw [e]; rfl] at hd
    rw [if_neg (by simp [b0]), if_neg (by simp [b1]), if_neg hs, b2, b3, hd, idx_hex _ (by omega), idx_hex _ (by omega), hex_two _ hc, decide_eq_true (by omega), decide_eq_true (by omega)]
    rfl
  · have b0 : byteAt (mkB (qByte c ++ r)) 0 = (c.toNat : Int) := mkB_at _ 0 c (by rw [e]; rfl)
    have hne : (c.toNat : Int) ≠ 92 := fun h' => h (UInt8.toNat_inj.1 (show c.toNat = 92 by omega))
    have hd := mkB_drop (qByte c) r
    rw [show (qByte c).length = 1 from by rw [e]; rfl] at hd
    rw [if_pos (by rw [b0]; exact hne), b0, hd]
theorem unqS_q : ∀ (t : List UInt8) (f : Nat) (acc : List Int), t.length < f → unqS f (mkB (t.flatMap qByte)) acc = some (acc ++ t.map fun c => (c.toNat : Int))
  | [], f, acc, hf => by
    obtain ⟨f, rfl⟩ : ∃ q, f = q + 1 := ⟨f - 1, by omega⟩
    rw [unqS, if_pos (by rw [mkB_size]; rfl)]
    simp
  | c :: t, f, acc, hf => by
    obtain ⟨f, rfl⟩ : ∃ q, f = q + 1 := ⟨f - 1, by omega⟩
    simp only [List.length_cons] at hf
    have hz : ¬ (mkB ((c :: t).flatMap qByte)).size = 0 := by
      rw [mkB_size, List.flatMap_cons, List.length_append]
      rcases qByte_cases c with ⟨e, _⟩ | e | ⟨e, _⟩ <;> rw [e] <;> simp
    rw [unqS, if_neg hz, List.flatMap_cons, nextS_q, if_pos rfl]
    show unqS f (mkB (t.flatMap qByte)) (acc ++ [(c.toNat : Int)]) = _
    rw [unqS_q t f _ (by omega)]
    simp
theorem flat_ge (t : List UInt8) : t.length ≤ (t.flatMap qByte).length := by
  induction t with
  | nil => simp
  | cons c t ih =>
    simp only [List.flatMap_cons, List.length_append, List.length_cons]
    rcases qByte_cases c with ⟨e, _⟩ | e | ⟨e, _⟩ <;> rw [e] <;> simp only [List.length_cons, List.length_nil] <;> omega
theorem unqP_q (t : ByteArray) : unqP (mkB (quotedL t.data.toList)) = some t := by
  have sz : (mkB (quotedL t.data.toList)).size = (t.data.toList.flatMap qByte).length + 2 := by rw [mkB_size]; simp [quotedL]
  have b0 : byteAt (mkB (quotedL t.data.toList)) 0 = 34 := mkB_at _ 0 34 rfl
  have b1 : byteAt (mkB (quotedL t.data.toList)) (((mkB (quotedL t.data.toList)).size : Int) - 1) = 34 := by
    have : (((mkB (quotedL t.data.toList)).size : Int) - 1) = (((t.data.toList.flatMap qByte).length + 1 : Nat) : Int) := by rw [sz]; omega
    rw [this]
    exact mkB_at _ _ 34 (by simp [quotedL])
  have ex : (mkB (quotedL t.data.toList)).extract 1 ((mkB (quotedL t.data.toList)).size - 1) = mkB (t.data.toList.flatMap qByte) := by
    rw [sz]
    apply ba_eq
    simp [mkB, quotedL]
  unfold unqP
  rw [if_neg (by rw [b0, b1]; simp [sz]), ex, unqS_q _ _ _ (by have := flat_ge t.data.toList; omega)]
  simp only [List.nil_append, Option.map_some]
  rw [nums_back, mkB_id]
/-- what the program guesses -/
def guessP (s : ByteArray) : ty25.D :=
  if s = trueB then (1, true, 0, (⟨#[]⟩ : ByteArray), ()) else if s = falseB then (1, false, 0, (⟨#[]⟩ : ByteArray), ()) else if piE s = false then (2, false, piV s, (⟨#[]⟩ : ByteArray), ()) else match unqP s with
    | some t => (3, false, 0, t, ())
    | none => zV
theorem guess_F (n : Nat) (s : ByteArray) (hs : s.size ≤ 1000) (hn : 2000 < n) (k : ty25.D → Option R) : value_guess_F n s k = k (guessP s) := by
  rw [value_guess_e]
  unfold value_guess_Fi guessP
  simp only [beqB, boolP_F, intP_F, textP_F, nullP_F]
  by_cases h1 : s = trueB
  · have h1' : s = (⟨#[116, 114, 117, 101]⟩ : ByteArray) := h1
    rw [if_pos (decide_eq_true h1'), if_pos h1, decide_eq_true h1']
  · have h1' : ¬ s = (⟨#[116, 114, 117, 101]⟩ : ByteArray) := h1
    rw [if_neg (by simpa using h1'), if_neg h1]
    by_cases h2 : s = falseB
    · have h2' : s = (⟨#[102, 97, 108, 115, 101]⟩ : ByteArray) := h2
      rw [if_pos (decide_eq_true h2'), if_pos h2, decide_eq_false h1']
    · have h2' : ¬ s = (⟨#[102, 97, 108, 115, 101]⟩ : ByteArray) := h2
      rw [if_neg (by simpa using h2'), if_neg h2, pi_F _ _ hs]
      cases hp : piE s with
      | false => rfl
      | true =>
        simp only [Bool.not_true, Bool.false_eq_true, if_false, Bool.true_eq_false]
        rw [unqP_F n s hs hn]
        cases unqP s <;> rfl
theorem piE_ok {s : ByteArray} {x : Int} (h : Lib.parseIntB 64 s.data.toList = .ok x) : piE s = false ∧ piV s = x := by
  unfold piE piV
  rw [h]
  exact ⟨rfl, rfl⟩
theorem piE_no {s : ByteArray} (h : ∀ x, Lib.parseIntB 64 s.data.toList ≠ .ok x) : piE s = true := by
  unfold piE
  split
  · rename_i v hv
    exact absurd hv (h v)
  · rfl
theorem parse_bad (c : UInt8) (r : List UInt8) (h : ¬ (48 ≤ c.toNat ∧ c.toNat ≤ 57)) (h1 : c.toNat ≠ 43) (h2 : c.toNat ≠ 45) (x : Int) : Lib.parseIntB 64 (c :: r) ≠ .ok x := by
  simp only [Lib.parseIntB, h1, h2, or_self, if_false, Lib.parseUintB, reduceCtorEq, Lib.parseUintM, h, not_false_eq_true]
  simp
theorem piV_rng (s : ByteArray) (h : piE s = false) : inR (piV s) := by
  unfold piE at h
  split at h
  · rename_i v hv
    have := parse_range _ _ hv
    rw [(piE_ok hv).2]
    exact this
  · cases h
theorem guessP_ok : Guess guessP := by
  intro s hs
  refine ⟨?_, ?_⟩
  · unfold guessP
    split
    · exact ⟨by show (-9223372036854775808 : Int) ≤ 0; decide, by show (0 : Int) ≤ 9223372036854775807; decide⟩
    · split
      · exact ⟨by show (-9223372036854775808 : Int) ≤ 0; decide, by show (0 : Int) ≤ 9223372036854775807; decide⟩
      · split
        · rename_i h
          exact piV_rng s h
        · split
          · exact ⟨by show (-9223372036854775808 : Int) ≤ 0; decide, by show (0 : Int) ≤ 9223372036854775807; decide⟩
          · exact ⟨by show (-9223372036854775808 : Int) ≤ 0; decide, by show (0 : Int) ≤ 9223372036854775807; decide⟩
  · rintro v ⟨h1, h2, h3⟩
    subst h3
    rcases right_cases h1 with rfl | ⟨b, rfl⟩ | ⟨x, rfl⟩ | ⟨t, ht, rfl⟩
    · rw [show_null]
      unfold guessP
      rw [if_neg (by decide), if_neg (by decide), if_neg (by rw [piE_no (fun x => parse_bad 110 _ (by decide) (by decide) (by decide) x)]; decide)]
      have : unqP ⟨#[110, 117, 108, 108]⟩ = none := by
        unfold unqP
        rw [if_pos (.inr (.inl (by decide)))]
      rw [this]
    · rw [show_bool]
      cases b
      · unfold guessP
        rw [if_neg (by decide), if_pos (by rfl)]
      · unfold guessP
        rw [if_pos (by rfl)]
    · rw [show_num]
      have h2' : inR x := h2
      have e := parse_itoa x h2'.1 h2'.2
      obtain ⟨e1, e2⟩ := piE_ok (s := numS x) e
      unfold guessP
      rw [if_neg (numS_ne x h2' trueB 116 rfl (by unfold dig; decide)), if_neg (numS_ne x h2' falseB 102 rfl (by unfold dig; decide)), if_pos e1, e2]
    · rw [show_text t ht]
      unfold guessP
      have hne : ∀ (l : List UInt8) (c : UInt8) (r : List UInt8), l = c :: r → c ≠ 34 → mkB (quotedL t.data.toList) ≠ mkB l := by
        intro l c r hl hc he
        have := congrArg (fun s : ByteArray => s.data.toList) he
        simp only [mkB, hl, quotedL] at this
        injection this with h5 h6
        exact hc h5.symm
      have g1 : ¬ mkB (quotedL t.data.toList) = trueB := hne [116, 114, 117, 101] 116 _ rfl (by decide)
      have g2 : ¬ mkB (quotedL t.data.toList) = falseB := hne [102, 97, 108, 115, 101] 102 _ rfl (by decide)
      rw [if_neg g1, if_neg g2, if_neg (by rw [piE_no (fun x => parse_bad 34 _ (by decide) (by decide) (by decide) x)]; decide), unqP_q]
theorem readP_F (n : Nat) (s : ByteArray) (hs : s.size ≤ 1000) (hn : 2000 < n) (k : ty25.D → Int → Option R) : value_Read_F n s k = k (readV s).1 (readV s).2 := by
  rw [readV_guess guessP_ok s hs, value_Read_e]
  unfold value_Read_Fi
  rw [guess_F n s hs hn]
  simp only [beqB]
  by_cases h0 : s = (⟨#[]⟩ : ByteArray)
  · simp only [h0, decide_true, if_true, ne_eq, not_true_eq_false, false_and, if_false]
    rfl
  · simp only [h0, decide_false, Bool.false_eq_true, if_false, ne_eq, not_false_eq_true, true_and]
    rw [showP_F n _ (guessP_ok s hs).1]
    by_cases h1 : showS (guessP s) = s
    · simp only [h1, decide_true, Bool.not_true, Bool.false_eq_true, if_false, if_true]
    · simp only [h1, decide_false, Bool.not_false, if_true, if_false]
      rfl
end Go.Proofs.YtcpimjekllkbkaaGreatDoor.E
namespace Go.Proofs.YtcpimjekllkbkaaGreatDoor.E
open Go.RowKit
variable {R : Type}
set_option maxRecDepth 100000
theorem scan_idx (s : ByteArray) : ∀ (l : List UInt8) (i : Nat), s.data.toList.drop i = l → scanN (fun j => decide (bt s j ≠ 32)) l.length i = if Lib.indexByte l 32 = -1 then i + l.length else i + (Lib.indexByte l 32).toNat
  | [], i, _ => rfl
  | c :: l, i, h => by
    have h0 : s.data.toList[i]? = some c := by
      have := congrArg (·[0]?) h
      simpa using this
    have hb : bt s i = c.toNat := bt_at h0
    have ih := scan_idx s l (i + 1) (by rw [← List.drop_drop, h]; rfl)
    have hge := Lib.indexByte_ge l 32
    rw [List.length_cons, scanN, hb]
    unfold Lib.indexByte
    by_cases hc : c = 32
    · subst hc
      simp
    · have hn : c.toNat ≠ 32 := fun hh => hc (UInt8.toNat_inj.1 hh)
      have hcb : (c == 32) = false := by simpa using hc
      rw [if_pos (by simpa using hn), ih, hcb]
      simp only [Bool.false_eq_true, if_false]
      by_cases hm : Lib.indexByte l 32 = -1
      · rw [if_pos hm, hm]
        simp
        omega
      · have hb2 : (Lib.indexByte l 32 == -1) = false := by simpa using hm
        rw [if_neg hm, hb2]
        simp only [Bool.false_eq_true, if_false]
        rw [if_neg (by omega)]
        omega
theorem ix32_F (n : Nat) (s : ByteArray) (k : Int → Option R) : strings_IndexByte_F n s 32 k = k (Lib.indexByte s.data.toList 32) := by
  rw [ixb_F]
  unfold idxB
  rw [Lib.firstIdx_eq]
  rfl
theorem cut_l (n : Nat) (s : ByteArray) (hs : s.size ≤ 100000) (k2 : exK R (verdererref32_cut_dx 3)) : ∀ (f i m : Nat), s.size ≤ i + f → f < m → i ≤ s.size + 2 → runC (verdererref32_cut_l3 n) m (s, (i : Int), ()) k2 = if 0 < textN s (f + 1) i then k2.1 (((textN s (f + 1) i : Nat) : Int), ()) else k2.2.1 (s, ()) := by
  intro f
  induction f with
  | zero =>
    intro i m hi hm hi2
    obtain ⟨m, rfl⟩ : ∃ q, m = q + 1 := ⟨m - 1, by omega⟩
    show verdererref32_cut_l3 n (s, (i : Int), ()) _ _ = _
    have : ¬ i < s.size := by omega
    have c : ¬ (i : Int) < (s.size : Int) := by omega
    simp only [verdererref32_cut_l3, verdererref32_cut_s3, textN, this, if_false]
    rw [if_neg (by simpa using c)]
    rfl
  | succ f ih =>
    intro i m hi hm hi2
    obtain ⟨m, rfl⟩ : ∃ q, m = q + 1 := ⟨m - 1, by omega⟩
    show verdererref32_cut_l3 n (s, (i : Int), ()) _ _ = _
    by_cases h : i < s.size
    · have c1 : (i : Int) < (s.size : Int) := by omega
      have c0 : (0 : Int) ≤ (i : Int) := by omega
      have e92 : ((bt s i : Int) == 92) = decide (bt s i = 92) := beq_nat _ 92
      have e34 : ((bt s i : Int) == 34) = decide (bt s i = 34) := beq_nat _ 34
      rw [textN, if_pos h]
      simp only [verdererref32_cut_l3, verdererref32_cut_s3, c1, c0, decide_true, if_true, byteAt_bt, e92, e34, wrap_succ i (by omega), wrap_succ (i + 1) (by omega)]
      by_cases h92 : bt s i = 92
      · rw [if_pos (decide_eq_true h92), if_pos h92]
        exact ih (i + 2) m (by omega) (by omega) (by omega)
      · rw [if_neg (by simpa using h92), if_neg h92]
        by_cases h34 : bt s i = 34
        · rw [if_pos (decide_eq_true h34), if_pos h34, if_pos (by omega)]
        · rw [if_neg (by simpa using h34), if_neg h34]
          exact ih (i + 1) m (by omega) (by omega) (by omega)
    · have c : ¬ (i : Int) < (s.size : Int) := by omega
      rw [textN, if_neg h]
      simp only [verdererref32_cut_l3, verdererref32_cut_s3]
      rw [if_neg (by simpa using c)]
      rfl
theorem cutR_F (n : Nat) (s : ByteArray) (h0 : 0 < s.size) (hs : s.size ≤ 100000) (hn : s.size + 2 < n) (k : Int → Option R) : verdererref32_cut_F n s k = k (cutN s : Int) := by
  rw [verdererref32_cut_e]
  unfold verdererref32_cut_Fi cutN endN
  have e34 : ((bt s 0 : Int) == 34) = decide (bt s 0 = 34) := beq_nat _ 34
  rw [if_pos (Int.le_refl _), if_pos (by omega), byteAt_0, e34]
  by_cases h : bt s 0 = 34
  · rw [if_pos (decide_eq_true h), if_pos h]
    refine (cut_l n s hs _ s.size 1 n (by omega) (by omega) (by omega)).trans ?_
    split <;> rfl
  · rw [if_neg (by simpa using h), if_neg h]
    have hl := runC_span (R := R) (step := verdererref32_cut_l11 n) (fun b3 => k b3.1, fun b4 => k (b4.1.size : Int), ()) (fun j => decide (bt s j ≠ 32)) (fun i => (s, (i : Int), ())) s.size (fun i => k (i : Int)) (fun i hi k1 => by
      have c1 : (i : Int) < (s.size : Int) := by omega
      have c0 : (0 : Int) ≤ (i : Int) := by omega
      have e32 : ((bt s i : Int) == 32) = decide (bt s i = 32) := beq_nat _ 32
      simp only [verdererref32_cut_l11, verdererref32_cut_s11, c1, c0, decide_true, if_true, byteAt_bt, e32, wrap_succ i (by omega)]
      by_cases h32 : bt s i = 32
      · rw [if_pos (decide_eq_true h32), if_neg (by simpa using h32)]
      · rw [if_neg (by simpa using h32), if_pos (by simpa using h32)]) (fun k1 => by
      have c : ¬ (s.size : Int) < (s.size : Int) := by omega
      simp only [verdererref32_cut_l11, verdererref32_cut_s11]
      rw [decide_eq_false c, if_neg (by decide)]) (n := n) (i := 0) (Nat.zero_le _) (by omega)
    exact hl
theorem cut8_l (n : Nat) (s : ByteArray) (hs : s.size ≤ 100000) (k2 : exK R (words_cut_dx 8)) : ∀ (f i m : Nat), s.size ≤ i + f → f < m → i ≤ s.size + 2 → runC (words_cut_l8 n) m (s, (s.size : Int), (i : Int), ()) k2 = k2.1 (s, ((endN s (f + 1) i : Nat) : Int), ()) := by
  intro f
  induction f with
  | zero =>
    intro i m hi hm hi2
    obtain ⟨m, rfl⟩ : ∃ q, m = q + 1 := ⟨m - 1, by omega⟩
    show words_cut_l8 n (s, (s.size : Int), (i : Int), ()) _ _ = _
    have : ¬ i < s.size := by omega
    have c : ¬ (i : Int) < (s.size : Int) := by omega
    simp only [words_cut_l8, words_cut_s8, endN, textN, this, if_false]
    rw [if_neg (by simpa using c)]
    rfl
  | succ f ih =>
    intro i m hi hm hi2
    obtain ⟨m, rfl⟩ : ∃ q, m = q + 1 := ⟨m - 1, by omega⟩
    show words_cut_l8 n (s, (s.size : Int), (i : Int), ()) _ _ = _
    by_cases h : i < s.size
    · have c1 : (i : Int) < (s.size : Int) := by omega
      have c0 : (0 : Int) ≤ (i : Int) := by omega
      have e92 : ((bt s i : Int) == 92) = decide (bt s i = 92) := beq_nat _ 92
      have e34 : ((bt s i : Int) == 34) = decide (bt s i = 34) := beq_nat _ 34
      rw [endN, textN, if_pos h]
      simp only [words_cut_l8, words_cut_s8, c1, c0, decide_true, if_true, byteAt_bt, e92, e34, wrap_succ i (by omega), wrap_succ (i + 1) (by omega)]
      by_cases h92 : bt s i = 92
      · rw [if_pos (decide_eq_true h92), if_pos h92]
        exact ih (i + 2) m (by omega) (by omega) (by omega)
      · rw [if_neg (by simpa using h92), if_neg h92]
        by_cases h34 : bt s i = 34
        · rw [if_pos (decide_eq_true h34), if_pos h34, if_pos (by omega)]
        · rw [if_neg (by simpa using h34), if_neg h34]
          exact ih (i + 1) m (by omega) (by omega) (by omega)
    · have c : ¬ (i : Int) < (s.size : Int) := by omega
      rw [endN, textN, if_neg h]
      simp only [words_cut_l8, words_cut_s8]
      rw [if_neg (by simpa using c)]
      rfl
theorem extract_all (s : ByteArray) : s.extract 0 s.size = s := by
  apply ba_eq
  simp
theorem extract_none (s : ByteArray) : s.extract s.size s.size = (⟨#[]⟩ : ByteArray) := by
  apply ba_eq
  simp
theorem cutP_F (n : Nat) (s : ByteArray) (h0 : 0 < s.size) (hs : s.size ≤ 100000) (hn : s.size + 2 < n) (k : ByteArray → ByteArray → Option R) : words_cut_F n s k = k (s.extract 0 (cutN s)) (s.extract (cutN s) s.size) := by
  rw [words_cut_e]
  unfold words_cut_Fi
  have e34 : ((bt s 0 : Int) != 34) = !decide (bt s 0 = 34) := congrArg (fun b => !b) (beq_nat (bt s 0) 34)
  have hle := cutN_le s
  rw [if_pos (Int.le_refl _), if_pos (by omega), byteAt_0, e34]
  by_cases h : bt s 0 = 34
  · rw [if_neg (by simpa using h)]
    refine (cut8_l n s hs _ s.size 1 n (by omega) (by omega) (by omega)).trans ?_
    have e : endN s (s.size + 1) 1 = cutN s := by unfold cutN; rw [if_pos h]
    have hle2 : endN s (s.size + 1) 1 ≤ s.size := by rw [e]; exact hle
    dsimp only
    have hb : (0 : Int) ≤ ((endN s (s.size + 1) 1 : Nat) : Int) ∧ ((endN s (s.size + 1) 1 : Nat) : Int) ≤ (s.size : Int) := ⟨by omega, by omega⟩
    rw [if_pos hb, if_pos hb, Int.toNat_natCast, e]
  · rw [if_pos (by simpa using h), ix32_F]
    have hc : cutN s = scanN (fun j => decide (bt s j ≠ 32)) s.size 0 := by unfold cutN; rw [if_neg h]
    have hsc := scan_idx s s.data.toList 0 rfl
    rw [← ba_size, ← hc] at hsc
    have hge := Lib.indexByte_ge s.data.toList 32
    by_cases hm : Lib.indexByte s.data.toList 32 = -1
    · rw [if_pos hm, Nat.zero_add] at hsc
      rw [if_neg (by rw [hm]; decide), hsc, extract_all, extract_none]
    · rw [if_neg hm, Nat.zero_add] at hsc
      rw [if_pos (by simp; omega), if_pos (by omega), if_pos (by omega), ← hsc]
theorem ext_size (s : ByteArray) (a b : Nat) (h : a ≤ b) (hb : b ≤ s.size) : (s.extract a b).size = b - a := by
  rw [ByteArray.size_extract]
  omega
theorem bt_ext (s : ByteArray) (a : Nat) (h : a < s.size) : bt (s.extract a s.size) 0 = bt s a := by
  unfold bt
  congr 1
  rw [List.getD_eq_getElem?_getD, List.getD_eq_getElem?_getD]
  congr 1
  simp only [ByteArray.data_extract, Array.toList_extract, List.extract_eq_take_drop]
  rw [List.getElem?_take, if_pos (by omega), List.getElem?_drop, Nat.add_zero]
theorem ext_ext (s : ByteArray) (a : Nat) : (s.extract a s.size).extract 1 (s.extract a s.size).size = s.extract (a + 1) s.size := by
  apply ba_eq
  simp
  omega
/-- what comes of what was read -/
def outB (o : Option (List ty25.D)) (k : Int → List ty25.D → Option R) : Option R := match o with
  | some l => k 0 l
  | none => k 7 []
theorem backR_l (n : Nat) (hn : 2000 < n) (k : Int → List ty25.D → Option R) : ∀ (f m : Nat) (s : ByteArray) (acc : List ty25.D), s.size < f → f < m → s.size ≤ 1000 → 0 < s.size → acc.length + f ≤ 100000 →
    runC (verdererref32_Back_l3 n) m (s, acc, ()) (fun b5 => k b5.1 b5.2.1, fun b7 => k b7.1 b7.2.1, fun b8 => k 0 b8.1, ()) = outB (backS f s acc) k := by
  intro f
  induction f with
  | zero => intro m s acc h; omega
  | succ f ih =>
    intro m s acc hf hm hs h0 hac
    obtain ⟨m, rfl⟩ : ∃ q, m = q + 1 := ⟨m - 1, by omega⟩
    show verdererref32_Back_l3 n (s, acc, ()) _ _ = _
    have hle := cutN_le s
    have hz : (!(s.toList == (⟨#[]⟩ : ByteArray).toList)) = true := by rw [nil_beq, decide_eq_false (by omega)]; rfl
    have hb : (0 : Int) ≤ (cutN s : Int) ∧ (cutN s : Int) ≤ (s.size : Int) := by omega
    have hap : (List.length acc + List.length [(readV (s.extract 0 (cutN s))).1]) * 40 ≤ 140737488355328 := by simp only [List.length_cons, List.length_nil]; omega
    simp only [verdererref32_Back_l3, verdererref32_Back_s3, hz, if_true, cutR_F n s h0 (by omega) (by omega), hb, and_self, Int.toNat_natCast, refReadV_F n (s.extract 0 (cutN s)) (by rw [ext_size _ _ _ (Nat.zero_le _) hle]; omega) hn, hap]
    rw [backS]
    by_cases hr : (readV (s.extract 0 (cutN s))).2 = 0
    · rw [if_neg (by simpa using hr), if_pos hr, nil_beq, ext_size _ _ _ hle (Nat.le_refl _)]
      by_cases hc : cutN s = s.size
      · rw [if_neg (by simp; omega), if_pos hc]
        obtain ⟨m, rfl⟩ : ∃ q, m = q + 1 := ⟨m - 1, by omega⟩
        show verdererref32_Back_l3 n (_, _, ()) _ _ = _
        have hz2 : (!((s.extract (cutN s) s.size).toList == (⟨#[]⟩ : ByteArray).toList)) = false := by rw [nil_beq, ext_size _ _ _ hle (Nat.le_refl _), decide_eq_true (by omega)]; rfl
        simp only [verdererref32_Back_l3, verdererref32_Back_s3, hz2]
        rfl
      · have e32 : ((bt s (cutN s) : Int) != 32) = !decide (bt s (cutN s) = 32) := congrArg (fun b => !b) (beq_nat (bt s (cutN s)) 32)
        rw [if_pos (by simp; omega), if_neg hc, if_pos (Int.le_refl _), if_pos (by omega), byteAt_0, bt_ext s _ (by omega), e32]
        by_cases h32 : bt s (cutN s) = 32
        · rw [if_neg (by simpa using h32)]
          by_cases h1 : cutN s + 1 < s.size
          · rw [if_neg (by simp; omega), if_pos (show (0 : Int) ≤ 1 ∧ (1 : Int) ≤ ((s.size - cutN s : Nat) : Int) from ⟨by decide, by omega⟩), if_pos ⟨h32, h1⟩]
            have e1 : (s.extract (cutN s) s.size).extract (Int.toNat 1) (s.size - cutN s) = s.extract (cutN s + 1) s.size := by
              have := ext_ext s (cutN s)
              rw [ext_size _ _ _ hle (Nat.le_refl _)] at this
              exact this
            rw [e1]
            have hsz := ext_size s (cutN s + 1) s.size (by omega) (Nat.le_refl _)
            exact ih m _ _ (by rw [hsz]; omega) (by omega) (by rw [hsz]; omega) (by rw [hsz]; omega) (by simp; omega)
          · rw [if_pos (by simp; omega), if_neg (by omega)]
            rfl
        · rw [if_pos (by simpa using h32), if_neg (by omega)]
          rfl
    · rw [if_pos (by simpa using hr), if_neg hr]
      rfl
noncomputable def backV (s : ByteArray) : Option (List ty25.D) := if s.size = 0 then some [] else backS (s.size + 1) s []
theorem backR_F (n : Nat) (hn : 2000 < n) (s : ByteArray) (hs : s.size ≤ 1000) (k : Int → List ty25.D → Option R) : verdererref32_Back_F n s k = outB (backV s) k := by
  rw [verdererref32_Back_e]
  unfold verdererref32_Back_Fi backV
  by_cases h : s.size = 0
  · rw [if_pos h]
    have go : ∀ m, runC (verdererref32_Back_l3 n) (m + 1) (s, [], ()) (fun b5 => k b5.1 b5.2.1, fun b7 => k b7.1 b7.2.1, fun b8 => k 0 b8.1, ()) = outB (some []) k := by
      intro m
      show verdererref32_Back_l3 n (s, [], ()) _ _ = _
      have hz : (!(s.toList == (⟨#[]⟩ : ByteArray).toList)) = false := by rw [nil_beq, decide_eq_true h]; rfl
      simp only [verdererref32_Back_l3, verdererref32_Back_s3, hz]
      rfl
    have := go (n - 1)
    rw [show n - 1 + 1 = n by omega] at this
    exact this
  · rw [if_neg h]
    exact backR_l n hn k (s.size + 1) n s [] (by omega) (by omega) hs (by omega) (by simp; omega)
end Go.Proofs.YtcpimjekllkbkaaGreatDoor.E
namespace Go.Proofs.YtcpimjekllkbkaaGreatDoor.E
open Go.RowKit
variable {R : Type}
set_option maxRecDepth 100000
theorem ext0 (s : ByteArray) (k : Nat) : (s.extract 0 k).data.toList = s.data.toList.take k := by simp
theorem has32 (s : ByteArray) (h0 : 0 < s.size) : decide (s.extract 0 1 = (⟨#[32]⟩ : ByteArray)) = decide (bt s 0 = 32) := by
  unfold bt
  rw [ba_size] at h0
  obtain ⟨x, r, hl⟩ : ∃ x r, s.data.toList = x :: r := by
    cases h : s.data.toList with
    | nil => rw [h] at h0; simp at h0
    | cons x r => exact ⟨x, r, rfl⟩
  rw [hl]
  simp only [List.getD_cons_zero]
  rw [decide_eq_decide]
  constructor
  · intro h
    have := congrArg (fun s : ByteArray => s.data.toList) h
    simp only [ext0, hl] at this
    injection this with h1 _
    rw [h1]
    rfl
  · intro h
    apply ba_eq
    have : x = 32 := UInt8.toNat_inj.1 h
    rw [ext0, hl, this]
    rfl
theorem pre32_F (n : Nat) (s : ByteArray) (h0 : 0 < s.size) (k : ByteArray → Bool → Option R) : strings_CutPrefix_F n s (⟨#[32]⟩ : ByteArray) k = if bt s 0 = 32 then k (s.extract 1 s.size) true else k s false := by
  rw [strings_CutPrefix_e]
  unfold strings_CutPrefix_Fi
  rw [stringslite_CutPrefix_e]
  unfold stringslite_CutPrefix_Fi
  rw [stringslite_HasPrefix_e]
  unfold stringslite_HasPrefix_Fi
  have e1 : ((⟨#[32]⟩ : ByteArray).size : Int) = 1 := rfl
  have g2 : (0 : Int) ≤ 1 ∧ (1 : Int) ≤ (s.size : Int) := by omega
  have g1 : (s.size : Int) ≥ 1 := by omega
  simp only [e1]
  rw [if_pos (decide_eq_true g1), if_pos g2, show Int.toNat 1 = 1 from rfl, beqB, has32 s h0]
  by_cases h : bt s 0 = 32
  · rw [if_neg (by simp [h]), if_pos h, if_pos g2]
  · rw [if_pos (by simp [h]), if_neg h]
theorem backP_end (n : Nat) (k : Int → List ty25.D → Option R) (s : ByteArray) (acc : List ty25.D) (h : s.size = 0) (m : Nat) : runC (words_Back_l3 n) (m + 1) (s, true, acc, ()) (fun b8 => k b8.1 b8.2.1, fun b10 => k b10.1 b10.2.1, fun b11 => k 0 b11.1, fun b13 => k b13.1 b13.2.1, ()) = k 7 [] := by
  show words_Back_l3 n (s, true, acc, ()) _ _ = _
  have hz : (s.toList == (⟨#[]⟩ : ByteArray).toList) = true := by rw [nil_beq, decide_eq_true h]
  simp only [words_Back_l3, words_Back_s3, hz, if_true]
/-- one round -/
theorem backP_one (n : Nat) (k2 : exK R (words_Back_dx 3)) (s : ByteArray) (acc : List ty25.D) (hs : s.size ≤ 100000) (hn : s.size + 2 < n) (hn2 : 2000 < n) (h0 : 0 < s.size) (hw : cutN s ≤ 1000) (hac : acc.length ≤ 100000) (k1 : (words_Back_ds 3).D → Option R) : words_Back_l3 n (s, true, acc, ()) k1 k2 =
    if (readV (s.extract 0 (cutN s))).2 = 0 then
      (if cutN s = s.size then k2.2.2.1 (acc ++ [(readV (s.extract 0 (cutN s))).1], ())
       else if bt s (cutN s) = 32 then k1 (s.extract (cutN s + 1) s.size, true, acc ++ [(readV (s.extract 0 (cutN s))).1], ()) else k2.2.2.2.1 (7, [], ()))
    else k2.2.1 (7, [], ()) := by
  have hle := cutN_le s
  have hz : (s.toList == (⟨#[]⟩ : ByteArray).toList) = false := by rw [nil_beq, decide_eq_false (by omega)]
  have hap : (List.length acc + List.length [(readV (s.extract 0 (cutN s))).1]) * 40 ≤ 140737488355328 := by simp only [List.length_cons, List.length_nil]; omega
  simp only [words_Back_l3, words_Back_s3, if_true, hz, Bool.false_eq_true, if_false, cutP_F n s h0 hs hn, readP_F n (s.extract 0 (cutN s)) (by rw [ext_size _ _ _ (Nat.zero_le _) hle]; omega) hn2, hap]
  by_cases hr : (readV (s.extract 0 (cutN s))).2 = 0
  · rw [if_neg (by simpa using hr), if_pos hr, nil_beq, ext_size _ _ _ hle (Nat.le_refl _)]
    by_cases hc : cutN s = s.size
    · rw [if_pos (by simp; omega), if_pos hc]
    · rw [if_neg (by simp; omega), if_neg hc, pre32_F n _ (by rw [ext_size _ _ _ hle (Nat.le_refl _)]; omega), bt_ext s _ (by omega), ext_ext]
      by_cases h32 : bt s (cutN s) = 32
      · rw [if_pos h32, if_pos h32, if_neg (by simp)]
      · rw [if_neg h32, if_neg h32, if_pos (by simp)]
  · rw [if_pos (by simpa using hr), if_neg hr]
theorem backP_l (n : Nat) (hn : 2000 < n) (k : Int → List ty25.D → Option R) : ∀ (f m : Nat) (s : ByteArray) (acc : List ty25.D), s.size < f → f < m → s.size ≤ 1000 → 0 < s.size → acc.length + f ≤ 100000 →
    runC (words_Back_l3 n) m (s, true, acc, ()) (fun b8 => k b8.1 b8.2.1, fun b10 => k b10.1 b10.2.1, fun b11 => k 0 b11.1, fun b13 => k b13.1 b13.2.1, ()) = outB (backS f s acc) k := by
  intro f
  induction f with
  | zero => intro m s acc h; omega
  | succ f ih =>
    intro m s acc hf hm hs h0 hac
    obtain ⟨m, rfl⟩ : ∃ q, m = q + 1 := ⟨m - 1, by omega⟩
    have hle := cutN_le s
    refine Eq.trans (show _ = words_Back_l3 n (s, true, acc, ()) (fun b => runC (words_Back_l3 n) m b _) _ from rfl) ((backP_one n _ s acc (by omega) (by omega) hn h0 (by omega) (by omega) _).trans ?_)
    rw [backS]
    by_cases hr : (readV (s.extract 0 (cutN s))).2 = 0
    · rw [if_pos hr, if_pos hr]
      by_cases hc : cutN s = s.size
      · rw [if_pos hc, if_pos hc]
        rfl
      · rw [if_neg hc, if_neg hc]
        by_cases h32 : bt s (cutN s) = 32
        · rw [if_pos h32]
          by_cases h1 : cutN s + 1 < s.size
          · rw [if_pos ⟨h32, h1⟩]
            have hsz := ext_size s (cutN s + 1) s.size (by omega) (Nat.le_refl _)
            exact ih m _ _ (by rw [hsz]; omega) (by omega) (by rw [hsz]; omega) (by rw [hsz]; omega) (by simp; omega)
          · rw [if_neg (by omega)]
            obtain ⟨m, rfl⟩ : ∃ q, m = q + 1 := ⟨m - 1, by omega⟩
            exact backP_end n k _ _ (by rw [ext_size _ _ _ (by omega) (Nat.le_refl _)]; omega) m
        · rw [if_neg h32, if_neg (by omega)]
          rfl
    · rw [if_neg hr, if_neg hr]
      rfl
theorem backP_F (n : Nat) (hn : 2000 < n) (s : ByteArray) (hs : s.size ≤ 1000) (k : Int → List ty25.D → Option R) : words_Back_F n s k = outB (backV s) k := by
  rw [words_Back_e]
  unfold words_Back_Fi backV
  by_cases h : s.size = 0
  · rw [if_pos h]
    have hz : (!(s.toList == (⟨#[]⟩ : ByteArray).toList)) = false := by rw [nil_beq, decide_eq_true h]; rfl
    rw [hz]
    have go : ∀ m, runC (words_Back_l3 n) (m + 1) (s, false, [], ()) (fun b8 => k b8.1 b8.2.1, fun b10 => k b10.1 b10.2.1, fun b11 => k 0 b11.1, fun b13 => k b13.1 b13.2.1, ()) = outB (some []) k := by
      intro m
      show words_Back_l3 n (s, false, [], ()) _ _ = _
      simp only [words_Back_l3, words_Back_s3]
      rfl
    have := go (n - 1)
    rw [show n - 1 + 1 = n by omega] at this
    exact this
  · rw [if_neg h]
    have hz : (!(s.toList == (⟨#[]⟩ : ByteArray).toList)) = true := by rw [nil_beq, decide_eq_false h]; rfl
    rw [hz]
    exact backP_l n hn k (s.size + 1) n s [] (by omega) (by omega) hs (by omega) (by simp; omega)
/-! words are read as the values -/
theorem backP_jn (n : Nat) (hn : 40000 < n) (k : Int → List ty25.D → Option R) : ∀ (l : List ty25.D) (m : Nat) (acc : List ty25.D), l ≠ [] → l.length < m → (∀ v ∈ l, rightV v = true ∧ inR v.2.2.1) → l.length ≤ 60 → acc.length + l.length ≤ 1000 →
    runC (words_Back_l3 n) m (mkB (jnW (l.map showS)), true, acc, ()) (fun b8 => k b8.1 b8.2.1, fun b10 => k b10.1 b10.2.1, fun b11 => k 0 b11.1, fun b13 => k b13.1 b13.2.1, ()) = k 0 (acc ++ l)
  | [], _, _, h, _, _, _, _ => absurd rfl h
  | v :: l, m, acc, _, hm, hl, h60, hac => by
    obtain ⟨m, rfl⟩ : ∃ q, m = q + 1 := ⟨m - 1, by rw [List.length_cons] at hm; omega⟩
    obtain ⟨hr, hx⟩ := hl v (List.mem_cons_self ..)
    obtain ⟨q, hq, hq2⟩ := jnW_cons (showS v) (l.map showS)
    have hcut : cutN (mkB (jnW ((v :: l).map showS))) = (showS v).size := by rw [List.map_cons, hq]; exact cut_show hr q hq2
    have hsz := show_size v hx
    have hlen : (jnW ((v :: l).map showS)).length ≤ 60 * 243 := by
      have := jnW_len 242 ((v :: l).map showS) (fun x hx => by obtain ⟨u, hu, rfl⟩ := List.mem_map.1 hx; exact show_size u (hl u hu).2)
      rw [List.length_map] at this
      exact Nat.le_trans this (Nat.mul_le_mul_right _ h60)
    have hms : (mkB (jnW ((v :: l).map showS))).size = (jnW ((v :: l).map showS)).length := mkB_size _
    have hpos : 0 < (showS v).size := by
      rcases Nat.eq_zero_or_pos (showS v).size with h | h
      · exact absurd ((nil_size _).2 h) (show_ne hr)
      · exact h
    have hqn : (jnW ((v :: l).map showS)).length = (showS v).size + q.length := by rw [List.map_cons, hq, List.length_append, ba_size]
    have hex : (mkB (jnW ((v :: l).map showS))).extract 0 (showS v).size = showS v := by
      apply ba_eq
      rw [ext0, List.map_cons, hq, ba_size]
      show ((showS v).data.toList ++ q).toArray.toList.take _ = _
      simp
    refine Eq.trans (show _ = words_Back_l3 n (_, true, acc, ()) (fun b => runC (words_Back_l3 n) m b _) _ from rfl) ((backP_one n _ _ acc (by omega) (by omega) (by omega) (by omega) (by rw [hcut]; omega) (by omega) _).trans ?_)
    rw [hcut, hex, readV_back v hr hx, if_pos rfl]
    cases l with
    | nil =>
      have hq0 : (mkB (jnW ([v].map showS))).size = (showS v).size := by rw [hms, List.map_cons, List.map_nil, jnW, ba_size]
      rw [if_pos hq0.symm]
    | cons u l =>
      have hnot : ¬ (showS v).size = (mkB (jnW ((v :: u :: l).map showS))).size := by
        rw [hms]
        simp only [List.map_cons, jnW, List.length_append, List.length_cons, ← ba_size]
        omega
      have hb32 : bt (mkB (jnW ((v :: u :: l).map showS))) (showS v).size = 32 := bt_at (c := 32) (by
        show (jnW ((v :: u :: l).map showS)).toArray.toList[(showS v).size]? = some 32
        simp only [List.map_cons, jnW]
        rw [ba_size, List.getElem?_append_right (Nat.le_refl _)]
        simp)
      have hrest : (mkB (jnW ((v :: u :: l).map showS))).extract ((showS v).size + 1) (mkB (jnW ((v :: u :: l).map showS))).size = mkB (jnW ((u :: l).map showS)) := by
        have := mkB_drop ((showS v).data.toList ++ [32]) (jnW ((u :: l).map showS))
        simp only [List.append_assoc, List.cons_append, List.nil_append, List.length_append, List.length_cons, List.length_nil, ← ba_size, Nat.zero_add] at this
        exact this
      rw [if_neg hnot, if_pos hb32, hrest]
      have ih := backP_jn n hn k (u :: l) m (acc ++ [v]) (by simp) (by simpa using hm) (fun x hx => hl x (List.mem_cons_of_mem _ hx)) (by simp at h60 ⊢; omega) (by simp at hac ⊢; omega)
      rw [List.append_assoc] at ih
      exact ih
/-! values as words -/
theorem allW (l : List ty25.D) : ∀ d i, i + d = l.length → ((List.range' i d).findSome? fun j => if rightV (l.getD j (Ty.z ty25)) = true then none else some ()) = if ((l.drop i).all rightV) = true then none else some ()
  | 0, i, h => by
    rw [List.drop_eq_nil_of_le (by omega)]
    rfl
  | d + 1, i, h => by
    have hd : l.drop i = l[i]'(by omega) :: l.drop (i + 1) := List.drop_eq_getElem_cons (by omega)
    rw [List.range'_succ, List.findSome?_cons, hd, List.all_cons, getD_nat l i (by omega)]
    cases hr : rightV (l[i]'(by omega)) with
    | false => rfl
    | true =>
      simp only [if_true, Bool.true_and]
      exact allW l d (i + 1) (by omega)
def outW (o : Option ByteArray) (k : ByteArray → Int → Option R) : Option R := match o with
  | some s => k s 0
  | none => k (⟨#[]⟩ : ByteArray) 7
theorem cells_len (l : List ty25.D) (hl : ∀ v ∈ l, inR v.2.2.1) (h60 : l.length ≤ 60) : (jnW (l.map showS)).length ≤ 60 * 243 := by
  have := jnW_len 242 (l.map showS) (fun x hx => by obtain ⟨u, hu, rfl⟩ := List.mem_map.1 hx; exact show_size u (hl u hu))
  rw [List.length_map] at this
  exact Nat.le_trans this (Nat.mul_le_mul_right _ h60)
theorem cellsR_F (n : Nat) (l : List ty25.D) (hl : ∀ v ∈ l, inR v.2.2.1) (h60 : l.length ≤ 60) (hn : 1000 < n) (k : ByteArray → Int → Option R) : verdererref32_Cells_F n l k = outW (cellsS l) k := by
  rw [verdererref32_Cells_e]
  unfold verdererref32_Cells_Fi
  have go : ∀ (d i m : Nat), i + d = l.length → d < m → ((l.take i).all rightV) = true → runC (verdererref32_Cells_l3 n) m (l, mkB (jnW ((l.take i).map showS)), (i : Int), ()) (fun b3 => k b3.1 b3.2.1, fun b4 => k b4.1 0, ()) = outW (cellsS l) k := by
    intro d
    induction d with
    | zero =>
      intro i m hi hm hal
      obtain ⟨m, rfl⟩ : ∃ q, m = q + 1 := ⟨m - 1, by omega⟩
      have : l.take i = l := List.take_of_length_le (by omega)
      rw [this] at hal ⊢
      show verdererref32_Cells_l3 n (l, _, (i : Int), ()) _ _ = _
      have c : ¬ (i : Int) < (l.length : Int) := by omega
      simp only [verdererref32_Cells_l3, verdererref32_Cells_s3]
      rw [if_neg (by simpa using c)]
      unfold cellsS
      rw [if_pos hal]
      rfl
    | succ d ih =>
      intro i m hi hm hal
      obtain ⟨m, rfl⟩ : ∃ q, m = q + 1 := ⟨m - 1, by omega⟩
      have hlt : i < l.length := by omega
      have c1 : (i : Int) < (l.length : Int) := by omega
      have c0 : (0 : Int) ≤ (i : Int) ∧ (i : Int) < (l.length : Int) := by omega
      have hm2 : l[i] ∈ l := List.getElem_mem hlt
      have htk : l.take (i + 1) = l.take i ++ [l[i]] := by rw [List.take_add_one, List.getElem?_eq_getElem hlt]; rfl
      show verdererref32_Cells_l3 n (l, _, (i : Int), ()) _ _ = _
      have hlen := cells_len (l.take i) (fun v hv => hl v (List.mem_of_mem_take hv)) (by rw [List.length_take]; omega)
      have hsz := show_size l[i] (hl _ hm2)
      simp only [verdererref32_Cells_l3, verdererref32_Cells_s3, c1, decide_true, if_true, c0, and_self, Int.toNat_natCast, getD_nat l i hlt]
      rw [show_F n l[i] (hl _ hm2) (by omega), show_nil]
      cases hr : rightV l[i] with
      | false =>
        rw [if_pos (by decide)]
        have : ¬ (l.all rightV) = true := fun h => by
          have := List.all_eq_true.1 h _ hm2
          rw [hr] at this
          cases this
        unfold cellsS
        rw [if_neg this]
        rfl
      | true =>
        have hal2 : ((l.take (i + 1)).all rightV) = true := by rw [htk, List.all_append, hal]; simp [hr]
        have hms : (mkB (jnW ((l.take i).map showS))).size = (jnW ((l.take i).map showS)).length := mkB_size _
        have e1 : (⟨#[32]⟩ : ByteArray).size = 1 := rfl
        rw [if_neg (by decide)]
        by_cases h0 : i = 0
        · subst h0
          have hst : mkB (jnW ((l.take 0).map showS)) ++ showS l[0] = mkB (jnW ((l.take (0 + 1)).map showS)) := by
            rw [htk]
            apply ba_eq
            simp [mkB, jnW]
          rw [if_neg (show ¬ decide (((0 : Nat) : Int) > 0) = true by decide +revert), if_pos (by omega), hst, wrap_succ 0 (by omega)]
          exact ih (0 + 1) m (by omega) (by omega) hal2
        · have hne : (l.take i).map showS ≠ [] := by
            intro h
            have := congrArg List.length h
            rw [List.length_map, List.length_take, List.length_nil] at this
            omega
          have hst : mkB (jnW ((l.take i).map showS)) ++ (⟨#[32]⟩ : ByteArray) ++ showS l[i] = mkB (jnW ((l.take (i + 1)).map showS)) := by
            rw [htk, List.map_append, List.map_cons, List.map_nil, jnW_snoc _ _ hne]
            apply ba_eq
            simp [mkB]
          have hsz2 : (mkB (jnW ((l.take i).map showS)) ++ (⟨#[32]⟩ : ByteArray)).size = (jnW ((l.take i).map showS)).length + 1 := by rw [ByteArray.size_append, hms]; rfl
          rw [if_pos (by simp; omega), if_pos (by rw [e1]; omega), if_pos (by rw [hsz2]; omega), hst, wrap_succ i (by omega)]
          exact ih (i + 1) m (by omega) (by omega) hal2
  exact go l.length 0 n (by omega) (by omega) rfl
theorem cellsP_F (n : Nat) (l : List ty25.D) (hl : ∀ v ∈ l, inR v.2.2.1) (h60 : l.length ≤ 60) (hn : 1000 < n) (k : ByteArray → Int → Option R) : words_Cells_F n l k = outW (cellsS l) k := by
  rw [words_Cells_e]
  unfold words_Cells_Fi
  have hjoin : ∀ w : List ByteArray, joinB w (⟨#[32]⟩ : ByteArray) = mkB (jnW w) := fun w => by
    unfold joinB mkB
    rw [← jnW_join]
  have hjF : ∀ (w : List ByteArray) (K : ByteArray → Option R), w.length ≤ 60 → (jnW w).length ≤ 60 * 243 → strings_Join_F n w (⟨#[32]⟩ : ByteArray) K = K (mkB (jnW w)) := by
    intro w K h1 h2
    rw [strings_Join_e]
    unfold strings_Join_Fi
    rw [hjoin, if_pos ⟨by omega, by rw [mkB_size]; omega⟩]
  have go : ∀ (d i m : Nat), i + d = l.length → d < m → ((l.take i).all rightV) = true → runC (words_Cells_l3 n) m (l, (l.length : Int), (i : Int), (l.take i).map showS, ()) (fun b3 => k b3.1 b3.2.1, fun b4 => strings_Join_F n b4.1 (⟨#[32]⟩ : ByteArray) (fun y5 => k y5 0), ()) = outW (cellsS l) k := by
    intro d
    induction d with
    | zero =>
      intro i m hi hm hal
      obtain ⟨m, rfl⟩ : ∃ q, m = q + 1 := ⟨m - 1, by omega⟩
      have : l.take i = l := List.take_of_length_le (by omega)
      rw [this] at hal ⊢
      show words_Cells_l3 n (l, _, (i : Int), _, ()) _ _ = _
      have c : ¬ (i : Int) < (l.length : Int) := by omega
      simp only [words_Cells_l3, words_Cells_s3]
      rw [if_neg (by simpa using c), hjF _ _ (by rw [List.length_map]; exact h60) (cells_len l hl h60)]
      unfold cellsS
      rw [if_pos hal]
      rfl
    | succ d ih =>
      intro i m hi hm hal
      obtain ⟨m, rfl⟩ : ∃ q, m = q + 1 := ⟨m - 1, by omega⟩
      have hlt : i < l.length := by omega
      have c1 : (i : Int) < (l.length : Int) := by omega
      have c0 : (0 : Int) ≤ (i : Int) ∧ (i : Int) < (l.length : Int) := by omega
      have hm2 : l[i] ∈ l := List.getElem_mem hlt
      have htk : l.take (i + 1) = l.take i ++ [l[i]] := by rw [List.take_add_one, List.getElem?_eq_getElem hlt]; rfl
      have hap : (List.length ((l.take i).map showS) + List.length [showS l[i]]) * 16 ≤ 140737488355328 := by simp only [List.length_cons, List.length_nil, List.length_map, List.length_take]; omega
      show words_Cells_l3 n (l, _, (i : Int), _, ()) _ _ = _
      simp only [words_Cells_l3, words_Cells_s3, c1, decide_true, if_true, c0, and_self, Int.toNat_natCast, getD_nat l i hlt]
      rw [showP_F n l[i] (hl _ hm2), show_nil]
      cases hr : rightV l[i] with
      | false =>
        rw [if_pos (by decide)]
        have : ¬ (l.all rightV) = true := fun h => by
          have := List.all_eq_true.1 h _ hm2
          rw [hr] at this
          cases this
        unfold cellsS
        rw [if_neg this]
        rfl
      | true =>
        have hal2 : ((l.take (i + 1)).all rightV) = true := by rw [htk, List.all_append, hal]; simp [hr]
        rw [if_neg (by decide), if_pos hap, wrap_succ i (by omega)]
        have := ih (i + 1) m (by omega) (by omega) hal2
        rw [htk, List.map_append] at this
        exact this
  exact go l.length 0 n (by omega) (by omega) rfl
theorem eqV (x y : ty25.D) : ((x.1 == y.1) && ((x.2.1 == y.2.1) && ((x.2.2.1 == y.2.2.1) && ((x.2.2.2.1.toList == y.2.2.2.1.toList) && true)))) = decide (x = y) := by
  obtain ⟨a, b, c, d, u⟩ := x
  obtain ⟨a', b', c', d', u'⟩ := y
  rw [beqB, Bool.eq_iff_iff]
  simp
theorem equal_F (n : Nat) (a b : List ty25.D) (h : a.length < n) (ha : a.length ≤ 100000) (k : Bool → Option R) : verdererref02_Equal_F n a b k = k (decide (a = b)) := by
  rw [verdererref02_Equal_e]
  unfold verdererref02_Equal_Fi
  have el : ((a.length : Int) != (b.length : Int)) = !decide (a.length = b.length) := congrArg (fun b => !b) (beq_nat a.length b.length)
  rw [el]
  by_cases hl : a.length = b.length
  · rw [if_neg (by simpa using hl)]
    have go : ∀ (d i m : Nat), i + d = a.length → d < m → a.take i = b.take i → runC (verdererref02_Equal_l4 n) m (a, b, (i : Int), ()) (fun b1 => k b1.1, fun b1 => k true, ()) = k (decide (a = b)) := by
      intro d
      induction d with
      | zero =>
        intro i m hi hm ht
        obtain ⟨m, rfl⟩ : ∃ q, m = q + 1 := ⟨m - 1, by omega⟩
        rw [List.take_of_length_le (by omega), List.take_of_length_le (by omega)] at ht
        show verdererref02_Equal_l4 n (a, b, (i : Int), ()) _ _ = _
        have c : ¬ (i : Int) < (a.length : Int) := by omega
        simp only [verdererref02_Equal_l4, verdererref02_Equal_s4]
        rw [if_neg (by simpa using c), decide_eq_true ht]
      | succ d ih =>
        intro i m hi hm ht
        obtain ⟨m, rfl⟩ : ∃ q, m = q + 1 := ⟨m - 1, by omega⟩
        have hlt : i < a.length := by omega
        have hlt2 : i < b.length := by omega
        have c1 : (i : Int) < (a.length : Int) := by omega
        have c0 : (0 : Int) ≤ (i : Int) ∧ (i : Int) < (a.length : Int) := by omega
        have c2 : (0 : Int) ≤ (i : Int) ∧ (i : Int) < (b.length : Int) := by omega
        show verdererref02_Equal_l4 n (a, b, (i : Int), ()) _ _ = _
        simp only [verdererref02_Equal_l4, verdererref02_Equal_s4, c1, decide_true, if_true, c0, c2, and_self, Int.toNat_natCast, getD_nat a i hlt, getD_nat b i hlt2]
        rw [eqV]
        by_cases he : a[i] = b[i]
        · rw [if_neg (by simpa using he), wrap_succ i (by omega)]
          exact ih (i + 1) m (by omega) (by omega) (by rw [List.take_add_one, List.take_add_one, ht, List.getElem?_eq_getElem hlt, List.getElem?_eq_getElem hlt2, he])
        · rw [if_pos (by simpa using he), decide_eq_false]
          rintro rfl
          exact he rfl
    exact go a.length 0 n (by omega) h rfl
  · rw [if_pos (by simpa using hl), decide_eq_false]
    rintro rfl
    exact hl rfl
theorem know_F (m : Nat) (k : Bool → Option R) : verdererlaw32_known_F (m + 500) k = k true := by kernel_rfl
theorem backS_len : ∀ (f : Nat) (s : ByteArray) (acc l : List ty25.D), backS f s acc = some l → l.length ≤ acc.length + f
  | 0, _, _, _, h => by cases h
  | f + 1, s, acc, l, h => by
    rw [backS] at h
    split at h
    · split at h
      · injection h with h
        rw [← h]
        simp
      · split at h
        · have := backS_len f _ _ _ h
          simp at this
          omega
        · cases h
    · cases h
theorem words_cells (l : List ty25.D) (s : ByteArray) (hl : ∀ v ∈ l, inR v.2.2.1) : ∃ n, verdererlaw32_WordsCells_F (R := Unit) n l s (fun b => bif b then some () else none) = some () := by
  obtain ⟨m, hm⟩ : ∃ m : Nat, 40000 < m := ⟨40001, by omega⟩
  refine ⟨m + 500, ?_⟩
  rw [verdererlaw32_WordsCells_e]
  unfold verdererlaw32_WordsCells_Fi
  simp only [know_F]
  by_cases h60 : l.length ≤ 60
  rotate_left
  · rw [if_pos (decide_eq_true (by omega))]
    rfl
  rw [if_neg (by simpa using (by omega : (l.length : Int) ≤ 60))]
  by_cases hs : s.size ≤ 1000
  rotate_left
  · rw [if_pos (decide_eq_true (by omega))]
    rfl
  rw [if_neg (by simpa using (by omega : (s.size : Int) ≤ 1000))]
  generalize hn : m + 500 = n
  have hkn : ∀ k : Bool → Option Unit, verdererlaw32_known_F n k = k true := by rw [← hn]; exact know_F m
  have hend : (words_Cells_F n l fun y7 y8 => verdererref32_Cells_F n l fun y9 y10 => words_Back_F n s fun y11 y12 => verdererref32_Back_F n s fun y13 y14 => if (!(y7.toList == y9.toList)) = true then (none : Option Unit) else if (y8 != y10) = true then none else verdererref02_Equal_F n y12 y14 fun y15 => if (!y15) = true then none else if (y11 != y13) = true then none else if (y10 != 0) = true then some () else words_Back_F n y7 fun y17 y18 => verdererref02_Equal_F n y18 l fun y19 => if y19 = true then (if (y17 == 0) = true then some () else none) else none) = some () := by
    rw [cellsP_F n l hl h60 (by omega)]
    have hback : ∀ K : Int → List ty25.D → Int → List ty25.D → Option Unit, (words_Back_F n s fun y11 y12 => verdererref32_Back_F n s fun y13 y14 => K y11 y12 y13 y14) = outB (backV s) fun y a => K y a y a := by
      intro K
      rw [backP_F n (by omega) s hs]
      simp only [backR_F n (by omega : 2000 < n) s hs]
      cases backV s <;> rfl
    have heq : ∀ (K : Bool → Option Unit), outB (backV s) (fun y a => verdererref02_Equal_F n a a fun b => if (!b) = true then none else if (y != y) = true then none else K b) = K true := by
      intro K
      unfold backV
      have : ∀ a : List ty25.D, a.length ≤ 2000 → ∀ K : Bool → Option Unit, verdererref02_Equal_F n a a K = K true := fun a ha K => by rw [equal_F n a a (by omega) (by omega), decide_eq_true rfl]
      split
      · show verdererref02_Equal_F n [] [] _ = _
        rw [this [] (by simp), if_neg (by decide), if_neg (by decide)]
      · cases hb : backS (s.size + 1) s [] with
        | none =>
          show verdererref02_Equal_F n [] [] _ = _
          rw [this [] (by simp), if_neg (by decide), if_neg (by decide)]
        | some a =>
          have := backS_len _ _ _ _ hb
          show verdererref02_Equal_F n a a _ = _
          rw [equal_F n a a (by simp at this; omega) (by simp at this; omega), decide_eq_true rfl, if_neg (by decide), if_neg (by decide)]
    cases hc : cellsS l with
    | none =>
      show (verdererref32_Cells_F n l fun y9 y10 => _) = _
      rw [cellsR_F n l hl h60 (by omega), hc]
      show (words_Back_F n s fun y11 y12 => verdererref32_Back_F n s fun y13 y14 => _) = _
      have e1 : (!((⟨#[]⟩ : ByteArray).toList == (⟨#[]⟩ : ByteArray).toList)) = false := by rw [beqB, decide_eq_true rfl]; rfl
      rw [e1]
      simp only [Bool.false_eq_true, if_false, show ((7 : Int) != 7) = false from rfl, show ((7 : Int) != 0) = true from rfl, if_true]
      rw [hback]
      exact heq fun _ => some ()
    | some x =>
      show (verdererref32_Cells_F n l fun y9 y10 => _) = _
      rw [cellsR_F n l hl h60 (by omega), hc]
      show (words_Back_F n s fun y11 y12 => verdererref32_Back_F n s fun y13 y14 => _) = _
      have e1 : (!(x.toList == x.toList)) = false := by rw [beqB, decide_eq_true rfl]; rfl
      rw [e1]
      simp only [Bool.false_eq_true, if_false, show ((0 : Int) != 0) = false from rfl]
      rw [hback]
      refine (heq fun _ => _).trans ?_
      unfold cellsS at hc
      split at hc
      case isFalse => cases hc
      rename_i hal
      injection hc with hc
      subst hc
      have fin : ∀ K : Int → List ty25.D → Option Unit, K 0 l = some () → words_Back_F n (mkB (jnW (l.map showS))) K = some () := by
        intro K hK
        by_cases h0 : l = []
        · subst h0
          rw [backP_F n (by omega) _ (by rw [mkB_size]; exact Nat.zero_le _)]
          exact hK
        · rw [words_Back_e]
          unfold words_Back_Fi
          have hpos : (mkB (jnW (l.map showS))).size ≠ 0 := by
            obtain ⟨v, l', rfl⟩ : ∃ v l', l = v :: l' := by
              cases l with
              | nil => exact absurd rfl h0
              | cons v l' => exact ⟨v, l', rfl⟩
            obtain ⟨q, hq, _⟩ := jnW_cons (showS v) (l'.map showS)
            rw [mkB_size, List.map_cons, hq, List.length_append, ← ba_size]
            have : (showS v).size ≠ 0 := fun h => show_ne (List.all_eq_true.1 hal v (List.mem_cons_self ..)) ((nil_size _).2 h)
            omega
          have hz : (!((mkB (jnW (l.map showS))).toList == (⟨#[]⟩ : ByteArray).toList)) = true := by rw [nil_beq, decide_eq_false hpos]; rfl
          rw [hz]
          refine (backP_jn n (by omega) K l n [] h0 (by omega) (fun v hv => ⟨List.all_eq_true.1 hal v hv, hl v hv⟩) h60 (by simp; omega)).trans ?_
          exact hK
      refine fin _ ?_
      rw [equal_F n l l (by omega) (by omega), decide_eq_true rfl, if_pos rfl, if_pos (by rfl)]
  have go : ∀ (d i m' : Nat), i + d = l.length → d < m' → runC (verdererlaw32_WordsCells_l4 n) m' (l, s, (i : Int), ()) (fun b4 => bif b4.1 then some () else none, fun b6 => words_Cells_F n b6.1 fun y7 y8 => verdererref32_Cells_F n b6.1 fun y9 y10 => words_Back_F n b6.2.1 fun y11 y12 => verdererref32_Back_F n b6.2.1 fun y13 y14 => if (!(y7.toList == y9.toList)) = true then (bif false then some () else none) else if (y8 != y10) = true then (bif false then some () else none) else verdererref02_Equal_F n y12 y14 fun y15 => if (!y15) = true then (bif false then some () else none) else if (y11 != y13) = true then (bif false then some () else none) else if (y10 != 0) = true then (bif true then some () else none) else words_Back_F n y7 fun y17 y18 => verdererref02_Equal_F n y18 b6.1 fun y19 => if y19 = true then (if (y17 == 0) = true then (bif true then some () else none) else (bif false then some () else none)) else (bif false then some () else none), ()) = some () := by
    intro d
    induction d with
    | zero =>
      intro i m' hi hm'
      obtain ⟨m', rfl⟩ : ∃ q, m' = q + 1 := ⟨m' - 1, by omega⟩
      show verdererlaw32_WordsCells_l4 n (l, s, (i : Int), ()) _ _ = _
      have c : ¬ (i : Int) < (l.length : Int) := by omega
      simp only [verdererlaw32_WordsCells_l4, verdererlaw32_WordsCells_s4]
      rw [if_neg (by simpa using c)]
      exact hend
    | succ d ih =>
      intro i m' hi hm'
      obtain ⟨m', rfl⟩ : ∃ q, m' = q + 1 := ⟨m' - 1, by omega⟩
      have hlt : i < l.length := by omega
      have c1 : (i : Int) < (l.length : Int) := by omega
      have c0 : (0 : Int) ≤ (i : Int) ∧ (i : Int) < (l.length : Int) := by omega
      show verdererlaw32_WordsCells_l4 n (l, s, (i : Int), ()) _ _ = _
      simp only [verdererlaw32_WordsCells_l4, verdererlaw32_WordsCells_s4, c1, decide_true, if_true, c0, and_self, hkn]
      split
      · rfl
      · rw [wrap_succ i (by omega)]
        exact ih (i + 1) m' (by omega) (by omega)
  exact go l.length 0 n (by omega) (by omega)
theorem WordsCells_true (a0 : List ty25.D) (a1 : ByteArray) (w0 : Fine (.sl ty25) a0) (_ : a1.size ≤ 140737488351232) : ∃ n, verdererlaw32_WordsCells_F (R := Unit) n a0 a1 (fun b => bif b then some () else none) = some () :=
  words_cells a0 a1 fun v hv => by
    have h : (Lit.int .i64 v.2.2.1).wf = true := (w0.2 v hv).2.2.1
    simp only [Lit.wf, decide_eq_true_eq, Bool.and_eq_true] at h
    have e1 : IntKind.min .i64 = -9223372036854775808 := by decide
    have e2 : IntKind.max .i64 = 9223372036854775807 := by decide
    rw [e1, e2] at h
    exact h
end Go.Proofs.YtcpimjekllkbkaaGreatDoor.E
/- From what a row lists of strconv's variables to what the walks ask of the world. -/
namespace Go.Proofs.YtcpimjekllkbkaaGreatDoor
open Go.RowKit

theorem gt_pow10 : (Tryz.prog.globals[0]?).map (·.type) = some 129 := by kernel_rfl
theorem gt_syn : (Tryz.prog.globals[2]?).map (·.type) = some 70 := by kernel_rfl
theorem gt_rng : (Tryz.prog.globals[3]?).map (·.type) = some 70 := by kernel_rfl
theorem err_star : "*" ++ "errors.errorString" = "*errors.errorString" := by decide
theorem row_err (u : TypeId) (h : Tryz.prog.typeName? 3 u = some "*errors.errorString") : u = 151 :=
  typeName_ptr_named (nm := "errors.errorString") (by rw [err_star]; kernel_rfl) (by kernel_rfl) (by decide) u (by rw [err_star]; exact h)
theorem lt_of_var {w : World} {n : String} {g : Nat} {cs : Array Value} (hg : Tryz.prog.globalNamed n = some g) (h : w.var? Tryz.prog n = some cs) : g < w.heap.size := by
  unfold World.var? at h
  rw [hg] at h
  simp only [Option.bind_some] at h
  rcases Nat.lt_or_ge g w.heap.size with hl | hl
  · exact hl
  · rw [Array.getElem?_eq_none hl] at h; cases h
/-- the list of all the law's rows -/
def laidList : List (String × DataW Unit) := [("math/bits.deBruijn32tab", Rows.laid_math_bits_deBruijn32tab), ("math/bits.deBruijn64tab", Rows.laid_math_bits_deBruijn64tab), ("internal/strconv.uint64pow10", Rows.laid_internal_strconv_uint64pow10), ("unicode/utf8.acceptRanges", Rows.laid_unicode_utf8_acceptRanges), ("strconv.ErrRange", Rows.laid_strconv_ErrRange), ("strconv.ErrSyntax", Rows.laid_strconv_ErrSyntax), ("unicode/utf8.first", Rows.laid_unicode_utf8_first)]
theorem laid_of {W : World} (h : laidMetH Tryz.prog laidList W) : Laid W := by
  have h0 : laidMet Tryz.prog laidList W := h
  have h3 := h0.tail.tail
  have p := Lib.tabIs_of_head (zs := Lib.pow10Tab) (k := .u64) g_pow10 gt_pow10 Tryz.underlying129 Tryz.underlying96 (by kernel_rfl) (by kernel_rfl) h3
  obtain ⟨a0, s0, hv0, -, -, -⟩ := laid_sentinel h3.tail.tail g_rng gt_rng Tryz.underlying70 row_err Tryz.underlying151 Tryz.underlying153 rfl rfl Tryz.underlying9 (by kernel_rfl) (by kernel_rfl)
  obtain ⟨a1, s1, hv1, -, -, -⟩ := laid_sentinel h3.tail.tail.tail g_syn gt_syn Tryz.underlying70 row_err Tryz.underlying151 Tryz.underlying153 rfl rfl Tryz.underlying9 (by kernel_rfl) (by kernel_rfl)
  exact ⟨p, ⟨_, _, hv1⟩, ⟨_, _, hv0⟩, .inr ⟨lt_of_var g_pow10 p, lt_of_var g_syn hv1, lt_of_var g_rng hv0⟩⟩
end Go.Proofs.YtcpimjekllkbkaaGreatDoor
