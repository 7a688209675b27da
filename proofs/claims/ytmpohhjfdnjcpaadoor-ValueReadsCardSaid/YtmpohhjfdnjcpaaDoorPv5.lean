/- The plain law of values: numbers as words and back. -/
import Derived.Test.YtmpohhjfdnjcpaaDoorPv1
import Derived.Test.YtmpohhjfdnjcpaaDoorGx5
import Derived.Lib.ItoaNum
import Derived.Lib.ParseIntB
namespace Go.Proofs.YtmpohhjfdnjcpaaDoor.Pure
open Go.RowKit Go.Proofs.YtmpohhjfdnjcpaaDoor.G Go.Proofs.YtmpohhjfdnjcpaaDoorW.PrintWords Go.Proofs.YtmpohhjfdnjcpaaDoorW.PrintLast Go.Proofs.YtmpohhjfdnjcpaaDoorW.PrintMore
set_option linter.unusedVariables false
set_option linter.unusedSimpArgs false

theorem up {α : Type} {f : Nat → Option α} (h : ∀ k, LeO (f k) (f (k + 1))) {r : α} : ∀ {m k : Nat}, k ≤ m → f k = some r → f m = some r
  | 0, k, hm, hk => by
    have : k = 0 := by omega
    rw [← this]; exact hk
  | m + 1, k, hm, hk => by
    by_cases e : k = m + 1
    · rw [← e]; exact hk
    · exact h m r (up h (by omega) hk)
theorem u64w (x : Int) (h0 : 0 ≤ x) (h1 : x < 18446744073709551616) : IntKind.u64.wrap x = x := by
  unfold IntKind.wrap
  simp only [IntKind.bits, IntKind.signed]
  simp
  omega
theorem u64n (x : Nat) (h0 : 1 ≤ x) (h1 : x ≤ 9223372036854775808) : IntKind.u64.wrap (-(IntKind.u64.wrap (-(x : Int)))) = x := by
  unfold IntKind.wrap
  simp only [IntKind.bits, IntKind.signed]
  simp
  omega
theorem mk_size (l : List UInt8) : (⟨l.toArray⟩ : ByteArray).size = l.length := by show l.toArray.size = _; simp

def dval (acc : Nat) : List UInt8 → Nat
  | [] => acc
  | c :: r => dval (acc * 10 + (c.toNat - 48)) r
def dig (c : UInt8) : Prop := 48 ≤ c.toNat ∧ c.toNat ≤ 57
theorem dval_le : ∀ (l : List UInt8) (acc : Nat), acc ≤ dval acc l
  | [], _ => Nat.le_refl _
  | c :: r, acc => by
    have := dval_le r (acc * 10 + (c.toNat - 48))
    exact Nat.le_trans (by omega) this
theorem dval_app : ∀ (l m : List UInt8) (acc : Nat), dval acc (l ++ m) = dval (dval acc l) m
  | [], _, _ => rfl
  | c :: r, m, acc => dval_app r m _
theorem dec_dig (u : Nat) : ∀ c ∈ Lib.decDigits u, dig c := by
  induction u using Nat.strongRecOn with
  | _ u ih =>
    rw [Lib.decDigits]
    have h8 : ∀ j, j < 10 → dig (UInt8.ofNat (48 + j)) := by unfold dig; decide
    split
    · rename_i h
      intro c hc
      rw [List.mem_singleton] at hc; subst hc; exact h8 u h
    · rename_i h
      intro c hc
      rcases List.mem_append.1 hc with hc | hc
      · exact ih (u / 10) (by omega) c hc
      · rw [List.mem_singleton] at hc; subst hc; exact h8 (u % 10) (by omega)
theorem dval_dec (u : Nat) : dval 0 (Lib.decDigits u) = u := by
  induction u using Nat.strongRecOn with
  | _ u ih =>
    have h8 : ∀ j, j < 10 → (UInt8.ofNat (48 + j)).toNat = 48 + j := by decide
    rw [Lib.decDigits]
    split
    · rename_i h
      show 0 * 10 + ((UInt8.ofNat (48 + u)).toNat - 48) = u
      rw [h8 u h]; omega
    · rename_i h
      rw [dval_app, ih (u / 10) (by omega)]
      show u / 10 * 10 + ((UInt8.ofNat (48 + u % 10)).toNat - 48) = u
      rw [h8 (u % 10) (by omega)]; omega
theorem dec_ne (u : Nat) : Lib.decDigits u ≠ [] := by
  rw [Lib.decDigits]; split <;> simp
theorem parse_dig : ∀ (l : List UInt8) (acc : Nat), (∀ c ∈ l, dig c) → dval acc l < 18446744073709551616 → Lib.parseUintM (2 ^ 64 - 1) acc l = .ok (dval acc l)
  | [], _, _, _ => rfl
  | c :: r, acc, hd, hv => by
    have hc := hd c List.mem_cons_self
    unfold dig at hc
    have hv' : dval (acc * 10 + (c.toNat - 48)) r < 18446744073709551616 := hv
    have hl := Nat.lt_of_le_of_lt (dval_le r (acc * 10 + (c.toNat - 48))) hv'
    clear hv
    have ih := parse_dig r (acc * 10 + (c.toNat - 48)) (fun x hx => hd x (List.mem_cons_of_mem _ hx)) hv'
    clear hv'
    rw [Lib.parseUintM, if_pos hc, if_neg (by omega), if_neg (by omega)]
    exact ih
theorem parse_itoa (n : Int) (h0 : -9223372036854775808 ≤ n) (h1 : n ≤ 9223372036854775807) : Lib.parseIntB 64 (Lib.itoa n) = .ok n := by
  unfold Lib.itoa
  split
  · rename_i h
    have hv := dval_dec n.natAbs
    have hp := parse_dig (Lib.decDigits n.natAbs) 0 (dec_dig _) (by rw [hv]; omega)
    rw [hv] at hp
    simp only [Lib.parseIntB, show (45 : UInt8).toNat = 45 by decide, or_true, if_true, Lib.parseUintB, dec_ne, if_false, hp]
    simp only [true_and, not_true, false_and, if_false]
    rw [if_neg (by omega)]
    congr 1; omega
  · rename_i h
    have hv := dval_dec n.toNat
    have hp := parse_dig (Lib.decDigits n.toNat) 0 (dec_dig _) (by rw [hv]; omega)
    rw [hv] at hp
    have hne := dec_ne n.toNat
    have hd := dec_dig n.toNat
    generalize Lib.decDigits n.toNat = l at hp hne hd
    cases l with
    | nil => exact absurd rfl hne
    | cons c r =>
      have hc := hd c List.mem_cons_self
      unfold dig at hc
      have e1 : ¬ (c.toNat = 43 ∨ c.toNat = 45) := by omega
      have e2 : ¬ (c.toNat = 45) := by omega
      have e3 : ¬ (2 ^ 63 ≤ n.toNat) := by omega
      have e4 : ((n.toNat : Nat) : Int) = n := by omega
      simp only [Lib.parseIntB, e1, e2, if_false, Lib.parseUintB, hne, hp]
      have e5 : ¬ (c.toNat = 43) := by omega
      have hp' : Lib.parseUintM 18446744073709551615 0 (c :: r) = Lib.NumEnd.ok n.toNat := hp
      have e6 : ¬ (9223372036854775808 ≤ n.toNat) := by omega
      simp [e5, hp', e6, e4]
theorem parse_range (l : List UInt8) (v : Int) (h : Lib.parseIntB 64 l = .ok v) : -9223372036854775808 ≤ v ∧ v ≤ 9223372036854775807 := by
  unfold Lib.parseIntB at h
  split at h
  · cases h
  · simp only at h
    split at h
    · cases h
    · cases h
    · split at h
      · cases h
      · split at h
        · cases h
        · injection h with h
          split at h <;> omega

theorem dig_one (d : Nat) (h : d < 10) : (⟨#[48, 49, 50, 51, 52, 53, 54, 55, 56, 57]⟩ : ByteArray).extract d (d + 1) = ⟨#[UInt8.ofNat (48 + d)]⟩ := by
  have : ∀ d : Fin 10, ((⟨#[48, 49, 50, 51, 52, 53, 54, 55, 56, 57]⟩ : ByteArray).extract d.val (d.val + 1)).data.toList = [UInt8.ofNat (48 + d.val)] := by decide +kernel
  exact ba_eq (this ⟨d, h⟩)
theorem dig_step (u : Nat) (acc : ByteArray) (i k : Nat) (hu : u < 18446744073709551616) (hi : i < 20) (h0 : i = 0 ∨ 0 < u) (ha : acc.size ≤ i) :
    verdererref01_digits.l0 (k + 1) (u : Int) acc (i : Int) = verdererref01_digits.l0 k ((u / 10 : Nat) : Int) (⟨#[UInt8.ofNat (48 + u % 10)]⟩ ++ acc) ((i + 1 : Nat) : Int) := by
  have e1 : Int.tmod (u : Int) 10 = ((u % 10 : Nat) : Int) := by rw [Int.tmod_eq_emod_of_nonneg (by omega)]; omega
  have e2 : Int.tdiv (u : Int) 10 = ((u / 10 : Nat) : Int) := by rw [Int.tdiv_eq_ediv_of_nonneg (by omega)]; omega
  have e3 : IntKind.u64.wrap (((u % 10 : Nat) : Int) + 1) = ((u % 10 + 1 : Nat) : Int) := by rw [u64w _ (by omega) (by omega)]; omega
  have e4 : IntKind.u64.wrap ((u / 10 : Nat) : Int) = ((u / 10 : Nat) : Int) := u64w _ (by omega) (by omega)
  have e5 : wrap64 ((i : Int) + 1) = ((i + 1 : Nat) : Int) := by unfold wrap64; omega
  rw [verdererref01_digits.l0]
  simp only [e1, e2, e3, e4, e5, Int.toNat_natCast, dig_one (u % 10) (by omega)]
  have s1 : (⟨#[UInt8.ofNat (48 + u % 10)]⟩ : ByteArray).size = 1 := rfl
  rw [s1, if_pos (by omega)]
  by_cases hz : (i : Int) = 0
  · rw [if_pos hz, if_pos (by omega), if_pos (by omega), if_pos (by omega), if_pos (by omega)]
  · rw [if_neg hz, if_pos (by omega), if_pos (by omega), if_pos (by omega), if_pos (by omega), if_pos (by omega)]
theorem dig_end (acc : ByteArray) (i k : Nat) (hi : 1 ≤ i) : verdererref01_digits.l0 (k + 1) 0 acc (i : Int) = some acc := by
  rw [verdererref01_digits.l0]
  by_cases h : (i : Int) < 20
  · rw [if_pos h, if_neg (by omega), if_neg (by omega)]
  · rw [if_neg h]
theorem digits_l0 : ∀ (j u : Nat) (acc : ByteArray) (k i : Nat), 1 ≤ j → i + j = 20 → u < 10 ^ j → u < 18446744073709551616 → (i = 0 ∨ 0 < u) → acc.size ≤ i →
    verdererref01_digits.l0 (j + 1 + k) (u : Int) acc (i : Int) = some (⟨(Lib.decDigits u).toArray⟩ ++ acc)
  | 0, u, acc, k, i, h, _, _, _, _, _ => by omega
  | j + 1, u, acc, k, i, _, hij, hp, hu, h0, ha => by
    rw [show j + 1 + 1 + k = (j + 1 + k) + 1 by omega, dig_step u acc i (j + 1 + k) hu (by omega) h0 ha]
    by_cases hz : u / 10 = 0
    · rw [hz, show j + 1 + k = (j + k) + 1 by omega, show ((0 : Nat) : Int) = 0 from rfl, dig_end _ (i + 1) (j + k) (by omega)]
      rw [Lib.decDigits, dif_pos (by omega), show u % 10 = u by omega]
    · have hj : 1 ≤ j := by
        rcases Nat.eq_zero_or_pos j with e | e
        · subst e; simp at hp; omega
        · exact e
      rw [digits_l0 j (u / 10) _ k (i + 1) hj (by omega) (by rw [Nat.pow_succ] at hp; omega) (by omega) (Or.inr (by omega)) (by
        have : (⟨#[UInt8.ofNat (48 + u % 10)]⟩ ++ acc : ByteArray).size = 1 + acc.size := by rw [ByteArray.size_append]; rfl
        omega)]
      have : Lib.decDigits u = Lib.decDigits (u / 10) ++ [UInt8.ofNat (48 + u % 10)] := by
        conv => lhs; rw [Lib.decDigits]
        rw [dif_neg (by omega)]
      rw [this]
      congr 1
      apply ByteArray.ext
      simp
theorem digits_eq (u : Nat) (hu : u < 18446744073709551616) (k : Nat) : verdererref01_digits.f (21 + k) (u : Int) = some ⟨(Lib.decDigits u).toArray⟩ := by
  unfold verdererref01_digits.f
  have := digits_l0 20 u ⟨#[]⟩ k 0 (by omega) (by omega) (by omega) hu (Or.inl rfl) (by decide)
  rw [show 21 + k = 20 + 1 + k by omega]
  refine this.trans ?_
  congr 1
  apply ByteArray.ext
  simp
theorem nd_le : ∀ (k u : Nat), 1 ≤ k → u < 10 ^ k → Lib.nDigits u ≤ k
  | 0, _, h, _ => by omega
  | k + 1, u, _, hu => by
    rw [Lib.nDigits]
    split
    · omega
    · rename_i h
      have hk : 1 ≤ k := by
        rcases Nat.eq_zero_or_pos k with e | e
        · subst e; simp at hu; omega
        · exact e
      have := nd_le k (u / 10) hk (by rw [Nat.pow_succ] at hu; omega)
      omega
theorem num_eq (n : Int) (h0 : -9223372036854775808 ≤ n) (h1 : n ≤ 9223372036854775807) (k : Nat) : verdererref01_Num.f (21 + k) n = some ⟨(Lib.itoa n).toArray⟩ := by
  unfold verdererref01_Num.f Lib.itoa
  by_cases h : n < 0
  · rw [if_pos h, if_pos h]
    have e : IntKind.u64.wrap (-(IntKind.u64.wrap n)) = ((n.natAbs : Nat) : Int) := by
      have := u64n n.natAbs (by omega) (by omega)
      rw [show -((n.natAbs : Nat) : Int) = n by omega] at this; exact this
    rw [e, digits_eq _ (by omega) k]
    simp only [Option.bind_some]
    have hl : (Lib.decDigits n.natAbs).length ≤ 20 := by rw [Lib.decDigits_length]; exact nd_le 20 _ (by omega) (by omega)
    rw [mk_size, if_pos (by omega)]
    congr 1
  · rw [if_neg h, if_neg h]
    have e : IntKind.u64.wrap n = ((n.toNat : Nat) : Int) := by rw [u64w _ (by omega) (by omega)]; omega
    rw [e, digits_eq _ (by omega) k]
    rfl

theorem wrap_rng (x : Int) : -9223372036854775808 ≤ wrap64 x ∧ wrap64 x ≤ 9223372036854775807 := by unfold wrap64; omega
theorem u64_rng (x : Int) : 0 ≤ IntKind.u64.wrap x ∧ IntKind.u64.wrap x < 18446744073709551616 := by
  unfold IntKind.wrap
  simp only [IntKind.bits, IntKind.signed]
  simp
  omega
/-- the loop ends -/
theorem number_ends (s : ByteArray) (hs : s.size ≤ 9223372036854775806) (x5 : Int) : ∀ (m : Nat) (acc : Int) (i k : Nat), s.size - i ≤ m → i ≤ s.size →
    ∃ n ok, verdererref01_Number.l0 (m + 22 + k) s acc x5 (i : Int) = some (n, ok) ∧ -9223372036854775808 ≤ n ∧ n ≤ 9223372036854775807
  | m, acc, i, k, hm, hi => by
    by_cases hlt : i < s.size
    · obtain ⟨m, rfl⟩ : ∃ m', m = m' + 1 := ⟨m - 1, by omega⟩
      rw [show m + 1 + 22 + k = (m + 22 + k) + 1 by omega, verdererref01_Number.l0, if_pos (by omega), if_pos (by omega)]
      split
      · exact ⟨_, _, rfl, by omega, by omega⟩
      · split
        · exact ⟨_, _, rfl, by omega, by omega⟩
        · have e5 : wrap64 ((i : Int) + 1) = ((i + 1 : Nat) : Int) := by unfold wrap64; omega
          rw [e5]
          exact number_ends s hs x5 m _ (i + 1) k (by omega) (by omega)
    · rw [show m + 22 + k = (21 + (m + k)) + 1 by omega, verdererref01_Number.l0, if_neg (by omega)]
      split
      · have := wrap_rng (IntKind.u64.wrap (-acc))
        rw [num_eq _ this.1 this.2]
        exact ⟨_, _, rfl, this⟩
      · have := wrap_rng acc
        rw [num_eq _ this.1 this.2]
        exact ⟨_, _, rfl, this⟩
theorem number_total (s : ByteArray) (hs : s.size ≤ 9223372036854775806) (k : Nat) (hk : s.size + 25 ≤ k) : ∃ n ok, verdererref01_Number.f k s = some (n, ok) ∧ -9223372036854775808 ≤ n ∧ n ≤ 9223372036854775807 := by
  have hl : ∀ x5 (i : Nat), i ≤ s.size → ∃ n ok, verdererref01_Number.l0 (k - 3) s 0 x5 (i : Int) = some (n, ok) ∧ -9223372036854775808 ≤ n ∧ n ≤ 9223372036854775807 := by
    intro x5 i hi
    have := number_ends s hs x5 s.size 0 i (k - 3 - (s.size + 22)) (by omega) hi
    rwa [show s.size + 22 + (k - 3 - (s.size + 22)) = k - 3 by omega] at this
  have h2 : ∀ (i : Nat) b, i ≤ s.size → ∃ n ok, verdererref01_Number.j2 (k - 2) s 0 (i : Int) b = some (n, ok) ∧ -9223372036854775808 ≤ n ∧ n ≤ 9223372036854775807 := by
    intro i b hi
    rw [show k - 2 = (k - 3) + 1 by omega, verdererref01_Number.j2]
    split
    · exact ⟨_, _, rfl, by omega, by omega⟩
    · exact hl _ i hi
  have h1 : ∀ (i : Nat), i ≤ s.size → ∃ n ok, verdererref01_Number.j1 (k - 1) s 0 (i : Int) = some (n, ok) ∧ -9223372036854775808 ≤ n ∧ n ≤ 9223372036854775807 := by
    intro i hi
    rw [show k - 1 = (k - 2) + 1 by omega, verdererref01_Number.j1]
    split
    · exact h2 i _ hi
    · exact h2 i _ hi
  unfold verdererref01_Number.f
  rw [show k = (k - 1) + 1 by omega]
  by_cases h0 : (s.size : Int) > 0
  · rw [if_pos h0, if_pos (by omega), verdererref01_Number.j0]
    split
    · exact h1 1 (by omega)
    · exact h1 0 (by omega)
  · rw [if_neg h0, verdererref01_Number.j0, if_neg (by simp)]
    exact h1 0 (by omega)
/-- the loop over digits -/
theorem number_dig (s : ByteArray) (hs : s.size ≤ 9223372036854775806) (x5 : Int) : ∀ (l : List UInt8) (acc i k : Nat), s.data.toList.drop i = l → i + l.length = s.size → (∀ c ∈ l, dig c) → dval acc l < 18446744073709551616 →
    verdererref01_Number.l0 (l.length + 22 + k) s (acc : Int) x5 (i : Int) = (if x5 = 1 then ((verdererref01_Num.f (21 + k) (wrap64 (IntKind.u64.wrap (-(dval acc l : Int))))).bind fun t150 => (some (wrap64 (IntKind.u64.wrap (-(dval acc l : Int))), (t150.toList == s.toList)))) else ((verdererref01_Num.f (21 + k) (wrap64 ((dval acc l : Int)))).bind fun t151 => (some (wrap64 ((dval acc l : Int)), (t151.toList == s.toList)))))
  | [], acc, i, k, hd, hi, hdig, hv => by
    simp only [List.length_nil] at hi
    rw [show ([] : List UInt8).length + 22 + k = (21 + k) + 1 by simp; omega, verdererref01_Number.l0, if_neg (by omega)]
    rfl
  | c :: r, acc, i, k, hd, hi, hdig, hv => by
    simp only [List.length_cons] at hi
    have hc := hdig c List.mem_cons_self
    unfold dig at hc
    have hlt : i < s.data.toList.length := by rw [← size_tl]; omega
    rw [List.drop_eq_getElem_cons hlt] at hd
    injection hd with hd1 hd2
    have hb : bt s (i : Int) = (c.toNat : Int) := by rw [bt_at_nat s i hlt, hd1]
    have hv' : dval (acc * 10 + (c.toNat - 48)) r < 18446744073709551616 := hv
    have hle := Nat.lt_of_le_of_lt (dval_le r (acc * 10 + (c.toNat - 48))) hv'
    clear hv
    have ih := number_dig s hs x5 r (acc * 10 + (c.toNat - 48)) (i + 1) k hd2 (by omega) (fun x hx => hdig x (List.mem_cons_of_mem _ hx)) hv'
    clear hv'
    have e5 : wrap64 ((i : Int) + 1) = ((i + 1 : Nat) : Int) := by unfold wrap64; omega
    have e6 : IntKind.u64.wrap ((IntKind.u64.wrap ((acc : Int) * 10)) + (((c.toNat : Int) - 48) % 256)) = ((acc * 10 + (c.toNat - 48) : Nat) : Int) := by
      rw [u64w ((acc : Int) * 10) (by omega) (by omega), u64w _ (by omega) (by omega)]; omega
    rw [show (c :: r).length + 22 + k = (r.length + 22 + k) + 1 by simp; omega, verdererref01_Number.l0, if_pos (by omega), if_pos (by omega), hb, if_neg (by omega), if_neg (by omega), e5, e6]
    exact ih
theorem number_itoa (n : Int) (h0 : -9223372036854775808 ≤ n) (h1 : n ≤ 9223372036854775807) (k : Nat) (hk : 50 ≤ k) : verdererref01_Number.f k ⟨(Lib.itoa n).toArray⟩ = some (n, true) := by
  by_cases h : n < 0
  · have hv := dval_dec n.natAbs
    have hl : (Lib.decDigits n.natAbs).length ≤ 19 := by rw [Lib.decDigits_length]; exact nd_le 19 _ (by omega) (by omega)
    have hne := dec_ne n.natAbs
    have hdig := dec_dig n.natAbs
    have hi : Lib.itoa n = 45 :: Lib.decDigits n.natAbs := by unfold Lib.itoa; rw [if_pos h]
    have hN := num_eq n h0 h1 (k - 3 - (22 + (Lib.decDigits n.natAbs).length))
    rw [hi] at hN ⊢
    generalize Lib.decDigits n.natAbs = l at *
    have hlen : 1 ≤ l.length := by cases l with | nil => exact absurd rfl hne | cons _ _ => simp
    have hsz : (⟨(45 :: l).toArray⟩ : ByteArray).size = l.length + 1 := by rw [mk_size]; simp
    have hb : bt ⟨(45 :: l).toArray⟩ 0 = 45 := by
      have := bt_at_nat ⟨(45 :: l).toArray⟩ 0 (by simp)
      simpa using this
    have e1 : wrap64 (((l.length + 1 : Nat) : Int) - 1) = (l.length : Int) := by unfold wrap64; omega
    have hloop := number_dig ⟨(45 :: l).toArray⟩ (by rw [hsz]; omega) 1 l 0 1 (k - 3 - (22 + l.length)) (by simp) (by rw [hsz]; omega) hdig (by rw [hv]; omega)
    unfold verdererref01_Number.f
    rw [hsz, if_pos (by omega), if_pos (by omega), hb, show k = (k - 3) + 1 + 1 + 1 by omega]
    simp only [verdererref01_Number.j0, verdererref01_Number.j1, verdererref01_Number.j2, beq_self_eq_true, if_true, hsz, e1]
    rw [if_neg (by omega), if_neg (by simp; omega)]
    rw [show l.length + 22 + (k - 3 - (22 + l.length)) = k - 3 by omega] at hloop
    refine hloop.trans ?_
    have e2 : wrap64 (IntKind.u64.wrap (-(dval 0 l : Int))) = n := by
      rw [hv]
      unfold IntKind.wrap wrap64
      simp only [IntKind.bits, IntKind.signed]
      simp
      omega
    rw [if_pos rfl, e2, hN]
    simp
  · have hv := dval_dec n.toNat
    have hl : (Lib.decDigits n.toNat).length ≤ 19 := by rw [Lib.decDigits_length]; exact nd_le 19 _ (by omega) (by omega)
    have hne := dec_ne n.toNat
    have hdig := dec_dig n.toNat
    have hi : Lib.itoa n = Lib.decDigits n.toNat := by unfold Lib.itoa; rw [if_neg h]
    have hN := num_eq n h0 h1 (k - 3 - (22 + (Lib.decDigits n.toNat).length))
    rw [hi] at hN ⊢
    generalize Lib.decDigits n.toNat = l at *
    have hlen : 1 ≤ l.length := by cases l with | nil => exact absurd rfl hne | cons _ _ => simp
    have hsz : (⟨l.toArray⟩ : ByteArray).size = l.length := by rw [mk_size]
    have hb : (bt ⟨l.toArray⟩ 0 == 45) = false := by
      have := bt_at_nat ⟨l.toArray⟩ 0 (by simp; omega)
      have hd := hdig (l[0]) (List.getElem_mem _)
      unfold dig at hd
      simp only [Int.ofNat_zero, List.getElem_toArray] at this
      have this : bt ⟨l.toArray⟩ 0 = ((l[0]).toNat : Int) := this
      rw [this]
      simp
      omega
    have e1 : wrap64 ((l.length : Int) - 0) = (l.length : Int) := by unfold wrap64; omega
    have hloop := number_dig ⟨l.toArray⟩ (by rw [hsz]; omega) 0 l 0 0 (k - 3 - (22 + l.length)) (by simp) (by rw [hsz]; omega) hdig (by rw [hv]; omega)
    unfold verdererref01_Number.f
    rw [hsz, if_pos (by omega), if_pos (by omega), hb, show k = (k - 3) + 1 + 1 + 1 by omega]
    simp only [verdererref01_Number.j0, verdererref01_Number.j1, verdererref01_Number.j2, Bool.false_eq_true, if_false, hsz, e1]
    rw [if_neg (by omega), if_neg (by simp; omega)]
    rw [show l.length + 22 + (k - 3 - (22 + l.length)) = k - 3 by omega] at hloop
    refine hloop.trans ?_
    have e2 : wrap64 ((dval 0 l : Int)) = n := by
      rw [hv]
      unfold wrap64
      omega
    rw [if_neg (by omega), e2, hN]
    simp
end Go.Proofs.YtmpohhjfdnjcpaaDoor.Pure
