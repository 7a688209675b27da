/- The plain law of values: texts as words and back. -/
import Derived.Test.YtmpohhjfdnjcpaaDoorPv1
import Derived.Test.YtmpohhjfdnjcpaaDoorGx6
import Derived.Test.YtmpohhjfdnjcpaaDoorGx5
namespace Go.Proofs.YtmpohhjfdnjcpaaDoor.Pure
open Go.RowKit Go.Proofs.YtmpohhjfdnjcpaaDoor.G Go.Proofs.YtmpohhjfdnjcpaaDoorW.PrintWords Go.Proofs.YtmpohhjfdnjcpaaDoorW.PrintLast Go.Proofs.YtmpohhjfdnjcpaaDoorW.PrintMore
set_option linter.unusedVariables false
set_option linter.unusedSimpArgs false

theorem mk_sz (l : List UInt8) : (⟨l.toArray⟩ : ByteArray).size = l.length := by show l.toArray.size = _; simp
theorem ext_sz (s : ByteArray) (i j : Nat) (h : j ≤ s.size) : (s.extract i j).size = j - i := by rw [ByteArray.size_extract]; omega
theorem ext_l (l : List UInt8) (i j : Nat) : (⟨l.toArray⟩ : ByteArray).extract i j = ⟨((l.take j).drop i).toArray⟩ := by
  apply ba_eq
  simp [List.extract_eq_take_drop, List.drop_take]
theorem bt_l (l : List UInt8) (i : Nat) (c : UInt8) (h : l[i]? = some c) : bt ⟨l.toArray⟩ (i : Int) = (c.toNat : Int) := by
  obtain ⟨hl, he⟩ := List.getElem?_eq_some_iff.1 h
  rw [bt_at_nat ⟨l.toArray⟩ i (by simpa using hl)]
  simp [he]
def hexd (i : Nat) : UInt8 := ([48, 49, 50, 51, 52, 53, 54, 55, 56, 57, 97, 98, 99, 100, 101, 102] : List UInt8).getD i 0
theorem hexd_index (i : Nat) (h : i < 16) : Lib.indexByte [48, 49, 50, 51, 52, 53, 54, 55, 56, 57, 97, 98, 99, 100, 101, 102] (hexd i) = i := by
  have : ∀ i : Fin 16, Lib.indexByte [48, 49, 50, 51, 52, 53, 54, 55, 56, 57, 97, 98, 99, 100, 101, 102] (hexd i.val) = i.val := by decide +kernel
  exact this ⟨i, h⟩
theorem hex_or (n : Nat) (h : n < 256) : (Go.bits .or .i64 (wrap64 (((n / 16 : Nat) : Int) * 16)) ((n % 16 : Nat) : Int)) % 256 = n := by
  have : ∀ n : Fin 256, (Go.bits .or .i64 (wrap64 (((n.val / 16 : Nat) : Int) * 16)) ((n.val % 16 : Nat) : Int)) % 256 = n.val := by decide +kernel
  exact this ⟨n, h⟩
theorem toUInt8_toNat (c : UInt8) : ((c.toNat : Int).toNat).toUInt8 = c := by simp
theorem lt_conv (c : UInt8) : (c < 32 ∨ c > 126) ↔ (c.toNat < 32 ∨ 126 < c.toNat) := by
  simp only [UInt8.lt_iff_toNat_lt, gt_iff_lt]; rfl
theorem qByte_cases (c : UInt8) : (qByte c = [92, c] ∧ (c = 34 ∨ c = 92)) ∨ (qByte c = [92, 120, hexd (c.toNat / 16), hexd (c.toNat % 16)]) ∨ (qByte c = [c] ∧ c ≠ 92 ∧ c ≠ 34) := by
  unfold qByte hexd
  by_cases h : c = 34 ∨ c = 92
  · exact Or.inl ⟨if_pos h, h⟩
  · by_cases h2 : c < 32 ∨ c > 126
    · exact Or.inr (Or.inl (by rw [if_neg h, if_pos h2]))
    · exact Or.inr (Or.inr ⟨by rw [if_neg h, if_neg h2], fun e => h (Or.inr e), fun e => h (Or.inl e)⟩)
theorem next_q (c : UInt8) (rest : List UInt8) (k : Nat) : value_next.f (k + 1) ⟨(qByte c ++ rest).toArray⟩ = some ((c.toNat : Int), ⟨rest.toArray⟩, true) := by
  rcases qByte_cases c with ⟨e, h⟩ | e | ⟨e, h, _⟩
  · rw [e]
    have b0 : bt ⟨([92, c] ++ rest).toArray⟩ 0 = 92 := bt_l _ 0 92 rfl
    have b1 : bt ⟨([92, c] ++ rest).toArray⟩ 1 = (c.toNat : Int) := bt_l _ 1 c rfl
    have b2 : (((c.toNat : Int)) != 120) = true := by rcases h with rfl | rfl <;> rfl
    have sz : (⟨([92, c] ++ rest).toArray⟩ : ByteArray).size = rest.length + 2 := by rw [mk_sz]; simp
    have ex : (⟨([92, c] ++ rest).toArray⟩ : ByteArray).extract 2 (rest.length + 2) = ⟨rest.toArray⟩ := by rw [ext_l]; simp
    unfold value_next.f
    simp only [value_next.j0, b0, b1, b2, sz, ex, if_true]
    rw [if_pos (by omega), if_pos (by omega), if_pos (by omega), if_pos (by omega), if_pos (by omega)]
  · rw [e]
    have b0 : bt ⟨([92, 120, hexd (c.toNat / 16), hexd (c.toNat % 16)] ++ rest).toArray⟩ 0 = 92 := bt_l _ 0 92 rfl
    have b1 : bt ⟨([92, 120, hexd (c.toNat / 16), hexd (c.toNat % 16)] ++ rest).toArray⟩ 1 = 120 := bt_l _ 1 120 rfl
    have b2 : bt ⟨([92, 120, hexd (c.toNat / 16), hexd (c.toNat % 16)] ++ rest).toArray⟩ 2 = _ := bt_l _ 2 _ rfl
    have b3 : bt ⟨([92, 120, hexd (c.toNat / 16), hexd (c.toNat % 16)] ++ rest).toArray⟩ 3 = _ := bt_l _ 3 _ rfl
    have sz : (⟨([92, 120, hexd (c.toNat / 16), hexd (c.toNat % 16)] ++ rest).toArray⟩ : ByteArray).size = rest.length + 4 := by rw [mk_sz]; simp
    have ex : (⟨([92, 120, hexd (c.toNat / 16), hexd (c.toNat % 16)] ++ rest).toArray⟩ : ByteArray).extract 4 (rest.length + 4) = ⟨rest.toArray⟩ := by rw [ext_l]; simp
    have hc : c.toNat < 256 := c.toNat_lt
    unfold value_next.f
    simp only [value_next.j0, b0, b1, b2, b3, sz, ex, if_true, strings_IndexByte.f, toUInt8_toNat, hexd_index _ (show c.toNat / 16 < 16 by omega), hexd_index _ (show c.toNat % 16 < 16 by omega), hex_or _ hc, bne_self_eq_false, Bool.false_eq_true, if_false, Option.bind_some]
    rw [if_pos (by omega), if_pos (by omega), if_pos (by omega), if_neg (by omega), if_pos (by omega), if_pos (by omega), if_pos (by omega), if_pos (by omega)]
    have : decide (((c.toNat % 16 : Nat) : Int) ≥ 0) = true := decide_eq_true (by omega)
    rw [this]
  · rw [e]
    have b0 : bt ⟨([c] ++ rest).toArray⟩ 0 = (c.toNat : Int) := bt_l _ 0 c rfl
    have hne : ¬ ((c.toNat : Int) = 92) := by
      intro h'
      exact h (UInt8.toNat_inj.1 (show c.toNat = 92 by omega))
    have sz : (⟨([c] ++ rest).toArray⟩ : ByteArray).size = rest.length + 1 := by rw [mk_sz]; simp
    have ex : (⟨([c] ++ rest).toArray⟩ : ByteArray).extract 1 (rest.length + 1) = ⟨rest.toArray⟩ := by rw [ext_l]; simp
    unfold value_next.f
    simp only [b0, sz, ex, hne, if_false]
    rw [if_pos (by omega), if_pos (by omega)]
theorem next_total (s : ByteArray) (h : 0 < s.size) (k : Nat) : ∃ c rest ok, value_next.f (k + 1) s = some (c, rest, ok) ∧ (ok = true → rest.size < s.size) := by
  unfold value_next.f
  rw [if_pos (by omega)]
  have hj : ∀ b, (b = true → 1 < s.size) → ∃ c rest ok, value_next.j0 (k + 1) s b = some (c, rest, ok) ∧ (ok = true → rest.size < s.size) := by
    intro b hb
    rw [value_next.j0]
    by_cases hbt : b = true
    · have := hb hbt
      rw [if_pos hbt, if_pos (by omega), if_pos (by omega)]
      exact ⟨_, _, _, rfl, fun _ => by rw [ext_sz _ _ _ (Nat.le_refl _)]; omega⟩
    · rw [if_neg hbt]
      by_cases h4 : (s.size : Int) < 4
      · rw [if_pos h4]
        exact ⟨_, _, _, rfl, fun h => by cases h⟩
      · rw [if_neg h4, if_pos (by omega)]
        simp only [strings_IndexByte.f, Option.bind_some]
        rw [if_pos (by omega), if_pos (by omega)]
        split
        · exact ⟨_, _, _, rfl, fun _ => by rw [ext_sz _ _ _ (Nat.le_refl _)]; omega⟩
        · exact ⟨_, _, _, rfl, fun h => by cases h⟩
  split
  · by_cases h1 : (s.size : Int) > 1
    · rw [if_pos h1, if_pos (by omega)]
      exact hj _ (fun _ => by omega)
    · rw [if_neg h1]
      exact hj _ (fun h => by cases h)
  · rw [if_pos (by omega)]
    exact ⟨_, _, _, rfl, fun _ => by rw [ext_sz _ _ _ (Nat.le_refl _)]; omega⟩
theorem unq_ends : ∀ (m : Nat) (s : ByteArray) (acc : List Int) (k : Nat), s.size ≤ m → acc.length + m ≤ 140737488355000 → ∃ t ok, value_unquoted.l0 (m + 2 + k) s acc = some (t, ok)
  | m, s, acc, k, hm, ha => by
    rw [show m + 2 + k = (m + k + 1) + 1 by omega, value_unquoted.l0]
    by_cases he : s.toList = []
    · rw [if_pos he]; exact ⟨_, _, rfl⟩
    · rw [if_neg he]
      have h0 : 0 < s.size := by
        rcases Nat.eq_zero_or_pos s.size with e | e
        · exact absurd ((nil_iff s).2 e) he
        · exact e
      obtain ⟨c, rest, ok, hn, hr⟩ := next_total s h0 (m + k)
      rw [hn]
      simp only [Option.bind_some]
      by_cases hok : ok = true
      · rw [if_pos hok, if_pos (by omega)]
        obtain ⟨m, rfl⟩ : ∃ m', m = m' + 1 := ⟨m - 1, by omega⟩
        have hlt := hr hok
        rw [show m + 1 + k + 1 = m + 2 + k by omega]
        exact unq_ends m rest (acc ++ [c]) k (by omega) (by simp; omega)
      · rw [if_neg hok]; exact ⟨_, _, rfl⟩
theorem unquoted_total (s : ByteArray) (hs : s.size ≤ 1000000) (k : Nat) (hk : s.size + 5 ≤ k) : ∃ t ok, value_unquoted.f k s = some (t, ok) := by
  have e1 : ∀ n : Nat, n ≤ 1000000 → wrap64 ((n : Int) - 1) = (n : Int) - 1 := by intro n h; unfold wrap64; omega
  have hj : ∀ b, (b = false → 2 ≤ s.size) → ∃ t ok, value_unquoted.j0 k s b = some (t, ok) := by
    intro b hb
    rw [show k = (k - 1) + 1 by omega, value_unquoted.j0, e1 _ hs]
    by_cases hbt : b = true
    · rw [if_pos hbt]; exact ⟨_, _, rfl⟩
    · have := hb (by simpa using hbt)
      rw [if_neg hbt, if_pos (by omega), if_pos (by omega)]
      have hx : (s.extract 1 ((s.size : Int) - 1).toNat).size ≤ s.size := by rw [ext_sz _ _ _ (by omega)]; omega
      have := unq_ends s.size (s.extract 1 ((s.size : Int) - 1).toNat) [] (k - 1 - (s.size + 2)) hx (by simp; omega)
      rwa [show s.size + 2 + (k - 1 - (s.size + 2)) = k - 1 by omega] at this
  unfold value_unquoted.f
  rw [e1 _ hs]
  by_cases h2 : (s.size : Int) < 2
  · rw [if_pos h2]; exact hj _ (fun h => by cases h)
  · rw [if_neg h2, if_pos (by omega)]
    split
    · rw [if_pos (by omega), if_pos (by omega)]
      exact hj _ (fun _ => by omega)
    · exact hj _ (fun h => by cases h)
theorem nums_back (t : List UInt8) : strOfNums (t.map (fun c => (c.toNat : Int))) = ⟨t.toArray⟩ := by
  apply ba_eq
  rw [strOfNums_data, List.map_map]
  simp [Function.comp_def]
theorem unq_q : ∀ (t : List UInt8) (acc : List Int) (k : Nat), acc.length + t.length ≤ 1000000 →
    value_unquoted.l0 (t.length + 2 + k) ⟨(t.flatMap qByte).toArray⟩ acc = some (strOfNums (acc ++ t.map (fun c => (c.toNat : Int))), true)
  | [], acc, k, h => by
    rw [show ([] : List UInt8).length + 2 + k = (k + 1) + 1 by simp; omega, value_unquoted.l0, if_pos (by rw [tl]; simp)]
    simp
  | c :: t, acc, k, h => by
    simp only [List.length_cons] at h
    have hn := next_q c (t.flatMap qByte) (t.length + 1 + k)
    rw [show (c :: t).length + 2 + k = (t.length + 2 + k) + 1 by simp; omega, value_unquoted.l0, if_neg]
    · rw [List.flatMap_cons, show t.length + 2 + k = t.length + 1 + k + 1 by omega, hn]
      simp only [Option.bind_some, if_true]
      rw [if_pos (by omega), show t.length + 1 + k + 1 = t.length + 2 + k by omega, unq_q t _ k (by simp; omega)]
      simp
    · rw [tl, List.flatMap_cons]
      rcases qByte_cases c with ⟨e, h⟩ | e | ⟨e, h, _⟩ <;> rw [e] <;> simp
theorem flat_len (t : List UInt8) : (t.flatMap qByte).length ≤ 4 * t.length := by
  induction t with
  | nil => simp
  | cons c t ih =>
    rw [List.flatMap_cons, List.length_append]
    have : (qByte c).length ≤ 4 := by rcases qByte_cases c with ⟨e, h⟩ | e | ⟨e, h, _⟩ <;> rw [e] <;> simp
    simp only [List.length_cons]; omega
theorem unquoted_q (t : List UInt8) (ht : t.length ≤ 1000) (k : Nat) (hk : t.length + 5 ≤ k) : value_unquoted.f k ⟨(quotedL t).toArray⟩ = some (⟨t.toArray⟩, true) := by
  have hf := flat_len t
  unfold quotedL
  have sz : (⟨(34 :: (t.flatMap qByte ++ [34])).toArray⟩ : ByteArray).size = (t.flatMap qByte).length + 2 := by rw [mk_sz]; simp
  have b0 : bt ⟨(34 :: (t.flatMap qByte ++ [34])).toArray⟩ 0 = 34 := bt_l _ 0 34 rfl
  have e1 : wrap64 ((((t.flatMap qByte).length + 2 : Nat) : Int) - 1) = (((t.flatMap qByte).length + 1 : Nat) : Int) := by unfold wrap64; omega
  have b1 : bt ⟨(34 :: (t.flatMap qByte ++ [34])).toArray⟩ (((t.flatMap qByte).length + 1 : Nat) : Int) = 34 := bt_l _ _ 34 (by
    rw [List.getElem?_cons_succ, List.getElem?_append_right (Nat.le_refl _)]; simp)
  have ex : (⟨(34 :: (t.flatMap qByte ++ [34])).toArray⟩ : ByteArray).extract 1 ((t.flatMap qByte).length + 1) = ⟨(t.flatMap qByte).toArray⟩ := by rw [ext_l]; simp
  unfold value_unquoted.f
  rw [sz, if_neg (by omega), if_pos (by omega), b0, if_pos rfl, e1, if_pos (by omega), if_pos (by omega), b1, show k = (k - 1) + 1 by omega, value_unquoted.j0, sz, e1]
  rw [if_neg (by simp), if_pos (by omega), if_pos (by omega), Int.toNat_natCast, ex]
  have := unq_q t [] (k - 1 - (t.length + 2)) (by simp; omega)
  rw [show t.length + 2 + (k - 1 - (t.length + 2)) = k - 1 by omega] at this
  rw [this]
  simp [nums_back]

/-! the document's reading -/
theorem hex_total (x : Int) (k : Nat) : ∃ r, verdererref01_hex.f (k + 1) x = some r := by
  unfold verdererref01_hex.f
  simp only [verdererref01_hex.j0]
  repeat' (first | exact ⟨_, rfl⟩ | split)
theorem hex_nat (n : Nat) (h : 48 ≤ n) (h2 : n ≤ 57 ∨ (97 ≤ n ∧ n ≤ 102)) (k : Nat) : verdererref01_hex.f (k + 1) (n : Int) = some (if n ≤ 57 then (n : Int) - 48 else (n : Int) - 87) := by
  unfold verdererref01_hex.f
  simp only [verdererref01_hex.j0]
  rw [if_pos (by omega)]
  by_cases h3 : n ≤ 57
  · rw [if_pos (decide_eq_true (by omega)), if_pos h3]; congr 1; omega
  · rw [if_neg (by simp; omega), if_neg h3, if_pos (by omega), if_pos (by omega)]; congr 1; omega
theorem hexd_nat (i : Nat) (h : i < 16) : (hexd i).toNat = if i < 10 then 48 + i else 87 + i := by
  have : ∀ i : Fin 16, (hexd i.val).toNat = if i.val < 10 then 48 + i.val else 87 + i.val := by decide +kernel
  exact this ⟨i, h⟩
theorem hex_hexd (i : Nat) (h : i < 16) (k : Nat) : verdererref01_hex.f (k + 1) ((hexd i).toNat : Int) = some (i : Int) := by
  have e := hexd_nat i h
  by_cases h2 : i < 10
  · rw [if_pos h2] at e
    rw [hex_nat _ (by omega) (by omega), e, if_pos (by omega)]; congr 1; omega
  · rw [if_neg h2] at e
    rw [hex_nat _ (by omega) (by omega), e, if_neg (by omega)]; congr 1; omega
theorem wr1 (i : Nat) (h : i ≤ 4000000) : wrap64 ((i : Int) + 1) = ((i + 1 : Nat) : Int) := by unfold wrap64; omega
theorem wr2 (i : Nat) (h : i ≤ 4000000) : wrap64 ((i : Int) + 2) = ((i + 2 : Nat) : Int) := by unfold wrap64; omega
theorem wr3 (i : Nat) (h : i ≤ 4000000) : wrap64 ((i : Int) + 3) = ((i + 3 : Nat) : Int) := by unfold wrap64; omega
theorem wr6 (n : Nat) (h : n < 256) : (wrap64 ((wrap64 (16 * ((n / 16 : Nat) : Int))) + ((n % 16 : Nat) : Int))) % 256 = (n : Int) := by unfold wrap64; omega
theorem wrm (i : Nat) (h : i ≤ 4000000) : wrap64 ((i : Int) - 1) = (i : Int) - 1 := by unfold wrap64; omega
theorem runq_ends (s : ByteArray) (hs : s.size ≤ 1000000) (hs1 : 1 ≤ s.size) (m : Nat) : ∀ (i k : Nat) (acc : List Int), s.size - i ≤ m → acc.length + m ≤ 2000000 → ∃ t, verdererref01_unquoted.l0 (m + 2 + k) s acc (i : Int) = some t := by
  induction m with
  | zero =>
    intro i k acc hm ha
    rw [show 0 + 2 + k = (k + 1) + 1 by omega, verdererref01_unquoted.l0, wrm s.size (by omega), if_neg (by omega)]
    exact ⟨_, rfl⟩
  | succ m ih =>
    intro i k acc hm ha
    have ih' : ∀ (i' : Nat) (x : Int), i < i' → ∃ t, verdererref01_unquoted.l0 (m + 2 + k) s (acc ++ [x]) (i' : Int) = some t := by
      intro i' x hi
      exact ih i' k (acc ++ [x]) (by omega) (by rw [List.length_append]; simp only [List.length_cons, List.length_nil]; omega)
    have hacc : acc.length < 140737488355328 := by omega
    clear ha ih
    rw [show m + 1 + 2 + k = (m + 2 + k) + 1 by omega, verdererref01_unquoted.l0, wrm s.size (by omega)]
    generalize verdererref01_unquoted.l0 (m + 2 + k) s = L at ih' ⊢
    by_cases hlt : (i : Int) < (s.size : Int) - 1
    · rw [if_pos hlt, if_pos (by omega), if_pos (by omega), wr1 i (by omega), wr2 i (by omega), wr3 i (by omega), wr1 (i + 1) (by omega), wr1 (i + 3) (by omega)]
      by_cases c1 : bt s (i : Int) = 92
      · rw [if_pos c1, if_pos (by omega), if_pos (by omega)]
        by_cases c2 : bt s ((i + 1 : Nat) : Int) = 120
        · rw [if_pos c2]
          by_cases c3 : ((i + 3 : Nat) : Int) ≥ (s.size : Int) - 1
          · rw [if_pos c3]; exact ⟨_, rfl⟩
          · obtain ⟨r2, h2⟩ := hex_total (bt s ((i + 2 : Nat) : Int)) (m + 1 + k)
            obtain ⟨r3, h3⟩ := hex_total (bt s ((i + 3 : Nat) : Int)) (m + 1 + k)
            rw [show m + 1 + k + 1 = m + 2 + k by omega] at h2 h3
            rw [if_neg c3, if_pos (by omega), if_pos (by omega), h2, Option.bind_some, if_pos (by omega), if_pos (by omega), h3, Option.bind_some, if_pos hacc]
            exact ih' (i + 4) _ (by omega)
        · rw [if_neg c2, if_pos hacc]
          exact ih' (i + 2) _ (by omega)
      · rw [if_neg c1, if_pos hacc]
        exact ih' (i + 1) _ (by omega)
    · rw [if_neg hlt]; exact ⟨_, rfl⟩
theorem runquoted_total (s : ByteArray) (hs : s.size ≤ 1000000) (hs1 : 1 ≤ s.size) (k : Nat) (hk : s.size + 5 ≤ k) : ∃ t, verdererref01_unquoted.f k s = some t := by
  have := runq_ends s hs hs1 s.size 1 (k - (s.size + 2)) [] (by omega) (by simp; omega)
  rw [show s.size + 2 + (k - (s.size + 2)) = k by omega] at this
  exact this
theorem runq_q (s : ByteArray) (hs : s.size ≤ 1000000) : ∀ (t : List UInt8) (i k : Nat) (acc : List Int), s.data.toList.drop i = t.flatMap qByte ++ [34] → acc.length + t.length ≤ 1000000 →
    verdererref01_unquoted.l0 (t.length + 2 + k) s acc (i : Int) = some (strOfNums (acc ++ t.map (fun c => (c.toNat : Int))))
  | [], i, k, acc, hd, ha => by
    have hl := congrArg List.length hd
    rw [List.length_drop, ← size_tl] at hl
    simp at hl
    rw [show ([] : List UInt8).length + 2 + k = (k + 1) + 1 by simp; omega, verdererref01_unquoted.l0, wrm s.size (by omega), if_neg (by omega)]
    simp
  | c :: t, i, k, acc, hd, ha => by
    simp only [List.length_cons] at ha
    have hl := congrArg List.length hd
    rw [List.length_drop, ← size_tl] at hl
    have hb : ∀ (j : Nat) (d : UInt8), ((c :: t).flatMap qByte ++ [34])[j]? = some d → bt s ((i + j : Nat) : Int) = (d.toNat : Int) := by
      intro j d hj
      rw [← hd, List.getElem?_drop] at hj
      obtain ⟨h1, h2⟩ := List.getElem?_eq_some_iff.1 hj
      rw [bt_at_nat s (i + j) h1, h2]
    rw [show (c :: t).length + 2 + k = (t.length + 2 + k) + 1 by simp; omega, verdererref01_unquoted.l0, wrm s.size (by omega)]
    simp only [List.flatMap_cons, List.length_append, List.length_cons, List.length_nil] at hl
    simp only [List.flatMap_cons] at hb hd
    rcases qByte_cases c with ⟨e, h⟩ | e | ⟨e, h, h'⟩
    · rw [e] at hl hb hd
      simp only [List.length_cons, List.length_nil] at hl
      have b0 : bt s (i : Int) = 92 := hb 0 92 rfl
      have b1 : bt s ((i + 1 : Nat) : Int) = (c.toNat : Int) := hb 1 c rfl
      rw [if_pos (by omega), if_pos (by omega), if_pos (by omega), b0, if_pos rfl, wr1 i (by omega), if_pos (by omega), if_pos (by omega), b1, if_neg (by rcases h with rfl | rfl <;> decide), if_pos (by omega), wr1 (i + 1) (by omega)]
      rw [runq_q s hs t (i + 2) k _ (by rw [← List.drop_drop, hd]; simp) (by simp; omega)]
      simp
    · rw [e] at hl hb hd
      simp only [List.length_cons, List.length_nil] at hl
      have b0 : bt s (i : Int) = 92 := hb 0 92 rfl
      have b1 : bt s ((i + 1 : Nat) : Int) = 120 := hb 1 120 rfl
      have b2 : bt s ((i + 2 : Nat) : Int) = ((hexd (c.toNat / 16)).toNat : Int) := hb 2 _ rfl
      have b3 : bt s ((i + 3 : Nat) : Int) = ((hexd (c.toNat % 16)).toNat : Int) := hb 3 _ rfl
      have hc : c.toNat < 256 := c.toNat_lt
      rw [if_pos (by omega), if_pos (by omega), if_pos (by omega), b0, if_pos rfl, wr1 i (by omega), if_pos (by omega), if_pos (by omega), b1, if_pos rfl, wr3 i (by omega), if_neg (by omega), wr2 i (by omega), if_pos (by omega), if_pos (by omega), b2,
        show t.length + 2 + k = (t.length + 1 + k) + 1 by omega, hex_hexd _ (by omega)]
      simp only [Option.bind_some]
      rw [if_pos (by omega), if_pos (by omega), b3, hex_hexd _ (by omega)]
      simp only [Option.bind_some]
      rw [if_pos (by omega), wr1 (i + 3) (by omega), wr6 _ hc, show (t.length + 1 + k) + 1 = t.length + 2 + k by omega]
      rw [runq_q s hs t (i + 4) k _ (by rw [← List.drop_drop, hd]; simp) (by simp; omega)]
      simp
    · rw [e] at hl hb hd
      simp only [List.length_cons, List.length_nil] at hl
      have b0 : bt s (i : Int) = (c.toNat : Int) := hb 0 c rfl
      have hne : ¬ ((c.toNat : Int) = 92) := by
        intro h'
        exact h (UInt8.toNat_inj.1 (show c.toNat = 92 by omega))
      rw [if_pos (by omega), if_pos (by omega), if_pos (by omega), b0, if_neg hne, if_pos (by omega), wr1 i (by omega)]
      rw [runq_q s hs t (i + 1) k _ (by rw [← List.drop_drop, hd]; simp) (by simp; omega)]
      simp
theorem runquoted_q (t : List UInt8) (ht : t.length ≤ 1000) (k : Nat) (hk : t.length + 5 ≤ k) : verdererref01_unquoted.f k ⟨(quotedL t).toArray⟩ = some ⟨t.toArray⟩ := by
  have hf := flat_len t
  have sz : (⟨(quotedL t).toArray⟩ : ByteArray).size = (t.flatMap qByte).length + 2 := by rw [mk_sz]; simp [quotedL]
  have := runq_q ⟨(quotedL t).toArray⟩ (by omega) t 1 (k - (t.length + 2)) [] (by simp [quotedL]) (by simp; omega)
  rw [show t.length + 2 + (k - (t.length + 2)) = k by omega] at this
  unfold verdererref01_unquoted.f
  refine this.trans ?_
  simp [nums_back]
end Go.Proofs.YtmpohhjfdnjcpaaDoor.Pure
