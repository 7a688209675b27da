/- The plain law of values: what is shown is read. -/
import Derived.Test.YtmpohhjfdnjcpaaDoorPv5
import Derived.Test.YtmpohhjfdnjcpaaDoorPv6
import Derived.KernelRfl
namespace Go.Proofs.YtmpohhjfdnjcpaaDoor.Pure
open Go.RowKit Go.Proofs.YtmpohhjfdnjcpaaDoor.G Go.Proofs.YtmpohhjfdnjcpaaDoorW.PrintWords Go.Proofs.YtmpohhjfdnjcpaaDoorW.PrintLast Go.Proofs.YtmpohhjfdnjcpaaDoorW.PrintMore
set_option linter.unusedVariables false
set_option linter.unusedSimpArgs false

def inr (n : Int) : Prop := -9223372036854775808 ≤ n ∧ n ≤ 9223372036854775807
def showV (k : Int) (b : Bool) (n : Int) (t : ByteArray) : ByteArray :=
  if right k b n t = true then (if k = 1 then (if b = true then ⟨#[116, 114, 117, 101]⟩ else ⟨#[102, 97, 108, 115, 101]⟩) else if k = 2 then ⟨(Lib.itoa n).toArray⟩ else if k = 3 then ⟨(quotedL t.data.toList).toArray⟩ else ⟨#[110, 117, 108, 108]⟩) else ⟨#[]⟩
theorem right_cases {k : Int} {b : Bool} {n : Int} {t : ByteArray} (h : right k b n t = true) : (k = 0 ∧ b = false ∧ n = 0 ∧ t = ⟨#[]⟩) ∨ (k = 1 ∧ n = 0 ∧ t = ⟨#[]⟩) ∨ (k = 2 ∧ b = false ∧ t = ⟨#[]⟩) ∨ (k = 3 ∧ b = false ∧ n = 0 ∧ t.size ≤ 60) := by
  have hz : ∀ (s : ByteArray), s.size = 0 → s = ⟨#[]⟩ := fun s h => ba_eq (List.length_eq_zero_iff.1 (by rw [size_tl] at h; exact h))
  unfold right at h
  rw [decide_eq_true_eq] at h
  rcases h with ⟨h1, h2, h3, h4⟩ | ⟨h1, h3, h4⟩ | ⟨h1, h2, h4⟩ | h
  · exact Or.inl ⟨h1, h2, h3, hz _ h4⟩
  · exact Or.inr (Or.inl ⟨h1, h3, hz _ h4⟩)
  · exact Or.inr (Or.inr (Or.inl ⟨h1, h2, hz _ h4⟩))
  · exact Or.inr (Or.inr (Or.inr h))
theorem formatBool (b : Bool) : strconv_FormatBool_23.f b = some (if b = true then ⟨#[116, 114, 117, 101]⟩ else ⟨#[102, 97, 108, 115, 101]⟩) := by
  cases b <;> rfl
theorem show_value (k : Int) (b : Bool) (n : Int) (t : ByteArray) (h : inr n) : value_Show.f k b n t = some (showV k b n t) := by
  unfold value_Show.f showV
  rw [right_value]
  simp only [Option.bind_some]
  by_cases hr : right k b n t = true
  · rw [if_pos hr, if_pos hr]
    by_cases h1 : k = 1
    · rw [if_pos h1, if_pos h1, formatBool]; rfl
    · rw [if_neg h1, if_neg h1]
      by_cases h2 : k = 2
      · rw [if_pos h2, if_pos h2]
        unfold strconv_FormatInt.f
        rw [if_pos ⟨rfl, h.1, h.2⟩]; rfl
      · rw [if_neg h2, if_neg h2]
        by_cases h3 : k = 3
        · rw [if_pos h3, if_pos h3]
          unfold value_quoted.f
          have hs : t.size ≤ 60 := by
            rcases right_cases hr with ⟨e, _⟩ | ⟨e, _⟩ | ⟨e, _⟩ | ⟨_, _, _, e⟩ <;> omega
          rw [if_pos (by omega)]; rfl
        · rw [if_neg h3, if_neg h3]
  · rw [if_neg hr, if_neg hr]
theorem show_ref (k : Int) (b : Bool) (n : Int) (t : ByteArray) (h : inr n) (j : Nat) (hj : 21 ≤ j) : verdererref01_Show.f j k b n t = some (showV k b n t) := by
  unfold verdererref01_Show.f showV
  rw [right_ref]
  simp only [Option.bind_some]
  by_cases hr : right k b n t = true
  · rw [if_pos hr, if_pos hr]
    rcases right_cases hr with ⟨e, _⟩ | ⟨e, _⟩ | ⟨e, _⟩ | ⟨e, _, _, hs⟩
    · subst e; rfl
    · subst e
      cases b <;> rfl
    · subst e
      have := num_eq n h.1 h.2 (j - 21)
      rw [show 21 + (j - 21) = j by omega] at this
      rw [if_neg (by decide), if_neg (by decide), if_pos rfl, if_neg (by decide), if_pos rfl, this]; rfl
    · subst e
      rw [if_neg (by decide), if_neg (by decide), if_neg (by decide), if_neg (by decide), if_neg (by decide), if_pos rfl]
      unfold verdererref01_quoted.f value_quoted.f
      rw [if_pos (by omega)]; rfl
  · rw [if_neg hr, if_neg hr]
theorem show_right {k : Int} {b : Bool} {n : Int} {t : ByteArray} {s : ByteArray} (h : showV k b n t = s) (hs : ¬ s.toList = []) : right k b n t = true := by
  by_cases hr : right k b n t = true
  · exact hr
  · unfold showV at h
    rw [if_neg hr] at h
    rw [← h] at hs
    exact absurd (by rw [tl]) hs
theorem itoa_len (n : Int) (h : inr n) : (Lib.itoa n).length ≤ 20 := by
  unfold inr at h
  unfold Lib.itoa
  split
  · have := nd_le 19 n.natAbs (by omega) (by omega)
    rw [List.length_cons, Lib.decDigits_length]; omega
  · have := nd_le 19 n.toNat (by omega) (by omega)
    rw [Lib.decDigits_length]; omega
theorem show_size (k : Int) (b : Bool) (n : Int) (t : ByteArray) (h : inr n) : (showV k b n t).size ≤ 242 := by
  unfold showV
  by_cases hr : right k b n t = true
  · rw [if_pos hr]
    by_cases h1 : k = 1
    · rw [if_pos h1]; cases b <;> decide
    · rw [if_neg h1]
      by_cases h2 : k = 2
      · rw [if_pos h2, mk_size]; have := itoa_len n h; omega
      · rw [if_neg h2]
        by_cases h3 : k = 3
        · rw [if_pos h3, mk_size]
          have hs : t.size ≤ 60 := by
            rcases right_cases hr with ⟨e, _⟩ | ⟨e, _⟩ | ⟨e, _⟩ | ⟨_, _, _, e⟩ <;> omega
          have := flat_len t.data.toList
          rw [size_tl] at hs
          simp only [quotedL, List.length_cons, List.length_append, List.length_nil]; omega
        · rw [if_neg h3]; decide
  · rw [if_neg hr]; decide

/-! the program's guess -/
theorem parse_true : Lib.parseIntB 64 [116, 114, 117, 101] = .syntax := by decide +kernel
theorem parse_false : Lib.parseIntB 64 [102, 97, 108, 115, 101] = .syntax := by decide +kernel
theorem parse_quote (r : List UInt8) : Lib.parseIntB 64 (34 :: r) = .syntax := by
  simp [Lib.parseIntB, Lib.parseUintB, Lib.parseUintM]
theorem guess_total (s : ByteArray) (hs : s.size ≤ 1000) (j : Nat) (hj : s.size + 5 ≤ j) : ∃ k b n t, value_guess.f j s = some (k, b, n, t) ∧ inr n := by
  unfold value_guess.f
  rw [if_pos (by omega)]
  have z : inr 0 := by unfold inr; omega
  by_cases h1 : s.toList = ([116, 114, 117, 101] : List UInt8)
  · rw [if_pos h1]; exact ⟨_, _, _, _, rfl, z⟩
  · rw [if_neg h1]
    by_cases h2 : s.toList = ([102, 97, 108, 115, 101] : List UInt8)
    · rw [if_pos h2]; exact ⟨_, _, _, _, rfl, z⟩
    · rw [if_neg h2]
      cases hp : Lib.parseIntB 64 s.data.toList with
      | ok v =>
        rw [if_pos rfl]
        exact ⟨_, _, _, _, rfl, parse_range _ _ hp⟩
      | _ =>
        rw [if_neg (by simp)]
        obtain ⟨t, ok, ht⟩ := unquoted_total s (by omega) j hj
        rw [ht]
        simp only [Option.bind_some]
        by_cases hok : ok = true
        · rw [if_pos hok]; exact ⟨_, _, _, _, rfl, z⟩
        · rw [if_neg hok]; exact ⟨_, _, _, _, rfl, z⟩
theorem null_guess : value_guess.f 10 ⟨#[110, 117, 108, 108]⟩ = some (0, false, 0, ⟨#[]⟩) := by kernel_rfl
theorem true_guess : value_guess.f 10 ⟨#[116, 114, 117, 101]⟩ = some (1, true, 0, ⟨#[]⟩) := by kernel_rfl
theorem false_guess : value_guess.f 10 ⟨#[102, 97, 108, 115, 101]⟩ = some (1, false, 0, ⟨#[]⟩) := by kernel_rfl
theorem guess_show (k : Int) (b : Bool) (n : Int) (t : ByteArray) (hr : right k b n t = true) (h : inr n) (j : Nat) (hj : 1000 ≤ j) : value_guess.f j (showV k b n t) = some (k, b, n, t) := by
  have hsz := show_size k b n t h
  unfold showV at hsz ⊢
  rw [if_pos hr] at hsz ⊢
  rcases right_cases hr with ⟨e, e2, e3, e4⟩ | ⟨e, e2, e3⟩ | ⟨e, e2, e3⟩ | ⟨e, e2, e3, hs⟩
  · subst e e2 e3 e4
    exact up (f := fun j => value_guess.f j ⟨#[110, 117, 108, 108]⟩) (fun k => value_guess.mono _ k) (show 10 ≤ j by omega) null_guess
  · subst e e2 e3
    cases b
    · exact up (f := fun j => value_guess.f j ⟨#[102, 97, 108, 115, 101]⟩) (fun k => value_guess.mono _ k) (show 10 ≤ j by omega) false_guess
    · exact up (f := fun j => value_guess.f j ⟨#[116, 114, 117, 101]⟩) (fun k => value_guess.mono _ k) (show 10 ≤ j by omega) true_guess
  · subst e e2 e3
    have hp := parse_itoa n h.1 h.2
    rw [if_neg (by decide), if_pos rfl] at hsz ⊢
    unfold value_guess.f
    rw [if_pos (by omega), tl]
    simp only [List.toList_toArray]
    rw [if_neg, if_neg, hp, if_pos rfl]
    · intro e; rw [e, parse_false] at hp; cases hp
    · intro e; rw [e, parse_true] at hp; cases hp
  · subst e e2 e3
    rw [if_neg (by decide), if_neg (by decide), if_pos rfl] at hsz ⊢
    have hu := unquoted_q t.data.toList (by rw [← size_tl]; omega) j (by rw [← size_tl]; omega)
    unfold value_guess.f
    rw [if_pos (by omega), tl]
    simp only [List.toList_toArray]
    have hp : Lib.parseIntB 64 (quotedL t.data.toList) = .syntax := parse_quote _
    rw [if_neg (by unfold quotedL; intro e; injection e with e; exact absurd e (by decide)), if_neg (by unfold quotedL; intro e; injection e with e; exact absurd e (by decide)), hp, if_neg (by simp), hu]
    rfl
theorem value_read (s : ByteArray) (j : Nat) {k : Int} {b : Bool} {n : Int} {t : ByteArray} (hg : value_guess.f j s = some (k, b, n, t)) (h : inr n) :
    value_Read.f j s = some (if s.toList = [] then (0, false, 0, ⟨#[]⟩, 7) else if (showV k b n t).toList = s.toList then (k, b, n, t, 0) else (0, false, 0, ⟨#[]⟩, 7)) := by
  unfold value_Read.f
  rw [hg]
  simp only [Option.bind_some]
  by_cases he : s.toList = []
  · rw [if_pos he, if_pos he]
  · rw [if_neg he, if_neg he, show_value _ _ _ _ h]
    simp only [Option.bind_some]
    by_cases hs : (showV k b n t).toList = s.toList
    · rw [if_pos hs, if_pos hs]
    · rw [if_neg hs, if_neg hs]
theorem show_ne {k : Int} {b : Bool} {n : Int} {t : ByteArray} (hr : right k b n t = true) : ¬ (showV k b n t).toList = [] := by
  unfold showV
  rw [if_pos hr, tl]
  rcases right_cases hr with ⟨e, e2, e3, e4⟩ | ⟨e, e2, e3⟩ | ⟨e, e2, e3⟩ | ⟨e, e2, e3, hs⟩
  · subst e; intro h; exact absurd (show ([110, 117, 108, 108] : List UInt8) = [] from h) (by decide)
  · subst e; cases b
    · intro h; exact absurd (show ([102, 97, 108, 115, 101] : List UInt8) = [] from h) (by decide)
    · intro h; exact absurd (show ([116, 114, 117, 101] : List UInt8) = [] from h) (by decide)
  · subst e
    rw [if_neg (by decide), if_pos rfl]
    simp only [List.toList_toArray]
    unfold Lib.itoa
    split
    · simp
    · exact dec_ne _
  · subst e
    rw [if_neg (by decide), if_neg (by decide), if_pos rfl]
    simp [quotedL]
theorem value_read_show (k : Int) (b : Bool) (n : Int) (t : ByteArray) (hr : right k b n t = true) (h : inr n) (j : Nat) (hj : 1000 ≤ j) : value_Read.f j (showV k b n t) = some (k, b, n, t, 0) := by
  rw [value_read _ j (guess_show k b n t hr h j hj) h, if_neg (show_ne hr), if_pos rfl]
end Go.Proofs.YtmpohhjfdnjcpaaDoor.Pure
