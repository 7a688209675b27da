/- The plain law of values: any word as a value. -/
import Derived.Test.YtmpohhjfdnjcpaaDoorPv7
import Derived.Test.YtmpohhjfdnjcpaaDoorGx7
namespace Go.Proofs.YtmpohhjfdnjcpaaDoor.Pure
open Go.RowKit Go.Proofs.YtmpohhjfdnjcpaaDoor.G Go.Proofs.YtmpohhjfdnjcpaaDoorW.PrintWords Go.Proofs.YtmpohhjfdnjcpaaDoorW.PrintLast Go.Proofs.YtmpohhjfdnjcpaaDoorW.PrintMore
set_option linter.unusedVariables false
set_option linter.unusedSimpArgs false
abbrev A := Int × Bool × Int × ByteArray × Int
def fail : A := (0, false, 0, ⟨#[]⟩, 7)
/-- an answer that can be: none, or a value that is shown so -/
def sound (s : ByteArray) (r : A) : Prop := r = fail ∨ (r.2.2.2.2 = 0 ∧ inr r.2.2.1 ∧ showV r.1 r.2.1 r.2.2.1 r.2.2.2.1 = s ∧ right r.1 r.2.1 r.2.2.1 r.2.2.2.1 = true)
theorem value_sound (s : ByteArray) (hs : s.size ≤ 1000) (j : Nat) (hj : 2000 ≤ j) : ∃ r, value_Read.f j s = some r ∧ sound s r := by
  obtain ⟨k, b, n, t, hg, hn⟩ := guess_total s hs j (by omega)
  rw [value_read s j hg hn]
  by_cases he : s.toList = []
  · rw [if_pos he]; exact ⟨_, rfl, Or.inl rfl⟩
  · rw [if_neg he]
    by_cases hq : (showV k b n t).toList = s.toList
    · rw [if_pos hq]
      have hq' : showV k b n t = s := ba_eq (by rw [← tl, ← tl]; exact hq)
      exact ⟨_, rfl, Or.inr ⟨rfl, hn, hq', show_right hq' he⟩⟩
    · rw [if_neg hq]; exact ⟨_, rfl, Or.inl rfl⟩
theorem tail_sound (s : ByteArray) (k : Int) (b : Bool) (n : Int) (t : ByteArray) (h : inr n) (j : Nat) (hj : 21 ≤ j) :
    ∃ r, (if s.toList = ([] : List UInt8) then (some ((0, false, 0, (⟨#[]⟩ : ByteArray), 7) : A)) else ((verdererref01_Show.f j k b n t).bind fun t167 => (if t167.toList = s.toList then (some (k, b, n, t, 0)) else (some (0, false, 0, (⟨#[]⟩ : ByteArray), 7))))) = some r ∧ sound s r := by
  rw [show_ref _ _ _ _ h j hj]
  simp only [Option.bind_some]
  by_cases he : s.toList = []
  · rw [if_pos he]; exact ⟨_, rfl, Or.inl rfl⟩
  · rw [if_neg he]
    by_cases hq : (showV k b n t).toList = s.toList
    · rw [if_pos hq]
      have hq' : showV k b n t = s := ba_eq (by rw [← tl, ← tl]; exact hq)
      exact ⟨_, rfl, Or.inr ⟨rfl, h, hq', show_right hq' he⟩⟩
    · rw [if_neg hq]; exact ⟨_, rfl, Or.inl rfl⟩
theorem j1_sound (s : ByteArray) (hs : s.size ≤ 1000) (x : Bool) (hx : x = true → 1 ≤ s.size) (j : Nat) (hj : 1998 ≤ j) : ∃ r, verdererref01_Read.j1 j s x 0 false 0 ⟨#[]⟩ = some r ∧ sound s r := by
  rw [show j = (j - 1) + 1 by omega, verdererref01_Read.j1]
  by_cases hb : x = true
  · obtain ⟨t, ht⟩ := runquoted_total s (by omega) (hx hb) (j - 1) (by omega)
    rw [if_pos hb, ht]
    simp only [Option.bind_some]
    exact tail_sound s 3 false 0 t (by unfold inr; omega) (j - 1) (by omega)
  · rw [if_neg hb]
    exact tail_sound s 0 false 0 ⟨#[]⟩ (by unfold inr; omega) (j - 1) (by omega)
theorem j0_sound (s : ByteArray) (hs : s.size ≤ 1000) (n : Int) (hn : inr n) (ok x : Bool) (j : Nat) (hj : 1999 ≤ j) : ∃ r, verdererref01_Read.j0 j s n ok x 0 false 0 ⟨#[]⟩ = some r ∧ sound s r := by
  rw [show j = (j - 1) + 1 by omega, verdererref01_Read.j0]
  by_cases hx : x = true
  · rw [if_pos hx]
    exact tail_sound s 1 _ 0 ⟨#[]⟩ (by unfold inr; omega) (j - 1) (by omega)
  · rw [if_neg hx]
    by_cases hok : ok = true
    · rw [if_pos hok]
      exact tail_sound s 2 false n ⟨#[]⟩ hn (j - 1) (by omega)
    · rw [if_neg hok]
      by_cases h2 : (s.size : Int) ≥ 2
      · rw [if_pos h2, if_pos (by omega)]
        by_cases h3 : bt s 0 = 34
        · rw [if_pos h3]; exact j1_sound s hs _ (fun _ => by omega) (j - 1) (by omega)
        · rw [if_neg h3]; exact j1_sound s hs _ (fun h => by cases h) (j - 1) (by omega)
      · rw [if_neg h2]; exact j1_sound s hs _ (fun h => by cases h) (j - 1) (by omega)
theorem ref_sound (s : ByteArray) (hs : s.size ≤ 1000) (j : Nat) (hj : 2000 ≤ j) : ∃ r, verdererref01_Read.f j s = some r ∧ sound s r := by
  obtain ⟨n, ok, hN, hn⟩ := number_total s (by omega) j (by omega)
  unfold verdererref01_Read.f
  rw [hN]
  simp only [Option.bind_some]
  by_cases h1 : s.toList = ([116, 114, 117, 101] : List UInt8)
  · rw [if_pos h1]; exact j0_sound s hs n hn ok _ j (by omega)
  · rw [if_neg h1]; exact j0_sound s hs n hn ok _ j (by omega)
theorem number_quoted (s : ByteArray) (r : List UInt8) (h : s.data.toList = 34 :: r) (hs : s.size ≤ 1000) (j : Nat) (hj : 10 ≤ j) : verdererref01_Number.f j s = some (0, false) := by
  have hl : 0 < s.size := by rw [size_tl, h]; simp
  have b0 : bt s 0 = 34 := by
    have := bt_at_nat s 0 (by rw [← size_tl]; exact hl)
    simp only [h] at this
    exact this
  have hw : wrap64 ((s.size : Int) - 0) = s.size := by unfold wrap64; omega
  unfold verdererref01_Number.f
  rw [if_pos (by omega), if_pos (by omega), b0, show j = (j - 4) + 1 + 1 + 1 + 1 by omega]
  rw [verdererref01_Number.j0, if_neg (by decide), verdererref01_Number.j1, if_neg (by omega), hw, verdererref01_Number.j2]
  by_cases h19 : (s.size : Int) > 19
  · rw [if_pos (decide_eq_true h19)]
  · rw [if_neg (by simpa using h19), verdererref01_Number.l0, if_pos (by omega), if_pos (by omega), b0, if_pos (by omega)]
theorem null_read : verdererref01_Read.f 60 ⟨#[110, 117, 108, 108]⟩ = some (0, false, 0, ⟨#[]⟩, 0) := by kernel_rfl
theorem true_read : verdererref01_Read.f 60 ⟨#[116, 114, 117, 101]⟩ = some (1, true, 0, ⟨#[]⟩, 0) := by kernel_rfl
theorem false_read : verdererref01_Read.f 60 ⟨#[102, 97, 108, 115, 101]⟩ = some (1, false, 0, ⟨#[]⟩, 0) := by kernel_rfl
theorem tail_show (k : Int) (b : Bool) (n : Int) (t : ByteArray) (h : inr n) (hr : right k b n t = true) (j : Nat) (hj : 21 ≤ j) :
    (if (showV k b n t).toList = ([] : List UInt8) then (some ((0, false, 0, (⟨#[]⟩ : ByteArray), 7) : A)) else ((verdererref01_Show.f j k b n t).bind fun t167 => (if t167.toList = (showV k b n t).toList then (some (k, b, n, t, 0)) else (some (0, false, 0, (⟨#[]⟩ : ByteArray), 7))))) = some (k, b, n, t, 0) := by
  rw [show_ref _ _ _ _ h j hj, if_neg (show_ne hr)]
  rw [Option.bind_some, if_pos rfl]
theorem ref_read_show (k : Int) (b : Bool) (n : Int) (t : ByteArray) (hr : right k b n t = true) (h : inr n) (j : Nat) (hj : 2000 ≤ j) : verdererref01_Read.f j (showV k b n t) = some (k, b, n, t, 0) := by
  have hsz := show_size k b n t h
  have htail := tail_show k b n t h hr
  rcases right_cases hr with ⟨e, e2, e3, e4⟩ | ⟨e, e2, e3⟩ | ⟨e, e2, e3⟩ | ⟨e, e2, e3, hs⟩
  · subst e e2 e3 e4
    exact up (f := fun j => verdererref01_Read.f j ⟨#[110, 117, 108, 108]⟩) (fun k => verdererref01_Read.mono _ k) (show 60 ≤ j by omega) null_read
  · subst e e2 e3
    cases b
    · exact up (f := fun j => verdererref01_Read.f j ⟨#[102, 97, 108, 115, 101]⟩) (fun k => verdererref01_Read.mono _ k) (show 60 ≤ j by omega) false_read
    · exact up (f := fun j => verdererref01_Read.f j ⟨#[116, 114, 117, 101]⟩) (fun k => verdererref01_Read.mono _ k) (show 60 ≤ j by omega) true_read
  · subst e e2 e3
    have hp := parse_itoa n h.1 h.2
    have hS : showV 2 false n ⟨#[]⟩ = ⟨(Lib.itoa n).toArray⟩ := by unfold showV; rw [if_pos hr, if_neg (by decide), if_pos rfl]
    have hN := number_itoa n h.1 h.2 j (by omega)
    rw [← hS] at hN
    have ht : ¬ (showV 2 false n ⟨#[]⟩).toList = ([116, 114, 117, 101] : List UInt8) := by
      rw [hS, tl]; simp only [List.toList_toArray]
      intro e; rw [e, parse_true] at hp; cases hp
    have hf : ¬ (showV 2 false n ⟨#[]⟩).toList = ([102, 97, 108, 115, 101] : List UInt8) := by
      rw [hS, tl]; simp only [List.toList_toArray]
      intro e; rw [e, parse_false] at hp; cases hp
    unfold verdererref01_Read.f
    rw [hN]
    simp only [Option.bind_some]
    rw [if_neg ht, show j = (j - 1) + 1 by omega, verdererref01_Read.j0, if_neg (by simpa using hf), if_pos rfl]
    exact htail (j - 1) (by omega)
  · subst e e2 e3
    have hS : showV 3 false 0 t = ⟨(quotedL t.data.toList).toArray⟩ := by unfold showV; rw [if_pos hr, if_neg (by decide), if_neg (by decide), if_pos rfl]
    have hu := runquoted_q t.data.toList (by rw [← size_tl]; omega) (j - 2) (by rw [← size_tl]; omega)
    rw [← hS] at hu
    have hd : (showV 3 false 0 t).data.toList = 34 :: (t.data.toList.flatMap qByte ++ [34]) := by rw [hS]; simp [quotedL]
    have hN := number_quoted _ _ hd (by omega) j (by omega)
    have h2 : 2 ≤ (showV 3 false 0 t).size := by rw [size_tl, hd]; simp
    have b0 : bt (showV 3 false 0 t) 0 = 34 := by
      have := bt_at_nat (showV 3 false 0 t) 0 (by rw [← size_tl]; omega)
      simp only [hd] at this
      exact this
    have ht : ¬ (showV 3 false 0 t).toList = ([116, 114, 117, 101] : List UInt8) := by
      rw [tl, hd]; intro e; injection e with e; exact absurd e (by decide)
    have hf : ¬ (showV 3 false 0 t).toList = ([102, 97, 108, 115, 101] : List UInt8) := by
      rw [tl, hd]; intro e; injection e with e; exact absurd e (by decide)
    unfold verdererref01_Read.f
    rw [hN]
    simp only [Option.bind_some]
    rw [if_neg ht, show j = (j - 2) + 1 + 1 by omega, verdererref01_Read.j0, if_neg (by simpa using hf), if_neg (by decide), if_pos (by omega), if_pos (by omega), b0, if_pos rfl, verdererref01_Read.j1,
      if_pos (decide_eq_true (by omega)), hu]
    simp only [Option.bind_some]
    exact htail (j - 2) (by omega)
theorem same (s : ByteArray) (hs : s.size ≤ 1000) : ∃ r, value_Read.f 2000 s = some r ∧ verdererref01_Read.f 2000 s = some r ∧ sound s r := by
  obtain ⟨r, hr, h1⟩ := value_sound s hs 2000 (by omega)
  obtain ⟨q, hq, h2⟩ := ref_sound s hs 2000 (by omega)
  rcases h1 with e | ⟨e0, en, es, er⟩
  · rcases h2 with f | ⟨f0, fn, fs, fr⟩
    · exact ⟨r, hr, by rw [hq, f, e], Or.inl e⟩
    · obtain ⟨k, b, n, t, x⟩ := q
      simp only at f0 fn fs fr
      subst f0
      have := value_read_show k b n t fr fn 2000 (by omega)
      rw [fs, hr] at this
      injection this with this
      subst this
      exact ⟨_, hr, hq, Or.inr ⟨rfl, fn, fs, fr⟩⟩
  · obtain ⟨k, b, n, t, x⟩ := r
    simp only at e0 en es er
    subst e0
    have := ref_read_show k b n t er en 2000 (by omega)
    rw [es] at this
    exact ⟨_, hr, this, Or.inr ⟨rfl, en, es, er⟩⟩
theorem reads (a0 : ByteArray) : ∃ k, verdererlaw01_ValueReads.f k a0 = some true := by
  refine ⟨2000, ?_⟩
  unfold verdererlaw01_ValueReads.f
  by_cases hs : (a0.size : Int) > 1000
  · rw [if_pos hs]; rfl
  · rw [if_neg hs]
    obtain ⟨r, h1, h2, h3⟩ := same a0 (by omega)
    rw [h1, h2]
    obtain ⟨k, b, n, t, x⟩ := r
    simp only [Option.bind_some, beq_self_eq_true, Bool.and_self, if_true, verdererlaw01_known.f]
    by_cases hx : x = 0
    · rw [if_pos hx]
      rcases h3 with e | ⟨_, en, es, _⟩
      · injection e with _ e
        injection e with _ e
        injection e with _ e
        injection e with _ e
        subst e
        exact absurd hx (by decide)
      · simp only at en es
        rw [show_value _ _ _ _ en, es]
        simp
    · rw [if_neg hx]
end Go.Proofs.YtmpohhjfdnjcpaaDoor.Pure
