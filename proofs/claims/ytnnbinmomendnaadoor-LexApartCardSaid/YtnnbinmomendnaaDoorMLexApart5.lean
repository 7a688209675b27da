/- A text of the proof that the law LexApart returns true: nothing is assumed in it. -/
import Derived.Test.YtnnbinmomendnaaDoorMLexApart4
import Derived.RangeFuncKeeps
import Derived.RangeFuncLeaves
import Derived.Shelf.Abstract
import Derived.WalkKit
import Derived.OwnWalkIn
import Derived.TacticsInMore
import Derived.LoopNIn
import Derived.LoopIn
import Derived.Test.YtnnbinmomendnaaDoorMLexApart3
import Derived.RangeFuncNested
import Derived.Maps.OwnIn
import Derived.Test.YtnnbinmomendnaaDoorProg
import Derived.KernelRfl
import Derived.Test.YtnnbinmomendnaaDoorRows
import Derived.Test.YtnnbinmomendnaaDoorMLexApart1
import Derived.Stop.LaidErr
import Derived.Lib.LaidTab
import Derived.LaidLaws
set_option linter.unusedVariables false
set_option linter.unusedSimpArgs false
namespace Go.Proofs.YtnnbinmomendnaaDoor.E
open Go.RowKit
variable {R : Type}
def hexB : ByteArray := ⟨#[48, 49, 50, 51, 52, 53, 54, 55, 56, 57, 97, 98, 99, 100, 101, 102]⟩
theorem ixb_F (n : Nat) (s : ByteArray) (c : Int) (k : Int → Option R) : strings_IndexByte_F n s c k = k (idxB s c) := by
  rw [strings_IndexByte_e]
  unfold strings_IndexByte_Fi
  rw [stringslite_IndexByte_e]
  unfold stringslite_IndexByte_Fi
  rw [bytealg_IndexByteString_e]
  unfold bytealg_IndexByteString_Fi
  rfl
theorem idx_hex (i : Nat) (h : i < 16) : idxB hexB ((hexd i).toNat : Int) = (i : Int) := by
  have : ∀ i : Fin 16, idxB hexB ((hexd i.val).toNat : Int) = (i.val : Int) := by decide +kernel
  exact this ⟨i, h⟩
theorem hex_two (x : Nat) (h : x < 256) : IntKind.u8.wrap (bitsI .or .i64 (shlI .i64 ((x / 16 : Nat) : Int) 4) ((x % 16 : Nat) : Int)) = (x : Int) := by
  have : ∀ x : Fin 256, IntKind.u8.wrap (bitsI .or .i64 (shlI .i64 ((x.val / 16 : Nat) : Int) 4) ((x.val % 16 : Nat) : Int)) = (x.val : Int) := by decide +kernel
  exact this ⟨x, h⟩
/-- the byte that a quoted text goes on with -/
def nextS (s : ByteArray) : Int × ByteArray × Bool :=
  if byteAt s 0 ≠ 92 then (byteAt s 0, s.extract 1 s.size, true)
  else if 1 < s.size ∧ byteAt s 1 ≠ 120 then (byteAt s 1, s.extract 2 s.size, true)
  else if s.size < 4 then (0, (⟨#[]⟩ : ByteArray), false)
  else (IntKind.u8.wrap (bitsI .or .i64 (shlI .i64 (idxB hexB (byteAt s 2)) 4) (idxB hexB (byteAt s 3))), s.extract 4 s.size, decide (idxB hexB (byteAt s 2) ≥ 0) && decide (idxB hexB (byteAt s 3) ≥ 0))
theorem nextS_size (s : ByteArray) (h : 0 < s.size) : (nextS s).2.1.size < s.size := by
  unfold nextS
  split
  · show (s.extract 1 s.size).size < _; rw [ByteArray.size_extract]; omega
  · split
    · show (s.extract 2 s.size).size < _; rw [ByteArray.size_extract]; omega
    · split
      · exact h
      · show (s.extract 4 s.size).size < _; rw [ByteArray.size_extract]; omega
theorem next_F (n : Nat) (s : ByteArray) (h : 0 < s.size) (k : Int → ByteArray → Bool → Option R) : value_next_F n s k = k (nextS s).1 (nextS s).2.1 (nextS s).2.2 := by
  rw [value_next_e]
  unfold value_next_Fi nextS
  have c1 : (0 : Int) < (s.size : Int) := by omega
  by_cases h0 : byteAt s 0 = 92
  · have e0 : (byteAt s 0 != 92) = false := by rw [h0]; rfl
    have n0 : ¬ byteAt s 0 ≠ 92 := fun hh => hh h0
    simp only [Int.le_refl, if_true, c1, e0, Bool.false_eq_true, if_false, n0]
    by_cases h1 : 1 < s.size
    · have g1 : (s.size : Int) > 1 := by omega
      have g2 : (1 : Int) < (s.size : Int) := by omega
      simp only [g1, decide_true, if_true, g2, show (0 : Int) ≤ 1 by decide]
      by_cases h2 : byteAt s 1 = 120
      · have e1 : (byteAt s 1 != 120) = false := by rw [h2]; rfl
        have n1 : ¬ (1 < s.size ∧ byteAt s 1 ≠ 120) := fun hh => hh.2 h2
        simp only [e1, Bool.false_eq_true, if_false, n1]
        by_cases h4 : s.size < 4
        · have g4 : (s.size : Int) < 4 := by omega
          simp only [g4, decide_true, if_true, h4]
        · have g4 : ¬ (s.size : Int) < 4 := by omega
          have g5 : (2 : Int) < (s.size : Int) := by omega
          have g6 : (3 : Int) < (s.size : Int) := by omega
          have g7 : (0 : Int) ≤ 4 ∧ (4 : Int) ≤ (s.size : Int) := by omega
          simp only [g4, decide_false, Bool.false_eq_true, if_false, h4, show (0 : Int) ≤ 2 by decide, show (0 : Int) ≤ 3 by decide, if_true, g5, g6, ixb_F, g7, and_self]
          by_cases hh : idxB hexB (byteAt s 2) ≥ 0
          · have hh' : idxB (⟨#[48, 49, 50, 51, 52, 53, 54, 55, 56, 57, 97, 98, 99, 100, 101, 102]⟩ : ByteArray) (byteAt s 2) ≥ 0 := hh
            simp only [hh, hh', decide_true, if_true, Bool.true_and]
            rfl
          · have hh' : ¬ idxB (⟨#[48, 49, 50, 51, 52, 53, 54, 55, 56, 57, 97, 98, 99, 100, 101, 102]⟩ : ByteArray) (byteAt s 2) ≥ 0 := hh
            simp only [hh, hh', decide_false, Bool.false_eq_true, if_false, Bool.false_and]
            rfl
      · have e1 : (byteAt s 1 != 120) = true := bne_iff_ne.2 h2
        have n1 : 1 < s.size ∧ byteAt s 1 ≠ 120 := ⟨h1, h2⟩
        have g7 : (0 : Int) ≤ 2 ∧ (2 : Int) ≤ (s.size : Int) := by omega
        simp only [e1, if_true, n1, g7, and_self, ne_eq, not_false_eq_true]
        rfl
    · have g1 : ¬ (s.size : Int) > 1 := by omega
      have n1 : ¬ (1 < s.size ∧ byteAt s 1 ≠ 120) := fun hh => h1 hh.1
      have g4 : (s.size : Int) < 4 := by omega
      have h4 : s.size < 4 := by omega
      simp only [g1, decide_false, Bool.false_eq_true, if_false, n1, g4, decide_true, if_true, h4]
  · have e0 : (byteAt s 0 != 92) = true := bne_iff_ne.2 h0
    have g7 : (0 : Int) ≤ 1 ∧ (1 : Int) ≤ (s.size : Int) := by omega
    simp only [Int.le_refl, if_true, c1, e0, h0, ne_eq, not_false_eq_true, g7, and_self]
    rfl
/-- the bytes behind the first quote -/
def unqS : Nat → ByteArray → List Int → Option (List Int)
  | 0, _, acc => some acc
  | f + 1, s, acc => if s.size = 0 then some acc else if (nextS s).2.2 = true then unqS f (nextS s).2.1 (acc ++ [(nextS s).1]) else none
def unqP (s : ByteArray) : Option ByteArray :=
  if s.size < 2 ∨ byteAt s 0 ≠ 34 ∨ byteAt s ((s.size : Int) - 1) ≠ 34 then none else (unqS s.size (s.extract 1 (s.size - 1)) []).map strOfNums
theorem unq_loop (n : Nat) (k2 : exK R (value_unquoted_dx 5)) : ∀ (f m : Nat) (s : ByteArray) (acc : List Int), s.size ≤ f → f < m → acc.length + s.size ≤ 100000 →
    runC (value_unquoted_l5 n) m (s, acc, ()) k2 = match unqS (f + 1) s acc with
      | some l => k2.2.1 (l, ())
      | none => k2.1 ((⟨#[]⟩ : ByteArray), false, ())
  | f, m, s, acc, hf, hm, ha => by
    obtain ⟨m, rfl⟩ : ∃ q, m = q + 1 := ⟨m - 1, by omega⟩
    show value_unquoted_l5 n (s, acc, ()) (fun b => runC (value_unquoted_l5 n) m b k2) k2 = _
    simp only [value_unquoted_l5, value_unquoted_s5, unqS]
    simp only [beqB]
    by_cases h0 : s = (⟨#[]⟩ : ByteArray)
    · have hz : s.size = 0 := (nil_size s).1 h0
      simp only [h0, decide_true, Bool.not_true, Bool.false_eq_true, if_false]
      rfl
    · have hz : ¬ s.size = 0 := fun e => h0 ((nil_size s).2 e)
      obtain ⟨f, rfl⟩ : ∃ q, f = q + 1 := ⟨f - 1, by omega⟩
      simp only [h0, decide_false, Bool.not_false, if_true, hz, if_false]
      rw [next_F n s (by omega)]
      have hn := nextS_size s (by omega)
      cases hk : (nextS s).2.2 with
      | false => rfl
      | true =>
        simp only [Bool.not_true, Bool.false_eq_true, if_false, if_true, List.length_cons, List.length_nil]
        rw [if_pos (by omega)]
        exact unq_loop n k2 f m (nextS s).2.1 (acc ++ [(nextS s).1]) (by omega) (by omega) (by simp; omega)
theorem unqP_F (n : Nat) (s : ByteArray) (hs : s.size ≤ 1000) (hn : 2000 < n) (k : ByteArray → Bool → Option R) : value_unquoted_F n s k = match unqP s with
    | some t => k t true
    | none => k (⟨#[]⟩ : ByteArray) false := by
  rw [value_unquoted_e]
  unfold value_unquoted_Fi unqP
  by_cases h2 : s.size < 2
  · have g2 : (s.size : Int) < 2 := by omega
    simp only [g2, decide_true, if_true, h2, true_or]
  · have g2 : ¬ (s.size : Int) < 2 := by omega
    have c1 : (0 : Int) < (s.size : Int) := by omega
    simp only [g2, decide_false, Bool.false_eq_true, if_false, Int.le_refl, if_true, c1, h2, false_or, wm s.size (by omega)]
    by_cases h0 : byteAt s 0 = 34
    · have e0 : (byteAt s 0 != 34) = false := by rw [h0]; rfl
      have c2 : (0 : Int) ≤ (s.size : Int) - 1 := by omega
      have c3 : (s.size : Int) - 1 < (s.size : Int) := by omega
      simp only [e0, Bool.false_eq_true, if_false, c2, c3, if_true, h0, ne_eq, not_true_eq_false, false_or]
      by_cases h1 : byteAt s ((s.size : Int) - 1) = 34
      · have e1 : (byteAt s ((s.size : Int) - 1) != 34) = false := by rw [h1]; rfl
        have c4 : (s.size : Int) - 1 ≤ (s.size : Int) := by omega
        have e5 : Int.toNat ((s.size : Int) - 1) = s.size - 1 := by omega
        have c5 : (1 : Int) ≤ ((s.size - 1 : Nat) : Int) := by omega
        simp only [e1, Bool.false_eq_true, if_false, c4, and_self, if_true, e5, show (0 : Int) ≤ 1 by decide, c5, h1, not_true_eq_false]
        obtain ⟨q, hq⟩ : ∃ q, s.size = q + 1 := ⟨s.size - 1, by omega⟩
        have hx : (s.extract 1 (s.size - 1)).size = s.size - 2 := by rw [ByteArray.size_extract]; omega
        refine (unq_loop n _ q n (s.extract 1 (s.size - 1)) [] (by omega) (by omega) (by simp; omega)).trans ?_
        rw [← hq]
        cases unqS s.size (s.extract 1 (s.size - 1)) [] <;> rfl
      · have e1 : (byteAt s ((s.size : Int) - 1) != 34) = true := bne_iff_ne.2 h1
        simp only [e1, if_true, h1, not_false_eq_true]
        split <;> rfl
    · have e0 : (byteAt s 0 != 34) = true := bne_iff_ne.2 h0
      simp only [e0, if_true, h0, ne_eq, not_false_eq_true, true_or]
end Go.Proofs.YtnnbinmomendnaaDoor.E
namespace Go.Proofs.YtnnbinmomendnaaDoor.E
open Go.RowKit
variable {R : Type}
theorem mkB_at (l : List UInt8) (i : Nat) (c : UInt8) (h : l[i]? = some c) : byteAt (mkB l) (i : Int) = (c.toNat : Int) := byteAt_q _ _ _ (by simpa [mkB] using h)
theorem mkB_drop (l m : List UInt8) : (mkB (l ++ m)).extract l.length (mkB (l ++ m)).size = mkB m := by
  rw [mkB_size, List.length_append]
  apply ba_eq
  simp [mkB]
theorem nextS_q (c : UInt8) (r : List UInt8) : nextS (mkB (qByte c ++ r)) = ((c.toNat : Int), mkB r, true) := by
  unfold nextS
  rcases qByte_cases c with ⟨e, h⟩ | e | ⟨e, h, h'⟩
  · have b0 : byteAt (mkB (qByte c ++ r)) 0 = 92 := mkB_at _ 0 92 (by rw [e]; rfl)
    have b1 : byteAt (mkB (qByte c ++ r)) 1 = (c.toNat : Int) := mkB_at _ 1 c (by rw [e]; rfl)
    have hs : 1 < (mkB (qByte c ++ r)).size := by rw [mkB_size, e]; simp
    have hne : (c.toNat : Int) ≠ 120 := by rcases h with rfl | rfl <;> decide
    have hd := mkB_drop (qByte c) r
    rw [show (qByte c).length = 2 from by rw [e]; rfl] at hd
    rw [if_neg (by simp [b0]), if_pos ⟨hs, by rw [b1]; exact hne⟩, b1, hd]
  · have b0 : byteAt (mkB (qByte c ++ r)) 0 = 92 := mkB_at _ 0 92 (by rw [e]; rfl)
    have b1 : byteAt (mkB (qByte c ++ r)) 1 = 120 := mkB_at _ 1 120 (by rw [e]; rfl)
    have b2 : byteAt (mkB (qByte c ++ r)) 2 = ((hexd (c.toNat / 16)).toNat : Int) := mkB_at _ 2 _ (by rw [e]; rfl)
    have b3 : byteAt (mkB (qByte c ++ r)) 3 = ((hexd (c.toNat % 16)).toNat : Int) := mkB_at _ 3 _ (by rw [e]; rfl)
    have hs : ¬ (mkB (qByte c ++ r)).size < 4 := by rw [mkB_size, e]; simp
    have hc : c.toNat < 256 := c.toNat_lt
    have hd := mkB_drop (qByte c) r
    rw [show (qByte c).length = 4 from by rw [e]; rfl] at hd
    rw [if_neg (by simp [b0]), if_neg (by simp [b1]), if_neg hs, b2, b3, hd, idx_hex _ (by omega), idx_hex _ (by omega), hex_two _ hc, decide_eq_true (by omega), decide_eq_true (by omega)]
    rfl
  · have b0 : byteAt (mkB (qByte c ++ r)) 0 = (c.toNat : Int) := mkB_at _ 0 c (by rw [e]; rfl)
    have hne : (c.toNat : Int) ≠ 92 := fun h' => h (UInt8.toNat_inj.1 (show c.toNat = 92 by omega))
    have hd := mkB_drop (qByte c) r
    rw [show (qByte c).length = 1 from by rw [e]; rfl] at hd
    rw [if_pos (by rw [b0]; exact hne), b0, hd]
theorem unqS_q : ∀ (t : List UInt8) (f : Nat) (acc : List Int), t.length < f → unqS f (mkB (t.flatMap qByte)) acc = some (acc ++ t.map fun c => (c.toNat : Int))
  | [], f, acc, hf => by
    obtain ⟨f, rfl⟩ : ∃ q, f = q + 1 := ⟨f - 1, by omega⟩
    rw [unqS, if_pos (by rw [mkB_size]; rfl)]
    simp
  | c :: t, f, acc, hf => by
    obtain ⟨f, rfl⟩ : ∃ q, f = q + 1 := ⟨f - 1, by omega⟩
    simp only [List.length_cons] at hf
    have hz : ¬ (mkB ((c :: t).flatMap qByte)).size = 0 := by
      rw [mkB_size, List.flatMap_cons, List.length_append]
      rcases qByte_cases c with ⟨e, _⟩ | e | ⟨e, _⟩ <;> rw [e] <;> simp
    rw [unqS, if_neg hz, List.flatMap_cons, nextS_q, if_pos rfl]
    show unqS f (mkB (t.flatMap qByte)) (acc ++ [(c.toNat : Int)]) = _
    rw [unqS_q t f _ (by omega)]
    simp
theorem flat_ge (t : List UInt8) : t.length ≤ (t.flatMap qByte).length := by
  induction t with
  | nil => simp
  | cons c t ih =>
    simp only [List.flatMap_cons, List.length_append, List.length_cons]
    rcases qByte_cases c with ⟨e, _⟩ | e | ⟨e, _⟩ <;> rw [e] <;> simp only [List.length_cons, List.length_nil] <;> omega
theorem unqP_q (t : ByteArray) : unqP (mkB (quotedL t.data.toList)) = some t := by
  have sz : (mkB (quotedL t.data.toList)).size = (t.data.toList.flatMap qByte).length + 2 := by rw [mkB_size]; simp [quotedL]
  have b0 : byteAt (mkB (quotedL t.data.toList)) 0 = 34 := mkB_at _ 0 34 rfl
  have b1 : byteAt (mkB (quotedL t.data.toList)) (((mkB (quotedL t.data.toList)).size : Int) - 1) = 34 := by
    have : (((mkB (quotedL t.data.toList)).size : Int) - 1) = (((t.data.toList.flatMap qByte).length + 1 : Nat) : Int) := by rw [sz]; omega
    rw [this]
    exact mkB_at _ _ 34 (by simp [quotedL])
  have ex : (mkB (quotedL t.data.toList)).extract 1 ((mkB (quotedL t.data.toList)).size - 1) = mkB (t.data.toList.flatMap qByte) := by
    rw [sz]
    apply ba_eq
    simp [mkB, quotedL]
  unfold unqP
  rw [if_neg (by rw [b0, b1]; simp [sz]), ex, unqS_q _ _ _ (by have := flat_ge t.data.toList; omega)]
  simp only [List.nil_append, Option.map_some]
  rw [nums_back, mkB_id]
/-- what the program guesses -/
def guessP (s : ByteArray) : ty34.D :=
  if s = trueB then (1, true, 0, (⟨#[]⟩ : ByteArray), ()) else if s = falseB then (1, false, 0, (⟨#[]⟩ : ByteArray), ()) else if piE s = false then (2, false, piV s, (⟨#[]⟩ : ByteArray), ()) else match unqP s with
    | some t => (3, false, 0, t, ())
    | none => zV
theorem guess_F (n : Nat) (s : ByteArray) (hs : s.size ≤ 1000) (hn : 2000 < n) (k : ty34.D → Option R) : value_guess_F n s k = k (guessP s) := by
  rw [value_guess_e]
  unfold value_guess_Fi guessP
  simp only [beqB, boolP_F, intP_F, textP_F, nullP_F]
  by_cases h1 : s = trueB
  · have h1' : s = (⟨#[116, 114, 117, 101]⟩ : ByteArray) := h1
    rw [if_pos (decide_eq_true h1'), if_pos h1, decide_eq_true h1']
  · have h1' : ¬ s = (⟨#[116, 114, 117, 101]⟩ : ByteArray) := h1
    rw [if_neg (by simpa using h1'), if_neg h1]
    by_cases h2 : s = falseB
    · have h2' : s = (⟨#[102, 97, 108, 115, 101]⟩ : ByteArray) := h2
      rw [if_pos (decide_eq_true h2'), if_pos h2, decide_eq_false h1']
    · have h2' : ¬ s = (⟨#[102, 97, 108, 115, 101]⟩ : ByteArray) := h2
      rw [if_neg (by simpa using h2'), if_neg h2, pi_F _ _ hs]
      cases hp : piE s with
      | false => rfl
      | true =>
        simp only [Bool.not_true, Bool.false_eq_true, if_false, Bool.true_eq_false]
        rw [unqP_F n s hs hn]
        cases unqP s <;> rfl
theorem piE_ok {s : ByteArray} {x : Int} (h : Lib.parseIntB 64 s.data.toList = .ok x) : piE s = false ∧ piV s = x := by
  unfold piE piV
  rw [h]
  exact ⟨rfl, rfl⟩
theorem piE_no {s : ByteArray} (h : ∀ x, Lib.parseIntB 64 s.data.toList ≠ .ok x) : piE s = true := by
  unfold piE
  split
  · rename_i v hv
    exact absurd hv (h v)
  · rfl
theorem parse_bad (c : UInt8) (r : List UInt8) (h : ¬ (48 ≤ c.toNat ∧ c.toNat ≤ 57)) (h1 : c.toNat ≠ 43) (h2 : c.toNat ≠ 45) (x : Int) : Lib.parseIntB 64 (c :: r) ≠ .ok x := by
  simp only [Lib.parseIntB, h1, h2, or_self, if_false, Lib.parseUintB, reduceCtorEq, Lib.parseUintM, h, not_false_eq_true]
  simp
theorem piV_rng (s : ByteArray) (h : piE s = false) : inR (piV s) := by
  unfold piE at h
  split at h
  · rename_i v hv
    have := parse_range _ _ hv
    rw [(piE_ok hv).2]
    exact this
  · cases h
theorem guessP_ok : Guess guessP := by
  intro s hs
  refine ⟨?_, ?_⟩
  · unfold guessP
    split
    · exact ⟨by show (-9223372036854775808 : Int) ≤ 0; decide, by show (0 : Int) ≤ 9223372036854775807; decide⟩
    · split
      · exact ⟨by show (-9223372036854775808 : Int) ≤ 0; decide, by show (0 : Int) ≤ 9223372036854775807; decide⟩
      · split
        · rename_i h
          exact piV_rng s h
        · split
          · exact ⟨by show (-9223372036854775808 : Int) ≤ 0; decide, by show (0 : Int) ≤ 9223372036854775807; decide⟩
          · exact ⟨by show (-9223372036854775808 : Int) ≤ 0; decide, by show (0 : Int) ≤ 9223372036854775807; decide⟩
  · rintro v ⟨h1, h2, h3⟩
    subst h3
    rcases right_cases h1 with rfl | ⟨b, rfl⟩ | ⟨x, rfl⟩ | ⟨t, ht, rfl⟩
    · rw [show_null]
      unfold guessP
      rw [if_neg (by decide), if_neg (by decide), if_neg (by rw [piE_no (fun x => parse_bad 110 _ (by decide) (by decide) (by decide) x)]; decide)]
      have : unqP ⟨#[110, 117, 108, 108]⟩ = none := by
        unfold unqP
        rw [if_pos (.inr (.inl (by decide)))]
      rw [this]
    · rw [show_bool]
      cases b
      · unfold guessP
        rw [if_neg (by decide), if_pos (by rfl)]
      · unfold guessP
        rw [if_pos (by rfl)]
    · rw [show_num]
      have h2' : inR x := h2
      have e := parse_itoa x h2'.1 h2'.2
      obtain ⟨e1, e2⟩ := piE_ok (s := numS x) e
      unfold guessP
      rw [if_neg (numS_ne x h2' trueB 116 rfl (by unfold dig; decide)), if_neg (numS_ne x h2' falseB 102 rfl (by unfold dig; decide)), if_pos e1, e2]
    · rw [show_text t ht]
      unfold guessP
      have hne : ∀ (l : List UInt8) (c : UInt8) (r : List UInt8), l = c :: r → c ≠ 34 → mkB (quotedL t.data.toList) ≠ mkB l := by
        intro l c r hl hc he
        have := congrArg (fun s : ByteArray => s.data.toList) he
        simp only [mkB, hl, quotedL] at this
        injection this with h5 h6
        exact hc h5.symm
      have g1 : ¬ mkB (quotedL t.data.toList) = trueB := hne [116, 114, 117, 101] 116 _ rfl (by decide)
      have g2 : ¬ mkB (quotedL t.data.toList) = falseB := hne [102, 97, 108, 115, 101] 102 _ rfl (by decide)
      rw [if_neg g1, if_neg g2, if_neg (by rw [piE_no (fun x => parse_bad 34 _ (by decide) (by decide) (by decide) x)]; decide), unqP_q]
theorem readP_F (n : Nat) (s : ByteArray) (hs : s.size ≤ 1000) (hn : 2000 < n) (k : ty34.D → Int → Option R) : value_Read_F n s k = k (readV s).1 (readV s).2 := by
  rw [readV_guess guessP_ok s hs, value_Read_e]
  unfold value_Read_Fi
  rw [guess_F n s hs hn]
  simp only [beqB]
  by_cases h0 : s = (⟨#[]⟩ : ByteArray)
  · simp only [h0, decide_true, if_true, ne_eq, not_true_eq_false, false_and, if_false]
    rfl
  · simp only [h0, decide_false, Bool.false_eq_true, if_false, ne_eq, not_false_eq_true, true_and]
    rw [showP_F n _ (guessP_ok s hs).1]
    by_cases h1 : showS (guessP s) = s
    · simp only [h1, decide_true, Bool.not_true, Bool.false_eq_true, if_false, if_true]
    · simp only [h1, decide_false, Bool.not_false, if_true, if_false]
      rfl
end Go.Proofs.YtnnbinmomendnaaDoor.E
namespace Go.Proofs.YtnnbinmomendnaaDoor.E
open Go.RowKit
variable {R : Type}
/-! tokens, by the document -/
def scanN (p : Nat → Bool) : Nat → Nat → Nat
  | 0, i => i
  | f + 1, i => if p i = true then scanN p f (i + 1) else i
theorem scanN_le (p : Nat → Bool) : ∀ f i, i ≤ scanN p f i ∧ scanN p f i ≤ i + f
  | 0, i => ⟨Nat.le_refl _, Nat.le_refl _⟩
  | f + 1, i => by
    unfold scanN
    split
    · have := scanN_le p f (i + 1); omega
    · omega
theorem runC_span {α β R : Type} {step : α → (α → Option R) → β → Option R} (k : β) (p : Nat → Bool) (st : Nat → α) (m : Nat) (E : Nat → Option R)
    (hs : ∀ i, i < m → ∀ k1, step (st i) k1 k = if p i = true then k1 (st (i + 1)) else E i) (he : ∀ k1, step (st m) k1 k = E m) {n i : Nat} (hi : i ≤ m) (hn : m - i < n) : runC step n (st i) k = E (scanN p (m - i) i) := by
  have go : ∀ (d i n : Nat), i + d = m → d < n → runC step n (st i) k = E (scanN p d i) := by
    intro d
    induction d with
    | zero =>
      intro i n hi hn
      obtain ⟨n, rfl⟩ : ∃ q, n = q + 1 := ⟨n - 1, by omega⟩
      have : i = m := by omega
      subst this
      exact he _
    | succ d ih =>
      intro i n hi hn
      obtain ⟨n, rfl⟩ : ∃ q, n = q + 1 := ⟨n - 1, by omega⟩
      refine Eq.trans (show _ = step (st i) (fun b => runC step n b k) k from rfl) ((hs i (by omega) _).trans ?_)
      unfold scanN
      split
      · exact ih (i + 1) n (by omega) (by omega)
      · rfl
  exact go (m - i) i n (by omega) hn
/-- a byte of a text, as a number -/
def bt (s : ByteArray) (i : Nat) : Nat := (s.data.toList.getD i 0).toNat
theorem byteAt_bt (s : ByteArray) (i : Nat) : byteAt s (i : Int) = (bt s i : Int) := by unfold byteAt bt; rw [Int.toNat_natCast]
theorem byteAt_0 (s : ByteArray) : byteAt s 0 = (bt s 0 : Int) := byteAt_bt s 0
theorem byteAt_1 (s : ByteArray) : byteAt s 1 = (bt s 1 : Int) := byteAt_bt s 1
def letN (c : Nat) : Bool := decide (97 ≤ c) && decide (c ≤ 122)
def digN (c : Nat) : Bool := decide (48 ≤ c) && decide (c ≤ 57)
def wchN (s : ByteArray) (i : Nat) : Bool := letN (bt s i) || (decide (0 < i) && (digN (bt s i) || decide (bt s i = 95)))
def wordN (s : ByteArray) : Nat := scanN (wchN s) s.size 0
def numN (s : ByteArray) : Nat := scanN (fun i => digN (bt s i)) (s.size - (if bt s 0 = 45 then 1 else 0)) (if bt s 0 = 45 then 1 else 0)
def textN (s : ByteArray) : Nat → Nat → Nat
  | 0, _ => 0
  | f + 1, i => if i < s.size then (if bt s i = 92 then textN s f (i + 2) else if bt s i = 34 then i + 1 else textN s f (i + 1)) else 0
def signN (s : ByteArray) : Nat :=
  if 2 ≤ s.size ∧ bt s 1 = 61 ∧ (bt s 0 = 61 ∨ bt s 0 = 33 ∨ bt s 0 = 60 ∨ bt s 0 = 62) then 2
  else if bt s 0 = 40 ∨ bt s 0 = 41 ∨ bt s 0 = 44 ∨ bt s 0 = 95 ∨ bt s 0 = 60 ∨ bt s 0 = 62 then 1 else 0
theorem lt_int {a b : Nat} : ((a : Int) < (b : Int)) = (a < b) := by simp
theorem letF (n : Nat) (c : Nat) (k : Bool → Option R) : verdererref11_letter_F n (c : Int) k = k (letN c) := by
  rw [verdererref11_letter_e]
  unfold verdererref11_letter_Fi letN
  by_cases h : 97 ≤ c
  · have : (c : Int) ≥ 97 := by omega
    have e : ((c : Int) ≤ 122) ↔ c ≤ 122 := by omega
    simp [h, this, e]
  · have : ¬ (c : Int) ≥ 97 := by omega
    rw [if_neg (by simpa using this)]
    simp [h]
theorem digF (n : Nat) (c : Nat) (k : Bool → Option R) : verdererref11_digit_F n (c : Int) k = k (digN c) := by
  rw [verdererref11_digit_e]
  unfold verdererref11_digit_Fi digN
  by_cases h : 48 ≤ c
  · have : (c : Int) ≥ 48 := by omega
    have e : ((c : Int) ≤ 57) ↔ c ≤ 57 := by omega
    simp [h, this, e]
  · have : ¬ (c : Int) ≥ 48 := by omega
    rw [if_neg (by simpa using this)]
    simp [h]
theorem beq_nat (a b : Nat) : ((a : Int) == (b : Int)) = decide (a = b) := by
  rw [Bool.eq_iff_iff, beq_iff_eq, decide_eq_true_eq]; omega
theorem refWord_F (n : Nat) (s : ByteArray) (hs : s.size ≤ 1000) (hn : s.size < n) (k : Int → Option R) : verdererref11_word_F n s k = k (wordN s : Int) := by
  rw [verdererref11_word_e]
  unfold verdererref11_word_Fi
  refine (runC_span (R := R) (step := verdererref11_word_l2 n) (fun b3 => k b3.1, ()) (wchN s) (fun i => (s, (i : Int), ())) s.size (fun i => k (i : Int)) (fun i hi k1 => ?_) (fun k1 => ?_) (i := 0) (Nat.zero_le _) (by omega)).trans rfl
  · have c1 : (i : Int) < (s.size : Int) := by omega
    have c0 : (0 : Int) ≤ (i : Int) := by omega
    have e95 : ((bt s i : Int) == 95) = decide (bt s i = 95) := beq_nat _ 95
    have e0 : ((i : Int) > 0) ↔ 0 < i := by omega
    simp only [verdererref11_word_l2, verdererref11_word_s2, c1, c0, decide_true, if_true, byteAt_bt, letF, digF, wrap_succ i (by omega), e95, e0, wchN]
    by_cases h1 : letN (bt s i) = true
    · simp only [h1, if_true, Bool.true_or]
    · by_cases hi0 : 0 < i
      · by_cases h2 : digN (bt s i) = true
        · simp [h1, hi0, h2]
        · by_cases h95 : bt s i = 95 <;> simp [h1, hi0, h2, h95]
      · simp [h1, hi0]
  · simp [verdererref11_word_l2, verdererref11_word_s2]
theorem refNum_F (n : Nat) (s : ByteArray) (hs : s.size ≤ 1000) (h0 : 0 < s.size) (hn : s.size < n) (k : Int → Option R) : verdererref11_number_F n s k = k (numN s : Int) := by
  rw [verdererref11_number_e]
  unfold verdererref11_number_Fi numN
  have e45 : (byteAt s 0 == 45) = decide (bt s 0 = 45) := by rw [byteAt_0]; exact beq_nat _ 45
  have go : ∀ f, f ≤ s.size → runC (verdererref11_number_l4 n) n (s, (f : Int), ()) (fun b2 => k b2.1, ()) = k ((scanN (fun i => digN (bt s i)) (s.size - f) f : Nat) : Int) := by
    intro f hf
    refine runC_span (R := R) (step := verdererref11_number_l4 n) (fun b2 => k b2.1, ()) (fun i => digN (bt s i)) (fun i => (s, (i : Int), ())) s.size (fun i => k (i : Int)) (fun i hi k1 => ?_) (fun k1 => ?_) (i := f) hf (by omega)
    · have c1 : (i : Int) < (s.size : Int) := by omega
      have c0 : (0 : Int) ≤ (i : Int) := by omega
      simp only [verdererref11_number_l4, verdererref11_number_s4, c1, c0, decide_true, if_true, byteAt_bt, digF, wrap_succ i (by omega)]
    · simp [verdererref11_number_l4, verdererref11_number_s4]
  rw [if_pos (decide_eq_true (by omega)), if_pos (Int.le_refl _), if_pos (by omega), e45]
  by_cases h : bt s 0 = 45
  · rw [if_pos (decide_eq_true h), if_pos h]; exact go 1 (by omega)
  · rw [if_neg (by simpa using h), if_neg h]; exact go 0 (by omega)
theorem refText_F (n : Nat) (s : ByteArray) (hs : s.size ≤ 1000) (hn : s.size + 2 < n) (k : Int → Option R) : verdererref11_text_F n s k = k (textN s (s.size + 1) 1 : Int) := by
  rw [verdererref11_text_e]
  unfold verdererref11_text_Fi
  have go : ∀ (f i m : Nat), s.size ≤ i + f → f < m → i ≤ s.size + 2 → runC (verdererref11_text_l2 n) m (s, (i : Int), ()) (fun b1 => k b1.1, fun b1 => k 0, ()) = k (textN s (f + 1) i : Int) := by
    intro f
    induction f with
    | zero =>
      intro i m hi hm hi2
      obtain ⟨m, rfl⟩ : ∃ q, m = q + 1 := ⟨m - 1, by omega⟩
      show verdererref11_text_l2 n (s, (i : Int), ()) _ _ = _
      have : ¬ i < s.size := by omega
      have c : ¬ (i : Int) < (s.size : Int) := by omega
      simp only [verdererref11_text_l2, verdererref11_text_s2, textN, this, if_false]
      rw [if_neg (by simpa using c)]
      rfl
    | succ f ih =>
      intro i m hi hm hi2
      obtain ⟨m, rfl⟩ : ∃ q, m = q + 1 := ⟨m - 1, by omega⟩
      show verdererref11_text_l2 n (s, (i : Int), ()) _ _ = _
      by_cases h : i < s.size
      · have c1 : (i : Int) < (s.size : Int) := by omega
        have c0 : (0 : Int) ≤ (i : Int) := by omega
        have e92 : ((bt s i : Int) == 92) = decide (bt s i = 92) := beq_nat _ 92
        have e34 : ((bt s i : Int) == 34) = decide (bt s i = 34) := beq_nat _ 34
        rw [textN, if_pos h]
        simp only [verdererref11_text_l2, verdererref11_text_s2, c1, c0, decide_true, if_true, byteAt_bt, e92, e34, wrap_succ i (by omega), wrap_succ (i + 1) (by omega)]
        by_cases h92 : bt s i = 92
        · rw [if_pos (decide_eq_true h92), if_pos h92]
          exact ih (i + 2) m (by omega) (by omega) (by omega)
        · rw [if_neg (by simpa using h92), if_neg h92]
          by_cases h34 : bt s i = 34
          · rw [if_pos (decide_eq_true h34), if_pos h34]
          · rw [if_neg (by simpa using h34), if_neg h34]
            exact ih (i + 1) m (by omega) (by omega) (by omega)
      · have c : ¬ (i : Int) < (s.size : Int) := by omega
        rw [textN, if_neg h]
        simp only [verdererref11_text_l2, verdererref11_text_s2]
        rw [if_neg (by simpa using c)]
        rfl
  exact go s.size 1 n (by omega) (by omega) (by omega)
theorem refSign_F (n : Nat) (s : ByteArray) (h0 : 0 < s.size) (k : Int → Option R) : verdererref11_sign_F n s k = k (signN s : Int) := by
  rw [verdererref11_sign_e]
  unfold verdererref11_sign_Fi signN
  have b : ∀ (a : Nat) (b : Nat), ((a : Int) == (b : Int)) = decide (a = b) := beq_nat
  have e : ∀ j : Nat, ((bt s j : Int) == 61) = decide (bt s j = 61) ∧ ((bt s j : Int) == 33) = decide (bt s j = 33) ∧ ((bt s j : Int) == 60) = decide (bt s j = 60) ∧ ((bt s j : Int) == 62) = decide (bt s j = 62) ∧ ((bt s j : Int) == 40) = decide (bt s j = 40) ∧ ((bt s j : Int) == 41) = decide (bt s j = 41) ∧ ((bt s j : Int) == 44) = decide (bt s j = 44) ∧ ((bt s j : Int) == 95) = decide (bt s j = 95) := fun j => ⟨b _ 61, b _ 33, b _ 60, b _ 62, b _ 40, b _ 41, b _ 44, b _ 95⟩
  have c0 : (0 : Int) < (s.size : Int) := by omega
  have t1 : (0 : Int) ≤ 1 := by decide
  simp only [byteAt_0, byteAt_1, e, c0, Int.le_refl, if_true, t1]
  generalize bt s 0 = x
  generalize bt s 1 = y
  have tail : (if decide (x = 40) = true then k 1 else if decide (x = 41) = true then k 1 else if decide (x = 44) = true then k 1 else if decide (x = 95) = true then k 1 else if decide (x = 60) = true then k 1 else if decide (x = 62) = true then k 1 else k 0) = k ((if x = 40 ∨ x = 41 ∨ x = 44 ∨ x = 95 ∨ x = 60 ∨ x = 62 then 1 else 0 : Nat) : Int) := by
    by_cases h1 : x = 40 <;> by_cases h2 : x = 41 <;> by_cases h3 : x = 44 <;> by_cases h4 : x = 95 <;> by_cases h5 : x = 60 <;> by_cases h6 : x = 62 <;> simp [h1, h2, h3, h4, h5, h6]
  by_cases h2 : 2 ≤ s.size
  · have g2 : (s.size : Int) ≥ 2 := by omega
    have g1 : (1 : Int) < (s.size : Int) := by omega
    simp only [g2, g1, decide_true, if_true, h2, true_and]
    by_cases hy : y = 61
    · simp only [hy, decide_true, if_true, true_and]
      by_cases x1 : x = 61
      · simp [x1]
      · by_cases x2 : x = 33
        · simp [x1, x2]
        · by_cases x3 : x = 60
          · simp [x1, x2, x3]
          · by_cases x4 : x = 62
            · simp [x1, x2, x3, x4]
            · have hno : ¬ (x = 61 ∨ x = 33 ∨ x = 60 ∨ x = 62) := by omega
              rw [if_neg (by simpa using x1), if_neg (by simpa using x2), if_neg (by simpa using x3), if_neg (by simpa using x4), if_neg hno]
              exact tail
    · simp only [hy, decide_false, Bool.false_eq_true, if_false, false_and]
      exact tail
  · have g2 : ¬ (s.size : Int) ≥ 2 := by omega
    simp only [g2, decide_false, Bool.false_eq_true, if_false, h2, false_and]
    exact tail
end Go.Proofs.YtnnbinmomendnaaDoor.E
namespace Go.Proofs.YtnnbinmomendnaaDoor.E
open Go.RowKit
variable {R : Type}
noncomputable def constS (s : ByteArray) (m : Nat) : Option ty52.D := if (readV (s.extract 0 m)).2 = 0 then some (2, s.extract 0 m, (readV (s.extract 0 m)).1, 0, ()) else none
/-- the token with which a text goes on -/
noncomputable def oneS (s : ByteArray) : Option ty52.D :=
  if letN (bt s 0) = true then (if (readV (s.extract 0 (wordN s))).2 = 0 then some (2, s.extract 0 (wordN s), (readV (s.extract 0 (wordN s))).1, 0, ()) else some (1, s.extract 0 (wordN s), zV, 0, ()))
  else if digN (bt s 0) = true ∨ bt s 0 = 45 then (if numN s < s.size ∧ (letN (bt s (numN s)) = true ∨ bt s (numN s) = 95) then none else constS s (numN s))
  else if bt s 0 = 34 then (if 0 < textN s (s.size + 1) 1 then constS s (textN s (s.size + 1) 1) else none)
  else if 0 < signN s then some (3, s.extract 0 (signN s), zV, 0, ()) else none
theorem textN_le (s : ByteArray) : ∀ f i, textN s f i ≤ s.size
  | 0, i => Nat.zero_le _
  | f + 1, i => by
    unfold textN
    split
    · split
      · exact textN_le s f (i + 2)
      · split
        · omega
        · exact textN_le s f (i + 1)
    · exact Nat.zero_le _
theorem signN_le (s : ByteArray) (h : 0 < s.size) : signN s ≤ s.size := by
  unfold signN
  split
  · omega
  · split <;> omega
theorem numN_rng (s : ByteArray) (h : 0 < s.size) (h0 : digN (bt s 0) = true ∨ bt s 0 = 45) : 1 ≤ numN s ∧ numN s ≤ s.size := by
  unfold numN
  by_cases h1 : bt s 0 = 45
  · rw [if_pos h1]
    have := scanN_le (fun i => digN (bt s i)) (s.size - 1) 1
    omega
  · rw [if_neg h1]
    have hd := h0.resolve_right h1
    obtain ⟨m, hm⟩ : ∃ m, s.size - 0 = m + 1 := ⟨s.size - 1, by omega⟩
    rw [hm]
    unfold scanN
    rw [if_pos hd]
    have := scanN_le (fun i => digN (bt s i)) m (0 + 1)
    omega
theorem wordN_rng (s : ByteArray) (h : 0 < s.size) (h0 : letN (bt s 0) = true) : 1 ≤ wordN s ∧ wordN s ≤ s.size := by
  unfold wordN
  obtain ⟨m, hm⟩ : ∃ m, s.size = m + 1 := ⟨s.size - 1, by omega⟩
  rw [hm]
  unfold scanN
  rw [if_pos (by unfold wchN; rw [h0]; rfl)]
  have := scanN_le (wchN s) m (0 + 1)
  omega
theorem ext_size (s : ByteArray) (m : Nat) (h : m ≤ s.size) : (s.extract 0 m).size = m := by rw [ByteArray.size_extract]; omega
theorem readV_nullB : readV ⟨#[110, 117, 108, 108]⟩ = (zV, 0) := by
  have := readV_back zV (by unfold rightV; rfl) inR0
  rw [show_null] at this
  exact this
theorem refOne_F (n : Nat) (s : ByteArray) (hs : s.size ≤ 1000) (h0 : 0 < s.size) (hn : 2000 < n) : ∃ z : ty52.D, ∀ k : ty52.D → Bool → Option R, verdererref11_one_F n s k = match oneS s with
    | some t => k t true
    | none => k z false := by
  rw [verdererref11_one_e]
  unfold verdererref11_one_Fi
  have c0 : (0 : Int) < (s.size : Int) := by omega
  have b : ∀ (a : Nat) (b : Nat), ((a : Int) == (b : Int)) = decide (a = b) := beq_nat
  have e45 : ∀ j, ((bt s j : Int) == 45) = decide (bt s j = 45) := fun j => b _ 45
  have e34 : ∀ j, ((bt s j : Int) == 34) = decide (bt s j = 34) := fun j => b _ 34
  have e95 : ∀ j, ((bt s j : Int) == 95) = decide (bt s j = 95) := fun j => b _ 95
  have esz : ∀ m, m ≤ s.size → (s.extract 0 m).size ≤ 1000 := fun m hm => by rw [ext_size s m hm]; omega
  -- behind the number of bytes
  have join : ∀ m : Nat, m ≤ s.size → (m = 0 → bt s 0 = 34 ∨ (letN (bt s 0) = false ∧ digN (bt s 0) = false ∧ bt s 0 ≠ 45)) → ∃ z : ty52.D, ∀ k : exK R (verdererref11_one_dx 1000015), verdererref11_one_l1000015 n (s, (m : Int), (0 : Int), (⟨#[]⟩ : ByteArray), (0 : Int), false, (0 : Int), (⟨#[]⟩ : ByteArray), (0 : Int), ()) k = match (if 0 < m then constS s m else if bt s 0 = 34 then none else if 0 < signN s then some (3, s.extract 0 (signN s), zV, 0, ()) else none) with
      | some t => k.1 (true, t.1, t.2.1, t.2.2.1.1, t.2.2.1.2.1, t.2.2.1.2.2.1, t.2.2.1.2.2.2.1, t.2.2.2.1, ())
      | none => k.1 (false, z.1, z.2.1, z.2.2.1.1, z.2.2.1.2.1, z.2.2.1.2.2.1, z.2.2.1.2.2.2.1, z.2.2.2.1, ()) := by
    intro m hm hm0
    rw [verdererref11_one_e1000015]
    unfold verdererref11_one_li1000015 verdererref11_one_s1000015
    by_cases hp : 0 < m
    · refine ⟨(2, s.extract 0 m, (readV (s.extract 0 m)).1, 0, ()), fun k => ?_⟩
      have r1 : (0 : Int) ≤ (m : Int) ∧ (m : Int) ≤ (s.size : Int) := by omega
      have g : (m : Int) > 0 := by omega
      simp only [g, decide_true, if_true, r1, and_self, Int.toNat_natCast, hp]
      rw [refReadV_F n _ (esz m hm) hn]
      unfold constS
      by_cases hr : (readV (s.extract 0 m)).2 = 0
      · rw [if_pos hr]
        have : ((readV (s.extract 0 m)).2 == 0) = true := by simp [hr]
        simp only [this]
      · rw [if_neg hr]
        have : ((readV (s.extract 0 m)).2 == 0) = false := by simp [hr]
        simp only [this]
    · have hz : m = 0 := by omega
      subst hz
      have g : ¬ (((0 : Nat) : Int) > 0) := by omega
      simp only [g, decide_false, Bool.false_eq_true, if_false, Nat.lt_irrefl, Int.le_refl, if_true, c0, byteAt_0, e34]
      by_cases h34 : bt s 0 = 34
      · refine ⟨(0, (⟨#[]⟩ : ByteArray), zV, 0, ()), fun k => ?_⟩
        simp only [h34, decide_true, if_true]
        rfl
      · have hsg := signN_le s h0
        have r1 : (0 : Int) ≤ (signN s : Int) ∧ (signN s : Int) ≤ (s.size : Int) := by omega
        refine ⟨(3, s.extract 0 (signN s), zV, 0, ()), fun k => ?_⟩
        simp only [h34, decide_false, Bool.false_eq_true, if_false]
        rw [refSign_F n s h0, if_pos r1, Int.toNat_natCast]
        by_cases hp2 : 0 < signN s
        · have : (signN s : Int) > 0 := by omega
          rw [if_pos hp2, decide_eq_true this]
          rfl
        · have : ¬ (signN s : Int) > 0 := by omega
          rw [if_neg hp2, decide_eq_false this]
          rfl
  simp only [Int.le_refl, if_true, c0, byteAt_0, e45, e34]
  simp only [letF n (bt s 0), digF n (bt s 0)]
  unfold oneS
  by_cases hl : letN (bt s 0) = true
  · obtain ⟨w1, w2⟩ := wordN_rng s h0 hl
    refine ⟨(0, (⟨#[]⟩ : ByteArray), zV, 0, ()), fun k => ?_⟩
    rw [if_pos hl, if_pos hl, refWord_F n s hs (by omega)]
    have r1 : (0 : Int) ≤ (wordN s : Int) ∧ (wordN s : Int) ≤ (s.size : Int) := by omega
    rw [if_pos r1, Int.toNat_natCast, refReadV_F n _ (esz _ w2) hn, beqB]
    by_cases hr : (readV (s.extract 0 (wordN s))).2 = 0
    · have : ((readV (s.extract 0 (wordN s))).2 == 0) = true := by simp [hr]
      rw [if_pos hr, this, if_pos rfl]
      split <;> rfl
    · have : ((readV (s.extract 0 (wordN s))).2 == 0) = false := by simp [hr]
      rw [if_neg hr, this]
      rw [if_neg (fun e => hr (by rw [of_decide_eq_true e]; exact congrArg Prod.snd readV_nullB))]
      rfl
  rw [if_neg hl]
  have number : (digN (bt s 0) = true ∨ bt s 0 = 45) → ∃ z : ty52.D, ∀ k : ty52.D → Bool → Option R, verdererref11_number_F n s (fun y6 => if (decide (y6 < (s.size : Int))) = true then (if (0 : Int) ≤ y6 then if y6 < (s.size : Int) then (verdererref11_letter_F n (byteAt s y6) (fun y7 => if y7 = true then (k (0, (⟨#[]⟩ : ByteArray), (0, false, 0, (⟨#[]⟩ : ByteArray), ()), 0, ()) false) else (if (0 : Int) ≤ y6 then if y6 < (s.size : Int) then (if ((byteAt s y6) == 95) = true then (k (0, (⟨#[]⟩ : ByteArray), (0, false, 0, (⟨#[]⟩ : ByteArray), ()), 0, ()) false) else (verdererref11_one_l1000015 n (s, y6, 0, (⟨#[]⟩ : ByteArray), 0, false, 0, (⟨#[]⟩ : ByteArray), 0, ()) (fun b18 => k (b18.2.1, b18.2.2.1, (b18.2.2.2.1, b18.2.2.2.2.1, b18.2.2.2.2.2.1, b18.2.2.2.2.2.2.1, ()), b18.2.2.2.2.2.2.2.1, ()) b18.1, ()))) else none else none))) else none else none) else (verdererref11_one_l1000015 n (s, y6, 0, (⟨#[]⟩ : ByteArray), 0, false, 0, (⟨#[]⟩ : ByteArray), 0, ()) (fun b26 => k (b26.2.1, b26.2.2.1, (b26.2.2.2.1, b26.2.2.2.2.1, b26.2.2.2.2.2.1, b26.2.2.2.2.2.2.1, ()), b26.2.2.2.2.2.2.2.1, ()) b26.1, ()))) = match (if numN s < s.size ∧ (letN (bt s (numN s)) = true ∨ bt s (numN s) = 95) then none else constS s (numN s)) with
      | some t => k t true
      | none => k z false := by
    intro hd
    obtain ⟨n1, n2⟩ := numN_rng s h0 hd
    obtain ⟨z, hz⟩ := join (numN s) n2 (fun e => by omega)
    by_cases hlt : numN s < s.size
    · have d1 : (numN s : Int) < (s.size : Int) := by omega
      have d0 : (0 : Int) ≤ (numN s : Int) := by omega
      by_cases hbad : letN (bt s (numN s)) = true ∨ bt s (numN s) = 95
      · refine ⟨(0, (⟨#[]⟩ : ByteArray), zV, 0, ()), fun k => ?_⟩
        rw [refNum_F n s hs h0 (by omega)]
        simp only [d1, d0, decide_true, if_true, byteAt_bt, letF, e95]
        rw [show (if numN s < s.size ∧ (letN (bt s (numN s)) = true ∨ bt s (numN s) = 95) then none else constS s (numN s)) = none from if_pos ⟨hlt, hbad⟩]
        by_cases h1 : letN (bt s (numN s)) = true
        · rw [if_pos h1]; rfl
        · rw [if_neg h1, if_pos (decide_eq_true (hbad.resolve_left h1))]; rfl
      · refine ⟨z, fun k => ?_⟩
        rw [refNum_F n s hs h0 (by omega)]
        simp only [d1, d0, decide_true, if_true, byteAt_bt, letF, e95]
        rw [show (if numN s < s.size ∧ (letN (bt s (numN s)) = true ∨ bt s (numN s) = 95) then none else constS s (numN s)) = constS s (numN s) from if_neg (fun h => hbad h.2), if_neg (fun h => hbad (.inl h)), if_neg (fun h => hbad (.inr (of_decide_eq_true h)))]
        refine (hz _).trans ?_
        rw [if_pos (by omega)] <;> (cases constS s (numN s) <;> rfl)
    · refine ⟨z, fun k => ?_⟩
      rw [refNum_F n s hs h0 (by omega)]
      have d1 : ¬ (numN s : Int) < (s.size : Int) := by omega
      rw [show (if numN s < s.size ∧ (letN (bt s (numN s)) = true ∨ bt s (numN s) = 95) then none else constS s (numN s)) = constS s (numN s) from if_neg (fun h => hlt h.1), if_neg (by simpa using d1)]
      refine (hz _).trans ?_
      rw [if_pos (by omega)] <;> (cases constS s (numN s) <;> rfl)
  by_cases hd : digN (bt s 0) = true
  · obtain ⟨z, hz⟩ := number (.inl hd)
    refine ⟨z, fun k => ?_⟩
    rw [if_neg hl, if_pos hd, if_pos (Or.inl hd)]
    exact hz k
  by_cases h45 : bt s 0 = 45
  · obtain ⟨z, hz⟩ := number (.inr h45)
    refine ⟨z, fun k => ?_⟩
    rw [if_neg hl, if_neg hd, if_pos (decide_eq_true h45), if_pos (Or.inr h45)]
    exact hz k
  have hno : ¬ (digN (bt s 0) = true ∨ bt s 0 = 45) := fun h => h.elim hd h45
  have hl' : letN (bt s 0) = false := by simpa using hl
  have hd' : digN (bt s 0) = false := by simpa using hd
  by_cases h34 : bt s 0 = 34
  · obtain ⟨z, hz⟩ := join (textN s (s.size + 1) 1) (textN_le s _ _) (fun _ => .inl h34)
    refine ⟨z, fun k => ?_⟩
    rw [if_neg hl, if_neg hd, if_neg (by simpa using h45), if_pos (decide_eq_true h34), if_neg hno, if_pos h34, refText_F n s hs (by omega)]
    refine (hz _).trans ?_
    rw [if_pos h34] <;> cases (if 0 < textN s (s.size + 1) 1 then constS s (textN s (s.size + 1) 1) else none) <;> rfl
  · obtain ⟨z, hz⟩ := join 0 (Nat.zero_le _) (fun _ => .inr ⟨hl', hd', h45⟩)
    refine ⟨z, fun k => ?_⟩
    rw [if_neg hl, if_neg hd, if_neg (by simpa using h45), if_neg (by simpa using h34), if_neg hno, if_neg h34]
    refine (hz _).trans ?_
    rw [if_neg (Nat.lt_irrefl 0), if_neg h34] <;> cases (if 0 < signN s then some ((3, s.extract 0 (signN s), zV, 0, ()) : ty52.D) else none) <;> rfl
theorem constS_size {s : ByteArray} {m : Nat} (hm : m ≤ s.size) {t : ty52.D} (h : constS s m = some t) : t.2.1.size = m := by
  unfold constS at h
  split at h
  · injection h with h; rw [← h]; exact ext_size s m hm
  · cases h
theorem oneS_size {s : ByteArray} (h0 : 0 < s.size) {t : ty52.D} (h : oneS s = some t) : 1 ≤ t.2.1.size ∧ t.2.1.size ≤ s.size := by
  unfold oneS at h
  split at h
  · rename_i hl
    have := wordN_rng s h0 hl
    split at h <;> (injection h with h; rw [← h]; show _ ≤ (s.extract 0 (wordN s)).size ∧ (s.extract 0 (wordN s)).size ≤ _; rw [ext_size s _ this.2]; exact this)
  · split at h
    · rename_i hd
      have := numN_rng s h0 hd
      split at h
      · cases h
      · rw [constS_size this.2 h]; exact this
    · split at h
      · split at h
        · rw [constS_size (textN_le s _ _) h]; exact ⟨by omega, textN_le s _ _⟩
        · cases h
      · split at h
        · have := signN_le s h0
          injection h with h; rw [← h]; show _ ≤ (s.extract 0 (signN s)).size ∧ (s.extract 0 (signN s)).size ≤ _; rw [ext_size s _ this]; omega
        · cases h
end Go.Proofs.YtnnbinmomendnaaDoor.E
namespace Go.Proofs.YtnnbinmomendnaaDoor.E
open Go.RowKit
variable {R : Type}
abbrev Toks := List ty52.D
/-- the tokens of a text from a place on; or where it is wrong -/
noncomputable def lexL (s : ByteArray) : Nat → Nat → Toks → Nat ⊕ Toks
  | 0, _, l => .inr l
  | f + 1, i, l => if i < s.size then (if bt s i = 32 ∨ bt s i = 10 then lexL s f (i + 1) l else match oneS (s.extract i s.size) with
      | none => .inl i
      | some t => lexL s f (i + t.2.1.size) (l ++ [(t.1, t.2.1, t.2.2.1, (i : Int), ())])) else .inr l
def endT (s : ByteArray) : ty52.D := (4, (⟨#[]⟩ : ByteArray), zV, (s.size : Int), ())
noncomputable def lexS (s : ByteArray) : Int × Int × Toks := if 300 < s.size then (0, 9, []) else match lexL s (s.size + 1) 0 [] with
  | .inl i => ((i : Int), 7, [])
  | .inr l => (0, 0, l ++ [endT s])
theorem refLex_l (n : Nat) (s : ByteArray) (hs : s.size ≤ 300) (hn : 2000 < n) (k2 : exK R (verdererref11_Read_dx 5)) : ∀ (f i m : Nat) (l : Toks), s.size ≤ i + f → f < m → i ≤ s.size → l.length ≤ i →
    runC (verdererref11_Read_l5 n) m (s, (i : Int), l, ()) k2 = match lexL s (f + 1) i l with
      | .inl j => k2.1 ((j : Int), 7, [], ())
      | .inr l' => k2.2.1 (s, l', ())
  | f, i, m, l, hf, hm, hi, hl => by
    obtain ⟨m, rfl⟩ : ∃ q, m = q + 1 := ⟨m - 1, by omega⟩
    show verdererref11_Read_l5 n (s, (i : Int), l, ()) (fun b => runC (verdererref11_Read_l5 n) m b k2) k2 = _
    by_cases h : i < s.size
    · obtain ⟨f, rfl⟩ : ∃ q, f = q + 1 := ⟨f - 1, by omega⟩
      have c1 : (i : Int) < (s.size : Int) := by omega
      have c0 : (0 : Int) ≤ (i : Int) := by omega
      have e32 : ((bt s i : Int) == 32) = decide (bt s i = 32) := beq_nat _ 32
      have e10 : ((bt s i : Int) == 10) = decide (bt s i = 10) := beq_nat _ 10
      have r1 : (0 : Int) ≤ (i : Int) ∧ (i : Int) ≤ (s.size : Int) := by omega
      rw [lexL, if_pos h]
      simp only [verdererref11_Read_l5, verdererref11_Read_s5, c1, c0, decide_true, if_true, byteAt_bt, e32, e10, wrap_succ i (by omega), r1, and_self, Int.toNat_natCast]
      have go := refLex_l n s hs hn k2 f (i + 1) m l (by omega) (by omega) (by omega) (by omega)
      by_cases h32 : bt s i = 32
      · rw [if_pos (decide_eq_true h32), if_pos (Or.inl h32)]
        exact go
      · by_cases h10 : bt s i = 10
        · rw [if_neg (by simpa using h32), if_pos (decide_eq_true h10), if_pos (Or.inr h10)]
          exact go
        · rw [if_neg (by simpa using h32), if_neg (by simpa using h10), if_neg (fun h => h.elim h32 h10)]
          have hz : (s.extract i s.size).size = s.size - i := by rw [ByteArray.size_extract]; omega
          obtain ⟨z, ho⟩ := refOne_F (R := R) n (s.extract i s.size) (by omega) (by omega) hn
          rw [ho]
          cases he : oneS (s.extract i s.size) with
          | none => rfl
          | some t =>
            obtain ⟨t1, t2⟩ := oneS_size (by omega) he
            have hw : IntKind.i64.wrap ((i : Int) + (t.2.1.size : Int)) = ((i + t.2.1.size : Nat) : Int) := by rw [wrap_i64 (by omega) (by omega)]; omega
            simp only [Bool.not_true, Bool.false_eq_true, if_false, hw, List.length_cons, List.length_nil]
            rw [if_pos (by omega)]
            exact refLex_l n s hs hn k2 f (i + t.2.1.size) m _ (by omega) (by omega) (by omega) (by simp; omega)
    · have c : ¬ (i : Int) < (s.size : Int) := by omega
      rw [lexL, if_neg h]
      simp only [verdererref11_Read_l5, verdererref11_Read_s5]
      rw [if_neg (by simpa using c)]
theorem lexL_len (s : ByteArray) : ∀ (f i : Nat) (l l' : Toks), i ≤ s.size → l.length ≤ i → lexL s f i l = .inr l' → l'.length ≤ s.size
  | 0, i, l, l', hi, hl, h => by injection h with h; rw [← h]; omega
  | f + 1, i, l, l', hi, hl, h => by
    unfold lexL at h
    split at h
    · rename_i hlt
      split at h
      · exact lexL_len s f (i + 1) l l' (by omega) (by omega) h
      · split at h
        · cases h
        · rename_i t he
          have hz : (s.extract i s.size).size = s.size - i := by rw [ByteArray.size_extract]; omega
          obtain ⟨t1, t2⟩ := oneS_size (by omega) he
          exact lexL_len s f (i + t.2.1.size) _ l' (by omega) (by simp; omega) h
    · injection h with h; rw [← h]; omega
theorem refLex_F (n : Nat) (s : ByteArray) (hn : 2000 < n) (k : Int → Int → Toks → Option R) : verdererref11_Read_F n s k = k (lexS s).1 (lexS s).2.1 (lexS s).2.2 := by
  rw [verdererref11_Read_e]
  unfold verdererref11_Read_Fi lexS
  by_cases h : 300 < s.size
  · have : (s.size : Int) > 300 := by omega
    rw [if_pos (decide_eq_true this), if_pos h]
  · have : ¬ (s.size : Int) > 300 := by omega
    rw [if_neg (by simpa using this), if_neg h]
    refine (refLex_l (R := R) n s (by omega) hn _ s.size 0 n [] (by omega) (by omega) (by omega) (by simp)).trans ?_
    cases he : lexL s (s.size + 1) 0 [] with
    | inl j => rfl
    | inr l =>
      have := lexL_len s _ _ _ _ (Nat.zero_le _) (by simp) he
      simp only [List.length_cons, List.length_nil]
      rw [if_pos (by omega)]
      rfl
/-- the tokens of a text that has some: at least the end; few -/
theorem lexS_rng (s : ByteArray) (h : (lexS s).2.1 = 0) : ∃ l, (lexS s).2.2 = l ++ [endT s] ∧ l.length ≤ 300 := by
  unfold lexS at h ⊢
  split
  · rename_i h1; rw [if_pos h1] at h; cases h
  · rename_i h1
    rw [if_neg h1] at h
    cases he : lexL s (s.size + 1) 0 [] with
    | inl j => rw [he] at h; cases h
    | inr l => exact ⟨l, rfl, by have := lexL_len s _ _ _ _ (Nat.zero_le _) (by simp) he; omega⟩
end Go.Proofs.YtnnbinmomendnaaDoor.E
namespace Go.Proofs.YtnnbinmomendnaaDoor.E
open Go.RowKit
variable {R : Type}
/-! the program's tokens, by the document's words -/
theorem scanN_congr (p q : Nat → Bool) : ∀ f i, (∀ j, i ≤ j → p j = q j) → scanN p f i = scanN q f i
  | 0, _, _ => rfl
  | f + 1, i, h => by
    unfold scanN
    rw [h i (Nat.le_refl _), scanN_congr p q f (i + 1) (fun j hj => h j (by omega))]
theorem scanN_one (p : Nat → Bool) (m : Nat) (h : p 0 = true) : scanN p (m + 1) 0 = scanN p m 1 := by
  rw [scanN, if_pos h]
theorem letP_F (n : Nat) (c : Nat) (k : Bool → Option R) : lex_letter_F n (c : Int) k = k (letN c) := by
  rw [lex_letter_e]
  unfold lex_letter_Fi letN
  by_cases h : 97 ≤ c
  · have : (c : Int) ≥ 97 := by omega
    have e : ((c : Int) ≤ 122) ↔ c ≤ 122 := by omega
    simp [h, this, e]
  · have : ¬ (c : Int) ≥ 97 := by omega
    simp [h, this]
theorem digP_F (n : Nat) (c : Nat) (k : Bool → Option R) : lex_digit_F n (c : Int) k = k (digN c) := by
  rw [lex_digit_e]
  unfold lex_digit_Fi digN
  by_cases h : 48 ≤ c
  · have : (c : Int) ≥ 48 := by omega
    have e : ((c : Int) ≤ 57) ↔ c ≤ 57 := by omega
    simp [h, this, e]
  · have : ¬ (c : Int) ≥ 48 := by omega
    simp [h, this]
def wcN (c : Nat) : Bool := letN c || (digN c || decide (c = 95))
theorem wcP_F (n : Nat) (c : Nat) (k : Bool → Option R) : lex_word_1_F n (c : Int) k = k (wcN c) := by
  rw [lex_word_1_e]
  unfold lex_word_1_Fi wcN
  rw [letP_F]
  have e95 : ((c : Int) == 95) = decide (c = 95) := beq_nat _ 95
  cases letN c with
  | true => rfl
  | false =>
    simp only [Bool.false_eq_true, if_false, Bool.false_or]
    rw [digP_F]
    cases digN c with
    | true => rfl
    | false => simp only [Bool.false_eq_true, if_false, Bool.false_or, e95]
def blN (c : Nat) : Bool := decide (c = 32) || decide (c = 10)
theorem blP_F (n : Nat) (c : Nat) (k : Bool → Option R) : lex_blank_F n (c : Int) k = k (blN c) := by
  rw [lex_blank_e]
  unfold lex_blank_Fi blN
  have e32 : ((c : Int) == 32) = decide (c = 32) := beq_nat _ 32
  have e10 : ((c : Int) == 10) = decide (c = 10) := beq_nat _ 10
  rw [e32, e10]
  by_cases h : c = 32 <;> simp [h]
theorem runW_F (n : Nat) (s : ByteArray) (i : Nat) (hs : s.size ≤ 1000) (hi : i ≤ s.size) (hn : 2000 < n) (k : Int → Option R) : lex_run_F n s (i : Int) k = k ((scanN (fun j => wcN (bt s j)) (s.size - i) i : Nat) : Int) := by
  rw [lex_run_e]
  unfold lex_run_Fi
  refine (runC_span (R := R) (step := lex_run_l1 n) (fun b2 => k b2.1, ()) (fun j => wcN (bt s j)) (fun i => (s, (i : Int), ())) s.size (fun i => k (i : Int)) (fun i hi k1 => ?_) (fun k1 => ?_) (i := i) hi (by omega)).trans rfl
  · have c1 : (i : Int) < (s.size : Int) := by omega
    have c0 : (0 : Int) ≤ (i : Int) := by omega
    simp only [lex_run_l1, lex_run_s1, c1, c0, decide_true, if_true, byteAt_bt, wcP_F, wrap_succ i (by omega)]
  · simp [lex_run_l1, lex_run_s1]
theorem runD_F (n : Nat) (s : ByteArray) (i : Nat) (hs : s.size ≤ 1000) (hi : i ≤ s.size) (hn : 2000 < n) (k : Int → Option R) : lex_run_v1_F n s (i : Int) k = k ((scanN (fun j => digN (bt s j)) (s.size - i) i : Nat) : Int) := by
  rw [lex_run_v1_e]
  unfold lex_run_v1_Fi
  refine (runC_span (R := R) (step := lex_run_v1_l1 n) (fun b2 => k b2.1, ()) (fun j => digN (bt s j)) (fun i => (s, (i : Int), ())) s.size (fun i => k (i : Int)) (fun i hi k1 => ?_) (fun k1 => ?_) (i := i) hi (by omega)).trans rfl
  · have c1 : (i : Int) < (s.size : Int) := by omega
    have c0 : (0 : Int) ≤ (i : Int) := by omega
    simp only [lex_run_v1_l1, lex_run_v1_s1, c1, c0, decide_true, if_true, byteAt_bt, digP_F, wrap_succ i (by omega)]
  · simp [lex_run_v1_l1, lex_run_v1_s1]
/-- where blanks end -/
def skN (s : ByteArray) (i : Nat) : Nat := scanN (fun j => blN (bt s j)) (s.size - i) i
theorem runB_F (n : Nat) (s : ByteArray) (i : Nat) (hs : s.size ≤ 1000) (hi : i ≤ s.size) (hn : 2000 < n) (k : Int → Option R) : lex_run_v2_F n s (i : Int) k = k ((skN s i : Nat) : Int) := by
  rw [lex_run_v2_e]
  unfold lex_run_v2_Fi skN
  refine (runC_span (R := R) (step := lex_run_v2_l1 n) (fun b2 => k b2.1, ()) (fun j => blN (bt s j)) (fun i => (s, (i : Int), ())) s.size (fun i => k (i : Int)) (fun i hi k1 => ?_) (fun k1 => ?_) (i := i) hi (by omega)).trans rfl
  · have c1 : (i : Int) < (s.size : Int) := by omega
    have c0 : (0 : Int) ≤ (i : Int) := by omega
    simp only [lex_run_v2_l1, lex_run_v2_s1, c1, c0, decide_true, if_true, byteAt_bt, blP_F, wrap_succ i (by omega)]
  · simp [lex_run_v2_l1, lex_run_v2_s1]
theorem skN_rng (s : ByteArray) (i : Nat) (h : i ≤ s.size) : i ≤ skN s i ∧ skN s i ≤ s.size := by
  have := scanN_le (fun j => blN (bt s j)) (s.size - i) i
  unfold skN
  omega
theorem wordN_eq (s : ByteArray) (h0 : 0 < s.size) (h : letN (bt s 0) = true) : scanN (fun j => wcN (bt s j)) (s.size - 1) 1 = wordN s := by
  obtain ⟨m, hm⟩ : ∃ m, s.size = m + 1 := ⟨s.size - 1, by omega⟩
  unfold wordN
  rw [hm, Nat.add_sub_cancel, scanN_one _ _ (by unfold wchN; rw [h]; rfl)]
  exact scanN_congr _ _ _ _ fun j hj => by unfold wcN wchN; rw [decide_eq_true (show 0 < j by omega), Bool.true_and]
theorem numN_eq (s : ByteArray) (h0 : 0 < s.size) (h : digN (bt s 0) = true ∨ bt s 0 = 45) : scanN (fun j => digN (bt s j)) (s.size - 1) 1 = numN s := by
  unfold numN
  by_cases h4 : bt s 0 = 45
  · rw [if_pos h4]
  · rw [if_neg h4]
    obtain ⟨m, hm⟩ : ∃ m, s.size = m + 1 := ⟨s.size - 1, by omega⟩
    rw [hm, Nat.add_sub_cancel, Nat.sub_zero, scanN_one _ _ (h.resolve_right h4)]
theorem constP_F (n : Nat) (s : ByteArray) (m : Nat) (hm : m ≤ s.size) (hs : s.size ≤ 1000) (hn : 2000 < n) (k : ty36.D → Bool → Option R) : lex_constant_F n s (m : Int) k = k (2, s.extract 0 m, (readV (s.extract 0 m)).1, 0, ()) ((readV (s.extract 0 m)).2 == 0) := by
  rw [lex_constant_e]
  unfold lex_constant_Fi
  have c : (0 : Int) ≤ (m : Int) ∧ (m : Int) ≤ (s.size : Int) := by omega
  rw [if_pos c, Int.toNat_natCast, readP_F n _ (by rw [ByteArray.size_extract]; omega) hn, if_pos c]
theorem constP_ex (n : Nat) (s : ByteArray) (m : Nat) (hm : m ≤ s.size) (hs : s.size ≤ 1000) (hn : 2000 < n) : ∃ z : ty36.D, ∀ k : ty36.D → Bool → Option R, lex_constant_F n s (m : Int) k = match constS s m with
    | some t => k t true
    | none => k z false := by
  refine ⟨(2, s.extract 0 m, (readV (s.extract 0 m)).1, 0, ()), fun k => ?_⟩
  rw [constP_F n s m hm hs hn]
  unfold constS
  by_cases h : (readV (s.extract 0 m)).2 = 0
  · rw [if_pos h, h]; rfl
  · rw [if_neg h, show ((readV (s.extract 0 m)).2 == 0) = false from by simpa using h]
theorem wordP_F (n : Nat) (s : ByteArray) (h0 : 0 < s.size) (hl : letN (bt s 0) = true) (hs : s.size ≤ 1000) (hn : 2000 < n) (k : ty36.D → Option R) : lex_word_F n s k = k (if (readV (s.extract 0 (wordN s))).2 = 0 then (2, s.extract 0 (wordN s), (readV (s.extract 0 (wordN s))).1, 0, ()) else (1, s.extract 0 (wordN s), zV, 0, ())) := by
  rw [lex_word_e]
  unfold lex_word_Fi
  rw [show (1 : Int) = ((1 : Nat) : Int) from rfl, runW_F n s 1 hs h0 hn, wordN_eq s h0 hl]
  have hw := wordN_rng s h0 hl
  rw [if_pos (by omega), Int.toNat_natCast, readP_F n _ (by rw [ByteArray.size_extract]; omega) hn]
  by_cases h : (readV (s.extract 0 (wordN s))).2 = 0
  · rw [if_pos h, h]; rfl
  · rw [if_neg h, if_neg (by simpa using h)]; rfl
theorem numP_F (n : Nat) (s : ByteArray) (h0 : 0 < s.size) (hd : digN (bt s 0) = true ∨ bt s 0 = 45) (hs : s.size ≤ 1000) (hn : 2000 < n) : ∃ z : ty36.D, ∀ k : ty36.D → Bool → Option R, lex_number_F n s k = match (if numN s < s.size ∧ (letN (bt s (numN s)) = true ∨ bt s (numN s) = 95) then none else constS s (numN s)) with
    | some t => k t true
    | none => k z false := by
  have hr := numN_rng s h0 hd
  obtain ⟨z, hz⟩ := constP_ex (R := R) n s (numN s) hr.2 hs hn
  have e95 : ((bt s (numN s) : Int) == 95) = decide (bt s (numN s) = 95) := beq_nat _ 95
  have start : ∀ k : ty36.D → Bool → Option R, lex_number_F n s k = if (decide (((numN s : Nat) : Int) < (s.size : Int))) = true then (if (0 : Int) ≤ ((numN s : Nat) : Int) then if ((numN s : Nat) : Int) < (s.size : Int) then (lex_letter_F n (byteAt s ((numN s : Nat) : Int)) (fun y2 => if y2 = true then (k (0, (⟨#[]⟩ : ByteArray), (0, false, 0, (⟨#[]⟩ : ByteArray), ()), 0, ()) false) else (if (0 : Int) ≤ ((numN s : Nat) : Int) then if ((numN s : Nat) : Int) < (s.size : Int) then (if ((byteAt s ((numN s : Nat) : Int)) == 95) = true then (k (0, (⟨#[]⟩ : ByteArray), (0, false, 0, (⟨#[]⟩ : ByteArray), ()), 0, ()) false) else (lex_constant_F n s ((numN s : Nat) : Int) (fun y3 y4 => k y3 y4))) else none else none))) else none else none) else (lex_constant_F n s ((numN s : Nat) : Int) (fun y5 y6 => k y5 y6)) := by
    intro k
    rw [lex_number_e]
    unfold lex_number_Fi
    rw [show (1 : Int) = ((1 : Nat) : Int) from rfl, runD_F n s 1 hs h0 hn, numN_eq s h0 hd]
  by_cases hlt : numN s < s.size
  · have g1 : ((numN s : Nat) : Int) < (s.size : Int) := by omega
    have g0 : (0 : Int) ≤ ((numN s : Nat) : Int) := by omega
    by_cases hb : letN (bt s (numN s)) = true ∨ bt s (numN s) = 95
    · refine ⟨(0, (⟨#[]⟩ : ByteArray), zV, 0, ()), fun k => ?_⟩
      have e : (if numN s < s.size ∧ (letN (bt s (numN s)) = true ∨ bt s (numN s) = 95) then (none : Option ty36.D) else constS s (numN s)) = none := if_pos ⟨hlt, hb⟩
      refine Eq.trans ?_ (show k (0, (⟨#[]⟩ : ByteArray), zV, 0, ()) false = match (if numN s < s.size ∧ (letN (bt s (numN s)) = true ∨ bt s (numN s) = 95) then (none : Option ty36.D) else constS s (numN s)) with | some t => k t true | none => k (0, (⟨#[]⟩ : ByteArray), zV, 0, ()) false from by rw [e])
      rw [start]
      simp only [g1, g0, decide_true, if_true, byteAt_bt, letP_F, e95]
      by_cases hl : letN (bt s (numN s)) = true
      · simp only [hl, if_true]; rfl
      · have h95 := hb.resolve_left hl
        have hl' : letN (bt s (numN s)) = false := by simpa using hl
        simp only [hl', Bool.false_eq_true, if_false, decide_eq_true h95, if_true]; rfl
    · refine ⟨z, fun k => ?_⟩
      have hl : letN (bt s (numN s)) = false := by
        cases h : letN (bt s (numN s)) with
        | false => rfl
        | true => exact absurd (.inl h) hb
      have h95 : ¬ bt s (numN s) = 95 := fun h => hb (.inr h)
      have e : (if numN s < s.size ∧ (letN (bt s (numN s)) = true ∨ bt s (numN s) = 95) then (none : Option ty36.D) else constS s (numN s)) = constS s (numN s) := if_neg (fun h => hb h.2)
      refine Eq.trans ?_ ((hz k).trans (show (match constS s (numN s) with | some t => k t true | none => k z false) = match (if numN s < s.size ∧ (letN (bt s (numN s)) = true ∨ bt s (numN s) = 95) then (none : Option ty36.D) else constS s (numN s)) with | some t => k t true | none => k z false from by rw [e]; cases constS s (numN s) <;> rfl))
      rw [start]
      simp only [g1, g0, decide_true, if_true, byteAt_bt, letP_F, e95, hl, Bool.false_eq_true, if_false, h95, decide_false]
  · refine ⟨z, fun k => ?_⟩
    have g1 : ¬ ((numN s : Nat) : Int) < (s.size : Int) := by omega
    have e : (if numN s < s.size ∧ (letN (bt s (numN s)) = true ∨ bt s (numN s) = 95) then (none : Option ty36.D) else constS s (numN s)) = constS s (numN s) := if_neg (fun h => hlt h.1)
    refine Eq.trans ?_ ((hz k).trans (show (match constS s (numN s) with | some t => k t true | none => k z false) = match (if numN s < s.size ∧ (letN (bt s (numN s)) = true ∨ bt s (numN s) = 95) then (none : Option ty36.D) else constS s (numN s)) with | some t => k t true | none => k z false from by rw [e]; cases constS s (numN s) <;> rfl))
    rw [start]
    simp only [g1, decide_false, Bool.false_eq_true, if_false]
/-- where a quoted text ends -/
theorem quoP_l (n : Nat) (s : ByteArray) (hs : s.size ≤ 1000) (hn : 2000 < n) (k2 : exK R (lex_quoted_dx 2)) : ∀ (f m i : Nat), s.size ≤ i + f → f + 2 < m → i ≤ s.size + 2 →
    runC (lex_quoted_l2 n) m (s, (i : Int), 0, (⟨#[]⟩ : ByteArray), 0, false, 0, (⟨#[]⟩ : ByteArray), 0, ()) k2 = if 0 < textN s (f + 1) i then lex_constant_F n s ((textN s (f + 1) i : Nat) : Int) (fun y1 y2 => k2.1 (y2, y1.1, y1.2.1, y1.2.2.1.1, y1.2.2.1.2.1, y1.2.2.1.2.2.1, y1.2.2.1.2.2.2.1, y1.2.2.2.1, ())) else k2.2.1 (0, (⟨#[]⟩ : ByteArray), 0, false, 0, (⟨#[]⟩ : ByteArray), 0, ())
  | f, m, i, hf, hm, hi => by
    obtain ⟨m, rfl⟩ : ∃ q, m = q + 1 := ⟨m - 1, by omega⟩
    show lex_quoted_l2 n (s, (i : Int), 0, (⟨#[]⟩ : ByteArray), 0, false, 0, (⟨#[]⟩ : ByteArray), 0, ()) (fun b => runC (lex_quoted_l2 n) m b k2) k2 = _
    simp only [lex_quoted_l2, lex_quoted_s2]
    by_cases hlt : i < s.size
    · obtain ⟨f, rfl⟩ : ∃ q, f = q + 1 := ⟨f - 1, by omega⟩
      have c1 : (i : Int) < (s.size : Int) := by omega
      have c0 : (0 : Int) ≤ (i : Int) := by omega
      have e34 : ((bt s i : Int) == 34) = decide (bt s i = 34) := beq_nat _ 34
      have e92 : ((bt s i : Int) == 92) = decide (bt s i = 92) := beq_nat _ 92
      have w1' : IntKind.i64.wrap (((i + 1 : Nat) : Int) + 1) = ((i + 2 : Nat) : Int) := wrap_succ (i + 1) (by omega)
      simp only [c1, c0, decide_true, if_true, byteAt_bt, e34, e92, wrap_succ i (by omega), w1']
      by_cases h34 : bt s i = 34
      · have h92 : ¬ bt s i = 92 := by omega
        have et : textN s (f + 1 + 1) i = i + 1 := by rw [textN, if_pos hlt, if_neg h92, if_pos h34]
        rw [et, if_pos (decide_eq_true h34), if_pos (by omega)]
      · by_cases h92 : bt s i = 92
        · have et : textN s (f + 1 + 1) i = textN s (f + 1) (i + 2) := by rw [textN, if_pos hlt, if_pos h92]
          rw [et, if_neg (by simpa using h34), if_pos (decide_eq_true h92)]
          exact quoP_l n s hs hn k2 f m (i + 2) (by omega) (by omega) (by omega)
        · have et : textN s (f + 1 + 1) i = textN s (f + 1) (i + 1) := by rw [textN, if_pos hlt, if_neg h92, if_neg h34]
          rw [et, if_neg (by simpa using h34), if_neg (by simpa using h92)]
          exact quoP_l n s hs hn k2 f m (i + 1) (by omega) (by omega) (by omega)
    · have c1 : ¬ (i : Int) < (s.size : Int) := by omega
      have et : textN s (f + 1) i = 0 := by rw [textN, if_neg hlt]
      rw [et, if_neg (by simpa using c1), if_neg (by omega)]
theorem quoP_F (n : Nat) (s : ByteArray) (h0 : 0 < s.size) (hs : s.size ≤ 1000) (hn : 2000 < n) : ∃ z : ty36.D, ∀ k : ty36.D → Bool → Option R, lex_quoted_F n s k = match (if 0 < textN s (s.size + 1) 1 then constS s (textN s (s.size + 1) 1) else none) with
    | some t => k t true
    | none => k z false := by
  obtain ⟨z, hz⟩ := constP_ex (R := R) n s (textN s (s.size + 1) 1) (textN_le s _ _) hs hn
  have start : ∀ k : ty36.D → Bool → Option R, lex_quoted_F n s k = if 0 < textN s (s.size + 1) 1 then lex_constant_F n s ((textN s (s.size + 1) 1 : Nat) : Int) k else k (0, (⟨#[]⟩ : ByteArray), zV, 0, ()) false := by
    intro k
    rw [lex_quoted_e]
    unfold lex_quoted_Fi
    refine (quoP_l n s hs hn _ s.size n 1 (by omega) (by omega) (by omega)).trans ?_
    rfl
  by_cases h : 0 < textN s (s.size + 1) 1
  · refine ⟨z, fun k => ?_⟩
    have e : (if 0 < textN s (s.size + 1) 1 then constS s (textN s (s.size + 1) 1) else none) = constS s (textN s (s.size + 1) 1) := if_pos h
    rw [e, start, if_pos h]
    exact hz k
  · refine ⟨(0, (⟨#[]⟩ : ByteArray), zV, 0, ()), fun k => ?_⟩
    have e : (if 0 < textN s (s.size + 1) 1 then constS s (textN s (s.size + 1) 1) else none) = none := if_neg h
    rw [e, start, if_neg h]
/-! signs -/
def hasP (s p : ByteArray) : Bool := decide (p.size ≤ s.size) && decide (s.extract 0 p.size = p)
theorem hasP_F (n : Nat) (s p : ByteArray) (k : Bool → Option R) : strings_HasPrefix_F n s p k = k (hasP s p) := by
  rw [strings_HasPrefix_e]
  unfold strings_HasPrefix_Fi
  rw [stringslite_HasPrefix_e]
  unfold stringslite_HasPrefix_Fi hasP
  by_cases h : p.size ≤ s.size
  · have g : (s.size : Int) ≥ (p.size : Int) := by omega
    have g2 : (0 : Int) ≤ (p.size : Int) ∧ (p.size : Int) ≤ (s.size : Int) := by omega
    rw [if_pos (decide_eq_true g), if_pos g2, Int.toNat_natCast, beqB, decide_eq_true h, Bool.true_and]
  · have g : ¬ (s.size : Int) ≥ (p.size : Int) := by omega
    rw [if_neg (by simpa using g), decide_eq_false h, Bool.false_and]
def sgnL : List ByteArray := [(⟨#[61, 61]⟩ : ByteArray), (⟨#[33, 61]⟩ : ByteArray), (⟨#[60, 61]⟩ : ByteArray), (⟨#[62, 61]⟩ : ByteArray), (⟨#[60]⟩ : ByteArray), (⟨#[62]⟩ : ByteArray), (⟨#[40]⟩ : ByteArray), (⟨#[41]⟩ : ByteArray), (⟨#[44]⟩ : ByteArray), (⟨#[95]⟩ : ByteArray)]
theorem sgnP_l (n : Nat) (s : ByteArray) (k2 : exK R (lex_sign_dx 2)) : ∀ (l : List ByteArray) (i m : Nat), i + l.length = 10 → sgnL.drop i = l → l.length < m →
    runC (lex_sign_l2 n) m (s, ((10 : Nat) : Int), (i : Int), 0, (⟨#[]⟩ : ByteArray), 0, false, 0, (⟨#[]⟩ : ByteArray), 0, sgnL, ()) k2 = match l.find? (hasP s) with
      | some w => k2.1 (true, 3, w, 0, false, 0, (⟨#[]⟩ : ByteArray), 0, ())
      | none => k2.2.1 (0, (⟨#[]⟩ : ByteArray), 0, false, 0, (⟨#[]⟩ : ByteArray), 0, ())
  | [], i, m, hi, hd, hm => by
    obtain ⟨m, rfl⟩ : ∃ q, m = q + 1 := ⟨m - 1, by omega⟩
    show lex_sign_l2 n (s, ((10 : Nat) : Int), (i : Int), 0, (⟨#[]⟩ : ByteArray), 0, false, 0, (⟨#[]⟩ : ByteArray), 0, sgnL, ()) (fun b => runC (lex_sign_l2 n) m b k2) k2 = _
    simp only [List.length_nil] at hi
    have c : ¬ (i : Int) < ((10 : Nat) : Int) := by omega
    simp only [lex_sign_l2, lex_sign_s2]
    rw [if_neg (by simpa using c)]
    rfl
  | w :: l, i, m, hi, hd, hm => by
    obtain ⟨m, rfl⟩ : ∃ q, m = q + 1 := ⟨m - 1, by omega⟩
    show lex_sign_l2 n (s, ((10 : Nat) : Int), (i : Int), 0, (⟨#[]⟩ : ByteArray), 0, false, 0, (⟨#[]⟩ : ByteArray), 0, sgnL, ()) (fun b => runC (lex_sign_l2 n) m b k2) k2 = _
    simp only [List.length_cons] at hi hm
    have c : (i : Int) < ((10 : Nat) : Int) := by omega
    have hsl : sgnL.length = 10 := rfl
    have c2 : (0 : Int) ≤ (i : Int) ∧ (i : Int) < (sgnL.length : Int) := by rw [hsl]; omega
    have c3 : Int.toNat (i : Int) < sgnL.length := by rw [hsl, Int.toNat_natCast]; omega
    have hw : sgnL.getD i (Ty.z .str) = w := by
      have := congrArg (fun l => l[0]?) hd
      simp only [List.getElem?_drop, Nat.add_zero, List.getElem?_cons_zero] at this
      rw [List.getD_eq_getElem?_getD, this]
      rfl
    simp only [lex_sign_l2, lex_sign_s2]
    rw [if_pos (decide_eq_true c), if_pos c2, if_pos c3, Int.toNat_natCast, hasP_F, hw, wrap_succ i (by omega), List.find?_cons]
    cases hh : hasP s w with
    | true => rfl
    | false =>
      simp only [Bool.false_eq_true, if_false]
      exact sgnP_l n s k2 l (i + 1) m (by omega) (by rw [← List.drop_drop, hd]; rfl) (by omega)
end Go.Proofs.YtnnbinmomendnaaDoor.E
namespace Go.Proofs.YtnnbinmomendnaaDoor.E
open Go.RowKit
variable {R : Type}
theorem ext0 (s : ByteArray) (k : Nat) : (s.extract 0 k).data.toList = s.data.toList.take k := by simp
theorem has1 (s : ByteArray) (h0 : 0 < s.size) (c : UInt8) : hasP s ⟨#[c]⟩ = decide (bt s 0 = c.toNat) := by
  unfold hasP bt
  rw [ba_size] at h0
  obtain ⟨x, r, hl⟩ : ∃ x r, s.data.toList = x :: r := by
    cases h : s.data.toList with
    | nil => rw [h] at h0; simp at h0
    | cons x r => exact ⟨x, r, rfl⟩
  have e1 : (⟨#[c]⟩ : ByteArray).size = 1 := rfl
  rw [e1, decide_eq_true (by rw [ba_size, hl]; simp), Bool.true_and, hl]
  simp only [List.getD_cons_zero]
  rw [decide_eq_decide]
  constructor
  · intro h
    have := congrArg (fun s : ByteArray => s.data.toList) h
    simp only [ext0, hl] at this
    injection this with h1 _
    rw [h1]
  · intro h
    apply ba_eq
    rw [ext0, hl, UInt8.toNat_inj.1 h]
    rfl
theorem has2 (s : ByteArray) (c d : UInt8) : hasP s ⟨#[c, d]⟩ = (decide (2 ≤ s.size) && (decide (bt s 0 = c.toNat) && decide (bt s 1 = d.toNat))) := by
  unfold hasP bt
  have e1 : (⟨#[c, d]⟩ : ByteArray).size = 2 := rfl
  rw [e1]
  by_cases h2 : 2 ≤ s.size
  · rw [decide_eq_true h2, Bool.true_and, Bool.true_and]
    rw [ba_size] at h2
    obtain ⟨x, y, r, hl⟩ : ∃ x y r, s.data.toList = x :: y :: r := by
      cases h : s.data.toList with
      | nil => rw [h] at h2; simp at h2
      | cons x r => cases r with
        | nil => rw [h] at h2; simp at h2
        | cons y r => exact ⟨x, y, r, rfl⟩
    rw [hl]
    simp only [List.getD_cons_zero, List.getD_cons_succ]
    rw [← Bool.decide_and, decide_eq_decide]
    constructor
    · intro h
      have := congrArg (fun s : ByteArray => s.data.toList) h
      simp only [ext0, hl] at this
      injection this with h1 h3
      injection h3 with h3 _
      exact ⟨by rw [h1], by rw [h3]⟩
    · intro h
      apply ba_eq
      rw [ext0, hl, UInt8.toNat_inj.1 h.1, UInt8.toNat_inj.1 h.2]
      rfl
  · rw [decide_eq_false h2, Bool.false_and, Bool.false_and]
theorem hasP_ext {s w : ByteArray} (h : hasP s w = true) : w = s.extract 0 w.size := by
  unfold hasP at h
  simp only [Bool.and_eq_true, decide_eq_true_eq] at h
  exact h.2.symm
theorem sgn_find (s : ByteArray) (h0 : 0 < s.size) : sgnL.find? (hasP s) = if 0 < signN s then some (s.extract 0 (signN s)) else none := by
  have two : ∀ (c d : UInt8), 2 ≤ s.size → bt s 0 = c.toNat → bt s 1 = d.toNat → s.extract 0 2 = ⟨#[c, d]⟩ := fun c d h1 h2 h3 => (hasP_ext (w := ⟨#[c, d]⟩) (by rw [has2, decide_eq_true h1, decide_eq_true h2, decide_eq_true h3]; rfl)).symm
  have one : ∀ (c : UInt8), bt s 0 = c.toNat → s.extract 0 1 = ⟨#[c]⟩ := fun c h2 => (hasP_ext (w := ⟨#[c]⟩) (by rw [has1 s h0, decide_eq_true h2])).symm
  unfold sgnL signN
  simp only [List.find?, has1 s h0, has2, show (61 : UInt8).toNat = 61 from rfl, show (33 : UInt8).toNat = 33 from rfl, show (60 : UInt8).toNat = 60 from rfl, show (62 : UInt8).toNat = 62 from rfl, show (40 : UInt8).toNat = 40 from rfl, show (41 : UInt8).toNat = 41 from rfl, show (44 : UInt8).toNat = 44 from rfl, show (95 : UInt8).toNat = 95 from rfl]
  have hc : bt s 0 = 61 ∨ bt s 0 = 33 ∨ bt s 0 = 60 ∨ bt s 0 = 62 ∨ bt s 0 = 40 ∨ bt s 0 = 41 ∨ bt s 0 = 44 ∨ bt s 0 = 95 ∨ (bt s 0 ≠ 61 ∧ bt s 0 ≠ 33 ∧ bt s 0 ≠ 60 ∧ bt s 0 ≠ 62 ∧ bt s 0 ≠ 40 ∧ bt s 0 ≠ 41 ∧ bt s 0 ≠ 44 ∧ bt s 0 ≠ 95) := by omega
  by_cases h2 : 2 ≤ s.size
  · by_cases hb : bt s 1 = 61
    · rcases hc with h | h | h | h | h | h | h | h | ⟨g1, g2, g3, g4, g5, g6, g7, g8⟩
      · simp [h, hb, h2, two 61 61 h2 h hb]
      · simp [h, hb, h2, two 33 61 h2 h hb]
      · simp [h, hb, h2, two 60 61 h2 h hb]
      · simp [h, hb, h2, two 62 61 h2 h hb]
      · simp [h, hb, h2, one 40 h]
      · simp [h, hb, h2, one 41 h]
      · simp [h, hb, h2, one 44 h]
      · simp [h, hb, h2, one 95 h]
      · simp [g1, g2, g3, g4, g5, g6, g7, g8, hb, h2]
    · rcases hc with h | h | h | h | h | h | h | h | ⟨g1, g2, g3, g4, g5, g6, g7, g8⟩
      · simp [h, hb, h2]
      · simp [h, hb, h2]
      · simp [h, hb, h2, one 60 h]
      · simp [h, hb, h2, one 62 h]
      · simp [h, hb, h2, one 40 h]
      · simp [h, hb, h2, one 41 h]
      · simp [h, hb, h2, one 44 h]
      · simp [h, hb, h2, one 95 h]
      · simp [g1, g2, g3, g4, g5, g6, g7, g8, hb, h2]
  · rcases hc with h | h | h | h | h | h | h | h | ⟨g1, g2, g3, g4, g5, g6, g7, g8⟩
    · simp [h, h2]
    · simp [h, h2]
    · simp [h, h2, one 60 h]
    · simp [h, h2, one 62 h]
    · simp [h, h2, one 40 h]
    · simp [h, h2, one 41 h]
    · simp [h, h2, one 44 h]
    · simp [h, h2, one 95 h]
    · simp [g1, g2, g3, g4, g5, g6, g7, g8, h2]
theorem sgnP_F (n : Nat) (s : ByteArray) (h0 : 0 < s.size) (hn : 2000 < n) (k : ty36.D → Bool → Option R) : lex_sign_F n s k = if 0 < signN s then k (3, s.extract 0 (signN s), zV, 0, ()) true else k (0, (⟨#[]⟩ : ByteArray), zV, 0, ()) false := by
  rw [lex_sign_e]
  unfold lex_sign_Fi
  refine (sgnP_l n s _ sgnL 0 n rfl rfl (by show 10 < n; omega)).trans ?_
  rw [sgn_find s h0]
  by_cases h : 0 < signN s
  · rw [if_pos h, if_pos h]; rfl
  · rw [if_neg h, if_neg h]; rfl
theorem firstP_F (n : Nat) (s : ByteArray) (h0 : 0 < s.size) (hs : s.size ≤ 1000) (hn : 2000 < n) : ∃ z : ty36.D, ∀ k : ty36.D → Bool → Option R, lex_first_F n s k = match oneS s with
    | some t => k t true
    | none => k z false := by
  have c1 : (0 : Int) < (s.size : Int) := by omega
  have e45 : ((bt s 0 : Int) == 45) = decide (bt s 0 = 45) := beq_nat _ 45
  have e34 : ((bt s 0 : Int) == 34) = decide (bt s 0 = 34) := beq_nat _ 34
  have start : ∀ k : ty36.D → Bool → Option R, lex_first_F n s k = if letN (bt s 0) = true then lex_word_F n s (fun y2 => k y2 true) else (if digN (bt s 0) = true ∨ bt s 0 = 45 then lex_number_F n s k else (if bt s 0 = 34 then lex_quoted_F n s k else lex_sign_F n s k)) := by
    intro k
    rw [lex_first_e]
    unfold lex_first_Fi
    simp only [Int.le_refl, if_true, c1, byteAt_0, letP_F, digP_F, e45, e34]
    by_cases hl : letN (bt s 0) = true
    · simp only [hl, if_true]
    · simp only [hl, Bool.false_eq_true, if_false]
      by_cases hd : digN (bt s 0) = true
      · simp only [hd, if_true, true_or]
      · by_cases h4 : bt s 0 = 45
        · rw [if_neg hd, if_pos (decide_eq_true h4), if_pos (.inr h4)]
        · simp only [hd, h4, decide_false, Bool.false_eq_true, if_false, or_self]
          by_cases h3 : bt s 0 = 34
          · simp only [h3, decide_true, if_true]
          · simp only [h3, decide_false, Bool.false_eq_true, if_false]
  unfold oneS
  by_cases hl : letN (bt s 0) = true
  · refine ⟨(0, (⟨#[]⟩ : ByteArray), zV, 0, ()), fun k => ?_⟩
    rw [start, if_pos hl, wordP_F n s h0 hl hs hn, if_pos hl]
    by_cases h : (readV (s.extract 0 (wordN s))).2 = 0
    · rw [if_pos h, if_pos h]
    · rw [if_neg h, if_neg h]
  · by_cases hd : digN (bt s 0) = true ∨ bt s 0 = 45
    · obtain ⟨z, hz⟩ := numP_F (R := R) n s h0 hd hs hn
      refine ⟨z, fun k => ?_⟩
      rw [start, if_neg hl, if_pos hd, if_neg hl, if_pos hd]
      exact hz k
    · by_cases h3 : bt s 0 = 34
      · obtain ⟨z, hz⟩ := quoP_F (R := R) n s h0 hs hn
        refine ⟨z, fun k => ?_⟩
        rw [start, if_neg hl, if_neg hd, if_pos h3, if_neg hl, if_neg hd, if_pos h3]
        exact hz k
      · refine ⟨(0, (⟨#[]⟩ : ByteArray), zV, 0, ()), fun k => ?_⟩
        rw [start, if_neg hl, if_neg hd, if_neg h3, if_neg hl, if_neg hd, if_neg h3, sgnP_F n s h0 hn]
        by_cases h : 0 < signN s
        · rw [if_pos h, if_pos h]
        · rw [if_neg h, if_neg h]
end Go.Proofs.YtnnbinmomendnaaDoor.E
/- The iterator lex.tokens, walked by hand. -/
namespace Go.Proofs.YtnnbinmomendnaaDoor
open Go.RowKit Go.Shelf
attribute [local go_sem] Oper.semAt_some
abbrev Tok := E.ty36.D
def tokC (t : Tok) : Array Value := #[.int .i64 t.1, .string t.2.1, .int .i64 t.2.2.1.1, .bool t.2.2.1.2.1, .int .i64 t.2.2.1.2.2.1, .string t.2.2.1.2.2.2.1, .int .i64 t.2.2.2.1]
def encX (x : Tok × Bool) : Array Value := #[.agg (tokC x.1), .bool x.2]
def setAt (t : Tok) (i : Int) : Tok := (t.1, t.2.1, t.2.2.1, i, ())
/-- the block of the row that a box's slice holds -/
def rowOf (b5 : Nat) (W : World) : Option Nat := (W.cell? ⟨b5, 0, none⟩).bind Value.ownBlock
def OKW (b5 m : Nat) (W : World) : Prop := ∀ r, rowOf b5 W = some r → m ≤ r ∧ r < W.heap.size
/-- what a round leaves alone -/
structure Kp (b5 m : Nat) (A B : World) : Prop where
  ok : OKW b5 m A → OKW b5 m B
  size : A.heap.size ≤ B.heap.size
  low : ∀ k, k < m → k ≠ b5 → B.heap[k]? = A.heap[k]?
  own : ∀ k o, A.heap[k]? = some o → o.isCells = true → k ≠ b5 → rowOf b5 A ≠ some k → B.heap[k]? = some o
  row : ∀ r, rowOf b5 B = some r → rowOf b5 A = some r ∨ A.heap.size ≤ r
theorem Kp.trans {b5 m : Nat} {A B C : World} (h : Kp b5 m A B) (k : Kp b5 m B C) : Kp b5 m A C := by
  refine ⟨fun o => k.ok (h.ok o), Nat.le_trans h.size k.size, fun j h1 h2 => (k.low j h1 h2).trans (h.low j h1 h2), fun j o h1 h2 h3 h4 => k.own j o (h.own j o h1 h2 h3 h4) h2 h3 (fun e => ?_), fun r hr => ?_⟩
  · rcases h.row j e with e | e
    · exact h4 e
    · have := (Array.getElem?_eq_some_iff.1 h1).1; omega
  · rcases k.row r hr with e | e
    · exact h.row r e
    · exact .inr (Nat.le_trans h.size e)
theorem rowOf_same {b5 : Nat} {A B : World} (h : B.heap[b5]? = A.heap[b5]?) : rowOf b5 B = rowOf b5 A := by
  unfold rowOf World.cell?
  rw [show (⟨b5, 0, none⟩ : Addr).block = b5 from rfl, h]
theorem OKW.grow {b5 m : Nat} {A B : World} (h : OKW b5 m A) (hb : B.heap[b5]? = A.heap[b5]?) (hs : A.heap.size ≤ B.heap.size) : OKW b5 m B := fun r hr => by
  rw [rowOf_same hb] at hr
  have := h r hr
  exact ⟨this.1, by omega⟩
theorem Kp.book {b5 m : Nat} {w : World} (hb : b5 < w.heap.size) (hm : m ≤ w.heap.size) (W : World) (l : Nat) (o o' : Obj) (hl : w.heap.size ≤ l) (h : W.heap[l]? = some o) (hc : o.isCells = false) (_ : o.isWalk = false) : Kp b5 m W (W.putObj l o') := by
  have hs : (W.putObj l o').heap.size = W.heap.size := by simp
  have e5 : (W.putObj l o').heap[b5]? = W.heap[b5]? := World.putObj_heap_other (by omega)
  refine ⟨fun ok => ok.grow e5 (by omega), by omega, fun k h1 h2 => World.putObj_heap_other (by omega), fun k o1 h1 h2 _ _ => (World.putObj_heap_other (fun e => ?_)).trans h1, fun r hr => .inl (by rw [rowOf_same e5] at hr; exact hr)⟩
  subst e
  rw [h] at h1
  injection h1 with h1
  subst h1
  rw [hc] at h2
  cases h2
section
variable (sk : ByteArray → Nat → Nat) (one : ByteArray → Option Tok)
/-- the tokens that came, and where the text goes on -/
inductive Pre (s : ByteArray) : Nat → List (Tok × Bool) → Prop
  | nil : Pre s (sk s 0) []
  | cons {i : Nat} {pre : List (Tok × Bool)} {t : Tok} : Pre s i pre → i < s.size → one (s.extract i s.size) = some t → Pre s (sk s (i + t.2.1.size)) (pre ++ [(setAt t i, true)])
def Whole (s : ByteArray) (xs : List (Tok × Bool)) : Prop :=
  Pre sk one s s.size xs ∨ ∃ i pre z, Pre sk one s i pre ∧ i < s.size ∧ one (s.extract i s.size) = none ∧ xs = pre ++ [(setAt z i, false)]
def Part (s : ByteArray) (xs : List (Tok × Bool)) : Prop :=
  ∃ i pre z ok, Pre sk one s i pre ∧ i < s.size ∧ (ok = true → one (s.extract i s.size) = some z) ∧ (ok = false → one (s.extract i s.size) = none) ∧ xs = pre ++ [(setAt z i, ok)]
/-- what is known of the two functions that the iterator calls -/
structure Calls2 : Prop where
  sk1 : ∀ s i, i ≤ s.size → i ≤ sk s i ∧ sk s i ≤ s.size
  one1 : ∀ s t, 0 < s.size → one s = some t → 1 ≤ t.2.1.size ∧ t.2.1.size ≤ s.size
  run : ∀ (s : ByteArray) (i : Nat) (w : World), s.size ≤ 300 → i ≤ s.size → E.LayC w → (∀ g ∈ E.layG, g < w.heap.size) → Calls Tryd.prog 28 #[.string s, .int .i64 i, .func (.func 29) #[] #[]] w fun e w' => e = .returned (.int .i64 (sk s i : Nat)) ∧ Below w.heap.size w w'
  first : ∀ (s : ByteArray) (w : World), 0 < s.size → s.size ≤ 300 → E.LayC w → (∀ g ∈ E.layG, g < w.heap.size) → Calls Tryd.prog 30 #[.string s] w fun e w' => (∃ t ok, (ok = true → one s = some t) ∧ (ok = false → one s = none) ∧ e = .returned (.tuple #[.agg (tokC t), .bool ok])) ∧ Below w.heap.size w w'
variable {sk one}
theorem Pre.len (C : Calls2 sk one) {s : ByteArray} {i : Nat} {pre : List (Tok × Bool)} (h : Pre sk one s i pre) : i ≤ s.size ∧ pre.length ≤ i := by
  induction h with
  | nil => exact ⟨(C.sk1 s 0 (Nat.zero_le _)).2, Nat.zero_le _⟩
  | @cons i pre t h1 h2 h3 ih =>
    have := C.one1 _ t (by rw [ByteArray.size_extract]; omega) h3
    rw [ByteArray.size_extract] at this
    have h4 := C.sk1 s (i + t.2.1.size) (by omega)
    exact ⟨h4.2, by rw [List.length_append, List.length_singleton]; omega⟩
theorem grownBy_below {W W' : World} (h : Below W.heap.size W W') : W.grownBy W' none := ⟨h.os, h.tape, h.output, h.size, fun k hk _ => h.block k hk⟩
set_option maxRecDepth 100000 in
set_option maxHeartbeats 2000000 in
theorem it_in (C : Calls2 sk one) (n : Nat) (hn : 1 ≤ n) (l Bs b5 m : Nat) (hBs : Bs < m) (hne : Bs ≠ b5) (h5 : b5 < m) (hlay : ∀ g ∈ E.layG, g < m ∧ g ≠ b5) (s : ByteArray) (hs : s.size ≤ 300) (J Jx : List (Tok × Bool) → World → Prop)
    (hY : ∀ pre x W, J pre W → pre.length < 301 → YieldAt Fence.wide (n - 1) Tryd.prog l (encX x) W fun e W' =>
      (e = .returned (.bool true) ∧ J (pre ++ [x]) W' ∧ Kp b5 m W W') ∨ (e = .returned (.bool false) ∧ Jx (pre ++ [x]) W'))
    (W : World) (hok : OKW b5 m W) (hm : m ≤ W.heap.size) (hc : E.LayC W) (hbox : W.heap[Bs]? = some (.cells #[.string s] 9 (0, 0))) (hJ : AbidesFrom W.heap.size J) (h0 : J [] W) :
    CallsIn Fence.wide n Tryd.prog 27 #[.func (.yield l) #[] #[], .pointer (some ⟨Bs, 0, none⟩)] W fun e W' => (∃ v, e = .returned v) ∧
      ((∃ xs, Whole sk one s xs ∧ J xs W') ∨ (∃ pre, Part sk one s pre ∧ Jx pre W')) := by
  have hcell : W.cell? ⟨Bs, 0, none⟩ = some (.string s) := by simp [World.cell?, hbox]
  have hl0 : ∀ g ∈ E.layG, g < W.heap.size := fun g hg => Nat.lt_of_lt_of_le (hlay g hg).1 hm
  refine callsIn_of_wp Tryd.func27 rfl trivial ?_ rfl
  simp only [Tryd.ntmps27, List.size_toArray, List.length_cons, List.length_nil, Nat.reduceAdd, Nat.reduceSub, Array.replicate_succ, Array.replicate_zero, List.push_toArray, List.append_toArray, List.nil_append, List.cons_append]
  gi_wp2
  refine ⟨trivial, (callsIn_wide.2 (C.run s 0 W hs (Nat.zero_le _) hc hl0)).mono ?_⟩
  rintro e W1 ⟨rfl, hb1⟩
  gi_wp2
  gi_loopw [3] (fun v wr => ∃ (i : Nat) (pre : List (Tok × Bool)), v = .int .i64 i ∧ i ≤ s.size ∧ Pre sk one s i pre ∧ J pre wr ∧ OKW b5 m wr ∧ W.heap.size ≤ wr.heap.size ∧ E.LayC wr ∧ wr.heap[Bs]? = some (.cells #[.string s] 9 (0, 0)))
    (fun v _ => s.size - (intOf v).toNat)
  case atStart =>
    have h5l : W1.heap[b5]? = W.heap[b5]? := hb1.block b5 (by omega)
    exact ⟨sk s 0, [], rfl, (C.sk1 s 0 (Nat.zero_le _)).2, .nil, hJ [] W W1 none h0 (grownBy_below hb1) (fun r e => by cases e), hok.grow h5l hb1.size, hb1.size, E.LayC.same (fun g hg => hb1.block g (hl0 g hg)) hc, (hb1.block Bs (by omega)).trans hbox⟩
  case round =>
    obtain ⟨i, pre, rfl, hi, hp, hJr, hokr, hsz, hcr, hbr⟩ := hrel
    have hcellr : wr.cell? ⟨Bs, 0, none⟩ = some (.string s) := by simp [World.cell?, hbr]
    have hl1 : ∀ g ∈ E.layG, g < wr.heap.size := fun g hg => Nat.lt_of_lt_of_le (hl0 g hg) hsz
    by_cases hlt : i < s.size
    · gi_wp2
      refine ⟨trivial, (callsIn_wide.2 (C.first (s.extract i s.size) wr (by rw [ByteArray.size_extract]; omega) (by rw [ByteArray.size_extract]; omega) hcr hl1)).mono ?_⟩
      rintro e W2 ⟨⟨⟨a1, a2, ⟨a3, a4, a5, a6, ⟨⟩⟩, a7, ⟨⟩⟩, ok, ht1, ht2, rfl⟩, hb2⟩
      simp only [tokC]
      obtain ⟨W3, hW3⟩ : ∃ W3, W2.alloc (.cells #[.int .i64 a1, .string a2, .int .i64 a3, .bool a4, .int .i64 a5, .string a6, .int .i64 i] 36) = W3 := ⟨_, rfl⟩
      have hb3 : Below wr.heap.size wr W3 := by rw [← hW3]; exact hb2.alloc hb2.size _
      have hs3 : W3.heap.size = W2.heap.size + 1 := by rw [← hW3]; simp
      have hs2 := hb2.size
      have hB3 : W3.heap[W2.heap.size]? = some (.cells #[.int .i64 a1, .string a2, .int .i64 a3, .bool a4, .int .i64 a5, .string a6, .int .i64 i] 36 (0, 0)) := by rw [← hW3]; exact World.alloc_heap_new W2 _
      have h5r : b5 < wr.heap.size := by omega
      have e53 : W3.heap[b5]? = wr.heap[b5]? := hb3.block b5 h5r
      have hJ3 : J pre W3 := hJ pre wr W3 none hJr (grownBy_below hb3) (fun r e => by cases e)
      have hok3 : OKW b5 m W3 := hokr.grow e53 hb3.size
      have hc3 : E.LayC W3 := E.LayC.same (fun g hg => hb3.block g (hl1 g hg)) hcr
      have hbx3 : W3.heap[Bs]? = some (.cells #[.string s] 9 (0, 0)) := (hb3.block Bs (by omega)).trans hbr
      have hplen : pre.length < 301 := by have := (hp.len C).2; omega
      obtain ⟨fn, tmps, assign, body, hy, hR⟩ := hY pre ((a1, a2, (a3, a4, a5, a6, ()), (i : Int), ()), ok) W3 hJ3 hplen
      dsimp only [encX, tokC] at hy
      rw [← hW3] at hy
      have HW := Lib.hid hW3
      clear hW3
      gi_wp2
      rw [HW.out]
      refine hR.mono ?_
      rintro e W4 (⟨rfl, hJ4, hk4⟩ | ⟨rfl, hx4⟩)
      · have hs4 := hk4.size
        have hr3 : rowOf b5 W3 ≠ some W2.heap.size := fun e => by
          rw [rowOf_same e53] at e
          have := (hokr _ e).2
          omega
        have hB4 := hk4.own _ _ hB3 rfl (by omega) hr3
        have hbx4 : W4.heap[Bs]? = some (.cells #[.string s] 9 (0, 0)) := (hk4.low Bs hBs hne).trans hbx3
        have hc4 : E.LayC W4 := E.LayC.same (fun g hg => hk4.low g (hlay g hg).1 (hlay g hg).2) hc3
        have hl4 : ∀ g ∈ E.layG, g < W4.heap.size := fun g hg => Nat.lt_of_lt_of_le (hl1 g hg) (by omega)
        have hok4 := hk4.ok hok3
        have hcell4 : W4.cell? ⟨Bs, 0, none⟩ = some (.string s) := by simp [World.cell?, hbx4]
        have hcA : W4.cell? ⟨W2.heap.size, 1, none⟩ = some (.string a2) := by simp [World.cell?, hB4]
        cases ok with
        | false =>
          gi_wp2
          refine bodyPost_ret (results_none rfl _ _ _) rfl ?_
          exact ⟨⟨_, rfl⟩, .inl ⟨pre ++ [((a1, a2, (a3, a4, a5, a6, ()), (i : Int), ()), false)], .inr ⟨i, pre, (a1, a2, (a3, a4, a5, a6, ()), a7, ()), hp, hlt, ht2 (by simp), rfl⟩, hJ4⟩⟩
        | true =>
          have ho := ht1 rfl
          have hsz1 := C.one1 _ _ (by rw [ByteArray.size_extract]; omega) ho
          rw [ByteArray.size_extract] at hsz1
          gi_wp2
          rw [show (i : Int) + (a2.size : Int) = ((i + a2.size : Nat) : Int) from by omega]
          refine ⟨trivial, (callsIn_wide.2 (C.run s (i + a2.size) W4 hs (by omega) hc4 hl4)).mono ?_⟩
          rintro e W5 ⟨rfl, hb5⟩
          gi_wp2
          go_roundw
          case rel => exact ⟨sk s (i + a2.size), pre ++ [((a1, a2, (a3, a4, a5, a6, ()), (i : Int), ()), true)], rfl, (C.sk1 s _ (by omega)).2, .cons hp hlt ho, hJ _ W4 W5 none hJ4 (grownBy_below hb5) (fun r e => by cases e), hok4.grow (hb5.block b5 (by omega)) hb5.size, by have := hb5.size; omega, E.LayC.same (fun g hg => hb5.block g (hl4 g hg)) hc4, (hb5.block Bs (by omega)).trans hbx4⟩
          case measure =>
            have := C.sk1 s (i + a2.size) (by omega)
            simp [intOf]
            omega
      · gi_wp2
        refine bodyPost_ret (results_none rfl _ _ _) rfl ?_
        exact ⟨⟨_, rfl⟩, .inr ⟨pre ++ [((a1, a2, (a3, a4, a5, a6, ()), (i : Int), ()), ok)], ⟨i, pre, (a1, a2, (a3, a4, a5, a6, ()), a7, ()), ok, hp, hlt, ht1, ht2, rfl⟩, hx4⟩⟩
    · gi_wp2
      go_end0
      have : i = s.size := by omega
      subst this
      exact ⟨⟨_, rfl⟩, .inl ⟨pre, .inl hp, hJr⟩⟩
end
end Go.Proofs.YtnnbinmomendnaaDoor
/- lex.Read, walked by hand over its iterator. -/
namespace Go.Proofs.YtnnbinmomendnaaDoor
open Go.RowKit Go.Shelf
attribute [local go_sem] Oper.semAt_some
section
variable {sk : ByteArray → Nat → Nat} {one : ByteArray → Option Tok}
theorem tokens_in (n : Nat) (s : ByteArray) (w : World) :
    CallsIn Fence.wide n Tryd.prog 21 #[.string s] w fun e w' => e = .returned (.func (.func 27) #[] #[.pointer (some ⟨w.heap.size, 0, none⟩)]) ∧ w' = w.alloc (.cells #[.string s] 9) := by
  refine callsIn_of_wp Tryd.func21 rfl trivial ?_ rfl
  simp only [Tryd.ntmps21, List.size_toArray, List.length_cons, List.length_nil, Nat.reduceAdd, Nat.reduceSub, Array.replicate_succ, Array.replicate_zero, List.push_toArray, List.append_toArray, List.nil_append, List.cons_append]
  gi_wp2
  go_ret
  exact ⟨rfl, rfl⟩
theorem it_stops (C : Calls2 sk one) (n : Nat) (hn : 1 ≤ n) (Bs b5 m : Nat) (hBs : Bs < m) (hne : Bs ≠ b5) (h5 : b5 < m) (hlay : ∀ g ∈ E.layG, g < m ∧ g ≠ b5) (s : ByteArray) (hs : s.size ≤ 300) (w : World) (hok : OKW b5 m w) (hm : m ≤ w.heap.size) (hc : E.LayC w)
    (hbox : w.heap[Bs]? = some (.cells #[.string s] 9 (0, 0))) :
    SeqStopsK Fence.wide n Tryd.prog 27 #[.pointer (some ⟨Bs, 0, none⟩)] encX (Kp b5 m) (Whole sk one s) (Part sk one s) 301 w := fun l J Jx W hW hJ _ hY h0 =>
  it_in C n hn l Bs b5 m hBs hne h5 hlay s hs J Jx hY W (hok.grow (hW.block b5 (by omega)) hW.size) (Nat.le_trans hm hW.size) (E.LayC.same (fun g hg => hW.block g (Nat.lt_of_lt_of_le (hlay g hg).1 hm)) hc) ((hW.block Bs (by omega)).trans hbox) hJ h0
def rowC (xs : List (Tok × Bool)) : List Value := xs.flatMap fun x => (tokC x.1).toList
theorem rowC_len (xs : List (Tok × Bool)) : (rowC xs).length = xs.length * 7 := by
  induction xs with
  | nil => rfl
  | cons x xs ih => rw [rowC, List.flatMap_cons, List.length_append, show (xs.flatMap fun x => (tokC x.1).toList) = rowC xs from rfl, ih, List.length_cons]; show 7 + _ = _; omega
def AllOk (xs : List (Tok × Bool)) : Prop := ∀ x ∈ xs, x.2 = true
/-- between two rounds -/
structure At (w : World) (xs : List (Tok × Bool)) (W : World) : Prop where
  ok : AllOk xs
  b2 : Boxed W w.heap.size 22 (.slice none 0 0)
  b3 : Boxed W (w.heap.size + 1) 3 (.int .i64 0)
  b4 : Boxed W (w.heap.size + 1 + 1) 23 (.int .i64 0)
  b5 : ∃ v, Boxed W (w.heap.size + 1 + 1 + 1) 22 v ∧ W.ownsRow (w.heap.size + 5) 36 7 v xs.length (rowC xs)
  below : Below w.heap.size w W
  sz : w.heap.size + 5 ≤ W.heap.size
theorem infoTok : (Tryd.prog.info? 36).map (fun i => (i.zero, i.size, i.bytes)) = some (some (.agg (tokC (0, ⟨#[]⟩, (0, false, 0, ⟨#[]⟩, ()), 0, ()))), 7, 72) := by kernel_rfl
theorem cells_new (w : World) (cs : Array Value) (t : TypeId) : ∀ j u, cs.toList[j]? = some u → (w.alloc (.cells cs t)).cell? ((⟨w.heap.size, 0, none⟩ : Addr).add j) = some u := by
  intro j u hj
  have e := World.alloc_heap_new w (.cells cs t)
  rw [Addr.add_mid]
  simp only [World.cell?, e]
  simpa using hj
theorem ownsRow_alloc' {W : World} {base : Nat} {e : TypeId} {size : Nat} {v : Value} {k : Nat} {xs : List Value} (h : W.ownsRow base e size v k xs) (o : Obj) : (W.alloc o).ownsRow base e size v k xs := h.alloc o
theorem ownsRow_base {W : World} {base base' : Nat} {e : TypeId} {size : Nat} {v : Value} {k : Nat} {xs : List Value} (h : W.ownsRow base e size v k xs) (hb : base' ≤ base) : W.ownsRow base' e size v k xs := by
  refine ⟨h.1, ?_⟩
  rcases h.2 with h0 | ⟨g, cap, cur, e1, hg, r⟩
  · exact .inl h0
  · exact .inr ⟨g, cap, cur, e1, by omega, r⟩
theorem boxed_from {β : Type} (B : Nat) (t : TypeId) (v : Value) {D : Nat} : OwnFrom D (fun (_ : β) W => Boxed W B t v) := Own.from (boxed_own B t fun _ => v) D
theorem At.own {w : World} {D : Nat} (hD : w.heap.size ≤ D) : OwnFrom D (fun pre W => At w pre W) := fun xs X Y row h hg hr => by
  obtain ⟨v, h5, h6⟩ := h.b5
  obtain ⟨v', h5', h6', _⟩ := (Own.from (holdsRow_own (w.heap.size + 5) (w.heap.size + 1 + 1 + 1) 22 36 7 (fun xs : List (Tok × Bool) => xs.length) rowC (fun _ _ => True)) D) xs X Y row ⟨v, h5, h6, trivial⟩ hg hr
  exact ⟨h.ok, boxed_from (β := Unit) _ _ _ () X Y row h.b2 hg hr, boxed_from (β := Unit) _ _ _ () X Y row h.b3 hg hr, boxed_from (β := Unit) _ _ _ () X Y row h.b4 hg hr, ⟨v', h5', h6'⟩, ownFrom_below (β := Unit) (Nat.le_refl _) hD () X Y row h.below hg hr, Nat.le_trans h.sz hg.size⟩
theorem At.alloc {w W : World} {pre : List (Tok × Bool)} (h : At w pre W) (o : Obj) : At w pre (W.alloc o) := At.own (Nat.le_refl _) pre W _ none h (World.grownBy_alloc W o none) (fun r e => by cases e)
theorem At.okw {w W : World} {pre : List (Tok × Bool)} (h : At w pre W) : OKW (w.heap.size + 1 + 1 + 1) (w.heap.size + 5) W := fun r hr => by
  obtain ⟨v, h5, h6⟩ := h.b5
  unfold rowOf at hr
  rw [h5.cell] at hr
  exact h6.lt r hr
theorem Kp.alloc {b5 m : Nat} {W : World} (h5 : b5 < W.heap.size) (hm : m ≤ W.heap.size) (o : Obj) : Kp b5 m W (W.alloc o) := by
  have e5 : (W.alloc o).heap[b5]? = W.heap[b5]? := Below.heap_alloc _ _ _ h5
  have hs : (W.alloc o).heap.size = W.heap.size + 1 := by simp
  refine ⟨fun ok => ok.grow e5 (by omega), by omega, fun k h1 _ => Below.heap_alloc _ _ _ (by omega), fun k o1 h1 _ _ _ => (Below.heap_alloc _ _ _ (Array.getElem?_eq_some_iff.1 h1).1).trans h1, fun r hr => .inl (by rw [rowOf_same e5] at hr; exact hr)⟩
theorem Stop.own {w : World} {D : Nat} (hD : w.heap.size ≤ D) (c : Code) : OwnFrom D (fun (pre : List (Tok × Bool)) W => c = .ret ∧ Below w.heap.size w W ∧ ∃ p z, pre = p ++ [(z, false)] ∧ AllOk p ∧ Boxed W w.heap.size 22 (.slice none 0 0) ∧ Boxed W (w.heap.size + 1) 3 (.int .i64 z.2.2.2.1) ∧ Boxed W (w.heap.size + 1 + 1) 23 (.int .i64 7)) := fun xs X Y row h hg hr => by
  obtain ⟨e, hB, p, z, h1, h2, h3, h4, h5⟩ := h
  exact ⟨e, ownFrom_below (β := Unit) (Nat.le_refl _) hD () X Y row hB hg hr, p, z, h1, h2, boxed_from (β := Unit) _ _ _ () X Y row h3 hg hr, boxed_from (β := Unit) _ _ _ () X Y row h4 hg hr, boxed_from (β := Unit) _ _ _ () X Y row h5 hg hr⟩
/-- a round that goes on: the token stands behind the others -/
theorem body_ok {w W w3 : World} {pre : List (Tok × Bool)} {v : Value} {g' cap' D : Nat} {o : Obj} {tok : Tok} {Ix : Code → List (Tok × Bool) → World → Prop} {a' : Act} (hA : At w pre W) (h5 : Boxed W (w.heap.size + 1 + 1 + 1) 22 v) (h6 : W.ownsRow (w.heap.size + 5) 36 7 v pre.length (rowC pre))
    (hown : w3.ownsRow (w.heap.size + 5) 36 7 (.slice (some ⟨g', 0, none⟩) (pre.length + 1) cap') (pre.length + 1) (rowC pre ++ (tokC tok).toList)) (hg : (W.alloc o).grownBy w3 v.ownBlock)
    (hat : (Value.slice (some ⟨g', 0, none⟩) (pre.length + 1) cap').ownBlock = v.ownBlock ∨ (Value.slice (some ⟨g', 0, none⟩) (pre.length + 1) cap').ownBlock = some (W.alloc o).heap.size) :
    ownPostG D (Kp (w.heap.size + 1 + 1 + 1) (w.heap.size + 5)) (fun pre W => At w pre W) Ix (pre ++ [(tok, true)]) W Exit.normal a' (w3.setCell ⟨w.heap.size + 1 + 1 + 1, 0, none⟩ (.slice (some ⟨g', 0, none⟩) (pre.length + 1) cap')) := by
  have hsz := hA.sz
  have h6' := ownsRow_alloc' h6 o
  have hs3 := hg.size
  have hsa : (W.alloc o).heap.size = W.heap.size + 1 := by simp
  obtain ⟨w4, hw4⟩ : ∃ w4, w3.setCell ⟨w.heap.size + 1 + 1 + 1, 0, none⟩ (.slice (some ⟨g', 0, none⟩) (pre.length + 1) cap') = w4 := ⟨_, rfl⟩
  have hg4 : w3.grownBy w4 (some (w.heap.size + 1 + 1 + 1)) := by rw [← hw4]; exact grownBy_setCell' _ _ _
  have hs4 := hg4.size
  have b53 : Boxed w3 (w.heap.size + 1 + 1 + 1) 22 v := (h5.alloc _).kept hg ((h5.alloc _).not_row (by decide) h6')
  have b54 : Boxed w4 (w.heap.size + 1 + 1 + 1) 22 (.slice (some ⟨g', 0, none⟩) (pre.length + 1) cap') := by rw [← hw4]; exact b53.set _
  have same : ∀ k, k < W.heap.size → k ≠ w.heap.size + 1 + 1 + 1 → v.ownBlock ≠ some k → w4.heap[k]? = W.heap[k]? := fun k h1 h2 h3 =>
    (hg4.block k (by omega) (fun e => h2 (by cases e; rfl))).trans ((hg.block k (by omega) (fun e => h3 e.symm)).trans (Below.heap_alloc _ _ k h1))
  have hown4 : w4.ownsRow (w.heap.size + 5) 36 7 (.slice (some ⟨g', 0, none⟩) (pre.length + 1) cap') (pre.length + 1) (rowC pre ++ (tokC tok).toList) := hown.kept hg4 (by
    have := b53.not_row (by decide) hown
    exact .inr fun e => this e.symm)
  have hrow : rowOf (w.heap.size + 1 + 1 + 1) W = v.ownBlock := by unfold rowOf; rw [h5.cell]; rfl
  have hrow4 : rowOf (w.heap.size + 1 + 1 + 1) w4 = some g' := by unfold rowOf; rw [b54.cell]; rfl
  have hlt4 := hown4.lt g' rfl
  rw [hw4]
  refine ⟨(((KeepsOthers.alloc _ _).trans (KeepsOthers.of_grownBy hg ?_)).trans (by rw [← hw4]; exact KeepsOthers.setCell _ _ _)).from _, ⟨fun _ r hr => ?_, by omega, fun k h1 h2 => same k (by omega) h2 (fun e => ?_), fun k o h1 _ h3 h4 => (same k (Array.getElem?_eq_some_iff.1 h1).1 h3 (by rw [← hrow]; exact h4)).trans h1, fun r hr => ?_⟩, ?_⟩
  · intro j o' hj ho
    rcases h6'.2 with ⟨rfl, _⟩ | ⟨g, cap, cur, rfl, _, hgb, _⟩
    · simp [Value.ownBlock] at hj
    · have : g = j := by simpa [Value.ownBlock] using hj
      subst this
      rw [hgb] at ho
      cases ho
      rfl
  · rw [hrow4] at hr
    cases hr
    exact hlt4
  · have := (h6.lt k e).1
    omega
  · rw [hrow4] at hr
    cases hr
    rcases hat with e | e
    · exact .inl (by rw [hrow, ← e]; rfl)
    · have : g' = (W.alloc o).heap.size := by simpa [Value.ownBlock] using e
      exact .inr (by omega)
  · have keepB : ∀ {b : Nat} {t : TypeId} {u : Value}, Boxed W b t u → t ≠ 36 → b ≠ w.heap.size + 1 + 1 + 1 → Boxed w4 b t u := fun hb ht hne =>
      (same _ hb.lt hne (fun e => (hb.not_row ht h6) e.symm)).trans hb
    refine ⟨fun x hx => ?_, keepB hA.b2 (by decide) (by omega), keepB hA.b3 (by decide) (by omega), keepB hA.b4 (by decide) (by omega), ⟨_, b54, ?_⟩, ?_, by omega⟩
    · rcases List.mem_append.1 hx with hx | hx
      · exact hA.ok x hx
      · simp at hx
        rw [hx]
    · rw [List.length_append, List.length_singleton, show rowC (pre ++ [(tok, true)]) = rowC pre ++ (tokC tok).toList from by simp [rowC]]
      exact hown4
    · exact ((hA.below.alloc (by omega) _).grown hg (by omega) (fun k e => by have := (h6.lt k e).1; omega)).grown hg4 (by omega) (fun k e => by cases e; omega)
set_option maxRecDepth 100000 in
set_option maxHeartbeats 2000000 in
theorem read_in (C : Calls2 sk one) (s : ByteArray) (hs : s.size ≤ 300) (w : World) (hc : E.LayC w) (hl : ∀ g ∈ E.layG, g < w.heap.size) :
    CallsIn Fence.wide 5 Tryd.prog 7 #[.string s] w fun e w' => Below w.heap.size w w' ∧ ∃ v : Value, ∃ xs : List (Tok × Bool), AllOk xs ∧
      ((Pre sk one s s.size xs ∧ e = .returned (.tuple #[v, .int .i64 0, .int .i64 0]) ∧ w'.ownsRow w.heap.size 36 7 v (xs.length + 1) (rowC xs ++ (tokC (4, ⟨#[]⟩, (0, false, 0, ⟨#[]⟩, ()), (s.size : Int), ())).toList)) ∨
       (∃ i, Pre sk one s i xs ∧ i < s.size ∧ one (s.extract i s.size) = none ∧ e = .returned (.tuple #[.slice none 0 0, .int .i64 i, .int .i64 7]))) := by
  have t22 := Tryd.underlying22
  have t36 := Tryd.underlying36
  refine callsIn_of_wp_marks Tryd.func7 rfl trivial ?_ rfl
  simp only [Tryd.ntmps7, List.size_toArray, List.length_cons, List.length_nil, Nat.reduceAdd, Nat.reduceSub, Array.replicate_succ, Array.replicate_zero, List.push_toArray, List.append_toArray, List.nil_append, List.cons_append]
  have hd : ¬ (300 : Int) < s.size := by omega
  gi_wp2
  refine ⟨trivial, (tokens_in 4 s _).mono ?_⟩
  rintro e w' ⟨rfl, rfl⟩
  gi_wp2
  obtain ⟨W0, hW0⟩ : ∃ W0, (((((w.alloc (.cells #[.slice none 0 0] 22)).alloc (.cells #[.int .i64 0] 3)).alloc (.cells #[.int .i64 0] 23)).alloc (.cells #[.slice none 0 0] 22)).alloc (.cells #[.string s] 9)) = W0 := ⟨_, rfl⟩
  have hs0 : W0.heap.size = w.heap.size + 5 := by rw [← hW0]; simp
  have hB0 : Below w.heap.size w W0 := by
    rw [← hW0]
    exact (((((Below.refl _ w).alloc (Nat.le_refl _) _).alloc (by simp) _).alloc (by simp; omega) _).alloc (by simp; omega) _).alloc (by simp; omega) _
  have c2 : Boxed W0 w.heap.size 22 (.slice none 0 0) := by rw [← hW0]; exact ((((Boxed.new w _ _).alloc _).alloc _).alloc _).alloc _
  have c3 : Boxed W0 (w.heap.size + 1) 3 (.int .i64 0) := by
    rw [← hW0]
    have := Boxed.new (w.alloc (.cells #[.slice none 0 0] 22)) 3 (.int .i64 0)
    rw [World.size_alloc] at this
    exact ((this.alloc _).alloc _).alloc _
  have c4 : Boxed W0 (w.heap.size + 1 + 1) 23 (.int .i64 0) := by
    rw [← hW0]
    have := Boxed.new ((w.alloc (.cells #[.slice none 0 0] 22)).alloc (.cells #[.int .i64 0] 3)) 23 (.int .i64 0)
    rw [World.size_alloc, World.size_alloc] at this
    exact (this.alloc _).alloc _
  have c5 : Boxed W0 (w.heap.size + 1 + 1 + 1) 22 (.slice none 0 0) := by
    rw [← hW0]
    have := Boxed.new (((w.alloc (.cells #[.slice none 0 0] 22)).alloc (.cells #[.int .i64 0] 3)).alloc (.cells #[.int .i64 0] 23)) 22 (.slice none 0 0)
    rw [World.size_alloc, World.size_alloc, World.size_alloc] at this
    exact this.alloc _
  have c6 : W0.heap[w.heap.size + 1 + 1 + 1 + 1]? = some (.cells #[.string s] 9 (0, 0)) := by
    rw [← hW0]
    have := Boxed.new ((((w.alloc (.cells #[.slice none 0 0] 22)).alloc (.cells #[.int .i64 0] 3)).alloc (.cells #[.int .i64 0] 23)).alloc (.cells #[.slice none 0 0] 22)) 9 (.string s)
    rw [World.size_alloc, World.size_alloc, World.size_alloc, World.size_alloc] at this
    exact this
  have hrow0 : rowOf (w.heap.size + 1 + 1 + 1) W0 = none := by unfold rowOf; rw [c5.cell]; rfl
  have hok0 : OKW (w.heap.size + 1 + 1 + 1) (w.heap.size + 5) W0 := fun r hr => by rw [hrow0] at hr; cases hr
  have hc0 : E.LayC W0 := E.LayC.same (fun g hg => hB0.block g (hl g hg)) hc
  have hlay : ∀ g ∈ E.layG, g < w.heap.size + 5 ∧ g ≠ w.heap.size + 1 + 1 + 1 := fun g hg => by have := hl g hg; omega
  rw [hW0]
  clear hW0
  refine wpIn_rangeFunc_ownH rfl (by omega) (gf := 27) (lb := #[.pointer (some ⟨w.heap.size + 1 + 1 + 1 + 1, 0, none⟩)]) rfl trivial (enters_of Tryd.func27 (by kernel_rfl) rfl)
    (it_stops C 4 (by omega) (w.heap.size + 1 + 1 + 1 + 1) (w.heap.size + 1 + 1 + 1) (w.heap.size + 5) (by omega) (by omega) (by omega) hlay s hs W0 hok0 (by omega) hc0 c6)
    Kp.trans (Kp.book (by omega) (by omega)) (Below.refl _ _) (fun _ => rfl)
    (fun pre W => At w pre W)
    (fun c pre W => c = .ret ∧ Below w.heap.size w W ∧ ∃ p z, pre = p ++ [(z, false)] ∧ AllOk p ∧ Boxed W w.heap.size 22 (.slice none 0 0) ∧ Boxed W (w.heap.size + 1) 3 (.int .i64 z.2.2.2.1) ∧ Boxed W (w.heap.size + 1 + 1) 23 (.int .i64 7))
    (At.own (by omega)) (Stop.own (by omega))
    ⟨(fun x hx => by cases hx), c2, c3, c4, ⟨_, c5, ⟨rfl, .inl ⟨rfl, rfl⟩⟩⟩, hB0, by omega⟩
    (fun x a' W => ∃ k v, w.heap.size + 5 ≤ k ∧ (Boxed W (w.heap.size + 1 + 1 + 1) 22 v ∧ v.ownBlock ≠ some k) ∧ W.heap[k]? = some (.cells (tokC x.1) 36 (0, 0)) ∧ a' = { tmps := #[.string s, undef, .pointer (some ⟨w.heap.size, 0, none⟩), .pointer (some ⟨w.heap.size + 1, 0, none⟩), .pointer (some ⟨w.heap.size + 1 + 1, 0, none⟩), .pointer (some ⟨w.heap.size + 1 + 1 + 1, 0, none⟩), .pointer (some ⟨k, 0, none⟩), .bool x.2, .string s, .int .i64 s.size, .bool false, .string s, .func (.func 27) #[] #[.pointer (some ⟨w.heap.size + 1 + 1 + 1 + 1, 0, none⟩)], .agg (tokC x.1), .bool x.2, undef, undef, undef, undef, undef, undef, undef, undef, undef, undef, undef, undef, undef, undef], defers := [] })
    (fun x a' _ X Y row hs hg hr => by
      obtain ⟨k, v, h1, ⟨h2, h2'⟩, h3, h4⟩ := hs
      refine ⟨k, v, h1, ⟨boxed_from (β := Unit) _ _ _ () X Y row h2 hg hr, h2'⟩, (hg.block k (Array.getElem?_eq_some_iff.1 h3).1 (fun e => ?_)).trans h3, h4⟩
      obtain ⟨_, o, ho, hno⟩ := hr k e.symm
      rw [h3] at ho
      cases ho
      cases hno)
    ?assign ?body ?done ?stop
  case assign =>
    rintro l pre ⟨⟨a1, a2, ⟨a3, a4, a5, a6, ⟨⟩⟩, a7, ⟨⟩⟩, ok⟩ W K hA hK
    simp only [encX, tokC]
    gi_wp2
    obtain ⟨v, h5, h6⟩ := hA.b5
    have hsz := hA.sz
    refine hK _ _ ((KeepsOthers.alloc _ _).from _) (Kp.alloc (by omega) hsz _) (hA.alloc _) ⟨W.heap.size, v, hsz, ⟨h5.alloc _, fun e => ?_⟩, World.alloc_heap_new W _, rfl⟩
    have := (h6.lt _ e).2
    omega
  case body =>
    rintro l pre ⟨⟨a1, a2, ⟨a3, a4, a5, a6, ⟨⟩⟩, a7, ⟨⟩⟩, ok⟩ a' W hl ⟨r, hr⟩ hA ⟨k, v, hk1, ⟨hk2, hk2'⟩, hk3, rfl⟩ hlt
    obtain ⟨v', h5, h6⟩ := hA.b5
    obtain rfl : v = v' := by
      have := (show W.heap[_]? = _ from h5).symm.trans hk2
      simp at this
      exact this.symm
    have d2 := hA.b2; have d3 := hA.b3; have d4 := hA.b4
    have f2 := d2.frozen; have f3 := d3.frozen; have f4 := d4.frozen; have f5 := h5.frozen; have e5 := h5.cell
    simp only [tokC] at hk3
    have k6 : W.cell? ⟨k, 6, none⟩ = some (.int .i64 a7) := by simp [World.cell?, hk3]
    simp only [tokC]
    cases ok with
    | false =>
      gi_wp2
      have e2 := d2.cell; have e3 := d3.cell; have e4 := d4.cell
      have n2 : k ≠ w.heap.size := by omega
      have n2' : w.heap.size ≠ k := by omega
      gi_region
      all_goals
        gi_wp2
        refine ⟨((((KeepsOthers.setCell _ _ _).trans (KeepsOthers.setCell _ _ _)).trans (KeepsOthers.setCell _ _ _)).trans (KeepsOthers.drew _)).from _, rfl, ?_, pre, (a1, a2, (a3, a4, a5, a6, ()), a7, ()), rfl, hA.ok, ?_, ?_, ?_⟩
        · exact (((hA.below.setCell (p := ⟨w.heap.size, 0, none⟩) (by simp) _).setCell (p := ⟨w.heap.size + 1, 0, none⟩) (by simp) _).setCell (p := ⟨w.heap.size + 1 + 1, 0, none⟩) (by simp; omega) _).drew
        · show Boxed (((W.setCell ⟨w.heap.size, 0, none⟩ (.slice none 0 0)).setCell ⟨w.heap.size + 1, 0, none⟩ (.int .i64 a7)).setCell ⟨w.heap.size + 1 + 1, 0, none⟩ (.int .i64 7)) _ _ _
          exact ((d2.set _).other (by omega) _).other (by omega) _
        · show Boxed (((W.setCell ⟨w.heap.size, 0, none⟩ (.slice none 0 0)).setCell ⟨w.heap.size + 1, 0, none⟩ (.int .i64 a7)).setCell ⟨w.heap.size + 1 + 1, 0, none⟩ (.int .i64 7)) _ _ _
          exact ((d3.other (by omega) _).set _).other (by omega) _
        · show Boxed (((W.setCell ⟨w.heap.size, 0, none⟩ (.slice none 0 0)).setCell ⟨w.heap.size + 1, 0, none⟩ (.int .i64 a7)).setCell ⟨w.heap.size + 1 + 1, 0, none⟩ (.int .i64 7)) _ _ _
          exact ((d4.other (by omega) _).other (by omega) _).set _
    | true =>
      obtain ⟨i0, hi, hz0, hz1, hz2⟩ := info_parts infoTok
      have q0 : W.cell? ⟨k, 0, none⟩ = some (.int .i64 a1) := by simp [World.cell?, hk3]
      have q1 : W.cell? ⟨k, 1, none⟩ = some (.string a2) := by simp [World.cell?, hk3]
      have q2 : W.cell? ⟨k, 2, none⟩ = some (.int .i64 a3) := by simp [World.cell?, hk3]
      have q3 : W.cell? ⟨k, 3, none⟩ = some (.bool a4) := by simp [World.cell?, hk3]
      have q4 : W.cell? ⟨k, 4, none⟩ = some (.int .i64 a5) := by simp [World.cell?, hk3]
      have q5 : W.cell? ⟨k, 5, none⟩ = some (.string a6) := by simp [World.cell?, hk3]
      have hsz := hA.sz
      gi_wp2_with (first
        | (gi_at_builtin
           refine wpListIn_append_own_at _ rfl _ _ 22 rfl (w.heap.size + 5) 36 i0 (.agg (tokC (0, ⟨#[]⟩, (0, false, 0, ⟨#[]⟩, ()), 0, ()))) 7 72 t22 hi hz0 hz1 hz2 rfl (by decide) _ _ _ rfl (ownsRow_alloc' h6 _) ⟨W.heap.size, 0, none⟩ 1 1 [.int .i64 a1, .string a2, .int .i64 a3, .bool a4, .int .i64 a5, .string a6, .int .i64 a7] rfl rfl (cells_new W #[.int .i64 a1, .string a2, .int .i64 a3, .bool a4, .int .i64 a5, .string a6, .int .i64 a7] 36) (by simp [Value.oneCell']) (by unfold maxLen; omega) (by omega) (by simp; omega) ?_
           intro v' w3 hown' hg3 hnil3 hat3
           obtain ⟨g', cap', rfl⟩ := ownsRow_succ hown'
           have b53 : Boxed w3 (w.heap.size + 1 + 1 + 1) 22 v := (h5.alloc _).kept hg3 (h5.not_row (by decide) h6)
           have e53 := b53.cell
           have f53 := b53.frozen
           go_frame)
        | gi_in)
      exact body_ok hA h5 h6 hown' hg3 hat3 (tok := (a1, a2, (a3, a4, a5, a6, ()), a7, ()))
  case done =>
    rintro D xs W hD hx hA hK
    have hpre : Pre sk one s s.size xs := by
      rcases hx with h | ⟨i, pre, z, _, _, _, rfl⟩
      · exact h
      · have := hA.ok (setAt z i, false) (by simp)
        cases this
    obtain ⟨v, h5, h6⟩ := hA.b5
    obtain ⟨i0, hi, hz0, hz1, hz2⟩ := info_parts infoTok
    have d2 := hA.b2; have d3 := hA.b3; have d4 := hA.b4
    have e5 := h5.cell
    have hlen := (hpre.len C).2
    have hsz := hA.sz
    gi_wp2_with (first
      | (gi_at_builtin
         refine wpListIn_append_own_at _ rfl _ _ 22 rfl (w.heap.size + 5) 36 i0 (.agg (tokC (0, ⟨#[]⟩, (0, false, 0, ⟨#[]⟩, ()), 0, ()))) 7 72 t22 hi hz0 hz1 hz2 rfl (by decide) _ _ _ rfl (ownsRow_alloc' h6 _) ⟨W.heap.size, 0, none⟩ 1 1 (tokC (4, ⟨#[]⟩, (0, false, 0, ⟨#[]⟩, ()), (s.size : Int), ())).toList rfl rfl (cells_new W (tokC (4, ⟨#[]⟩, (0, false, 0, ⟨#[]⟩, ()), (s.size : Int), ())) 36) (by simp [tokC, Value.oneCell']) (by unfold maxLen; omega) (by omega) (by simp; omega) ?_
         intro v' w3 hown' hg3 hnil3 hat3
         obtain ⟨g', cap', rfl⟩ := ownsRow_succ hown'
         have b2 : Boxed w3 w.heap.size 22 (.slice none 0 0) := (d2.alloc _).kept hg3 (d2.not_row (by decide) h6)
         have b3 : Boxed w3 (w.heap.size + 1) 3 (.int .i64 0) := (d3.alloc _).kept hg3 (d3.not_row (by decide) h6)
         have b4 : Boxed w3 (w.heap.size + 1 + 1) 23 (.int .i64 0) := (d4.alloc _).kept hg3 (d4.not_row (by decide) h6)
         have f2 := b2.frozen; have f3 := b3.frozen; have f4 := b4.frozen
         have e2 := b2.cell; have e3 := b3.cell; have e4 := b4.cell
         go_frame)
      | gi_in)
    have hcells : ∀ (j : Nat) (o : Obj), v.ownBlock = some j → (W.alloc (.cells (tokC (4, ⟨#[]⟩, (0, false, 0, ⟨#[]⟩, ()), (s.size : Int), ())) 36)).heap[j]? = some o → o.isCells = true := by
      intro j o' hj ho
      rcases (ownsRow_alloc' h6 (.cells (tokC (4, ⟨#[]⟩, (0, false, 0, ⟨#[]⟩, ()), (s.size : Int), ())) 36)).2 with ⟨rfl, _⟩ | ⟨g, cap, cur, rfl, _, hgb, _⟩
      · simp [Value.ownBlock] at hj
      · have : g = j := by simpa [Value.ownBlock] using hj
        subst this
        rw [hgb] at ho
        cases ho
        rfl
    have hkA : KeepsOthers W w3 := (KeepsOthers.alloc _ _).trans (KeepsOthers.of_grownBy hg3 hcells)
    have hsA : (W.alloc (.cells (tokC (4, ⟨#[]⟩, (0, false, 0, ⟨#[]⟩, ()), (s.size : Int), ())) 36)).heap.size = W.heap.size + 1 := by simp
    have hs3 : W.heap.size + 1 ≤ w3.heap.size := by have := hg3.size; rw [← hsA]; exact this
    have hbA : Below w.heap.size w w3 := (hA.below.alloc (by omega) _).grown hg3 (by simp; omega) (fun k e => by have := (h6.lt k e).1; omega)
    obtain ⟨w4, hw4⟩ : ∃ w4, w3.setCell ⟨w.heap.size, 0, none⟩ (.slice (some ⟨g', 0, none⟩) (xs.length + 1) cap') = w4 := ⟨_, rfl⟩
    have hg4 : w3.grownBy w4 (some w.heap.size) := by rw [← hw4]; exact grownBy_setCell' _ _ _
    have b24 : Boxed w4 w.heap.size 22 (.slice (some ⟨g', 0, none⟩) (xs.length + 1) cap') := by rw [← hw4]; exact b2.set _
    have b34 : Boxed w4 (w.heap.size + 1) 3 (.int .i64 0) := by rw [← hw4]; exact b3.other (by omega) _
    have b44 : Boxed w4 (w.heap.size + 1 + 1) 23 (.int .i64 0) := by rw [← hw4]; exact b4.other (by omega) _
    have hk4 : KeepsOthers W w4 := hkA.trans (by rw [← hw4]; exact KeepsOthers.setCell _ _ _)
    have hown4 := hown'.kept hg4 (.inr fun e => (b2.not_row (by decide) hown') e.symm)
    have hb4 : Below w.heap.size w w4 := hbA.grown hg4 (by omega) (fun k e => by cases e; omega)
    rw [hw4]
    obtain ⟨w5, hw5⟩ : ∃ w5, w4.setCell ⟨w.heap.size + 1, 0, none⟩ (.int .i64 0) = w5 := ⟨_, rfl⟩
    have hg5 : w4.grownBy w5 (some (w.heap.size + 1)) := by rw [← hw5]; exact grownBy_setCell' _ _ _
    have b25 : Boxed w5 w.heap.size 22 (.slice (some ⟨g', 0, none⟩) (xs.length + 1) cap') := by rw [← hw5]; exact b24.other (by omega) _
    have b35 : Boxed w5 (w.heap.size + 1) 3 (.int .i64 0) := by rw [← hw5]; exact b34.set _
    have b45 : Boxed w5 (w.heap.size + 1 + 1) 23 (.int .i64 0) := by rw [← hw5]; exact b44.other (by omega) _
    have hk5 : KeepsOthers W w5 := hk4.trans (by rw [← hw5]; exact KeepsOthers.setCell _ _ _)
    have hown5 := hown4.kept hg5 (.inr fun e => (b34.not_row (by decide) hown4) e.symm)
    have hb5 : Below w.heap.size w w5 := hb4.grown hg5 (by have := hg4.size; omega) (fun k e => by cases e; omega)
    rw [hw5]
    obtain ⟨w6, hw6⟩ : ∃ w6, w5.setCell ⟨w.heap.size + 1 + 1, 0, none⟩ (.int .i64 0) = w6 := ⟨_, rfl⟩
    have hg6 : w5.grownBy w6 (some (w.heap.size + 1 + 1)) := by rw [← hw6]; exact grownBy_setCell' _ _ _
    have b26 : Boxed w6 w.heap.size 22 (.slice (some ⟨g', 0, none⟩) (xs.length + 1) cap') := by rw [← hw6]; exact b25.other (by omega) _
    have b36 : Boxed w6 (w.heap.size + 1) 3 (.int .i64 0) := by rw [← hw6]; exact b35.other (by omega) _
    have b46 : Boxed w6 (w.heap.size + 1 + 1) 23 (.int .i64 0) := by rw [← hw6]; exact b45.set _
    have hk6 : KeepsOthers W w6 := hk5.trans (by rw [← hw6]; exact KeepsOthers.setCell _ _ _)
    have hown6 := hown5.kept hg6 (.inr fun e => (b45.not_row (by decide) hown5) e.symm)
    have hb6 : Below w.heap.size w w6 := hb5.grown hg6 (by have := hg4.size; have := hg5.size; omega) (fun k e => by cases e; omega)
    rw [hw6]
    have hK6 := hk6.same D _ hK rfl
    refine ⟨by simp, .inl ⟨_, _, rfl, run_takeDeferred hK6, ?_⟩⟩
    have c2 := cell_kept b26.cell (grownBy_putObj' _ D (.deferred none)) (fun r e => by cases e; exact ⟨_, hK6, rfl⟩)
    have c3 := cell_kept b36.cell (grownBy_putObj' _ D (.deferred none)) (fun r e => by cases e; exact ⟨_, hK6, rfl⟩)
    have c4 := cell_kept b46.cell (grownBy_putObj' _ D (.deferred none)) (fun r e => by cases e; exact ⟨_, hK6, rfl⟩)
    refine ⟨.tuple #[.slice (some ⟨g', 0, none⟩) (xs.length + 1) cap', .int .i64 0, .int .i64 0], ?_, hb6.grown (grownBy_putObj' _ _ _) hb6.size (fun k e => by cases e; omega), _, xs, hA.ok, .inl ⟨hpre, rfl, ownsRow_base (ownsRow_putObj hown6 (.deferred none) hK6 rfl) (by omega)⟩⟩
    simp [results, Tryd.f7, go_sem, c2, c3, c4]
  case stop =>
    rintro D c pre W hD hx ⟨rfl, hB, p, z, rfl, hp, d2, d3, d4⟩ hK
    obtain ⟨i, pre, z', ok, hp1, hlt, ho1, ho2, he⟩ := hx
    have hpe : p = pre ∧ ((z, false) : Tok × Bool) = (setAt z' i, ok) := by
      have := List.append_inj' he rfl
      exact ⟨this.1, by simpa using this.2⟩
    obtain ⟨rfl, hze⟩ := hpe
    have hz1 : z = setAt z' i := congrArg Prod.fst hze
    have hz2 : false = ok := congrArg Prod.snd hze
    subst hz2
    gi_wp2
    refine ⟨by simp, .inl ⟨_, _, rfl, run_takeDeferred hK, ?_⟩⟩
    have c2 := cell_kept d2.cell (grownBy_putObj' _ D (.deferred none)) (fun r e => by cases e; exact ⟨_, hK, rfl⟩)
    have c3 := cell_kept d3.cell (grownBy_putObj' _ D (.deferred none)) (fun r e => by cases e; exact ⟨_, hK, rfl⟩)
    have c4 := cell_kept d4.cell (grownBy_putObj' _ D (.deferred none)) (fun r e => by cases e; exact ⟨_, hK, rfl⟩)
    refine ⟨.tuple #[.slice none 0 0, .int .i64 i, .int .i64 7], ?_, hB.grown (grownBy_putObj' _ _ _) hB.size (fun k e => by cases e; omega), .slice none 0 0, p, hp, .inr ⟨i, hp1, hlt, ho2 (by simp), rfl⟩⟩
    rw [hz1] at c3
    simp [results, Tryd.f7, go_sem, c2, c3, c4, setAt]
end
end Go.Proofs.YtnnbinmomendnaaDoor
namespace Go.Proofs.YtnnbinmomendnaaDoor
open Go.RowKit Go.Shelf
attribute [local go_sem] Oper.semAt_some
/-- a text that is too long -/
theorem read_long (s : ByteArray) (hs : 300 < s.size) (w : World) : CallsIn Fence.wide 5 Tryd.prog 7 #[.string s] w fun e w' => Below w.heap.size w w' ∧ e = .returned (.tuple #[.slice none 0 0, .int .i64 0, .int .i64 9]) := by
  refine callsIn_of_wp Tryd.func7 rfl trivial ?_ rfl
  simp only [Tryd.ntmps7, List.size_toArray, List.length_cons, List.length_nil, Nat.reduceAdd, Nat.reduceSub, Array.replicate_succ, Array.replicate_zero, List.push_toArray, List.append_toArray, List.nil_append, List.cons_append]
  have hd : (300 : Int) < s.size := by omega
  gi_wp2
  refine bodyPost_ret (v := .tuple #[.slice none 0 0, .int .i64 0, .int .i64 9]) ?_ rfl ?_
  · simp [results, Tryd.f7, go_sem]
  · refine ⟨?_, rfl⟩
    exact (((Below.refl _ w).alloc (Nat.le_refl _) _).alloc (by simp) _).alloc (by simp; omega) _
namespace E
theorem skN_stop (s : ByteArray) (i : Nat) (hi : i ≤ s.size) (h : skN s i < s.size) : blN (bt s (skN s i)) = false := by
  have go : ∀ (f i : Nat), i + f = s.size → scanN (fun j => blN (bt s j)) f i < s.size → blN (bt s (scanN (fun j => blN (bt s j)) f i)) = false := by
    intro f
    induction f with
    | zero => intro i hi h; simp only [scanN] at h; omega
    | succ f ih =>
      intro i hi h
      rw [scanN] at h ⊢
      split at h
      · rename_i hb
        rw [if_pos hb]
        exact ih (i + 1) (by omega) h
      · rename_i hb
        rw [if_neg hb]
        simpa using hb
  exact go (s.size - i) i (by omega) h
theorem lexL_skip (s : ByteArray) (l : Toks) : ∀ (d i f : Nat), i + d = s.size → s.size + 1 ≤ i + f → ∃ f', s.size + 1 ≤ scanN (fun j => blN (bt s j)) d i + f' ∧ lexL s f i l = lexL s f' (scanN (fun j => blN (bt s j)) d i) l := by
  intro d
  induction d with
  | zero => intro i f hi hf; exact ⟨f, hf, rfl⟩
  | succ d ih =>
    intro i f hi hf
    rw [scanN]
    split
    · rename_i hb
      obtain ⟨f, rfl⟩ : ∃ q, f = q + 1 := ⟨f - 1, by omega⟩
      obtain ⟨f', h1, h2⟩ := ih (i + 1) f (by omega) (by omega)
      refine ⟨f', h1, ?_⟩
      rw [← h2, lexL, if_pos (by omega), if_pos]
      unfold blN at hb
      simpa using hb
    · exact ⟨f, hf, rfl⟩
theorem skip (s : ByteArray) (l : Toks) (i f : Nat) (hi : i ≤ s.size) (hf : s.size + 1 ≤ i + f) : ∃ f', s.size + 1 ≤ skN s i + f' ∧ lexL s f i l = lexL s f' (skN s i) l :=
  lexL_skip s l (s.size - i) i f (by omega) hf
theorem pre_lex {s : ByteArray} {i : Nat} {pre : List (Tok × Bool)} (h : Pre skN oneS s i pre) : (i ≤ s.size ∧ (i < s.size → blN (bt s i) = false)) ∧ ∃ f, s.size + 1 ≤ i + f ∧ lexL s (s.size + 1) 0 [] = lexL s f i (pre.map Prod.fst) := by
  induction h with
  | nil => exact ⟨⟨(skN_rng s 0 (Nat.zero_le _)).2, skN_stop s 0 (Nat.zero_le _)⟩, skip s [] 0 (s.size + 1) (Nat.zero_le _) (by omega)⟩
  | @cons i pre t h1 h2 h3 ih =>
    obtain ⟨⟨h4, h5⟩, f, h6, h7⟩ := ih
    have hb := h5 h2
    have hsz := oneS_size (s := s.extract i s.size) (by rw [ByteArray.size_extract]; omega) h3
    rw [ByteArray.size_extract] at hsz
    obtain ⟨f, rfl⟩ : ∃ q, f = q + 1 := ⟨f - 1, by omega⟩
    have hle : i + t.2.1.size ≤ s.size := by omega
    obtain ⟨f', g1, g2⟩ := skip s ((pre.map Prod.fst) ++ [(t.1, t.2.1, t.2.2.1, (i : Int), ())]) (i + t.2.1.size) f hle (by omega)
    refine ⟨⟨(skN_rng s _ hle).2, skN_stop s _ hle⟩, f', g1, ?_⟩
    rw [h7, lexL, if_pos h2, if_neg]
    · rw [h3]
      simp only [List.map_append, List.map_cons, List.map_nil]
      exact g2
    · unfold blN at hb
      simpa using hb
theorem lex_good {s : ByteArray} {xs : List (Tok × Bool)} (hs : s.size ≤ 300) (h : Pre skN oneS s s.size xs) : lexS s = (0, 0, xs.map Prod.fst ++ [endT s]) := by
  obtain ⟨_, f, h1, h2⟩ := pre_lex h
  obtain ⟨f, rfl⟩ : ∃ q, f = q + 1 := ⟨f - 1, by omega⟩
  unfold lexS
  rw [if_neg (by omega), h2, lexL, if_neg (by omega)]
theorem lex_bad {s : ByteArray} {i : Nat} {xs : List (Tok × Bool)} (hs : s.size ≤ 300) (h : Pre skN oneS s i xs) (hi : i < s.size) (ho : oneS (s.extract i s.size) = none) : lexS s = ((i : Int), 7, []) := by
  obtain ⟨⟨_, hb⟩, f, h1, h2⟩ := pre_lex h
  have hb := hb hi
  obtain ⟨f, rfl⟩ : ∃ q, f = q + 1 := ⟨f - 1, by omega⟩
  unfold lexS
  rw [if_neg (by omega), h2, lexL, if_pos hi, if_neg (by unfold blN at hb; simpa using hb), ho]
theorem calls2 : Calls2 skN oneS := by
  refine ⟨skN_rng, fun s t h0 h => oneS_size h0 h, fun s i w hs hi hc hl => ?_, fun s w h0 hs hc hl => ?_⟩
  · obtain ⟨n, hn⟩ : ∃ n : Nat, 2000 < n := ⟨3000, by omega⟩
    have ht : ∀ k : T → List Blk → Option (T × List Blk), lex_run_v2_g n [.c (.s s), .c (.i .i64 i), .c (.fn 29 [])] [] k = k (.a (.c (.i .i64 (skN s i : Nat)))) [] := fun k =>
      (show _ = lex_run_v2_F n s (i : Int) (fun y0 => k (.a (.c (.i .i64 y0))) []) from rfl).trans (runB_F n s i (by omega) hi hn _)
    have hg := Good.calls (lex_run_v2_ok n) Tryd.func28 (by kernel_rfl) rfl (args := [.c (.s s), .c (.i .i64 i), .c (.fn 29 [])]) (vs := [.string s, .int .i64 i, .func (.func 29) #[] #[]]) hc hl ⟨rfl, rfl, ⟨[], rfl, trivial⟩, trivial⟩ ht
    refine hg.mono ?_
    rintro e W' ⟨v, F', rfl, hr, hb, _⟩
    exact ⟨by rw [show v = _ from hr], hb⟩
  · obtain ⟨n, hn⟩ : ∃ n : Nat, 2000 < n := ⟨3000, by omega⟩
    obtain ⟨z, hz⟩ := firstP_F (R := T × List Blk) n s h0 (by omega) hn
    obtain ⟨t, ok, h1, h2, h3⟩ : ∃ (t : ty36.D) (ok : Bool), (ok = true → oneS s = some t) ∧ (ok = false → oneS s = none) ∧ ∀ k : ty36.D → Bool → Option (T × List Blk), lex_first_F n s k = k t ok := by
      cases h : oneS s with
      | none => exact ⟨z, false, by simp, by simp, fun k => by rw [hz k, h]⟩
      | some t => exact ⟨t, true, by simp, by simp, fun k => by rw [hz k, h]⟩
    have ht : ∀ k : T → List Blk → Option (T × List Blk), lex_first_g n [.c (.s s)] [] k = k (.tu [encA ty36 t, .c (.b ok)]) [] := fun k =>
      (show _ = lex_first_F n s (fun y0 y1 => k (.tu [encA ty36 y0, .c (.b y1)]) []) from rfl).trans (h3 _)
    have hg := Good.calls (lex_first_ok n) Tryd.func30 (by kernel_rfl) rfl (args := [.c (.s s)]) (vs := [.string s]) hc hl ⟨rfl, trivial⟩ ht
    refine hg.mono ?_
    rintro e W' ⟨v, F', rfl, ⟨vs, rfl, hr⟩, hb, _⟩
    refine ⟨⟨t, ok, h1, h2, ?_⟩, hb⟩
    obtain ⟨vl, hvl⟩ : ∃ vl, vs.toList = vl := ⟨_, rfl⟩
    rw [hvl] at hr
    match vl, hr with
    | [va, vb], hr =>
      obtain ⟨⟨cs, rfl, hcs⟩, hvb, _⟩ := hr
      have e1 : vs = #[.agg cs, vb] := by rw [← Array.toList_inj, hvl]
      rw [e1, show vb = .bool ok from hvb]
      obtain ⟨cl, hcl⟩ : ∃ cl, cs.toList = cl := ⟨_, rfl⟩
      rw [hcl] at hcs
      match cl, hcs with
      | [c1, c2, c3, c4, c5, c6, c7], hcs =>
        obtain ⟨g1, g2, g3, g4, g5, g6, g7, _⟩ := hcs
        have e2 : cs = tokC t := by
          rw [← Array.toList_inj, hcl]
          rw [show c1 = _ from g1, show c2 = _ from g2, show c3 = _ from g3, show c4 = _ from g4, show c5 = _ from g5, show c6 = _ from g6, show c7 = _ from g7]
          rfl
        rw [e2]
theorem tok_drep (w : World) (F : Nat → Prop) (t : ty36.D) : DRep w F ty36 t (tokC t).toList :=
  ⟨[.int .i64 t.1], _, rfl, rfl, [.string t.2.1], _, rfl, rfl, [.int .i64 t.2.2.1.1, .bool t.2.2.1.2.1, .int .i64 t.2.2.1.2.2.1, .string t.2.2.1.2.2.2.1], [.int .i64 t.2.2.2.1], rfl,
    ⟨[.int .i64 t.2.2.1.1], _, rfl, rfl, [.bool t.2.2.1.2.1], _, rfl, rfl, [.int .i64 t.2.2.1.2.2.1], _, rfl, rfl, [.string t.2.2.1.2.2.2.1], [], rfl, rfl, rfl⟩, [.int .i64 t.2.2.2.1], [], rfl, rfl, rfl⟩
theorem toks_dreps (w : World) (F : Nat → Prop) : ∀ l : Toks, DReps w F ty36 l (l.flatMap fun t => (tokC t).toList)
  | [] => rfl
  | t :: l => ⟨(tokC t).toList, l.flatMap fun t => (tokC t).toList, rfl, tok_drep w F t, toks_dreps w F l⟩
theorem row_drep {W : World} {F : Nat → Prop} {base e k : Nat} {v : Value} {xs : List Value} {l : Toks} (h : W.ownsRow base e 7 v k xs) (hk : l.length = k) (hd : DReps W F ty36 l xs) (hF : ∀ b, base ≤ b → b < W.heap.size → F b) : DRep W F (.sl ty36) l [v] := by
  rcases h.2 with ⟨rfl, h0⟩ | ⟨g, cap, cur, rfl, hg, hgb, hle, hmx, hsz, hcur⟩
  · have : l = [] := List.length_eq_zero_iff.1 (by omega)
    subst this
    exact ⟨none, 0, rfl, ⟨Nat.le_refl _, fun _ => rfl⟩, fun i hi => by simp at hi⟩
  · subst hk
    refine ⟨some ⟨g, 0, none⟩, cap, rfl, ⟨hle, fun h => by cases h⟩, fun i hi => ⟨g, 0, (xs.drop (i * 7)).take 7, rfl, hF g hg (Array.getElem?_eq_some_iff.1 hgb).1, fun j u hu => ?_, DReps.at hi hd⟩⟩
    have hj : j < 7 := by
      have := (List.getElem?_eq_some_iff.1 hu).1
      rw [List.length_take] at this
      omega
    rw [List.getElem?_take, if_pos hj, List.getElem?_drop, ← hcur, List.getElem?_take] at hu
    split at hu
    · rename_i hlt
      show W.cell? ⟨g, 0 + i * 7 + j, none⟩ = some u
      simp only [World.cell?, hgb, Nat.zero_add]
      simpa using hu
    · cases hu
theorem rowC_eq (xs : List (Tok × Bool)) : rowC xs = (xs.map Prod.fst).flatMap fun t => (tokC t).toList := by
  unfold rowC
  rw [List.flatMap_map]
theorem lex_back (s : ByteArray) (w : World) (hc : LayC w) (hl : ∀ g ∈ layG, g < w.heap.size) (_ : True) : Back Tryd.prog 7 #[valD .str s] w (.tu [.c (.fz ty36 (lexS s).2.2), .c (.i .i64 (lexS s).1), .c (.i .i64 (lexS s).2.1)]) := by
  have nil : ∀ W : World, DRep W (fun b => w.heap.size ≤ b ∧ b < W.heap.size) (.sl ty36) [] [.slice none 0 0] := fun W => ⟨none, 0, rfl, ⟨Nat.le_refl _, fun _ => rfl⟩, fun i hi => by simp at hi⟩
  by_cases hs : s.size ≤ 300
  · refine (callsIn_wide.1 (read_in calls2 s hs w hc hl)).mono ?_
    rintro e W ⟨hb, v, xs, hok, ⟨hp, rfl, hr⟩ | ⟨i, hp, hi, ho, rfl⟩⟩
    · rw [lex_good hs hp]
      refine ⟨_, rfl, ⟨_, rfl, row_drep (k := xs.length + 1) hr (by simp) ?_ (fun b h1 h2 => ⟨h1, h2⟩), rfl, rfl, trivial⟩, hb⟩
      rw [rowC_eq]
      have := toks_dreps W (fun b => w.heap.size ≤ b ∧ b < W.heap.size) (xs.map Prod.fst ++ [endT s])
      rw [List.flatMap_append, show ([endT s].flatMap fun t => (tokC t).toList) = (tokC (endT s)).toList from by simp] at this
      exact this
    · rw [lex_bad hs hp hi ho]
      exact ⟨_, rfl, ⟨_, rfl, nil W, rfl, rfl, trivial⟩, hb⟩
  · refine (callsIn_wide.1 (read_long s (by omega) w)).mono ?_
    rintro e W ⟨hb, rfl⟩
    have : lexS s = (0, 9, []) := by unfold lexS; rw [if_pos (by omega)]
    rw [this]
    exact ⟨_, rfl, ⟨_, rfl, nil W, rfl, rfl, trivial⟩, hb⟩
end E
end Go.Proofs.YtnnbinmomendnaaDoor
set_option linter.unusedVariables false
set_option maxRecDepth 100000
namespace Go.Proofs.YtnnbinmomendnaaDoor.E
open Go.Proofs
noncomputable section
variable {R : Type}
/-! verderer/lex.Read: function 7 -/
@[reducible] def lex_Read_d : Desc := ⟨[(0, .d .str)], []⟩
def lex_Read_Fi (n : Nat) (a0 : ByteArray) (k0 : (List ty36.D) → Int → Int → Option R) : Option R :=
  if True then (k0 ((lexS a0).2.2) ((lexS a0).1) ((lexS a0).2.1)) else none
def lex_Read_F {R : Type} := lazyN (@lex_Read_Fi R)
theorem lex_Read_e : @lex_Read_F R = @lex_Read_Fi R := lazyN_eq _
def lex_Read_g (n : Nat) : Gx R := typed 1 lex_Read_d fun x k => lex_Read_F n x.1 (fun y0 y1 y2 => k (.tu [(.c (.fz ty36 y0)), (.c (.i .i64 y1)), (.c (.i .i64 y2))]) [])
theorem lex_Read_ok (n : Nat) : Good Tryd.prog 7 (lex_Read_g (R := R) n) := by
  unfold lex_Read_g
  rw [lex_Read_e]
  exact Good.hand1 Tryd.func7 (by kernel_rfl) rfl rfl lex_back (fun x k => rfl)
end
end Go.Proofs.YtnnbinmomendnaaDoor.E
set_option linter.unusedVariables false
set_option maxRecDepth 100000
namespace Go.Proofs.YtnnbinmomendnaaDoor.E
open Go.Proofs
noncomputable section
variable {R : Type}
/-! slices.Index[[]string,string]: function 38 -/
def slices_Index_38_ds : Nat → Desc
  | 2 => ⟨[(0, .d (.sl .str)), (1, .d .str), (7, .d (.int .i64)), (8, .d (.int .i64))], []⟩
  | _ => ⟨[], []⟩
def slices_Index_38_dx : Nat → List (X × Desc)
  | 2 => [(.r, ⟨[(4, .d (.int .i64))], []⟩), (.e 0, ⟨[], []⟩)]
  | _ => []
def slices_Index_38_s2 (n : Nat) (x0 : (List ByteArray)) (x1 : ByteArray) (x2 : Int) (x3 : Int) (k1 : (List ByteArray) → ByteArray → Int → Int → Option R) (qr : Int → Option R) (qe0 : Option R) : Option R :=
  if (decide (x3 < x2)) = true then (if (0 : Int) ≤ x3 ∧ x3 < (x0.length : Int) then (if (x1.toList == (x0.getD (Int.toNat x3) (Ty.z .str)).toList) = true then (qr x3) else (k1 x0 x1 x2 (IntKind.i64.wrap (x3 + 1)))) else none) else qe0
def slices_Index_38_l2 (n : Nat) (a : (slices_Index_38_ds 2).D) (k1 : (slices_Index_38_ds 2).D → Option R) (k2 : exK R (slices_Index_38_dx 2)) : Option R :=
  slices_Index_38_s2 n a.1 a.2.1 a.2.2.1 a.2.2.2.1 (fun x0 x1 x2 x3 => k1 (x0, x1, x2, x3, ())) (fun x0 => k2.1 (x0, ())) (k2.2.1 (()))
@[reducible] def slices_Index_38_d : Desc := ⟨[(0, .d (.sl .str)), (1, .d .str)], []⟩
def slices_Index_38_Fi (n : Nat) (a0 : (List ByteArray)) (a1 : ByteArray) (k0 : Int → Option R) : Option R :=
  runC (slices_Index_38_l2 n) n (a0, a1, (a0.length : Int), 0, ()) (fun b1 => k0 b1.1, fun b1 => k0 (-1), ())
def slices_Index_38_F {R : Type} := lazyN (@slices_Index_38_Fi R)
theorem slices_Index_38_e : @slices_Index_38_F R = @slices_Index_38_Fi R := lazyN_eq _
def slices_Index_38_g (n : Nat) : Gx R := typed 2 slices_Index_38_d fun x k => slices_Index_38_F n x.1 x.2.1 (fun y0 => k (.a (.c (.i .i64 y0))) [])
def slices_Index_38_cs (R : Type) (n : Nat) : List (Nat × Gx R) := []
def slices_Index_38_lp (n : Nat) : (i : Nat) → (slices_Index_38_ds i).D → exK R (slices_Index_38_dx i) → Option R
  | 2, a, k => runC (slices_Index_38_l2 n) n a k
  | _, _, _ => none
def slices_Index_38_cx (R : Type) (n : Nat) : Cx R := ⟨Tryd.prog, Gof (slices_Index_38_cs R n), slices_Index_38_ds, slices_Index_38_dx, slices_Index_38_lp n, drawP Tryd.prog (Gof (slices_Index_38_cs R n)), false, noJn, noFz⟩
theorem slices_Index_38_ok (n : Nat) : Good Tryd.prog 38 (slices_Index_38_g (R := R) n) := by
  unfold slices_Index_38_g
  rw [slices_Index_38_e]
  exact Good.fn (cx := slices_Index_38_cx R n) (by kernel_rfl) (AllGood.nil) rfl Tryd.func38 (by kernel_rfl) rfl (by
    have e : fnLoops noJn Tryd.f38 = [((fnLoops noJn Tryd.f38)[0]?).getD (false, .skip)] := by kernel_rfl
    show LoopRuns _ _ (fnLoops noJn _)
    rw [e]
    exact ⟨LoopRun.loop (by kernel_rfl) (i := 2) (m := n) (step := slices_Index_38_l2 n) (by kernel_rfl) (fun a k1 k2 => by kernel_rfl) (fun _ _ => rfl), trivial⟩) 2 slices_Index_38_d (by kernel_rfl) (fun x k => by kernel_rfl)
end
end Go.Proofs.YtnnbinmomendnaaDoor.E
set_option linter.unusedVariables false
set_option maxRecDepth 100000
namespace Go.Proofs.YtnnbinmomendnaaDoor.E
open Go.Proofs
noncomputable section
variable {R : Type}
/-! slices.Contains[[]string,string]: function 23 -/
@[reducible] def slices_Contains_23_d : Desc := ⟨[(0, .d (.sl .str)), (1, .d .str)], []⟩
def slices_Contains_23_Fi (n : Nat) (a0 : (List ByteArray)) (a1 : ByteArray) (k0 : Bool → Option R) : Option R :=
  slices_Index_38_F n a0 a1 (fun y1 => k0 (decide (y1 ≥ 0)))
def slices_Contains_23_F {R : Type} := lazyN (@slices_Contains_23_Fi R)
theorem slices_Contains_23_e : @slices_Contains_23_F R = @slices_Contains_23_Fi R := lazyN_eq _
def slices_Contains_23_g (n : Nat) : Gx R := typed 2 slices_Contains_23_d fun x k => slices_Contains_23_F n x.1 x.2.1 (fun y0 => k (.a (.c (.b y0))) [])
def slices_Contains_23_cs (R : Type) (n : Nat) : List (Nat × Gx R) := [(38, slices_Index_38_g n)]
def slices_Contains_23_cx (R : Type) (n : Nat) : Cx R := ⟨Tryd.prog, Gof (slices_Contains_23_cs R n), noDs, noDx, noLp, drawP Tryd.prog (Gof (slices_Contains_23_cs R n)), false, noJn, noFz⟩
theorem slices_Contains_23_ok (n : Nat) : Good Tryd.prog 23 (slices_Contains_23_g (R := R) n) := by
  unfold slices_Contains_23_g
  rw [slices_Contains_23_e]
  exact Good.fn (cx := slices_Contains_23_cx R n) (by kernel_rfl) (AllGood.cons (slices_Index_38_ok n) (AllGood.nil)) rfl Tryd.func23 (by kernel_rfl) rfl trivial 2 slices_Contains_23_d (by kernel_rfl) (fun x k => by kernel_rfl)
end
end Go.Proofs.YtnnbinmomendnaaDoor.E
set_option linter.unusedVariables false
set_option maxRecDepth 100000
namespace Go.Proofs.YtnnbinmomendnaaDoor.E
open Go.Proofs
noncomputable section
variable {R : Type}
/-! verderer/lex.Reserved: function 12 -/
@[reducible] def lex_Reserved_d : Desc := ⟨[(0, .d .str)], []⟩
def lex_Reserved_Fi (n : Nat) (a0 : ByteArray) (k0 : Bool → Option R) : Option R :=
  slices_Contains_23_F n [(⟨#[100, 101, 110, 121]⟩ : ByteArray), (⟨#[118, 105, 101, 119]⟩ : ByteArray), (⟨#[113, 117, 111, 116, 97]⟩ : ByteArray), (⟨#[108, 105, 109, 105, 116]⟩ : ByteArray), (⟨#[105, 102]⟩ : ByteArray), (⟨#[110, 111, 116]⟩ : ByteArray), (⟨#[99, 111, 117, 110, 116]⟩ : ByteArray), (⟨#[115, 117, 109]⟩ : ByteArray), (⟨#[108, 101, 97, 115, 116]⟩ : ByteArray), (⟨#[109, 111, 115, 116]⟩ : ByteArray)] a0 (fun y1 => k0 y1)
def lex_Reserved_F {R : Type} := lazyN (@lex_Reserved_Fi R)
theorem lex_Reserved_e : @lex_Reserved_F R = @lex_Reserved_Fi R := lazyN_eq _
def lex_Reserved_g (n : Nat) : Gx R := typed 1 lex_Reserved_d fun x k => lex_Reserved_F n x.1 (fun y0 => k (.a (.c (.b y0))) [])
def lex_Reserved_cs (R : Type) (n : Nat) : List (Nat × Gx R) := [(23, slices_Contains_23_g n)]
def lex_Reserved_cx (R : Type) (n : Nat) : Cx R := ⟨Tryd.prog, Gof (lex_Reserved_cs R n), noDs, noDx, noLp, drawP Tryd.prog (Gof (lex_Reserved_cs R n)), false, noJn, noFz⟩
theorem lex_Reserved_ok (n : Nat) : Good Tryd.prog 12 (lex_Reserved_g (R := R) n) := by
  unfold lex_Reserved_g
  rw [lex_Reserved_e]
  exact Good.fn (cx := lex_Reserved_cx R n) (by kernel_rfl) (AllGood.cons (slices_Contains_23_ok n) (AllGood.nil)) rfl Tryd.func12 (by kernel_rfl) rfl trivial 1 lex_Reserved_d (by kernel_rfl) (fun x k => by kernel_rfl)
end
end Go.Proofs.YtnnbinmomendnaaDoor.E
set_option linter.unusedVariables false
set_option maxRecDepth 100000
namespace Go.Proofs.YtnnbinmomendnaaDoor.E
open Go.Proofs
noncomputable section
variable {R : Type}
/-! verderer/lex.Sgn: function 16 -/
@[reducible] def lex_Sgn_d : Desc := ⟨[(0, .d (.int .i64))], []⟩
def lex_Sgn_Fi (n : Nat) (a0 : Int) (k0 : ByteArray → Option R) : Option R :=
  if True then (k0 (sgnP a0)) else none
def lex_Sgn_F {R : Type} := lazyN (@lex_Sgn_Fi R)
theorem lex_Sgn_e : @lex_Sgn_F R = @lex_Sgn_Fi R := lazyN_eq _
def lex_Sgn_g (n : Nat) : Gx R := typed 1 lex_Sgn_d fun x k => lex_Sgn_F n x.1 (fun y0 => k (.a (.c (.s y0))) [])
theorem lex_Sgn_ok (n : Nat) : Good Tryd.prog 16 (lex_Sgn_g (R := R) n) := by
  unfold lex_Sgn_g
  rw [lex_Sgn_e]
  exact Good.hand1 Tryd.func16 (by kernel_rfl) rfl rfl sgn_back (fun x k => rfl)
end
end Go.Proofs.YtnnbinmomendnaaDoor.E
set_option linter.unusedVariables false
set_option maxRecDepth 100000
namespace Go.Proofs.YtnnbinmomendnaaDoor.E
open Go.Proofs
noncomputable section
variable {R : Type}
/-! verderer/lex.Op: function 14 -/
def lex_Op_ds : Nat → Desc
  | 2 => ⟨[(0, .d .str), (3, .d (.int .i64))], []⟩
  | _ => ⟨[], []⟩
def lex_Op_dx : Nat → List (X × Desc)
  | 2 => [(.r, ⟨[(2, .d (.int .i64))], []⟩), (.e 0, ⟨[], []⟩)]
  | _ => []
def lex_Op_s2 (n : Nat) (x0 : ByteArray) (x1 : Int) (k1 : ByteArray → Int → Option R) (qr : Int → Option R) (qe0 : Option R) : Option R :=
  if (decide (x1 ≤ 6)) = true then (lex_Sgn_F n x1 (fun y1 => if (y1.toList == x0.toList) = true then (qr x1) else (k1 x0 (IntKind.i64.wrap (x1 + 1))))) else qe0
def lex_Op_l2 (n : Nat) (a : (lex_Op_ds 2).D) (k1 : (lex_Op_ds 2).D → Option R) (k2 : exK R (lex_Op_dx 2)) : Option R :=
  lex_Op_s2 n a.1 a.2.1 (fun x0 x1 => k1 (x0, x1, ())) (fun x0 => k2.1 (x0, ())) (k2.2.1 (()))
@[reducible] def lex_Op_d : Desc := ⟨[(0, .d .str)], []⟩
def lex_Op_Fi (n : Nat) (a0 : ByteArray) (k0 : Int → Option R) : Option R :=
  runC (lex_Op_l2 n) n (a0, 1, ()) (fun b2 => k0 b2.1, fun b2 => k0 0, ())
def lex_Op_F {R : Type} := lazyN (@lex_Op_Fi R)
theorem lex_Op_e : @lex_Op_F R = @lex_Op_Fi R := lazyN_eq _
def lex_Op_g (n : Nat) : Gx R := typed 1 lex_Op_d fun x k => lex_Op_F n x.1 (fun y0 => k (.a (.c (.i .i64 y0))) [])
def lex_Op_cs (R : Type) (n : Nat) : List (Nat × Gx R) := [(16, lex_Sgn_g n)]
def lex_Op_lp (n : Nat) : (i : Nat) → (lex_Op_ds i).D → exK R (lex_Op_dx i) → Option R
  | 2, a, k => runC (lex_Op_l2 n) n a k
  | _, _, _ => none
def lex_Op_cx (R : Type) (n : Nat) : Cx R := ⟨Tryd.prog, Gof (lex_Op_cs R n), lex_Op_ds, lex_Op_dx, lex_Op_lp n, drawP Tryd.prog (Gof (lex_Op_cs R n)), false, noJn, noFz⟩
theorem lex_Op_ok (n : Nat) : Good Tryd.prog 14 (lex_Op_g (R := R) n) := by
  unfold lex_Op_g
  rw [lex_Op_e]
  exact Good.fn (cx := lex_Op_cx R n) (by kernel_rfl) (AllGood.cons (lex_Sgn_ok n) (AllGood.nil)) rfl Tryd.func14 (by kernel_rfl) rfl (by
    have e : fnLoops noJn Tryd.f14 = [((fnLoops noJn Tryd.f14)[0]?).getD (false, .skip)] := by kernel_rfl
    show LoopRuns _ _ (fnLoops noJn _)
    rw [e]
    exact ⟨LoopRun.loop (by kernel_rfl) (i := 2) (m := n) (step := lex_Op_l2 n) (by kernel_rfl) (fun a k1 k2 => by kernel_rfl) (fun _ _ => rfl), trivial⟩) 1 lex_Op_d (by kernel_rfl) (fun x k => by kernel_rfl)
end
end Go.Proofs.YtnnbinmomendnaaDoor.E
set_option linter.unusedVariables false
set_option maxRecDepth 100000
namespace Go.Proofs.YtnnbinmomendnaaDoor.E
open Go.Proofs
noncomputable section
variable {R : Type}
/-! verderer/verdererlaw11.known: function 8 -/
@[reducible] def verdererlaw11_known_d : Desc := ⟨[], []⟩
def verdererlaw11_known_Fi (n : Nat) (k0 : Bool → Option R) : Option R :=
  lex_Read_F n (⟨#[97, 60, 61, 45, 51]⟩ : ByteArray) (fun y1 y2 y3 => lex_Read_F n (⟨#[97, 32, 61, 32, 51]⟩ : ByteArray) (fun y4 y5 y6 => if (y3 == 0) = true then (if ((y1.length : Int) == 4) = true then (if (0 : Int) ≤ 0 ∧ 0 < (y1.length : Int) then (if ((y1.getD (Int.toNat 0) (Ty.z ty36)).1 == 1) = true then (if (0 : Int) ≤ 1 ∧ 1 < (y1.length : Int) then (if ((y1.getD (Int.toNat 1) (Ty.z ty36)).1 == 3) = true then (if (0 : Int) ≤ 2 ∧ 2 < (y1.length : Int) then (if ((((y1.getD (Int.toNat 2) (Ty.z ty36)).2.2.1).1 == 2) && ((((y1.getD (Int.toNat 2) (Ty.z ty36)).2.2.1).2.1 == false) && ((((y1.getD (Int.toNat 2) (Ty.z ty36)).2.2.1).2.2.1 == (-3)) && (((((y1.getD (Int.toNat 2) (Ty.z ty36)).2.2.1).2.2.2.1).toList == (⟨#[]⟩ : ByteArray).toList) && true)))) = true then (if (0 : Int) ≤ 2 ∧ 2 < (y1.length : Int) then (if ((y1.getD (Int.toNat 2) (Ty.z ty36)).1 == 2) = true then (if (0 : Int) ≤ 3 ∧ 3 < (y1.length : Int) then (if ((y1.getD (Int.toNat 3) (Ty.z ty36)).1 == 4) = true then (if (0 : Int) ≤ 3 ∧ 3 < (y1.length : Int) then (if ((y1.getD (Int.toNat 3) (Ty.z ty36)).2.2.2.1 == 5) = true then (if (y5 == 2) = true then (k0 (y6 == 7)) else (k0 false)) else (k0 false)) else none) else (k0 false)) else none) else (k0 false)) else none) else (k0 false)) else none) else (k0 false)) else none) else (k0 false)) else none) else (k0 false)) else (k0 false)))
def verdererlaw11_known_F {R : Type} := lazyN (@verdererlaw11_known_Fi R)
theorem verdererlaw11_known_e : @verdererlaw11_known_F R = @verdererlaw11_known_Fi R := lazyN_eq _
def verdererlaw11_known_g (n : Nat) : Gx R := typed 0 verdererlaw11_known_d fun x k => verdererlaw11_known_F n (fun y0 => k (.a (.c (.b y0))) [])
def verdererlaw11_known_cs (R : Type) (n : Nat) : List (Nat × Gx R) := [(7, lex_Read_g n)]
def verdererlaw11_known_cx (R : Type) (n : Nat) : Cx R := ⟨Tryd.prog, Gof (verdererlaw11_known_cs R n), noDs, noDx, noLp, drawP Tryd.prog (Gof (verdererlaw11_known_cs R n)), false, noJn, noFz⟩
theorem verdererlaw11_known_ok (n : Nat) : Good Tryd.prog 8 (verdererlaw11_known_g (R := R) n) := by
  unfold verdererlaw11_known_g
  rw [verdererlaw11_known_e]
  exact Good.fn (cx := verdererlaw11_known_cx R n) (by kernel_rfl) (AllGood.cons (lex_Read_ok n) (AllGood.nil)) rfl Tryd.func8 (by kernel_rfl) rfl trivial 0 verdererlaw11_known_d (by kernel_rfl) (fun x k => by kernel_rfl)
end
end Go.Proofs.YtnnbinmomendnaaDoor.E
set_option linter.unusedVariables false
set_option maxRecDepth 100000
namespace Go.Proofs.YtnnbinmomendnaaDoor.E
open Go.Proofs
noncomputable section
variable {R : Type}
/-! verderer/verdererlaw11.taken: function 11 -/
def verdererlaw11_taken_ds : Nat → Desc
  | 3 => ⟨[(0, .d (.sl ty36)), (3, .ow 1), (4, .d (.int .i64))], [.no, .arr 52 ty52]⟩
  | _ => ⟨[], []⟩
def verdererlaw11_taken_dx : Nat → List (X × Desc)
  | 3 => [(.e 0, ⟨[(3, .ow 1)], [.no, .arr 52 ty52]⟩)]
  | _ => []
def verdererlaw11_taken_s3 (n : Nat) (x0 : (List ty36.D)) (x1 : Int) (x2 : (List ty52.D)) (k1 : (List ty36.D) → Int → (List ty52.D) → Option R) (qe0 : (List ty52.D) → Option R) : Option R :=
  if (decide (x1 < (x0.length : Int))) = true then (if (0 : Int) ≤ x1 ∧ x1 < (x0.length : Int) then (if (0 : Int) ≤ x1 ∧ x1 < (x0.length : Int) then (if (0 : Int) ≤ x1 ∧ x1 < (x0.length : Int) then (if (0 : Int) ≤ x1 ∧ x1 < (x0.length : Int) then (if (List.length x2 + List.length [((x0.getD (Int.toNat x1) (Ty.z ty36)).1, (x0.getD (Int.toNat x1) (Ty.z ty36)).2.1, ((x0.getD (Int.toNat x1) (Ty.z ty36)).2.2.1), (x0.getD (Int.toNat x1) (Ty.z ty36)).2.2.2.1, ())]) * 72 ≤ 140737488355328 then (k1 x0 (IntKind.i64.wrap (x1 + 1)) (x2 ++ [((x0.getD (Int.toNat x1) (Ty.z ty36)).1, (x0.getD (Int.toNat x1) (Ty.z ty36)).2.1, ((x0.getD (Int.toNat x1) (Ty.z ty36)).2.2.1), (x0.getD (Int.toNat x1) (Ty.z ty36)).2.2.2.1, ())])) else none) else none) else none) else none) else none) else (qe0 x2)
def verdererlaw11_taken_l3 (n : Nat) (a : (verdererlaw11_taken_ds 3).D) (k1 : (verdererlaw11_taken_ds 3).D → Option R) (k2 : exK R (verdererlaw11_taken_dx 3)) : Option R :=
  verdererlaw11_taken_s3 n a.1 a.2.1 a.2.2.1 (fun x0 x1 x2 => k1 (x0, x1, x2, ())) (fun x0 => k2.1 (x0, ()))
@[reducible] def verdererlaw11_taken_d : Desc := ⟨[(0, .d (.sl ty36))], []⟩
def verdererlaw11_taken_Fi (n : Nat) (a0 : (List ty36.D)) (k0 : (List ty52.D) → Option R) : Option R :=
  runC (verdererlaw11_taken_l3 n) n (a0, 0, ([] : List ty52.D), ()) (fun b1 => k0 b1.1, ())
def verdererlaw11_taken_F {R : Type} := lazyN (@verdererlaw11_taken_Fi R)
theorem verdererlaw11_taken_e : @verdererlaw11_taken_F R = @verdererlaw11_taken_Fi R := lazyN_eq _
def verdererlaw11_taken_g (n : Nat) : Gx R := typed 1 verdererlaw11_taken_d fun x k => verdererlaw11_taken_F n x.1 (fun y0 => k (.a (.c (.ow 0))) [(.arr 52 ty52 y0)])
def verdererlaw11_taken_cs (R : Type) (n : Nat) : List (Nat × Gx R) := []
def verdererlaw11_taken_lp (n : Nat) : (i : Nat) → (verdererlaw11_taken_ds i).D → exK R (verdererlaw11_taken_dx i) → Option R
  | 3, a, k => runC (verdererlaw11_taken_l3 n) n a k
  | _, _, _ => none
def verdererlaw11_taken_cx (R : Type) (n : Nat) : Cx R := ⟨Tryd.prog, Gof (verdererlaw11_taken_cs R n), verdererlaw11_taken_ds, verdererlaw11_taken_dx, verdererlaw11_taken_lp n, drawP Tryd.prog (Gof (verdererlaw11_taken_cs R n)), false, noJn, noFz⟩
theorem verdererlaw11_taken_ok (n : Nat) : Good Tryd.prog 11 (verdererlaw11_taken_g (R := R) n) := by
  unfold verdererlaw11_taken_g
  rw [verdererlaw11_taken_e]
  exact Good.fn (cx := verdererlaw11_taken_cx R n) (by kernel_rfl) (AllGood.nil) rfl Tryd.func11 (by kernel_rfl) rfl (by
    have e : fnLoops noJn Tryd.f11 = [((fnLoops noJn Tryd.f11)[0]?).getD (false, .skip)] := by kernel_rfl
    show LoopRuns _ _ (fnLoops noJn _)
    rw [e]
    exact ⟨LoopRun.loop (by kernel_rfl) (i := 3) (m := n) (step := verdererlaw11_taken_l3 n) (by kernel_rfl) (fun a k1 k2 => by kernel_rfl) (fun _ _ => rfl), trivial⟩) 1 verdererlaw11_taken_d (by kernel_rfl) (fun x k => by kernel_rfl)
end
end Go.Proofs.YtnnbinmomendnaaDoor.E
set_option linter.unusedVariables false
set_option maxRecDepth 100000
namespace Go.Proofs.YtnnbinmomendnaaDoor.E
open Go.Proofs
noncomputable section
variable {R : Type}
/-! verderer/verdererlaw11.LexReads: function 3 -/
@[reducible] def verdererlaw11_LexReads_d : Desc := ⟨[(0, .d .str)], []⟩
def verdererlaw11_LexReads_Fi (n : Nat) (a0 : ByteArray) (k0 : Bool → Option R) : Option R :=
  if (decide ((a0.size : Int) > 2000)) = true then (lex_Read_F n a0 (fun y1 y2 y3 => if ((y1.length : Int) == 0) = true then (if (y2 == 0) = true then (if (y3 == 9) = true then (verdererlaw11_known_F n (fun y4 => k0 y4)) else (k0 false)) else (k0 false)) else (k0 false))) else (lex_Read_F n a0 (fun y5 y6 y7 => verdererref11_Read_F n a0 (fun y8 y9 y10 => verdererlaw11_taken_F n y5 (fun y11 => verdererref11_Same_F n y11 y10 (fun y12 => if y12 = true then (if (y6 == y8) = true then (if (y7 == y9) = true then (verdererlaw11_known_F n (fun y13 => k0 y13)) else (k0 false)) else (k0 false)) else (k0 false))))))
def verdererlaw11_LexReads_F {R : Type} := lazyN (@verdererlaw11_LexReads_Fi R)
theorem verdererlaw11_LexReads_e : @verdererlaw11_LexReads_F R = @verdererlaw11_LexReads_Fi R := lazyN_eq _
def verdererlaw11_LexReads_g (n : Nat) : Gx R := typed 1 verdererlaw11_LexReads_d fun x k => verdererlaw11_LexReads_F n x.1 (fun y0 => k (.a (.c (.b y0))) [])
def verdererlaw11_LexReads_cs (R : Type) (n : Nat) : List (Nat × Gx R) := [(7, lex_Read_g n), (8, verdererlaw11_known_g n), (9, verdererref11_Read_g n), (10, verdererref11_Same_g n), (11, verdererlaw11_taken_g n)]
def verdererlaw11_LexReads_cx (R : Type) (n : Nat) : Cx R := ⟨Tryd.prog, Gof (verdererlaw11_LexReads_cs R n), noDs, noDx, noLp, drawP Tryd.prog (Gof (verdererlaw11_LexReads_cs R n)), false, noJn, noFz⟩
theorem verdererlaw11_LexReads_ok (n : Nat) : Good Tryd.prog 3 (verdererlaw11_LexReads_g (R := R) n) := by
  unfold verdererlaw11_LexReads_g
  rw [verdererlaw11_LexReads_e]
  exact Good.fn (cx := verdererlaw11_LexReads_cx R n) (by kernel_rfl) (AllGood.cons (lex_Read_ok n) (AllGood.cons (verdererlaw11_known_ok n) (AllGood.cons (verdererref11_Read_ok n) (AllGood.cons (verdererref11_Same_ok n) (AllGood.cons (verdererlaw11_taken_ok n) (AllGood.nil)))))) rfl Tryd.func3 (by kernel_rfl) rfl trivial 1 verdererlaw11_LexReads_d (by kernel_rfl) (fun x k => by kernel_rfl)
end
end Go.Proofs.YtnnbinmomendnaaDoor.E
set_option linter.unusedVariables false
set_option maxRecDepth 100000
namespace Go.Proofs.YtnnbinmomendnaaDoor.E
open Go.Proofs
noncomputable section
variable {R : Type}
/-! verderer/verdererlaw11.LexApart: function 4 -/
def verdererlaw11_LexApart_ds : Nat → Desc
  | 11 => ⟨[(0, .d .str), (3, .d (.sl ty36)), (6, .d (.int .i64)), (7, .d (.int .i64)), (8, .pt 0 0), (38, .pt 0 6), (39, .d (.int .i64)), (40, .d .str), (41, .d (.int .i64)), (42, .d .bool), (45, .d .str), (46, .d (.int .i64)), (47, .pt 0 6), (48, .d (.int .i64)), (49, .d (.int .i64)), (50, .pt 0 1), (51, .d .str), (52, .d (.int .i64)), (53, .d .bool), (56, .d .str), (57, .pt 0 6), (58, .d (.int .i64)), (59, .pt 0 6), (60, .d (.int .i64)), (61, .pt 0 1), (62, .d .str), (63, .d (.int .i64)), (64, .d (.int .i64)), (65, .d .str), (66, .pt 0 1), (67, .d .str), (68, .d .bool), (71, .pt 0 0), (72, .d (.int .i64)), (73, .d .bool), (74, .d (.int .i64)), (75, .d (.sl ty36)), (76, .d (.int .i64)), (77, .d (.int .i64)), (78, .d .bool), (79, .d .bool)], [.box false 36 [.d (.int .i64), .d .str, .d (.int .i64), .d .bool, .d (.int .i64), .d .str, .d (.int .i64)]]⟩
  | 6 => ⟨[(0, .d .str), (3, .d (.sl ty36)), (6, .d (.int .i64)), (7, .d (.int .i64))], []⟩
  | _ => ⟨[], []⟩
def verdererlaw11_LexApart_dx : Nat → List (X × Desc)
  | 11 => [(.r, ⟨[(2, .d .bool)], []⟩), (.e 2, ⟨[(0, .d .str), (3, .d (.sl ty36)), (7, .d (.int .i64)), (8, .pt 0 0), (38, .pt 0 6), (39, .d (.int .i64)), (40, .d .str), (41, .d (.int .i64)), (42, .d .bool), (45, .d .str), (46, .d (.int .i64)), (47, .pt 0 6), (48, .d (.int .i64)), (49, .d (.int .i64)), (50, .pt 0 1), (51, .d .str), (52, .d (.int .i64)), (53, .d .bool), (56, .d .str), (57, .pt 0 6), (58, .d (.int .i64)), (59, .pt 0 6), (60, .d (.int .i64)), (61, .pt 0 1), (62, .d .str), (63, .d (.int .i64)), (64, .d (.int .i64)), (65, .d .str), (66, .pt 0 1), (67, .d .str), (68, .d .bool), (71, .pt 0 0), (72, .d (.int .i64)), (73, .d .bool), (74, .d (.int .i64)), (75, .d (.sl ty36)), (76, .d (.int .i64)), (77, .d (.int .i64)), (78, .d .bool), (79, .d .bool)], [.box false 36 [.d (.int .i64), .d .str, .d (.int .i64), .d .bool, .d (.int .i64), .d .str, .d (.int .i64)]]⟩)]
  | 6 => [(.r, ⟨[(2, .d .bool)], []⟩), (.e 0, ⟨[(0, .d .str), (6, .d (.int .i64))], []⟩)]
  | _ => []
def verdererlaw11_LexApart_s11 (n : Nat) (x0 : ByteArray) (x1 : (List ty36.D)) (x2 : Int) (x3 : Int) (x4 : Int) (x5 : ByteArray) (x6 : Int) (x7 : Bool) (x8 : ByteArray) (x9 : Int) (x10 : Int) (x11 : Int) (x12 : ByteArray) (x13 : Int) (x14 : Bool) (x15 : ByteArray) (x16 : Int) (x17 : Int) (x18 : ByteArray) (x19 : Int) (x20 : Int) (x21 : ByteArray) (x22 : ByteArray) (x23 : Bool) (x24 : Int) (x25 : Bool) (x26 : Int) (x27 : (List ty36.D)) (x28 : Int) (x29 : Int) (x30 : Bool) (x31 : Bool) (x32 : Int) (x33 : ByteArray) (x34 : Int) (x35 : Bool) (x36 : Int) (x37 : ByteArray) (x38 : Int) (k1 : ByteArray → (List ty36.D) → Int → Int → Int → ByteArray → Int → Bool → ByteArray → Int → Int → Int → ByteArray → Int → Bool → ByteArray → Int → Int → ByteArray → Int → Int → ByteArray → ByteArray → Bool → Int → Bool → Int → (List ty36.D) → Int → Int → Bool → Bool → Int → ByteArray → Int → Bool → Int → ByteArray → Int → Option R) (qr : Bool → Option R) (qe2 : ByteArray → (List ty36.D) → Int → Int → ByteArray → Int → Bool → ByteArray → Int → Int → Int → ByteArray → Int → Bool → ByteArray → Int → Int → ByteArray → Int → Int → ByteArray → ByteArray → Bool → Int → Bool → Int → (List ty36.D) → Int → Int → Bool → Bool → Int → ByteArray → Int → Bool → Int → ByteArray → Int → Option R) : Option R :=
  if (decide (x2 < x38)) = true then (if (0 : Int) ≤ x2 then if x2 < (x0.size : Int) then (if ((byteAt x0 x2) != 32) = true then (if (0 : Int) ≤ x2 then if x2 < (x0.size : Int) then (if ((byteAt x0 x2) != 10) = true then (qr false) else (k1 x0 x1 (IntKind.i64.wrap (x2 + 1)) x3 x4 x5 x6 x7 x8 x9 x10 x11 x12 x13 x14 x15 x16 x17 x18 x19 x20 x21 x22 x23 x24 x25 x26 x27 x28 x29 x30 x31 x32 x33 x34 x35 x36 x37 x38)) else none else none) else (k1 x0 x1 (IntKind.i64.wrap (x2 + 1)) x3 x4 x5 x6 x7 x8 x9 x10 x11 x12 x13 x14 x15 x16 x17 x18 x19 x20 x21 x22 x23 x24 x25 x26 x27 x28 x29 x30 x31 x32 x33 x34 x35 x36 x37 x38)) else none else none) else (qe2 x0 x1 x3 x4 x5 x6 x7 x8 x9 x10 x11 x12 x13 x14 x15 x16 x17 x18 x19 x20 x21 x22 x23 x24 x25 x26 x27 x28 x29 x30 x31 x32 x33 x34 x35 x36 x37 x38)
def verdererlaw11_LexApart_l11 (n : Nat) (a : (verdererlaw11_LexApart_ds 11).D) (k1 : (verdererlaw11_LexApart_ds 11).D → Option R) (k2 : exK R (verdererlaw11_LexApart_dx 11)) : Option R :=
  verdererlaw11_LexApart_s11 n a.1 a.2.1 a.2.2.1 a.2.2.2.1 a.2.2.2.2.1 a.2.2.2.2.2.1 a.2.2.2.2.2.2.1 a.2.2.2.2.2.2.2.1 a.2.2.2.2.2.2.2.2.1 a.2.2.2.2.2.2.2.2.2.1 a.2.2.2.2.2.2.2.2.2.2.1 a.2.2.2.2.2.2.2.2.2.2.2.1 a.2.2.2.2.2.2.2.2.2.2.2.2.1 a.2.2.2.2.2.2.2.2.2.2.2.2.2.1 a.2.2.2.2.2.2.2.2.2.2.2.2.2.2.1 a.2.2.2.2.2.2.2.2.2.2.2.2.2.2.2.1 a.2.2.2.2.2.2.2.2.2.2.2.2.2.2.2.2.1 a.2.2.2.2.2.2.2.2.2.2.2.2.2.2.2.2.2.1 a.2.2.2.2.2.2.2.2.2.2.2.2.2.2.2.2.2.2.1 a.2.2.2.2.2.2.2.2.2.2.2.2.2.2.2.2.2.2.2.1 a.2.2.2.2.2.2.2.2.2.2.2.2.2.2.2.2.2.2.2.2.1 a.2.2.2.2.2.2.2.2.2.2.2.2.2.2.2.2.2.2.2.2.2.1 a.2.2.2.2.2.2.2.2.2.2.2.2.2.2.2.2.2.2.2.2.2.2.1 a.2.2.2.2.2.2.2.2.2.2.2.2.2.2.2.2.2.2.2.2.2.2.2.1 a.2.2.2.2.2.2.2.2.2.2.2.2.2.2.2.2.2.2.2.2.2.2.2.2.1 a.2.2.2.2.2.2.2.2.2.2.2.2.2.2.2.2.2.2.2.2.2.2.2.2.2.1 a.2.2.2.2.2.2.2.2.2.2.2.2.2.2.2.2.2.2.2.2.2.2.2.2.2.2.1 a.2.2.2.2.2.2.2.2.2.2.2.2.2.2.2.2.2.2.2.2.2.2.2.2.2.2.2.1 a.2.2.2.2.2.2.2.2.2.2.2.2.2.2.2.2.2.2.2.2.2.2.2.2.2.2.2.2.1 a.2.2.2.2.2.2.2.2.2.2.2.2.2.2.2.2.2.2.2.2.2.2.2.2.2.2.2.2.2.1 a.2.2.2.2.2.2.2.2.2.2.2.2.2.2.2.2.2.2.2.2.2.2.2.2.2.2.2.2.2.2.1 a.2.2.2.2.2.2.2.2.2.2.2.2.2.2.2.2.2.2.2.2.2.2.2.2.2.2.2.2.2.2.2.1 a.2.2.2.2.2.2.2.2.2.2.2.2.2.2.2.2.2.2.2.2.2.2.2.2.2.2.2.2.2.2.2.2.1 a.2.2.2.2.2.2.2.2.2.2.2.2.2.2.2.2.2.2.2.2.2.2.2.2.2.2.2.2.2.2.2.2.2.1 a.2.2.2.2.2.2.2.2.2.2.2.2.2.2.2.2.2.2.2.2.2.2.2.2.2.2.2.2.2.2.2.2.2.2.1 a.2.2.2.2.2.2.2.2.2.2.2.2.2.2.2.2.2.2.2.2.2.2.2.2.2.2.2.2.2.2.2.2.2.2.2.1 a.2.2.2.2.2.2.2.2.2.2.2.2.2.2.2.2.2.2.2.2.2.2.2.2.2.2.2.2.2.2.2.2.2.2.2.2.1 a.2.2.2.2.2.2.2.2.2.2.2.2.2.2.2.2.2.2.2.2.2.2.2.2.2.2.2.2.2.2.2.2.2.2.2.2.2.1 a.2.2.2.2.2.2.2.2.2.2.2.2.2.2.2.2.2.2.2.2.2.2.2.2.2.2.2.2.2.2.2.2.2.2.2.2.2.2.1 (fun x0 x1 x2 x3 x4 x5 x6 x7 x8 x9 x10 x11 x12 x13 x14 x15 x16 x17 x18 x19 x20 x21 x22 x23 x24 x25 x26 x27 x28 x29 x30 x31 x32 x33 x34 x35 x36 x37 x38 => k1 (x0, x1, x2, x3, x4, x5, x6, x7, x8, x9, x10, x11, x12, x13, x14, x15, x16, x17, x18, x19, x20, x21, x22, x23, x24, x25, x26, x27, x28, x29, x30, x31, x32, x33, x34, x35, x36, x37, x38, ())) (fun x0 => k2.1 (x0, ())) (fun x0 x1 x2 x3 x4 x5 x6 x7 x8 x9 x10 x11 x12 x13 x14 x15 x16 x17 x18 x19 x20 x21 x22 x23 x24 x25 x26 x27 x28 x29 x30 x31 x32 x33 x34 x35 x36 x37 => k2.2.1 (x0, x1, x2, x3, x4, x5, x6, x7, x8, x9, x10, x11, x12, x13, x14, x15, x16, x17, x18, x19, x20, x21, x22, x23, x24, x25, x26, x27, x28, x29, x30, x31, x32, x33, x34, x35, x36, x37, ()))
def verdererlaw11_LexApart_s6 (n : Nat) (x0 : ByteArray) (x1 : (List ty36.D)) (x2 : Int) (x3 : Int) (k1 : ByteArray → (List ty36.D) → Int → Int → Option R) (qr : Bool → Option R) (qe0 : ByteArray → Int → Option R) : Option R :=
  if (decide (x3 < (x1.length : Int))) = true then (if (0 : Int) ≤ x3 ∧ x3 < (x1.length : Int) then (if (decide ((x1.getD (Int.toNat x3) (Ty.z ty36)).2.2.2.1 < x2)) = true then (qr false) else (if (decide ((x1.getD (Int.toNat x3) (Ty.z ty36)).2.2.2.1 > (x0.size : Int))) = true then (qr false) else (if (decide ((IntKind.i64.wrap ((x0.size : Int) - (x1.getD (Int.toNat x3) (Ty.z ty36)).2.2.2.1)) < (((x1.getD (Int.toNat x3) (Ty.z ty36)).2.1).size : Int))) = true then (qr false) else (if (0 : Int) ≤ (IntKind.i64.wrap ((x1.getD (Int.toNat x3) (Ty.z ty36)).2.2.2.1 + (((x1.getD (Int.toNat x3) (Ty.z ty36)).2.1).size : Int))) ∧ (IntKind.i64.wrap ((x1.getD (Int.toNat x3) (Ty.z ty36)).2.2.2.1 + (((x1.getD (Int.toNat x3) (Ty.z ty36)).2.1).size : Int))) ≤ (x0.size : Int) then (if (0 : Int) ≤ (x1.getD (Int.toNat x3) (Ty.z ty36)).2.2.2.1 ∧ (x1.getD (Int.toNat x3) (Ty.z ty36)).2.2.2.1 ≤ ((Int.toNat (IntKind.i64.wrap ((x1.getD (Int.toNat x3) (Ty.z ty36)).2.2.2.1 + (((x1.getD (Int.toNat x3) (Ty.z ty36)).2.1).size : Int)))) : Int) then (if (!((x0.extract (Int.toNat ((x1.getD (Int.toNat x3) (Ty.z ty36)).2.2.2.1)) (Int.toNat (IntKind.i64.wrap ((x1.getD (Int.toNat x3) (Ty.z ty36)).2.2.2.1 + (((x1.getD (Int.toNat x3) (Ty.z ty36)).2.1).size : Int))))).toList == ((x1.getD (Int.toNat x3) (Ty.z ty36)).2.1).toList)) = true then (qr false) else (if (!(((x1.getD (Int.toNat x3) (Ty.z ty36)).1 == 4) == (x3 == (IntKind.i64.wrap ((x1.length : Int) - 1))))) = true then (qr false) else (runC (verdererlaw11_LexApart_l11 n) n (x0, x1, x2, x3, (x1.getD (Int.toNat x3) (Ty.z ty36)).2.2.2.1, x0, (x0.size : Int), (decide ((x1.getD (Int.toNat x3) (Ty.z ty36)).2.2.2.1 > (x0.size : Int))), x0, (x0.size : Int), (x1.getD (Int.toNat x3) (Ty.z ty36)).2.2.2.1, (IntKind.i64.wrap ((x0.size : Int) - (x1.getD (Int.toNat x3) (Ty.z ty36)).2.2.2.1)), (x1.getD (Int.toNat x3) (Ty.z ty36)).2.1, (((x1.getD (Int.toNat x3) (Ty.z ty36)).2.1).size : Int), (decide ((IntKind.i64.wrap ((x0.size : Int) - (x1.getD (Int.toNat x3) (Ty.z ty36)).2.2.2.1)) < (((x1.getD (Int.toNat x3) (Ty.z ty36)).2.1).size : Int))), x0, (x1.getD (Int.toNat x3) (Ty.z ty36)).2.2.2.1, (x1.getD (Int.toNat x3) (Ty.z ty36)).2.2.2.1, (x1.getD (Int.toNat x3) (Ty.z ty36)).2.1, (((x1.getD (Int.toNat x3) (Ty.z ty36)).2.1).size : Int), (IntKind.i64.wrap ((x1.getD (Int.toNat x3) (Ty.z ty36)).2.2.2.1 + (((x1.getD (Int.toNat x3) (Ty.z ty36)).2.1).size : Int))), (x0.extract (Int.toNat ((x1.getD (Int.toNat x3) (Ty.z ty36)).2.2.2.1)) (Int.toNat (IntKind.i64.wrap ((x1.getD (Int.toNat x3) (Ty.z ty36)).2.2.2.1 + (((x1.getD (Int.toNat x3) (Ty.z ty36)).2.1).size : Int))))), (x1.getD (Int.toNat x3) (Ty.z ty36)).2.1, (!((x0.extract (Int.toNat ((x1.getD (Int.toNat x3) (Ty.z ty36)).2.2.2.1)) (Int.toNat (IntKind.i64.wrap ((x1.getD (Int.toNat x3) (Ty.z ty36)).2.2.2.1 + (((x1.getD (Int.toNat x3) (Ty.z ty36)).2.1).size : Int))))).toList == ((x1.getD (Int.toNat x3) (Ty.z ty36)).2.1).toList)), (x1.getD (Int.toNat x3) (Ty.z ty36)).1, ((x1.getD (Int.toNat x3) (Ty.z ty36)).1 == 4), x3, x1, (x1.length : Int), (IntKind.i64.wrap ((x1.length : Int) - 1)), (x3 == (IntKind.i64.wrap ((x1.length : Int) - 1))), (!(((x1.getD (Int.toNat x3) (Ty.z ty36)).1 == 4) == (x3 == (IntKind.i64.wrap ((x1.length : Int) - 1))))), (x1.getD (Int.toNat x3) (Ty.z ty36)).1, (x1.getD (Int.toNat x3) (Ty.z ty36)).2.1, ((x1.getD (Int.toNat x3) (Ty.z ty36)).2.2.1).1, ((x1.getD (Int.toNat x3) (Ty.z ty36)).2.2.1).2.1, ((x1.getD (Int.toNat x3) (Ty.z ty36)).2.2.1).2.2.1, ((x1.getD (Int.toNat x3) (Ty.z ty36)).2.2.1).2.2.2.1, (x1.getD (Int.toNat x3) (Ty.z ty36)).2.2.2.1, ()) (fun b5 => qr b5.1, fun b43 => k1 b43.1 b43.2.1 (IntKind.i64.wrap (b43.2.2.2.2.2.2.2.2.2.2.2.2.2.2.2.2.2.2.2.2.2.2.2.2.2.2.2.2.2.2.2.2.2.2.2.2.2.1 + (b43.2.2.2.2.2.2.2.2.2.2.2.2.2.2.2.2.2.2.2.2.2.2.2.2.2.2.2.2.2.2.2.2.1.size : Int))) (IntKind.i64.wrap (b43.2.2.1 + 1)), ())))) else none) else none)))) else none) else (qe0 x0 x2)
def verdererlaw11_LexApart_l6 (n : Nat) (a : (verdererlaw11_LexApart_ds 6).D) (k1 : (verdererlaw11_LexApart_ds 6).D → Option R) (k2 : exK R (verdererlaw11_LexApart_dx 6)) : Option R :=
  verdererlaw11_LexApart_s6 n a.1 a.2.1 a.2.2.1 a.2.2.2.1 (fun x0 x1 x2 x3 => k1 (x0, x1, x2, x3, ())) (fun x0 => k2.1 (x0, ())) (fun x0 x1 => k2.2.1 (x0, x1, ()))
@[reducible] def verdererlaw11_LexApart_d : Desc := ⟨[(0, .d .str)], []⟩
def verdererlaw11_LexApart_Fi (n : Nat) (a0 : ByteArray) (k0 : Bool → Option R) : Option R :=
  lex_Read_F n a0 (fun y1 y2 y3 => if (y3 != 0) = true then (if ((y1.length : Int) == 0) = true then (verdererlaw11_known_F n (fun y4 => k0 y4)) else (k0 false)) else (runC (verdererlaw11_LexApart_l6 n) n (a0, y1, 0, 0, ()) (fun b44 => k0 b44.1, fun b46 => if (b46.2.1 == (b46.1.size : Int)) = true then (verdererlaw11_known_F n (fun y47 => k0 y47)) else (k0 false), ())))
def verdererlaw11_LexApart_F {R : Type} := lazyN (@verdererlaw11_LexApart_Fi R)
theorem verdererlaw11_LexApart_e : @verdererlaw11_LexApart_F R = @verdererlaw11_LexApart_Fi R := lazyN_eq _
def verdererlaw11_LexApart_g (n : Nat) : Gx R := typed 1 verdererlaw11_LexApart_d fun x k => verdererlaw11_LexApart_F n x.1 (fun y0 => k (.a (.c (.b y0))) [])
def verdererlaw11_LexApart_cs (R : Type) (n : Nat) : List (Nat × Gx R) := [(7, lex_Read_g n), (8, verdererlaw11_known_g n)]
def verdererlaw11_LexApart_lp (n : Nat) : (i : Nat) → (verdererlaw11_LexApart_ds i).D → exK R (verdererlaw11_LexApart_dx i) → Option R
  | 11, a, k => runC (verdererlaw11_LexApart_l11 n) n a k
  | 6, a, k => runC (verdererlaw11_LexApart_l6 n) n a k
  | _, _, _ => none
def verdererlaw11_LexApart_cx (R : Type) (n : Nat) : Cx R := ⟨Tryd.prog, Gof (verdererlaw11_LexApart_cs R n), verdererlaw11_LexApart_ds, verdererlaw11_LexApart_dx, verdererlaw11_LexApart_lp n, drawP Tryd.prog (Gof (verdererlaw11_LexApart_cs R n)), false, noJn, noFz⟩
theorem verdererlaw11_LexApart_ok (n : Nat) : Good Tryd.prog 4 (verdererlaw11_LexApart_g (R := R) n) := by
  unfold verdererlaw11_LexApart_g
  rw [verdererlaw11_LexApart_e]
  exact Good.fn (cx := verdererlaw11_LexApart_cx R n) (by kernel_rfl) (AllGood.cons (lex_Read_ok n) (AllGood.cons (verdererlaw11_known_ok n) (AllGood.nil))) rfl Tryd.func4 (by kernel_rfl) rfl (by
    have e : fnLoops noJn Tryd.f4 = [((fnLoops noJn Tryd.f4)[0]?).getD (false, .skip), ((fnLoops noJn Tryd.f4)[1]?).getD (false, .skip)] := by kernel_rfl
    show LoopRuns _ _ (fnLoops noJn _)
    rw [e]
    exact ⟨LoopRun.loop (by kernel_rfl) (i := 6) (m := n) (step := verdererlaw11_LexApart_l6 n) (by kernel_rfl) (fun a k1 k2 => by kernel_rfl) (fun _ _ => rfl), ⟨LoopRun.loop (by kernel_rfl) (i := 11) (m := n) (step := verdererlaw11_LexApart_l11 n) (by kernel_rfl) (fun a k1 k2 => by kernel_rfl) (fun _ _ => rfl), trivial⟩⟩) 1 verdererlaw11_LexApart_d (by kernel_rfl) (fun x k => by kernel_rfl)
end
end Go.Proofs.YtnnbinmomendnaaDoor.E
set_option linter.unusedVariables false
set_option maxRecDepth 100000
namespace Go.Proofs.YtnnbinmomendnaaDoor.E
open Go.Proofs
noncomputable section
variable {R : Type}
/-! verderer/verdererlaw11.LexWords: function 5 -/
@[reducible] def verdererlaw11_LexWords_d : Desc := ⟨[(0, .d .str), (1, .d (.int .i64))], []⟩
def verdererlaw11_LexWords_Fi (n : Nat) (a0 : ByteArray) (a1 : Int) (k0 : Bool → Option R) : Option R :=
  lex_Reserved_F n a0 (fun y1 => verdererref11_Reserved_F n a0 (fun y2 => if (y1 == y2) = true then (lex_Op_F n a0 (fun y3 => verdererref11_Op_F n a0 (fun y4 => if (y3 == y4) = true then (lex_Sgn_F n a1 (fun y5 => verdererref11_Sgn_F n a1 (fun y6 => if (y5.toList == y6.toList) = true then (verdererlaw11_known_F n (fun y7 => k0 y7)) else (k0 false)))) else (k0 false)))) else (k0 false)))
def verdererlaw11_LexWords_F {R : Type} := lazyN (@verdererlaw11_LexWords_Fi R)
theorem verdererlaw11_LexWords_e : @verdererlaw11_LexWords_F R = @verdererlaw11_LexWords_Fi R := lazyN_eq _
def verdererlaw11_LexWords_g (n : Nat) : Gx R := typed 2 verdererlaw11_LexWords_d fun x k => verdererlaw11_LexWords_F n x.1 x.2.1 (fun y0 => k (.a (.c (.b y0))) [])
def verdererlaw11_LexWords_cs (R : Type) (n : Nat) : List (Nat × Gx R) := [(8, verdererlaw11_known_g n), (12, lex_Reserved_g n), (13, verdererref11_Reserved_g n), (14, lex_Op_g n), (15, verdererref11_Op_g n), (16, lex_Sgn_g n), (17, verdererref11_Sgn_g n)]
def verdererlaw11_LexWords_cx (R : Type) (n : Nat) : Cx R := ⟨Tryd.prog, Gof (verdererlaw11_LexWords_cs R n), noDs, noDx, noLp, drawP Tryd.prog (Gof (verdererlaw11_LexWords_cs R n)), false, noJn, noFz⟩
theorem verdererlaw11_LexWords_ok (n : Nat) : Good Tryd.prog 5 (verdererlaw11_LexWords_g (R := R) n) := by
  unfold verdererlaw11_LexWords_g
  rw [verdererlaw11_LexWords_e]
  exact Good.fn (cx := verdererlaw11_LexWords_cx R n) (by kernel_rfl) (AllGood.cons (verdererlaw11_known_ok n) (AllGood.cons (lex_Reserved_ok n) (AllGood.cons (verdererref11_Reserved_ok n) (AllGood.cons (lex_Op_ok n) (AllGood.cons (verdererref11_Op_ok n) (AllGood.cons (lex_Sgn_ok n) (AllGood.cons (verdererref11_Sgn_ok n) (AllGood.nil)))))))) rfl Tryd.func5 (by kernel_rfl) rfl trivial 2 verdererlaw11_LexWords_d (by kernel_rfl) (fun x k => by kernel_rfl)
end
end Go.Proofs.YtnnbinmomendnaaDoor.E
namespace Go.Proofs.YtnnbinmomendnaaDoor.E
open Go.RowKit
variable {R : Type}
theorem runC_scan {α β R ρ : Type} {step : α → (α → Option R) → β → Option R} (k : β) (K : ρ → Option R) (E : Option R) (f : Nat → Option ρ) (st : Nat → α) (m : Nat)
    (hs : ∀ i, i < m → ∀ k1, step (st i) k1 k = match f i with
      | none => k1 (st (i + 1))
      | some y => K y) (he : ∀ k1, step (st m) k1 k = E) {n : Nat} (hn : m < n) : runC step n (st 0) k = match (List.range m).findSome? f with
      | none => E
      | some y => K y := by
  have go : ∀ (d i n : Nat), i + d = m → d < n → runC step n (st i) k = match (List.range' i d).findSome? f with
      | none => E
      | some y => K y := by
    intro d
    induction d with
    | zero =>
      intro i n hi hn
      obtain ⟨n, rfl⟩ : ∃ q, n = q + 1 := ⟨n - 1, by omega⟩
      have : i = m := by omega
      subst this
      exact he _
    | succ d ih =>
      intro i n hi hn
      obtain ⟨n, rfl⟩ : ∃ q, n = q + 1 := ⟨n - 1, by omega⟩
      rw [List.range'_succ, List.findSome?_cons]
      have h := hs i (by omega) (fun b => runC step n b k)
      refine Eq.trans (show _ = step (st i) (fun b => runC step n b k) k from rfl) (h.trans ?_)
      cases hf : f i with
      | some y => rfl
      | none => exact ih (i + 1) n (by omega) (by omega)
  have := go m 0 n (by omega) hn
  rw [← List.range_eq_range'] at this
  exact this
theorem runC_all {α β R : Type} {step : α → (α → Option R) → β → Option R} (k : β) (K E : Option R) (p : Nat → Bool) (st : Nat → α) (m : Nat)
    (hs : ∀ i, i < m → ∀ k1, step (st i) k1 k = if p i = true then k1 (st (i + 1)) else K) (he : ∀ k1, step (st m) k1 k = E) {n : Nat} (hn : m < n) : runC step n (st 0) k = if ((List.range m).all p) = true then E else K := by
  have h := runC_scan (ρ := Unit) k (fun _ => K) E (fun i => if p i = true then none else some ()) st m (fun i hi k1 => by rw [hs i hi k1]; by_cases hp : p i = true <;> simp [hp]) he hn
  rw [h]
  by_cases ha : (List.range m).all p = true
  · rw [if_pos ha]
    have : (List.range m).findSome? (fun i => if p i = true then none else some ()) = none := by
      rw [List.findSome?_eq_none_iff]
      intro i hi
      rw [if_pos (List.all_eq_true.1 ha i hi)]
    rw [this]
  · rw [if_neg ha]
    cases hf : (List.range m).findSome? (fun i => if p i = true then none else some ()) with
    | some y => rfl
    | none =>
      refine absurd (List.all_eq_true.2 fun i hi => ?_) ha
      have := (List.findSome?_eq_none_iff.1 hf) i hi
      by_cases hp : p i = true
      · exact hp
      · rw [if_neg hp] at this; cases this
theorem getD_nat' {α : Type} (d : α) {l : List α} (i : Nat) (h : i < l.length) : l.getD i d = l[i] := by
  rw [List.getD_eq_getElem?_getD, List.getElem?_eq_getElem h, Option.getD_some]
theorem readL_F (n : Nat) (s : ByteArray) (k : Toks → Int → Int → Option R) : lex_Read_F n s k = k (lexS s).2.2 (lexS s).1 (lexS s).2.1 := by
  rw [lex_Read_e]
  unfold lex_Read_Fi
  rw [if_pos trivial]
theorem readL_ref (n : Nat) (hn : 2000 < n) (s : ByteArray) (k : Toks → Int → Int → Option R) : lex_Read_F n s k = verdererref11_Read_F n s (fun a b c => k c a b) := by
  rw [readL_F, refLex_F n s hn]
theorem known_F (m : Nat) (k : Bool → Option R) : verdererlaw11_known_F (m + 2001) k = k true := by
  have h : ∀ (s : ByteArray) (k : Toks → Int → Int → Option R), lex_Read_F (m + 2001) s k = verdererref11_Read_F (m + 2001) s (fun a b c => k c a b) := fun s k => readL_ref (m + 2001) (by omega) s k
  rw [verdererlaw11_known_e]
  unfold verdererlaw11_known_Fi
  simp only [h]
  clear h
  show _ = _
  kernel_rfl
theorem lexS_len (s : ByteArray) : (lexS s).2.2.length ≤ 301 := by
  unfold lexS
  split
  · simp
  · rename_i hs
    split
    · simp
    · rename_i l h
      have := lexL_len s (s.size + 1) 0 [] l (Nat.zero_le _) (by simp) h
      simp only [List.length_append, List.length_cons, List.length_nil]
      omega
theorem taken_F (n : Nat) (l : Toks) (hl : l.length ≤ 400) (hn : 2000 < n) (k : Toks → Option R) : verdererlaw11_taken_F n l k = k l := by
  rw [verdererlaw11_taken_e]
  unfold verdererlaw11_taken_Fi
  refine (runC_st (R := R) (step := verdererlaw11_taken_l3 n) (fun b1 => k b1.1, ()) (k l) (fun i => (l, (i : Int), l.take i, ())) l.length (fun i hi => .inl fun k1 => ?_) (fun k1 => ?_) (n := n) (by omega)).trans rfl
  · have c1 : (i : Int) < (l.length : Int) := by omega
    have c2 : (0 : Int) ≤ (i : Int) ∧ (i : Int) < (l.length : Int) := by omega
    simp only [verdererlaw11_taken_l3, verdererlaw11_taken_s3, c1, decide_true, if_true, c2, and_self, Int.toNat_natCast, getD_nat' _ i hi, List.length_cons, List.length_nil, List.length_take]
    rw [if_pos (by omega), wrap_succ i (by omega)]
    congr 1
    show (l, ((i + 1 : Nat) : Int), l.take i ++ [l[i]], ()) = (l, ((i + 1 : Nat) : Int), l.take (i + 1), ())
    rw [List.take_succ_eq_append_getElem hi]
  · simp [verdererlaw11_taken_l3, verdererlaw11_taken_s3]
theorem same_F (n : Nat) (l : Toks) (hl : l.length ≤ 400) (hn : 2000 < n) (k : Bool → Option R) : verdererref11_Same_F n l l k = k true := by
  rw [verdererref11_Same_e]
  unfold verdererref11_Same_Fi
  rw [if_neg (by simp)]
  refine (runC_st (R := R) (step := verdererref11_Same_l4 n) (fun b1 => k b1.1, fun b1 => k true, ()) (k true) (fun i => (l, l, (i : Int), ())) l.length (fun i hi => .inl fun k1 => ?_) (fun k1 => ?_) (n := n) (by omega)).trans rfl
  · have c1 : (i : Int) < (l.length : Int) := by omega
    have c2 : (0 : Int) ≤ (i : Int) ∧ (i : Int) < (l.length : Int) := by omega
    simp only [verdererref11_Same_l4, verdererref11_Same_s4, c1, decide_true, if_true, c2, and_self, beq_self_eq_true, Bool.true_and, Bool.not_true, Bool.false_eq_true, if_false, beqB, wrap_succ i (by omega)]
  · simp [verdererref11_Same_l4, verdererref11_Same_s4]
theorem LexReads_true (s : ByteArray) (_ : s.size ≤ 140737488351232) : ∃ n, verdererlaw11_LexReads_F (R := Unit) n s (fun b => bif b then some () else none) = some () := by
  obtain ⟨m, hm⟩ : ∃ m : Nat, 1000 < m := ⟨2000, by omega⟩
  refine ⟨m + 2001, ?_⟩
  rw [verdererlaw11_LexReads_e]
  unfold verdererlaw11_LexReads_Fi
  by_cases h : s.size > 2000
  · have e : lexS s = (0, 9, []) := by unfold lexS; rw [if_pos (by omega)]
    have c : (s.size : Int) > 2000 := by omega
    rw [if_pos (decide_eq_true c), readL_F, e]
    simp only [List.length_nil]
    rw [if_pos (by rfl), if_pos (by rfl), if_pos (by rfl), known_F]
    rfl
  · have c : ¬ (s.size : Int) > 2000 := by omega
    rw [if_neg (by simpa using c), readL_F, refLex_F _ s (by omega), taken_F _ _ (by have := lexS_len s; omega) (by omega), same_F _ _ (by have := lexS_len s; omega) (by omega)]
    rw [if_pos rfl, if_pos (by simp), if_pos (by simp), known_F]
    rfl
end Go.Proofs.YtnnbinmomendnaaDoor.E
namespace Go.Proofs.YtnnbinmomendnaaDoor.E
open Go.RowKit
variable {R : Type}
/-- tokens stand apart -/
def Apart (s : ByteArray) : Nat → Toks → Prop
  | a, [] => ∀ j, a ≤ j → j < s.size → blN (bt s j) = true
  | a, t :: l => ∃ p : Nat, t.2.2.2.1 = (p : Int) ∧ a ≤ p ∧ (∀ j, a ≤ j → j < p → blN (bt s j) = true) ∧ p + t.2.1.size ≤ s.size ∧ s.extract p (p + t.2.1.size) = t.2.1 ∧ t.1 ≠ 4 ∧ Apart s (p + t.2.1.size) l
theorem apart_blank {s : ByteArray} {a : Nat} (hb : blN (bt s a) = true) : ∀ {l : Toks}, Apart s (a + 1) l → Apart s a l
  | [], h => fun j h1 h2 => by
    by_cases e : j = a
    · rw [e]; exact hb
    · exact h j (by omega) h2
  | t :: l, ⟨p, h1, h2, h3, h4⟩ => ⟨p, h1, by omega, fun j g1 g2 => by
    by_cases e : j = a
    · rw [e]; exact hb
    · exact h3 j (by omega) g2, h4⟩
theorem ext_ext (s : ByteArray) (i k : Nat) (h : i + k ≤ s.size) : (s.extract i s.size).extract 0 k = s.extract i (i + k) := by
  apply ba_eq
  rw [ba_size] at h
  simp only [ByteArray.data_extract, Array.toList_extract, List.extract_eq_take_drop, List.drop_zero, Nat.sub_zero, Nat.add_sub_cancel_left, List.take_take]
  congr 1
  rw [ba_size]
  omega
theorem oneS_txt {u : ByteArray} {t : ty36.D} (h0 : 0 < u.size) (h : oneS u = some t) : t.2.1 = u.extract 0 t.2.1.size ∧ t.1 ≠ 4 := by
  have hsz := oneS_size h0 h
  have fin : ∀ (m : Nat) (x : ty34.D) (k : Int), k ≠ 4 → (k, u.extract 0 m, x, (0 : Int), ()) = t → t.2.1 = u.extract 0 t.2.1.size ∧ t.1 ≠ 4 := by
    rintro m x k hk rfl
    refine ⟨?_, hk⟩
    show u.extract 0 m = u.extract 0 (u.extract 0 m).size
    rw [ByteArray.size_extract]
    by_cases hm : m ≤ u.size
    · rw [Nat.min_eq_left hm, Nat.sub_zero]
    · apply ba_eq
      rw [ext0, ext0, List.take_of_length_le (by rw [← ba_size]; omega), List.take_of_length_le (by rw [← ba_size]; omega)]
  have cst : ∀ m, constS u m = some t → t.2.1 = u.extract 0 t.2.1.size ∧ t.1 ≠ 4 := by
    intro m hc
    unfold constS at hc
    split at hc
    · injection hc with hc
      exact fin m _ 2 (by decide) hc
    · cases hc
  unfold oneS at h
  split at h
  · split at h
    · injection h with h
      exact fin _ _ 2 (by decide) h
    · injection h with h
      exact fin _ _ 1 (by decide) h
  · split at h
    · split at h
      · cases h
      · exact cst _ h
    · split at h
      · split at h
        · exact cst _ h
        · cases h
      · split at h
        · injection h with h
          exact fin _ _ 3 (by decide) h
        · cases h
theorem lexL_apart (s : ByteArray) : ∀ (f i : Nat) (l l' : Toks), i ≤ s.size → s.size ≤ i + f → lexL s f i l = .inr l' → ∃ m, l' = l ++ m ∧ Apart s i m
  | 0, i, l, l', hi, hf, h => by
    rw [lexL] at h
    injection h with h
    exact ⟨[], by rw [← h, List.append_nil], fun j h1 h2 => by omega⟩
  | f + 1, i, l, l', hi, hf, h => by
    rw [lexL] at h
    split at h
    · rename_i hlt
      split at h
      · rename_i hb
        obtain ⟨m, h1, h2⟩ := lexL_apart s f (i + 1) l l' (by omega) (by omega) h
        exact ⟨m, h1, apart_blank (by unfold blN; simpa using hb) h2⟩
      · split at h
        · cases h
        · rename_i t ho
          have hsz := oneS_size (s := s.extract i s.size) (by rw [ByteArray.size_extract]; omega) ho
          have htx := oneS_txt (u := s.extract i s.size) (by rw [ByteArray.size_extract]; omega) ho
          rw [ByteArray.size_extract] at hsz
          obtain ⟨m, h1, h2⟩ := lexL_apart s f (i + t.2.1.size) _ l' (by omega) (by omega) h
          refine ⟨(t.1, t.2.1, t.2.2.1, (i : Int), ()) :: m, by rw [h1]; simp, i, rfl, Nat.le_refl _, fun j g1 g2 => by omega, ?_, ?_, htx.2, h2⟩
          · show i + t.2.1.size ≤ s.size; omega
          · show s.extract i (i + t.2.1.size) = t.2.1
            rw [← ext_ext s i t.2.1.size (by omega)]
            exact htx.1.symm
    · injection h with h
      exact ⟨[], by rw [← h, List.append_nil], fun j h1 h2 => by omega⟩
theorem lexS_apart (s : ByteArray) (h : (lexS s).2.1 = 0) : ∃ m, (lexS s).2.2 = m ++ [endT s] ∧ Apart s 0 m ∧ m.length ≤ 300 ∧ s.size ≤ 300 := by
  obtain ⟨m0, hm0, hlen⟩ := lexS_rng s h
  unfold lexS at h hm0 ⊢
  split at h
  · cases h
  · rename_i hs
    rw [if_neg hs] at hm0 ⊢
    split at h
    · cases h
    · rename_i l hl
      obtain ⟨m, h1, h2⟩ := lexL_apart s (s.size + 1) 0 [] l (Nat.zero_le _) (by omega) hl
      rw [hl] at hm0
      refine ⟨l, rfl, by rw [h1, List.nil_append]; exact h2, ?_, by omega⟩
      have := List.append_inj_left' hm0 rfl
      rw [show l = m0 from this]
      exact hlen
/-- between two tokens -/
theorem apart_in (n : Nat) (s : ByteArray) (ys : Toks) (rest) (a p : Nat) (hp : rest.2.2.2.2.2.2.2.2.2.2.2.2.2.2.2.2.2.2.2.2.2.2.2.2.2.2.2.2.2.2.2.2.2.2.2.1 = (p : Int)) (ha : a ≤ p) (hs : p ≤ s.size) (hsz : s.size ≤ 1000) (hn : 2000 < n) (hb : ∀ j, a ≤ j → j < p → blN (bt s j) = true) (k2 : exK R (verdererlaw11_LexApart_dx 11)) :
    runC (verdererlaw11_LexApart_l11 n) n (s, ys, (a : Int), rest) k2 = k2.2.1 (s, ys, rest) := by
  have := runC_st (R := R) (step := verdererlaw11_LexApart_l11 n) k2 (k2.2.1 (s, ys, rest)) (fun j => (s, ys, ((a + j : Nat) : Int), rest)) (p - a) (fun j hj => .inl fun k1 => ?_) (fun k1 => ?_) (n := n) (by omega)
  · exact this
  · have c1 : ((a + j : Nat) : Int) < rest.2.2.2.2.2.2.2.2.2.2.2.2.2.2.2.2.2.2.2.2.2.2.2.2.2.2.2.2.2.2.2.2.2.2.2.1 := by rw [hp]; omega
    have c2 : (0 : Int) ≤ ((a + j : Nat) : Int) := by omega
    have c3 : ((a + j : Nat) : Int) < (s.size : Int) := by omega
    have hbl := hb (a + j) (by omega) (by omega)
    unfold blN at hbl
    have e32 : (((bt s (a + j) : Nat) : Int) != 32) = !decide (bt s (a + j) = 32) := by
      have e : (((bt s (a + j) : Nat) : Int) == 32) = decide (bt s (a + j) = 32) := beq_nat _ 32
      rw [bne, e]
    have e10 : (((bt s (a + j) : Nat) : Int) != 10) = !decide (bt s (a + j) = 10) := by
      have e : (((bt s (a + j) : Nat) : Int) == 10) = decide (bt s (a + j) = 10) := beq_nat _ 10
      rw [bne, e]
    unfold verdererlaw11_LexApart_l11 verdererlaw11_LexApart_s11
    rw [if_pos (decide_eq_true c1), if_pos c2, if_pos c3, byteAt_bt, e32, e10, wrap_succ (a + j) (by omega)]
    by_cases h32 : bt s (a + j) = 32
    · rw [decide_eq_true h32, if_neg (by decide)]
      rfl
    · rw [decide_eq_false h32, Bool.false_or] at hbl
      rw [decide_eq_false h32, if_pos (show (!false) = true from rfl), if_pos c2, if_pos c3, hbl, if_neg (show ¬ (!true) = true by decide)]
      rfl
  · have c1 : ¬ ((a + (p - a) : Nat) : Int) < rest.2.2.2.2.2.2.2.2.2.2.2.2.2.2.2.2.2.2.2.2.2.2.2.2.2.2.2.2.2.2.2.2.2.2.2.1 := by rw [hp]; omega
    unfold verdererlaw11_LexApart_l11 verdererlaw11_LexApart_s11
    rw [if_neg (by simpa using c1)]
    rfl
theorem apart_one (n : Nat) (s : ByteArray) (ys : Toks) (i a p : Nat) (t : ty36.D) (hi : i < ys.length) (ht : ys.getD i (Ty.z ty36) = t) (hy : ys.length ≤ 400) (hsz : s.size ≤ 1000) (hn : 2000 < n)
    (hp : t.2.2.2.1 = (p : Int)) (ha : a ≤ p) (hb : ∀ j, a ≤ j → j < p → blN (bt s j) = true) (hle : p + t.2.1.size ≤ s.size) (hx : s.extract p (p + t.2.1.size) = t.2.1) (hk : (t.1 == 4) = ((i : Int) == IntKind.i64.wrap ((ys.length : Int) - 1))) (k1 : (verdererlaw11_LexApart_ds 6).D → Option R) (k2 : exK R (verdererlaw11_LexApart_dx 6)) :
    verdererlaw11_LexApart_l6 n (s, ys, (a : Int), (i : Int), ()) k1 k2 = k1 (s, ys, ((p + t.2.1.size : Nat) : Int), ((i + 1 : Nat) : Int), ()) := by
  have c1 : (i : Int) < (ys.length : Int) := by omega
  have c2 : (0 : Int) ≤ (i : Int) ∧ (i : Int) < (ys.length : Int) := by omega
  have c3 : ¬ (p : Int) < (a : Int) := by omega
  have c4 : ¬ (p : Int) > (s.size : Int) := by omega
  have e5 : IntKind.i64.wrap ((s.size : Int) - (p : Int)) = ((s.size - p : Nat) : Int) := by rw [wrap_i64 (by omega) (by omega)]; omega
  have c5 : ¬ ((s.size - p : Nat) : Int) < (t.2.1.size : Int) := by omega
  have e6 : IntKind.i64.wrap ((p : Int) + (t.2.1.size : Int)) = ((p + t.2.1.size : Nat) : Int) := by rw [wrap_i64 (by omega) (by omega)]; omega
  have c6 : (0 : Int) ≤ ((p + t.2.1.size : Nat) : Int) ∧ ((p + t.2.1.size : Nat) : Int) ≤ (s.size : Int) := by omega
  have c7 : (0 : Int) ≤ (p : Int) ∧ (p : Int) ≤ ((p + t.2.1.size : Nat) : Int) := by omega
  unfold verdererlaw11_LexApart_l6 verdererlaw11_LexApart_s6
  simp only [Int.toNat_natCast, ht]
  simp only [hp]
  simp only [e5, e6, Int.toNat_natCast]
  rw [if_pos (decide_eq_true c1), if_pos c2, if_neg (by simpa using c3), if_neg (by simpa using c4), if_neg (by simpa using c5), if_pos c6, if_pos c7, if_neg (by rw [hx]; simp), if_neg (by rw [hk]; simp)]
  refine (apart_in n s ys _ a p rfl ha (by omega) hsz hn hb _).trans ?_
  simp only [e6, wrap_succ i (by omega)]
theorem apart_loop (n : Nat) (s : ByteArray) (ys : Toks) (hy : ys.length ≤ 400) (hsz : s.size ≤ 1000) (hn : 2000 < n) (k2 : exK R (verdererlaw11_LexApart_dx 6)) : ∀ (r : Toks) (i a m : Nat), ys.drop i = r ++ [endT s] → Apart s a r → a ≤ s.size → r.length + 2 ≤ m → i + r.length + 1 = ys.length →
    runC (verdererlaw11_LexApart_l6 n) m (s, ys, (a : Int), (i : Int), ()) k2 = k2.2.1 (s, (s.size : Int), ())
  | [], i, a, m, hd, hap, ha, hm, hl => by
    obtain ⟨m, rfl⟩ : ∃ q, m = q + 1 := ⟨m - 1, by omega⟩
    simp only [List.length_nil] at hl hm
    have ht : ys.getD i (Ty.z ty36) = endT s := by
      have := congrArg (fun l => l[0]?) hd
      simp only [List.getElem?_drop, Nat.add_zero, List.nil_append, List.getElem?_cons_zero] at this
      rw [List.getD_eq_getElem?_getD, this]
      rfl
    show verdererlaw11_LexApart_l6 n (s, ys, (a : Int), (i : Int), ()) (fun b => runC (verdererlaw11_LexApart_l6 n) m b k2) k2 = _
    rw [apart_one n s ys i a s.size (endT s) (by omega) ht hy hsz hn rfl ha (fun j h1 h2 => hap j h1 h2) (by show s.size + 0 ≤ _; omega) (by apply ba_eq; simp [endT]) (by
      have e : IntKind.i64.wrap ((ys.length : Int) - 1) = (i : Int) := by rw [wrap_i64 (by omega) (by omega)]; omega
      rw [e]
      simp [endT])]
    obtain ⟨m, rfl⟩ : ∃ q, m = q + 1 := ⟨m - 1, by omega⟩
    show verdererlaw11_LexApart_l6 n (s, ys, ((s.size + (endT s).2.1.size : Nat) : Int), ((i + 1 : Nat) : Int), ()) (fun b => runC (verdererlaw11_LexApart_l6 n) m b k2) k2 = _
    have c1 : ¬ ((i + 1 : Nat) : Int) < (ys.length : Int) := by omega
    unfold verdererlaw11_LexApart_l6 verdererlaw11_LexApart_s6
    rw [if_neg (by simpa using c1)]
    rfl
  | t :: r, i, a, m, hd, hap, ha, hm, hl => by
    obtain ⟨m, rfl⟩ : ∃ q, m = q + 1 := ⟨m - 1, by omega⟩
    simp only [List.length_cons] at hl hm
    obtain ⟨p, h1, h2, h3, h4, h5, h6, h7⟩ := hap
    have ht : ys.getD i (Ty.z ty36) = t := by
      have := congrArg (fun l => l[0]?) hd
      simp only [List.getElem?_drop, Nat.add_zero, List.cons_append, List.getElem?_cons_zero] at this
      rw [List.getD_eq_getElem?_getD, this]
      rfl
    show verdererlaw11_LexApart_l6 n (s, ys, (a : Int), (i : Int), ()) (fun b => runC (verdererlaw11_LexApart_l6 n) m b k2) k2 = _
    rw [apart_one n s ys i a p t (by omega) ht hy hsz hn h1 h2 h3 h4 h5 (by
      have e : IntKind.i64.wrap ((ys.length : Int) - 1) = ((ys.length - 1 : Nat) : Int) := by rw [wrap_i64 (by omega) (by omega)]; omega
      rw [e, show (t.1 == 4) = false from by simpa using h6]
      symm
      have : ¬ (i : Int) = ((ys.length - 1 : Nat) : Int) := by omega
      simpa using this)]
    exact apart_loop n s ys hy hsz hn k2 r (i + 1) (p + t.2.1.size) m (by rw [← List.drop_drop, hd]; rfl) h7 h4 (by omega) (by omega)
theorem LexApart_true (s : ByteArray) (_ : s.size ≤ 140737488351232) : ∃ n, verdererlaw11_LexApart_F (R := Unit) n s (fun b => bif b then some () else none) = some () := by
  obtain ⟨m, hm⟩ : ∃ m : Nat, 1000 < m := ⟨2000, by omega⟩
  refine ⟨m + 2001, ?_⟩
  rw [verdererlaw11_LexApart_e]
  unfold verdererlaw11_LexApart_Fi
  rw [readL_F]
  by_cases h : (lexS s).2.1 = 0
  · obtain ⟨l, h1, h2, h3, h4⟩ := lexS_apart s h
    rw [if_neg (by rw [h]; decide)]
    refine (apart_loop (m + 2001) s _ (by have := lexS_len s; omega) (by omega) (by omega) _ l 0 0 _ (by rw [List.drop_zero]; exact h1) h2 (Nat.zero_le _) (by omega) (by rw [h1]; simp)).trans ?_
    simp only [beq_self_eq_true, if_true]
    rw [known_F]
    rfl
  · have e : (lexS s).2.2 = [] := by
      revert h
      unfold lexS
      split
      · intro _; rfl
      · split
        · intro _; rfl
        · intro h; exact absurd rfl h
    rw [if_pos (by simpa using h), e, if_pos (by rfl), known_F]
    rfl
end Go.Proofs.YtnnbinmomendnaaDoor.E
/- From what a row lists of strconv's variables to what the walks ask of the world. -/
namespace Go.Proofs.YtnnbinmomendnaaDoor
open Go.RowKit

theorem gt_pow10 : (Tryd.prog.globals[2]?).map (·.type) = some 145 := by kernel_rfl
theorem gt_syn : (Tryd.prog.globals[0]?).map (·.type) = some 106 := by kernel_rfl
theorem gt_rng : (Tryd.prog.globals[1]?).map (·.type) = some 106 := by kernel_rfl
theorem err_star : "*" ++ "errors.errorString" = "*errors.errorString" := by decide
theorem row_err (u : TypeId) (h : Tryd.prog.typeName? 3 u = some "*errors.errorString") : u = 152 :=
  typeName_ptr_named (nm := "errors.errorString") (by rw [err_star]; kernel_rfl) (by kernel_rfl) (by decide) u (by rw [err_star]; exact h)
theorem lt_of_var {w : World} {n : String} {g : Nat} {cs : Array Value} (hg : Tryd.prog.globalNamed n = some g) (h : w.var? Tryd.prog n = some cs) : g < w.heap.size := by
  unfold World.var? at h
  rw [hg] at h
  simp only [Option.bind_some] at h
  rcases Nat.lt_or_ge g w.heap.size with hl | hl
  · exact hl
  · rw [Array.getElem?_eq_none hl] at h; cases h
/-- the list of all the law's rows -/
def laidList : List (String × DataW Unit) := [("math/bits.deBruijn32tab", Rows.laid_math_bits_deBruijn32tab), ("math/bits.deBruijn64tab", Rows.laid_math_bits_deBruijn64tab), ("internal/strconv.uint64pow10", Rows.laid_internal_strconv_uint64pow10), ("strconv.ErrRange", Rows.laid_strconv_ErrRange), ("strconv.ErrSyntax", Rows.laid_strconv_ErrSyntax)]
theorem laid_of {W : World} (h : laidMetH Tryd.prog laidList W) : Laid W := by
  have h0 : laidMet Tryd.prog laidList W := h
  have h3 := h0.tail.tail
  have p := Lib.tabIs_of_head (zs := Lib.pow10Tab) (k := .u64) g_pow10 gt_pow10 Tryd.underlying145 Tryd.underlying94 (by kernel_rfl) (by kernel_rfl) h3
  obtain ⟨a0, s0, hv0, -, -, -⟩ := laid_sentinel h3.tail g_rng gt_rng Tryd.underlying106 row_err Tryd.underlying152 Tryd.underlying154 rfl rfl Tryd.underlying9 (by kernel_rfl) (by kernel_rfl)
  obtain ⟨a1, s1, hv1, -, -, -⟩ := laid_sentinel h3.tail.tail g_syn gt_syn Tryd.underlying106 row_err Tryd.underlying152 Tryd.underlying154 rfl rfl Tryd.underlying9 (by kernel_rfl) (by kernel_rfl)
  exact ⟨p, ⟨_, _, hv1⟩, ⟨_, _, hv0⟩, .inr ⟨lt_of_var g_pow10 p, lt_of_var g_syn hv1, lt_of_var g_rng hv0⟩⟩
end Go.Proofs.YtnnbinmomendnaaDoor
