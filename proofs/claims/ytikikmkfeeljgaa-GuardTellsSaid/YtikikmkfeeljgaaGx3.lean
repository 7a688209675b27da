-- Written by a program for this claim (my own print over the kit's words).
import Derived.Test.YtikikmkfeeljgaaGx0
import Derived.Test.YtikikmkfeeljgaaGx1
import Derived.Test.YtikikmkfeeljgaaGx2
namespace Go.Proofs.Ytikikmkfeeljgaa.G
open Go.RowKit Go.Proofs.YtikikmkfeeljgaaW.PrintWords Go.Proofs.YtikikmkfeeljgaaW.PrintLast Go.Proofs.YtikikmkfeeljgaaW.PrintMore
attribute [local go_sem] max2_int min2_int max_two min_two max_three min_three max_four min_four   -- for this text's walks alone
set_option linter.unusedVariables false
set_option linter.unusedSimpArgs false
/-! ### verdererref01_quoted: function 95 -/
/-- what a byte of a quoted text is written as -/
def qByte (c : UInt8) : List UInt8 :=
 if c = 34 ∨ c = 92 then [92, c] else if c < 32 ∨ c > 126 then [92, 120, ([48, 49, 50, 51, 52, 53, 54, 55, 56, 57, 97, 98, 99, 100, 101, 102] : List UInt8).getD (c.toNat / 16) 0, ([48, 49, 50, 51, 52, 53, 54, 55, 56, 57, 97, 98, 99, 100, 101, 102] : List UInt8).getD (c.toNat % 16) 0] else [c]
def quotedL (l : List UInt8) : List UInt8 := 34 :: (l.flatMap qByte ++ [34])
def value_quoted.f (a0 : ByteArray) : Option ByteArray := if a0.size ≤ 1048576 then some ⟨(quotedL a0.data.toList).toArray⟩ else none
theorem qByte_len (c : UInt8) : (qByte c).length ≤ 4 := by
 unfold qByte
 split
 · simp
 · split <;> simp
theorem flatMap_qByte_len (l : List UInt8) : (l.flatMap qByte).length ≤ 4 * l.length := by
 induction l with
 | nil => simp
 | cons c l ih => have := qByte_len c; simp only [List.flatMap_cons, List.length_append, List.length_cons]; omega
theorem flatMap_take_snoc (s : ByteArray) (k : Nat) (h : k < s.size) : (s.data.toList.take (k + 1)).flatMap qByte = (s.data.toList.take k).flatMap qByte ++ qByte s[k] := by
 rw [show s.data.toList.take (k + 1) = s.data.toList.take k ++ [s[k]] from by rw [List.take_succ_eq_append_getElem (by simpa using h)]; rfl]
 simp
/-- what the loop has written behind k rounds -/
def qTo (s : ByteArray) (k : Nat) : List UInt8 := 34 :: (s.data.toList.take k).flatMap qByte
theorem qTo_succ (s : ByteArray) (k : Nat) (h : k < s.size) : qTo s (k + 1) = qTo s k ++ qByte s[k] := by
 unfold qTo
 rw [flatMap_take_snoc s k h, List.cons_append]
theorem qTo_len (s : ByteArray) (k : Nat) (h : k ≤ s.size) : (qTo s k).length ≤ 1 + 4 * k := by
 unfold qTo
 have := flatMap_qByte_len (s.data.toList.take k)
 have h2 : (s.data.toList.take k).length ≤ k := List.length_take_le _ _
 simp only [List.length_cons]
 omega
theorem hexd_fin : ∀ i : Fin 16, ((⟨#[48, 49, 50, 51, 52, 53, 54, 55, 56, 57, 97, 98, 99, 100, 101, 102]⟩ : ByteArray)[i.1]'(i.2)) = ([48, 49, 50, 51, 52, 53, 54, 55, 56, 57, 97, 98, 99, 100, 101, 102] : List UInt8).getD i.1 0 := by decide
theorem hexd_at (n : Nat) (h : n < (⟨#[48, 49, 50, 51, 52, 53, 54, 55, 56, 57, 97, 98, 99, 100, 101, 102]⟩ : ByteArray).size) : ((⟨#[48, 49, 50, 51, 52, 53, 54, 55, 56, 57, 97, 98, 99, 100, 101, 102]⟩ : ByteArray)[n]'h) = ([48, 49, 50, 51, 52, 53, 54, 55, 56, 57, 97, 98, 99, 100, 101, 102] : List UInt8).getD n 0 := hexd_fin ⟨n, h⟩
def verdererref01_quoted.f (a0 : ByteArray) : Option ByteArray := value_quoted.f a0
theorem ba_app1 (l : List UInt8) (a : Array UInt8) : (⟨l.toArray⟩ : ByteArray) ++ ⟨a⟩ = ⟨(l ++ a.toList).toArray⟩ := by
 apply ByteArray.ext
 simp
theorem ba_app2 (a b : Array UInt8) : (⟨a⟩ : ByteArray) ++ ⟨b⟩ = ⟨a ++ b⟩ := by
 apply ByteArray.ext
 simp
theorem qTo_size (s : ByteArray) (k : Nat) : (⟨(qTo s k).toArray⟩ : ByteArray).size = (qTo s k).length := by show (qTo s k).toArray.size = _; simp
theorem ext_one (s : ByteArray) (k : Nat) (h : k < s.size) : s.extract k (k + 1) = ⟨#[s[k]]⟩ := by
 apply ByteArray.ext
 apply Array.ext
 ·
  simp only [ByteArray.data_extract, Array.size_extract]
  have : k < s.data.size := h
  show min (k + 1) s.data.size - k = 1
  omega
 ·
  intro i h1 h2
  have : i = 0 := by simp only [List.size_toArray, List.length_cons, List.length_nil] at h2; omega
  subst this
  simp only [ByteArray.data_extract, Array.getElem_extract, Nat.add_zero]
  rfl
set_option maxHeartbeats 4000000 in
set_option maxRecDepth 100000 in
theorem verdererref01_quoted.calls (a0 : ByteArray) (r : ByteArray) (w : World) (h : verdererref01_quoted.f a0 = some r) :
  Calls Try.prog 95 #[.string a0] w fun e w' => e = .returned (.string r) ∧ Below w.heap.size w w' := by
 unfold verdererref01_quoted.f value_quoted.f at h
 split at h
 case isFalse => cases h
 rename_i hsz
 injection h with h
 have HR := Lib.hid h
 clear h
 have hmx : a0.size ≤ 9223372036854775807 := by omega
 go_enter Try.func95, Try.ntmps95
 go_wp2
 go_loopw [3, 4] (fun s v wr => ∃ k : Nat, k ≤ a0.size ∧ v = .int .i64 k ∧ s = .string ⟨(qTo a0 k).toArray⟩ ∧ Below w.heap.size w wr) (fun _ v _ => a0.size - (intOf v).toNat)
 case atStart => exact ⟨0, Nat.zero_le _, rfl, rfl, Below.refl _ _⟩
 case round =>
  obtain ⟨k, hk, rfl, rfl, hbel⟩ := hrel
  by_cases hlt : k < a0.size
  ·
   have hs := qTo_succ a0 k hlt
   have HS := Lib.hid hs
   clear hs
   have hl := qTo_len a0 k hk
   have hk0 : (0 : Int) ≤ (k : Int) := by omega
   have hk1 : (k : Int) + 1 ≤ (a0.size : Int) := by omega
   have hk2 : (k : Int) ≤ (k : Int) + 1 := by omega
   have e34 : a0[k] = 34 ↔ (a0[k].toNat : Int) = 34 := ⟨fun h => by rw [h]; rfl, fun h => UInt8.toNat_inj.1 (by show _ = 34; omega)⟩
   have e92 : a0[k] = 92 ↔ (a0[k].toNat : Int) = 92 := ⟨fun h => by rw [h]; rfl, fun h => UInt8.toNat_inj.1 (by show _ = 92; omega)⟩
   have l32 : a0[k] < 32 ↔ (a0[k].toNat : Int) < 32 := by rw [UInt8.lt_iff_toNat_lt]; show _ < 32 ↔ _; omega
   have g126 : a0[k] > 126 ↔ (126 : Int) < (a0[k].toNat : Int) := by show 126 < a0[k] ↔ _; rw [UInt8.lt_iff_toNat_lt]; show 126 < _ ↔ _; omega
   have h255 : (a0[k].toNat : Int) < 256 := by have := a0[k].toNat_lt; omega
   by_cases hA : (a0[k].toNat : Int) = 34 ∨ (a0[k].toNat : Int) = 92
   ·
    have hq : qByte a0[k] = [92, a0[k]] := by unfold qByte; rw [if_pos (by rw [e34, e92]; exact hA)]
    have HQ := Lib.hid hq
    have hor : ((a0[k].toNat : Int) == 34) = true ∨ ((a0[k].toNat : Int) == 34) = false ∧ ((a0[k].toNat : Int) == 92) = true := by
     by_cases h1 : (a0[k].toNat : Int) = 34
     · exact .inl (beq_iff_eq.2 h1)
     · exact .inr ⟨beq_eq_false_iff_ne.2 h1, beq_iff_eq.2 (hA.resolve_left h1)⟩
    clear hq hA e34 e92 l32 g126
    rcases hor with b34 | ⟨b34, b92⟩
    all_goals
     go_wp2
     go_roundw
     case rel => exact ⟨k + 1, by omega, by go_num, by rw [HS.out, HQ.out]; simp [ext_one a0 k hlt, ba_app1, ba_app2], hbel⟩
     case measure => simp [intOf]; omega
   ·
    have b34 : ((a0[k].toNat : Int) == 34) = false := beq_eq_false_iff_ne.2 (fun h => hA (.inl h))
    have b92 : ((a0[k].toNat : Int) == 92) = false := beq_eq_false_iff_ne.2 (fun h => hA (.inr h))
    have nA : ¬ (a0[k] = 34 ∨ a0[k] = 92) := by rw [e34, e92]; exact hA
    have NA := Lib.hid nA
    clear hA e34 e92 nA
    by_cases hC : (a0[k].toNat : Int) < 32 ∨ 126 < (a0[k].toNat : Int)
    ·
     have hq : qByte a0[k] = [92, 120, ([48, 49, 50, 51, 52, 53, 54, 55, 56, 57, 97, 98, 99, 100, 101, 102] : List UInt8).getD (a0[k].toNat / 16) 0, ([48, 49, 50, 51, 52, 53, 54, 55, 56, 57, 97, 98, 99, 100, 101, 102] : List UInt8).getD (a0[k].toNat % 16) 0] := by
      unfold qByte; rw [if_neg NA.out, if_pos (by rw [l32, g126]; exact hC)]
     have HQ := Lib.hid hq
     have hor : decide ((a0[k].toNat : Int) < 32) = true ∨ decide ((a0[k].toNat : Int) < 32) = false ∧ decide (126 < (a0[k].toNat : Int)) = true := by
      by_cases h1 : (a0[k].toNat : Int) < 32
      · exact .inl (decide_eq_true h1)
      · exact .inr ⟨decide_eq_false h1, decide_eq_true (hC.resolve_left h1)⟩
     clear hq hC l32 g126 NA
     rcases hor with d32 | ⟨d32, d126⟩
     all_goals
      go_wp2
      have hn : a0[k].toNat < 256 := by omega
      obtain ⟨n, hne⟩ : ∃ n, n = a0[k].toNat := ⟨_, rfl⟩
      rw [← hne] at hn d32 HQ ⊢
      clear hne b34 b92 h255
      obtain ⟨q, hq⟩ : ∃ q, q = n / 16 := ⟨_, rfl⟩
      obtain ⟨m, hm⟩ : ∃ m, m = n % 16 := ⟨_, rfl⟩
      have hq16 : q < 16 := by omega
      have hm16 : m < 16 := by omega
      have f1 : IntKind.u8.wrap ((n : Int) / 16) = (q : Int) := by simp [IntKind.wrap, IntKind.bits, IntKind.signed]; omega
      have f2 : IntKind.u8.wrap ((q : Int) + 1) = (q : Int) + 1 := by simp [IntKind.wrap, IntKind.bits, IntKind.signed]; omega
      have f3 : IntKind.u8.wrap ((n : Int) % 16) = (m : Int) := by simp [IntKind.wrap, IntKind.bits, IntKind.signed]; omega
      have f5 : (n : Int).tmod 16 = (m : Int) := by rw [Int.tmod_eq_emod_of_nonneg (by omega)]; omega
      have f6 : IntKind.u8.wrap (m : Int) = (m : Int) := by simp [IntKind.wrap, IntKind.bits, IntKind.signed]; omega
      have f4 : IntKind.u8.wrap ((m : Int) + 1) = (m : Int) + 1 := by simp [IntKind.wrap, IntKind.bits, IntKind.signed]; omega
      rw [← hq, ← hm] at HQ
      obtain ⟨S, hS⟩ : ∃ S : ByteArray, S = ⟨(qTo a0 k).toArray⟩ := ⟨_, rfl⟩
      have hSs : S.size ≤ 8388608 := by rw [hS, qTo_size]; omega
      rw [← hS]
      obtain ⟨S1, hS1, A1⟩ : ∃ S1 : ByteArray, S1 = S ++ ⟨#[92, 120]⟩ ∧ ∀ W, (Op.stringOp .add S ⟨#[92, 120]⟩).run Try.prog W = .ok (.string S1) W :=
       ⟨_, rfl, fun W => run_string_add_sum _ _ _ (by show S.size + 2 ≤ _; omega)⟩
      have hSs1 : S1.size ≤ 8388610 := by rw [hS1, ByteArray.size_append]; show S.size + 2 ≤ _; omega
      obtain ⟨D1, hD1, B1⟩ : ∃ D1 : ByteArray, D1 = (⟨#[48, 49, 50, 51, 52, 53, 54, 55, 56, 57, 97, 98, 99, 100, 101, 102]⟩ : ByteArray).extract q (q + 1) ∧ ∀ W, (Instr.slice 9 (.string ⟨#[48, 49, 50, 51, 52, 53, 54, 55, 56, 57, 97, 98, 99, 100, 101, 102]⟩) (some (.int .u8 ((q : Nat) : Int))) (some (.int .u8 (((q : Nat) : Int) + 1))) none).run Try.prog W = .ok (.string D1) W :=
       ⟨_, rfl, fun W => run_slice_string _ _ _ _ _ ((q : Nat) : Int) (((q : Nat) : Int) + 1) Try.underlying9 (by omega) (by omega) (by show _ ≤ ((16 : Nat) : Int); omega)⟩
      have hDs1 : D1.size = 1 := by rw [hD1, ByteArray.size_extract]; show min (q + 1) 16 - q = 1; omega
      obtain ⟨S2, hS2, A2⟩ : ∃ S2 : ByteArray, S2 = S1 ++ D1 ∧ ∀ W, (Op.stringOp .add S1 D1).run Try.prog W = .ok (.string S2) W :=
       ⟨_, rfl, fun W => run_string_add_sum _ _ _ (by omega)⟩
      have hSs2 : S2.size ≤ 8388611 := by rw [hS2, ByteArray.size_append]; omega
      obtain ⟨D2, hD2, B2⟩ : ∃ D2 : ByteArray, D2 = (⟨#[48, 49, 50, 51, 52, 53, 54, 55, 56, 57, 97, 98, 99, 100, 101, 102]⟩ : ByteArray).extract m (m + 1) ∧ ∀ W, (Instr.slice 9 (.string ⟨#[48, 49, 50, 51, 52, 53, 54, 55, 56, 57, 97, 98, 99, 100, 101, 102]⟩) (some (.int .u8 ((m : Nat) : Int))) (some (.int .u8 (((m : Nat) : Int) + 1))) none).run Try.prog W = .ok (.string D2) W :=
       ⟨_, rfl, fun W => run_slice_string _ _ _ _ _ ((m : Nat) : Int) (((m : Nat) : Int) + 1) Try.underlying9 (by omega) (by omega) (by show _ ≤ ((16 : Nat) : Int); omega)⟩
      have hDs2 : D2.size = 1 := by rw [hD2, ByteArray.size_extract]; show min (m + 1) 16 - m = 1; omega
      obtain ⟨S3, hS3, A3⟩ : ∃ S3 : ByteArray, S3 = S2 ++ D2 ∧ ∀ W, (Op.stringOp .add S2 D2).run Try.prog W = .ok (.string S3) W :=
       ⟨_, rfl, fun W => run_string_add_sum _ _ _ (by omega)⟩
      have HS3 : S3 = ⟨(qTo a0 (k + 1)).toArray⟩ := by
       rw [hS3, hS2, hS1, hS, hD1, hD2, HS.out, HQ.out]
       have x1 := ext_one ⟨#[48, 49, 50, 51, 52, 53, 54, 55, 56, 57, 97, 98, 99, 100, 101, 102]⟩ q hq16
       have x2 := ext_one ⟨#[48, 49, 50, 51, 52, 53, 54, 55, 56, 57, 97, 98, 99, 100, 101, 102]⟩ m hm16
       rw [x1, x2, hexd_at, hexd_at]
       simp [ba_app1]
      have HS3' := Lib.hid HS3
      clear HS3 hS hS1 hS2 hS3 hD1 hD2 hSs hSs1 hSs2 hDs1 hDs2 HS HQ hq hm hq16 hm16
      go_quiet (fail)
      go_wp2
      go_roundw
      case rel => exact ⟨k + 1, by omega, by go_num, by rw [HS3'.out], hbel.trans (by exact pw_below_drewN (Below.refl _ _) _)⟩
      case measure => simp [intOf]; omega
    ·
     have hq : qByte a0[k] = [a0[k]] := by unfold qByte; rw [if_neg NA.out, if_neg (by rw [l32, g126]; exact hC)]
     have HQ := Lib.hid hq
     have d32 : decide ((a0[k].toNat : Int) < 32) = false := decide_eq_false (fun h => hC (.inl h))
     have d126 : decide (126 < (a0[k].toNat : Int)) = false := decide_eq_false (fun h => hC (.inr h))
     clear hq hC l32 g126 NA
     go_wp2
     go_roundw
     case rel => exact ⟨k + 1, by omega, by go_num, by rw [HS.out, HQ.out]; simp [ext_one a0 k hlt, ba_app1, ba_app2], hbel⟩
     case measure => simp [intOf]; omega
  ·
   obtain rfl : k = a0.size := by omega
   have hl := qTo_len a0 a0.size hk
   have e1 : qTo a0 a0.size ++ [34] = quotedL a0.data.toList := by
    unfold qTo quotedL
    rw [List.take_of_length_le (by simp)]
    rfl
   have E1 := Lib.hid e1
   clear e1
   go_wp2
   go_ret
   exact ⟨by rw [← HR.out, ← E1.out]; simp [ba_app1], hbel⟩
/-! ### verdererref01_Show: function 86 -/
def verdererref01_Show.f (k : Nat) (a0_0 : Int) (a0_1 : Bool) (a0_2 : Int) (a0_3 : ByteArray) : Option (ByteArray) := (verdererref01_Right.f a0_0 a0_1 a0_2 a0_3).bind fun t120 => (if t120 = true then (if a0_0 = 0 then (some (⟨#[110, 117, 108, 108]⟩ : ByteArray)) else (if a0_0 = 1 then (if a0_1 = true then (some (⟨#[116, 114, 117, 101]⟩ : ByteArray)) else (some (⟨#[102, 97, 108, 115, 101]⟩ : ByteArray))) else (if a0_0 = 2 then ((verdererref01_Num.f k a0_2).bind fun t121 => (some t121)) else ((verdererref01_quoted.f a0_3).bind fun t122 => (some t122))))) else (some (⟨#[]⟩ : ByteArray)))
set_option maxHeartbeats 8000000 in
set_option maxRecDepth 100000 in
theorem verdererref01_Show.calls (k : Nat) (a0_0 : Int) (a0_1 : Bool) (a0_2 : Int) (a0_3 : ByteArray) (r : ByteArray) (w : World) (h : verdererref01_Show.f k a0_0 a0_1 a0_2 a0_3 = some r) :
  Calls Try.prog 86 #[.agg #[.int .i64 a0_0, .bool a0_1, .int .i64 a0_2, .string a0_3]] w fun e w' => e = .returned (.string r) ∧ Below w.heap.size w w' := by
 have hu36 := Try.underlying36
 have HB := Aside0.mk (Below.refl w.heap.size w)
 have H : ((verdererref01_Right.f a0_0 a0_1 a0_2 a0_3).bind fun t120 => (if t120 = true then (if a0_0 = 0 then (some (⟨#[110, 117, 108, 108]⟩ : ByteArray)) else (if a0_0 = 1 then (if a0_1 = true then (some (⟨#[116, 114, 117, 101]⟩ : ByteArray)) else (some (⟨#[102, 97, 108, 115, 101]⟩ : ByteArray))) else (if a0_0 = 2 then ((verdererref01_Num.f k a0_2).bind fun t121 => (some t121)) else ((verdererref01_quoted.f a0_3).bind fun t122 => (some t122))))) else (some (⟨#[]⟩ : ByteArray)))) = some r := h
 clear h
 replace H := Option.bind_eq_some_iff.mp H
 obtain ⟨t120, A20, H⟩ := H
 replace H : (if t120 = true then (if a0_0 = 0 then (some (⟨#[110, 117, 108, 108]⟩ : ByteArray)) else (if a0_0 = 1 then (if a0_1 = true then (some (⟨#[116, 114, 117, 101]⟩ : ByteArray)) else (some (⟨#[102, 97, 108, 115, 101]⟩ : ByteArray))) else (if a0_0 = 2 then ((verdererref01_Num.f k a0_2).bind fun t121 => (some t121)) else ((verdererref01_quoted.f a0_3).bind fun t122 => (some t122))))) else (some (⟨#[]⟩ : ByteArray))) = some r := H
 have A2 := Aside0.mk A20
 clear A20
 by_cases c3 : t120 = true
 ·
  subst c3
  have H1 : (if a0_0 = 0 then (some (⟨#[110, 117, 108, 108]⟩ : ByteArray)) else (if a0_0 = 1 then (if a0_1 = true then (some (⟨#[116, 114, 117, 101]⟩ : ByteArray)) else (some (⟨#[102, 97, 108, 115, 101]⟩ : ByteArray))) else (if a0_0 = 2 then ((verdererref01_Num.f k a0_2).bind fun t121 => (some t121)) else ((verdererref01_quoted.f a0_3).bind fun t122 => (some t122))))) = some r := by rw [if_pos rfl] at H; exact H
  clear H
  have H := H1
  clear H1
  by_cases c4 : a0_0 = 0
  ·
   rw [if_pos c4] at H
   have c4b0 : (a0_0 == 0) = true := beq_iff_eq.mpr c4
   have c4b1 : (a0_0 != 0) = false := bne_eq_false_iff_eq.mpr c4
   clear c4
   obtain rfl := Option.some.inj H
   go_enter Try.func86, Try.ntmps86
   go_wp2_with (first | ((with_reducible refine gate_dst (N := 1) rfl ?_); refine box_event ?hg (N := 1) ?hd (cs := #[.int .i64 a0_0, .bool a0_1, .int .i64 a0_2, .string a0_3]) (t := 36) ?hr ?_; (case hd => rfl); (case hg => rfl); (case hr => first | (go_simp; done) | (go_simp; rfl)); intro gb119 hg w5 hbox hb; have n0_ := Aside0.mk (below_step (by with_reducible exact HB.out) hb); have n1_ := Aside0.mk (hbox); have n2_ := Aside0.mk ((by rw [hg]; exact (below_size (by with_reducible exact HB.out)) : w.heap.size ≤ gb119)); have n3_ := Aside0.mk ((by rw [hg]; exact (below_size (by with_reducible exact HB.out)) : w.heap.size ≤ gb119)); clear HB; have HB := n0_; have BK119 := n1_; have GW119 := n2_; have GE119 := n3_; clear n0_ n1_ n2_ n3_ hb hbox hg; have hcz6_0 : w5.cell? ⟨gb119, 0, none⟩ = some (.int .i64 a0_0) := (blk_cell BK119.out 0).trans rfl; have hcz6_1 : w5.cell? ⟨gb119, 1, none⟩ = some (.bool a0_1) := (blk_cell BK119.out 1).trans rfl; have hcz6_2 : w5.cell? ⟨gb119, 2, none⟩ = some (.int .i64 a0_2) := (blk_cell BK119.out 2).trans rfl; have hcz6_3 : w5.cell? ⟨gb119, 3, none⟩ = some (.string a0_3) := (blk_cell BK119.out 3).trans rfl; have hfz6_0 := blk_frozen BK119.out 0; have hfz6_1 := blk_frozen BK119.out 1; have hfz6_2 := blk_frozen BK119.out 2; have hfz6_3 := blk_frozen BK119.out 3) | ((with_reducible refine gate_callee (f := 94) rfl ?_); refine goesL_ (some 4) rfl rfl Try.func94 (by kernel_rfl) rfl #[.agg #[.int .i64 a0_0, .bool a0_1, .int .i64 a0_2, .string a0_3]] rfl (by (try simp only [List.map_toArray, List.map_cons, List.map_nil]); first | done | rfl | (simp only [List.length_drop, List.length_take]; rfl)) ?_; (with_reducible refine (verdererref01_Right.calls a0_0 a0_1 a0_2 a0_3 true _ A2.out).mono ?_); rintro e w7 ⟨rfl, hb⟩; refine ⟨_, rfl, ?_⟩; have n0_ := Aside0.mk (blk_below (g := gb119) (o := .cells #[.int .i64 a0_0, .bool a0_1, .int .i64 a0_2, .string a0_3] 36 (0, 0)) (by exact BK119.out) hb); have n1_ := Aside0.mk (below_step (by with_reducible exact HB.out) hb); clear BK119 HB; have BK119 := n0_; have HB := n1_; clear n0_ n1_ hb; have hcz8_0 : w7.cell? ⟨gb119, 0, none⟩ = some (.int .i64 a0_0) := (blk_cell BK119.out 0).trans rfl; have hcz8_1 : w7.cell? ⟨gb119, 1, none⟩ = some (.bool a0_1) := (blk_cell BK119.out 1).trans rfl; have hcz8_2 : w7.cell? ⟨gb119, 2, none⟩ = some (.int .i64 a0_2) := (blk_cell BK119.out 2).trans rfl; have hcz8_3 : w7.cell? ⟨gb119, 3, none⟩ = some (.string a0_3) := (blk_cell BK119.out 3).trans rfl; have hfz8_0 := blk_frozen BK119.out 0; have hfz8_1 := blk_frozen BK119.out 1; have hfz8_2 := blk_frozen BK119.out 2; have hfz8_3 := blk_frozen BK119.out 3))
   go_ret
   exact ⟨rfl, by with_reducible exact HB.out⟩
  ·
   rw [if_neg c4] at H
   have c4b0 : (a0_0 == 0) = false := beq_eq_false_iff_ne.mpr c4
   have c4b1 : (a0_0 != 0) = true := bne_iff_ne.mpr c4
   by_cases c9 : a0_0 = 1
   ·
    rw [if_pos c9] at H
    have c9b0 : (a0_0 == 1) = true := beq_iff_eq.mpr c9
    have c9b1 : (a0_0 != 1) = false := bne_eq_false_iff_eq.mpr c9
    clear c9
    by_cases c10 : a0_1 = true
    ·
     subst c10
     have H1 : (some (⟨#[116, 114, 117, 101]⟩ : ByteArray)) = some r := by rw [if_pos rfl] at H; exact H
     clear H
     have H := H1
     clear H1
     obtain rfl := Option.some.inj H
     go_enter Try.func86, Try.ntmps86
     go_wp2_with (first | ((with_reducible refine gate_dst (N := 1) rfl ?_); refine box_event ?hg (N := 1) ?hd (cs := #[.int .i64 a0_0, .bool true, .int .i64 a0_2, .string a0_3]) (t := 36) ?hr ?_; (case hd => rfl); (case hg => rfl); (case hr => first | (go_simp; done) | (go_simp; rfl)); intro gb119 hg w11 hbox hb; have n0_ := Aside0.mk (below_step (by with_reducible exact HB.out) hb); have n1_ := Aside0.mk (hbox); have n2_ := Aside0.mk ((by rw [hg]; exact (below_size (by with_reducible exact HB.out)) : w.heap.size ≤ gb119)); have n3_ := Aside0.mk ((by rw [hg]; exact (below_size (by with_reducible exact HB.out)) : w.heap.size ≤ gb119)); clear HB; have HB := n0_; have BK119 := n1_; have GW119 := n2_; have GE119 := n3_; clear n0_ n1_ n2_ n3_ hb hbox hg; have hcz12_0 : w11.cell? ⟨gb119, 0, none⟩ = some (.int .i64 a0_0) := (blk_cell BK119.out 0).trans rfl; have hcz12_1 : w11.cell? ⟨gb119, 1, none⟩ = some (.bool true) := (blk_cell BK119.out 1).trans rfl; have hcz12_2 : w11.cell? ⟨gb119, 2, none⟩ = some (.int .i64 a0_2) := (blk_cell BK119.out 2).trans rfl; have hcz12_3 : w11.cell? ⟨gb119, 3, none⟩ = some (.string a0_3) := (blk_cell BK119.out 3).trans rfl; have hfz12_0 := blk_frozen BK119.out 0; have hfz12_1 := blk_frozen BK119.out 1; have hfz12_2 := blk_frozen BK119.out 2; have hfz12_3 := blk_frozen BK119.out 3) | ((with_reducible refine gate_callee (f := 94) rfl ?_); refine goesL_ (some 4) rfl rfl Try.func94 (by kernel_rfl) rfl #[.agg #[.int .i64 a0_0, .bool true, .int .i64 a0_2, .string a0_3]] rfl (by (try simp only [List.map_toArray, List.map_cons, List.map_nil]); first | done | rfl | (simp only [List.length_drop, List.length_take]; rfl)) ?_; (with_reducible refine (verdererref01_Right.calls a0_0 true a0_2 a0_3 true _ A2.out).mono ?_); rintro e w13 ⟨rfl, hb⟩; refine ⟨_, rfl, ?_⟩; have n0_ := Aside0.mk (blk_below (g := gb119) (o := .cells #[.int .i64 a0_0, .bool true, .int .i64 a0_2, .string a0_3] 36 (0, 0)) (by exact BK119.out) hb); have n1_ := Aside0.mk (below_step (by with_reducible exact HB.out) hb); clear BK119 HB; have BK119 := n0_; have HB := n1_; clear n0_ n1_ hb; have hcz14_0 : w13.cell? ⟨gb119, 0, none⟩ = some (.int .i64 a0_0) := (blk_cell BK119.out 0).trans rfl; have hcz14_1 : w13.cell? ⟨gb119, 1, none⟩ = some (.bool true) := (blk_cell BK119.out 1).trans rfl; have hcz14_2 : w13.cell? ⟨gb119, 2, none⟩ = some (.int .i64 a0_2) := (blk_cell BK119.out 2).trans rfl; have hcz14_3 : w13.cell? ⟨gb119, 3, none⟩ = some (.string a0_3) := (blk_cell BK119.out 3).trans rfl; have hfz14_0 := blk_frozen BK119.out 0; have hfz14_1 := blk_frozen BK119.out 1; have hfz14_2 := blk_frozen BK119.out 2; have hfz14_3 := blk_frozen BK119.out 3))
     go_ret
     exact ⟨rfl, by with_reducible exact HB.out⟩
    ·
     replace c10 := Bool.eq_false_iff.mpr c10
     subst c10
     have H1 : (some (⟨#[102, 97, 108, 115, 101]⟩ : ByteArray)) = some r := by rw [if_neg (show ¬ (false = true) by decide)] at H; exact H
     clear H
     have H := H1
     clear H1
     obtain rfl := Option.some.inj H
     go_enter Try.func86, Try.ntmps86
     go_wp2_with (first | ((with_reducible refine gate_dst (N := 1) rfl ?_); refine box_event ?hg (N := 1) ?hd (cs := #[.int .i64 a0_0, .bool false, .int .i64 a0_2, .string a0_3]) (t := 36) ?hr ?_; (case hd => rfl); (case hg => rfl); (case hr => first | (go_simp; done) | (go_simp; rfl)); intro gb119 hg w15 hbox hb; have n0_ := Aside0.mk (below_step (by with_reducible exact HB.out) hb); have n1_ := Aside0.mk (hbox); have n2_ := Aside0.mk ((by rw [hg]; exact (below_size (by with_reducible exact HB.out)) : w.heap.size ≤ gb119)); have n3_ := Aside0.mk ((by rw [hg]; exact (below_size (by with_reducible exact HB.out)) : w.heap.size ≤ gb119)); clear HB; have HB := n0_; have BK119 := n1_; have GW119 := n2_; have GE119 := n3_; clear n0_ n1_ n2_ n3_ hb hbox hg; have hcz16_0 : w15.cell? ⟨gb119, 0, none⟩ = some (.int .i64 a0_0) := (blk_cell BK119.out 0).trans rfl; have hcz16_1 : w15.cell? ⟨gb119, 1, none⟩ = some (.bool false) := (blk_cell BK119.out 1).trans rfl; have hcz16_2 : w15.cell? ⟨gb119, 2, none⟩ = some (.int .i64 a0_2) := (blk_cell BK119.out 2).trans rfl; have hcz16_3 : w15.cell? ⟨gb119, 3, none⟩ = some (.string a0_3) := (blk_cell BK119.out 3).trans rfl; have hfz16_0 := blk_frozen BK119.out 0; have hfz16_1 := blk_frozen BK119.out 1; have hfz16_2 := blk_frozen BK119.out 2; have hfz16_3 := blk_frozen BK119.out 3) | ((with_reducible refine gate_callee (f := 94) rfl ?_); refine goesL_ (some 4) rfl rfl Try.func94 (by kernel_rfl) rfl #[.agg #[.int .i64 a0_0, .bool false, .int .i64 a0_2, .string a0_3]] rfl (by (try simp only [List.map_toArray, List.map_cons, List.map_nil]); first | done | rfl | (simp only [List.length_drop, List.length_take]; rfl)) ?_; (with_reducible refine (verdererref01_Right.calls a0_0 false a0_2 a0_3 true _ A2.out).mono ?_); rintro e w17 ⟨rfl, hb⟩; refine ⟨_, rfl, ?_⟩; have n0_ := Aside0.mk (blk_below (g := gb119) (o := .cells #[.int .i64 a0_0, .bool false, .int .i64 a0_2, .string a0_3] 36 (0, 0)) (by exact BK119.out) hb); have n1_ := Aside0.mk (below_step (by with_reducible exact HB.out) hb); clear BK119 HB; have BK119 := n0_; have HB := n1_; clear n0_ n1_ hb; have hcz18_0 : w17.cell? ⟨gb119, 0, none⟩ = some (.int .i64 a0_0) := (blk_cell BK119.out 0).trans rfl; have hcz18_1 : w17.cell? ⟨gb119, 1, none⟩ = some (.bool false) := (blk_cell BK119.out 1).trans rfl; have hcz18_2 : w17.cell? ⟨gb119, 2, none⟩ = some (.int .i64 a0_2) := (blk_cell BK119.out 2).trans rfl; have hcz18_3 : w17.cell? ⟨gb119, 3, none⟩ = some (.string a0_3) := (blk_cell BK119.out 3).trans rfl; have hfz18_0 := blk_frozen BK119.out 0; have hfz18_1 := blk_frozen BK119.out 1; have hfz18_2 := blk_frozen BK119.out 2; have hfz18_3 := blk_frozen BK119.out 3))
     go_ret
     exact ⟨rfl, by with_reducible exact HB.out⟩
   ·
    rw [if_neg c9] at H
    have c9b0 : (a0_0 == 1) = false := beq_eq_false_iff_ne.mpr c9
    have c9b1 : (a0_0 != 1) = true := bne_iff_ne.mpr c9
    by_cases c19 : a0_0 = 2
    ·
     rw [if_pos c19] at H
     have c19b0 : (a0_0 == 2) = true := beq_iff_eq.mpr c19
     have c19b1 : (a0_0 != 2) = false := bne_eq_false_iff_eq.mpr c19
     clear c19
     replace H := Option.bind_eq_some_iff.mp H
     obtain ⟨t121, A200, H⟩ := H
     replace H : (some t121) = some r := H
     have A20 := Aside0.mk A200
     clear A200
     obtain rfl := Option.some.inj H
     go_enter Try.func86, Try.ntmps86
     go_wp2_with (first | ((with_reducible refine gate_dst (N := 1) rfl ?_); refine box_event ?hg (N := 1) ?hd (cs := #[.int .i64 a0_0, .bool a0_1, .int .i64 a0_2, .string a0_3]) (t := 36) ?hr ?_; (case hd => rfl); (case hg => rfl); (case hr => first | (go_simp; done) | (go_simp; rfl)); intro gb119 hg w21 hbox hb; have n0_ := Aside0.mk (below_step (by with_reducible exact HB.out) hb); have n1_ := Aside0.mk (hbox); have n2_ := Aside0.mk ((by rw [hg]; exact (below_size (by with_reducible exact HB.out)) : w.heap.size ≤ gb119)); have n3_ := Aside0.mk ((by rw [hg]; exact (below_size (by with_reducible exact HB.out)) : w.heap.size ≤ gb119)); clear HB; have HB := n0_; have BK119 := n1_; have GW119 := n2_; have GE119 := n3_; clear n0_ n1_ n2_ n3_ hb hbox hg; have hcz22_0 : w21.cell? ⟨gb119, 0, none⟩ = some (.int .i64 a0_0) := (blk_cell BK119.out 0).trans rfl; have hcz22_1 : w21.cell? ⟨gb119, 1, none⟩ = some (.bool a0_1) := (blk_cell BK119.out 1).trans rfl; have hcz22_2 : w21.cell? ⟨gb119, 2, none⟩ = some (.int .i64 a0_2) := (blk_cell BK119.out 2).trans rfl; have hcz22_3 : w21.cell? ⟨gb119, 3, none⟩ = some (.string a0_3) := (blk_cell BK119.out 3).trans rfl; have hfz22_0 := blk_frozen BK119.out 0; have hfz22_1 := blk_frozen BK119.out 1; have hfz22_2 := blk_frozen BK119.out 2; have hfz22_3 := blk_frozen BK119.out 3) | ((with_reducible refine gate_callee (f := 94) rfl ?_); refine goesL_ (some 4) rfl rfl Try.func94 (by kernel_rfl) rfl #[.agg #[.int .i64 a0_0, .bool a0_1, .int .i64 a0_2, .string a0_3]] rfl (by (try simp only [List.map_toArray, List.map_cons, List.map_nil]); first | done | rfl | (simp only [List.length_drop, List.length_take]; rfl)) ?_; (with_reducible refine (verdererref01_Right.calls a0_0 a0_1 a0_2 a0_3 true _ A2.out).mono ?_); rintro e w23 ⟨rfl, hb⟩; refine ⟨_, rfl, ?_⟩; have n0_ := Aside0.mk (blk_below (g := gb119) (o := .cells #[.int .i64 a0_0, .bool a0_1, .int .i64 a0_2, .string a0_3] 36 (0, 0)) (by exact BK119.out) hb); have n1_ := Aside0.mk (below_step (by with_reducible exact HB.out) hb); clear BK119 HB; have BK119 := n0_; have HB := n1_; clear n0_ n1_ hb; have hcz24_0 : w23.cell? ⟨gb119, 0, none⟩ = some (.int .i64 a0_0) := (blk_cell BK119.out 0).trans rfl; have hcz24_1 : w23.cell? ⟨gb119, 1, none⟩ = some (.bool a0_1) := (blk_cell BK119.out 1).trans rfl; have hcz24_2 : w23.cell? ⟨gb119, 2, none⟩ = some (.int .i64 a0_2) := (blk_cell BK119.out 2).trans rfl; have hcz24_3 : w23.cell? ⟨gb119, 3, none⟩ = some (.string a0_3) := (blk_cell BK119.out 3).trans rfl; have hfz24_0 := blk_frozen BK119.out 0; have hfz24_1 := blk_frozen BK119.out 1; have hfz24_2 := blk_frozen BK119.out 2; have hfz24_3 := blk_frozen BK119.out 3) | ((with_reducible refine gate_callee (f := 92) rfl ?_); refine goesL_ (some 21) rfl rfl Try.func92 (by kernel_rfl) rfl #[.int .i64 a0_2] rfl (by (try simp only [List.map_toArray, List.map_cons, List.map_nil]); first | done | rfl | (simp only [List.length_drop, List.length_take]; rfl)) ?_; (with_reducible refine (verdererref01_Num.calls k a0_2 t121 _ A20.out).mono ?_); rintro e w' ⟨rfl, ⟨nd, rfl⟩⟩; refine ⟨_, rfl, ?_⟩))
     go_ret
     exact ⟨rfl, by repeat (first | (with_reducible first | exact HB.out | apply below_alloc | apply pw_below_drewN | apply below_drew1 | refine below_set ?_ GE119.out) | exact HB.out)⟩
    ·
     rw [if_neg c19] at H
     have c19b0 : (a0_0 == 2) = false := beq_eq_false_iff_ne.mpr c19
     have c19b1 : (a0_0 != 2) = true := bne_iff_ne.mpr c19
     replace H := Option.bind_eq_some_iff.mp H
     obtain ⟨t122, A250, H⟩ := H
     replace H : (some t122) = some r := H
     have A25 := Aside0.mk A250
     clear A250
     obtain rfl := Option.some.inj H
     go_enter Try.func86, Try.ntmps86
     go_wp2_with (first | ((with_reducible refine gate_dst (N := 1) rfl ?_); refine box_event ?hg (N := 1) ?hd (cs := #[.int .i64 a0_0, .bool a0_1, .int .i64 a0_2, .string a0_3]) (t := 36) ?hr ?_; (case hd => rfl); (case hg => rfl); (case hr => first | (go_simp; done) | (go_simp; rfl)); intro gb119 hg w26 hbox hb; have n0_ := Aside0.mk (below_step (by with_reducible exact HB.out) hb); have n1_ := Aside0.mk (hbox); have n2_ := Aside0.mk ((by rw [hg]; exact (below_size (by with_reducible exact HB.out)) : w.heap.size ≤ gb119)); have n3_ := Aside0.mk ((by rw [hg]; exact (below_size (by with_reducible exact HB.out)) : w.heap.size ≤ gb119)); clear HB; have HB := n0_; have BK119 := n1_; have GW119 := n2_; have GE119 := n3_; clear n0_ n1_ n2_ n3_ hb hbox hg; have hcz27_0 : w26.cell? ⟨gb119, 0, none⟩ = some (.int .i64 a0_0) := (blk_cell BK119.out 0).trans rfl; have hcz27_1 : w26.cell? ⟨gb119, 1, none⟩ = some (.bool a0_1) := (blk_cell BK119.out 1).trans rfl; have hcz27_2 : w26.cell? ⟨gb119, 2, none⟩ = some (.int .i64 a0_2) := (blk_cell BK119.out 2).trans rfl; have hcz27_3 : w26.cell? ⟨gb119, 3, none⟩ = some (.string a0_3) := (blk_cell BK119.out 3).trans rfl; have hfz27_0 := blk_frozen BK119.out 0; have hfz27_1 := blk_frozen BK119.out 1; have hfz27_2 := blk_frozen BK119.out 2; have hfz27_3 := blk_frozen BK119.out 3) | ((with_reducible refine gate_callee (f := 94) rfl ?_); refine goesL_ (some 4) rfl rfl Try.func94 (by kernel_rfl) rfl #[.agg #[.int .i64 a0_0, .bool a0_1, .int .i64 a0_2, .string a0_3]] rfl (by (try simp only [List.map_toArray, List.map_cons, List.map_nil]); first | done | rfl | (simp only [List.length_drop, List.length_take]; rfl)) ?_; (with_reducible refine (verdererref01_Right.calls a0_0 a0_1 a0_2 a0_3 true _ A2.out).mono ?_); rintro e w28 ⟨rfl, hb⟩; refine ⟨_, rfl, ?_⟩; have n0_ := Aside0.mk (blk_below (g := gb119) (o := .cells #[.int .i64 a0_0, .bool a0_1, .int .i64 a0_2, .string a0_3] 36 (0, 0)) (by exact BK119.out) hb); have n1_ := Aside0.mk (below_step (by with_reducible exact HB.out) hb); clear BK119 HB; have BK119 := n0_; have HB := n1_; clear n0_ n1_ hb; have hcz29_0 : w28.cell? ⟨gb119, 0, none⟩ = some (.int .i64 a0_0) := (blk_cell BK119.out 0).trans rfl; have hcz29_1 : w28.cell? ⟨gb119, 1, none⟩ = some (.bool a0_1) := (blk_cell BK119.out 1).trans rfl; have hcz29_2 : w28.cell? ⟨gb119, 2, none⟩ = some (.int .i64 a0_2) := (blk_cell BK119.out 2).trans rfl; have hcz29_3 : w28.cell? ⟨gb119, 3, none⟩ = some (.string a0_3) := (blk_cell BK119.out 3).trans rfl; have hfz29_0 := blk_frozen BK119.out 0; have hfz29_1 := blk_frozen BK119.out 1; have hfz29_2 := blk_frozen BK119.out 2; have hfz29_3 := blk_frozen BK119.out 3) | ((with_reducible refine gate_callee (f := 95) rfl ?_); refine goesL_ (some 10) rfl rfl Try.func95 (by kernel_rfl) rfl #[.string a0_3] rfl (by (try simp only [List.map_toArray, List.map_cons, List.map_nil]); first | done | rfl | (simp only [List.length_drop, List.length_take]; rfl)) ?_; (with_reducible refine (verdererref01_quoted.calls a0_3 t122 _ A25.out).mono ?_); rintro e w30 ⟨rfl, hb⟩; refine ⟨_, rfl, ?_⟩; have n0_ := Aside0.mk (blk_below (g := gb119) (o := .cells #[.int .i64 a0_0, .bool a0_1, .int .i64 a0_2, .string a0_3] 36 (0, 0)) (by exact BK119.out) hb); have n1_ := Aside0.mk (below_step (by with_reducible exact HB.out) hb); clear BK119 HB; have BK119 := n0_; have HB := n1_; clear n0_ n1_ hb))
     go_ret
     exact ⟨rfl, by with_reducible exact HB.out⟩
 ·
  replace c3 := Bool.eq_false_iff.mpr c3
  subst c3
  have H1 : (some (⟨#[]⟩ : ByteArray)) = some r := by rw [if_neg (show ¬ (false = true) by decide)] at H; exact H
  clear H
  have H := H1
  clear H1
  obtain rfl := Option.some.inj H
  go_enter Try.func86, Try.ntmps86
  go_wp2_with (first | ((with_reducible refine gate_dst (N := 1) rfl ?_); refine box_event ?hg (N := 1) ?hd (cs := #[.int .i64 a0_0, .bool a0_1, .int .i64 a0_2, .string a0_3]) (t := 36) ?hr ?_; (case hd => rfl); (case hg => rfl); (case hr => first | (go_simp; done) | (go_simp; rfl)); intro gb119 hg w31 hbox hb; have n0_ := Aside0.mk (below_step (by with_reducible exact HB.out) hb); have n1_ := Aside0.mk (hbox); have n2_ := Aside0.mk ((by rw [hg]; exact (below_size (by with_reducible exact HB.out)) : w.heap.size ≤ gb119)); have n3_ := Aside0.mk ((by rw [hg]; exact (below_size (by with_reducible exact HB.out)) : w.heap.size ≤ gb119)); clear HB; have HB := n0_; have BK119 := n1_; have GW119 := n2_; have GE119 := n3_; clear n0_ n1_ n2_ n3_ hb hbox hg; have hcz32_0 : w31.cell? ⟨gb119, 0, none⟩ = some (.int .i64 a0_0) := (blk_cell BK119.out 0).trans rfl; have hcz32_1 : w31.cell? ⟨gb119, 1, none⟩ = some (.bool a0_1) := (blk_cell BK119.out 1).trans rfl; have hcz32_2 : w31.cell? ⟨gb119, 2, none⟩ = some (.int .i64 a0_2) := (blk_cell BK119.out 2).trans rfl; have hcz32_3 : w31.cell? ⟨gb119, 3, none⟩ = some (.string a0_3) := (blk_cell BK119.out 3).trans rfl; have hfz32_0 := blk_frozen BK119.out 0; have hfz32_1 := blk_frozen BK119.out 1; have hfz32_2 := blk_frozen BK119.out 2; have hfz32_3 := blk_frozen BK119.out 3) | ((with_reducible refine gate_callee (f := 94) rfl ?_); refine goesL_ (some 4) rfl rfl Try.func94 (by kernel_rfl) rfl #[.agg #[.int .i64 a0_0, .bool a0_1, .int .i64 a0_2, .string a0_3]] rfl (by (try simp only [List.map_toArray, List.map_cons, List.map_nil]); first | done | rfl | (simp only [List.length_drop, List.length_take]; rfl)) ?_; (with_reducible refine (verdererref01_Right.calls a0_0 a0_1 a0_2 a0_3 false _ A2.out).mono ?_); rintro e w33 ⟨rfl, hb⟩; refine ⟨_, rfl, ?_⟩; have n0_ := Aside0.mk (blk_below (g := gb119) (o := .cells #[.int .i64 a0_0, .bool a0_1, .int .i64 a0_2, .string a0_3] 36 (0, 0)) (by exact BK119.out) hb); have n1_ := Aside0.mk (below_step (by with_reducible exact HB.out) hb); clear BK119 HB; have BK119 := n0_; have HB := n1_; clear n0_ n1_ hb))
  go_ret
  exact ⟨rfl, by with_reducible exact HB.out⟩
end Go.Proofs.Ytikikmkfeeljgaa.G
