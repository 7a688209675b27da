-- Written by a program for this claim (my own print over the kit's words).
import Derived.Test.YtikikmkfeeljgaaGx0
import Derived.Test.YtikikmkfeeljgaaGx1
import Derived.Test.YtikikmkfeeljgaaGx4
import Derived.Test.YtikikmkfeeljgaaGx5
namespace Go.Proofs.Ytikikmkfeeljgaa.G
open Go.RowKit Go.Proofs.YtikikmkfeeljgaaW.PrintWords Go.Proofs.YtikikmkfeeljgaaW.PrintLast Go.Proofs.YtikikmkfeeljgaaW.PrintMore
attribute [local go_sem] max2_int min2_int max_two min_two max_three min_three max_four min_four   -- for this text's walks alone
set_option linter.unusedVariables false
set_option linter.unusedSimpArgs false
/-! ### verdererref11_one: function 55 -/
def oneW (k : Nat) (s : ByteArray) : Option (Int × ByteArray × Int × Bool × Int × ByteArray × Int × Bool) :=
 (verdererref11_word.f k s).bind fun n => if 0 ≤ n ∧ n ≤ (s.size : Int) then (verdererref01_Read.f k (s.extract 0 n.toNat)).bind fun v => if ((s.extract 0 n.toNat).toList = ([110, 117, 108, 108] : List UInt8) ∨ v.2.2.2.2 = 0) then some (2, s.extract 0 n.toNat, v.1, v.2.1, v.2.2.1, v.2.2.2.1, 0, true) else some (1, s.extract 0 n.toNat, 0, false, 0, ⟨#[]⟩, 0, true) else none
def oneE (k : Nat) (s : ByteArray) (n : Int) : Option (Int × ByteArray × Int × Bool × Int × ByteArray × Int × Bool) :=
 if n > 0 then (if n ≤ (s.size : Int) then (verdererref01_Read.f k (s.extract 0 n.toNat)).bind fun v => some (2, s.extract 0 n.toNat, v.1, v.2.1, v.2.2.1, v.2.2.2.1, 0, v.2.2.2.2 == 0) else none)
 else if bt s 0 = 34 then some (0, ⟨#[]⟩, 0, false, 0, ⟨#[]⟩, 0, false) else (verdererref11_sign.f k s).bind fun m => if 0 ≤ m ∧ m ≤ (s.size : Int) then some (3, s.extract 0 m.toNat, 0, false, 0, ⟨#[]⟩, 0, decide (m > 0)) else none
def oneBad (s : ByteArray) (n : Int) : Option Bool := if n < (s.size : Int) then (if 0 ≤ n then (verdererref11_letter.f (bt s n)).bind fun b => some (b || bt s n == 95) else none) else some false
def oneN (k : Nat) (s : ByteArray) (c : Bool) : Option (Int × Bool) :=
 if c = true then (verdererref11_number.f k s).bind fun n => (oneBad s n).bind fun b => some (n, b) else if (bt s 0 == 34) = true then (verdererref11_text.f k s).bind fun n => some (n, false) else some (0, false)
def verdererref11_one.f (k : Nat) (s : ByteArray) : Option (Int × ByteArray × Int × Bool × Int × ByteArray × Int × Bool) :=
 if 0 < (s.size : Int) then (verdererref11_letter.f (bt s 0)).bind fun lt => if lt = true then oneW k s else (verdererref11_digit.f (bt s 0)).bind fun dg => (oneN k s (dg || bt s 0 == 45)).bind fun q => if q.2 = true then some (0, ⟨#[]⟩, 0, false, 0, ⟨#[]⟩, 0, false) else oneE k s q.1 else none
set_option maxHeartbeats 4000000 in
set_option maxRecDepth 100000 in
theorem verdererref11_one.calls (k : Nat) (s : ByteArray) (r1 : Int) (r2 : ByteArray) (r3 : Int) (r4 : Bool) (r5 : Int) (r6 : ByteArray) (r7 : Int) (r8 : Bool) (w : World) (h : verdererref11_one.f k s = some (r1, r2, r3, r4, r5, r6, r7, r8)) :
  Calls Try.prog 55 #[.string s] w fun e w' => e = .returned (.tuple #[.agg #[.int .i64 r1, .string r2, .int .i64 r3, .bool r4, .int .i64 r5, .string r6, .int .i64 r7], .bool r8]) ∧ Below w.heap.size w w' := by
 unfold verdererref11_one.f at h
 split at h
 case isFalse => cases h
 rename_i hsz
 obtain ⟨lt, hlt, h⟩ := Option.bind_eq_some_iff.1 h
 try simp only at h
 have HL := Aside0.mk hlt
 clear hlt
 have hs' : 0 < s.size := by omega
 have hu := Try.underlying73
 have hu2 := Try.underlying36
 have hb0 : ∀ h : 0 < s.size, ((s[0]'h).toNat : Int) = bt s 0 := fun h => bt_at s 0 h
 go_enter Try.func55, Try.ntmps55
 go_wp2_with fail
 have BZ1 : (w.alloc (.cells #[.int .i64 0, .string (⟨#[]⟩ : ByteArray), .int .i64 0, .bool false, .int .i64 0, .string (⟨#[]⟩ : ByteArray), .int .i64 0] 73)).heap[w.heap.size]? = some (.cells #[.int .i64 0, .string (⟨#[]⟩ : ByteArray), .int .i64 0, .bool false, .int .i64 0, .string (⟨#[]⟩ : ByteArray), .int .i64 0] 73 (0, 0)) := by simpa using heap_alloc_new w _
 have hB1 := below_alloc (Below.refl w.heap.size w) (.cells #[.int .i64 0, .string (⟨#[]⟩ : ByteArray), .int .i64 0, .bool false, .int .i64 0, .string (⟨#[]⟩ : ByteArray), .int .i64 0] 73)
 refine (verdererref11_letter.calls (bt s 0) lt _ HL.out).mono ?_
 rintro e w2 ⟨rfl, hd2⟩
 have BZ2 := (hd2.below.block _ (blk_lt BZ1)).trans BZ1
 have hB2 := hB1.trans (hd2.below.mono hB1.size)
 clear BZ1 hB1 hd2
 cases lt with
 | true =>
  rw [if_pos rfl] at h
  unfold oneW at h
  obtain ⟨n, hn, h⟩ := Option.bind_eq_some_iff.1 h
  try simp only at h
  split at h
  case isFalse => cases h
  rename_i hnn
  obtain ⟨hn0, hn1⟩ := hnn
  obtain ⟨⟨v1, v2, v3, v4, v5⟩, hv, h⟩ := Option.bind_eq_some_iff.1 h
  try simp only at h
  have HN := Aside0.mk hn
  have HV := Aside0.mk hv
  have H := Aside0.mk h
  clear hn hv h
  go_wp2_with fail
  refine (verdererref11_word.calls k s n _ HN.out).mono ?_
  rintro e w3 ⟨rfl, hd3⟩
  have BZ3 := (hd3.below.block _ (blk_lt BZ2)).trans BZ2
  have hB3 := hB2.trans (hd3.below.mono hB2.size)
  clear BZ2 hB2 hd3
  go_wp2_with fail
  have BY4 : (w3.alloc (.cells #[.int .i64 1, .string (s.extract 0 n.toNat), .int .i64 0, .bool false, .int .i64 0, .string (⟨#[]⟩ : ByteArray), .int .i64 0] 73)).heap[w3.heap.size]? = some (.cells #[.int .i64 1, .string (s.extract 0 n.toNat), .int .i64 0, .bool false, .int .i64 0, .string (⟨#[]⟩ : ByteArray), .int .i64 0] 73 (0, 0)) := by simpa using heap_alloc_new w3 _
  have BZ4 := blk_alloc BZ3 (.cells #[.int .i64 1, .string (s.extract 0 n.toNat), .int .i64 0, .bool false, .int .i64 0, .string (⟨#[]⟩ : ByteArray), .int .i64 0] 73)
  have hB4 := below_alloc hB3 (.cells #[.int .i64 1, .string (s.extract 0 n.toNat), .int .i64 0, .bool false, .int .i64 0, .string (⟨#[]⟩ : ByteArray), .int .i64 0] 73)
  have hyw := Nat.le_of_lt (blk_lt BZ3)
  have hzy : w.heap.size ≠ w3.heap.size := Nat.ne_of_lt (blk_lt BZ3)
  refine (verdererref01_Read.calls k _ v1 v2 v3 v4 v5 _ HV.out).mono ?_
  rintro e w5 ⟨rfl, hb5⟩
  have BZ5 := (hb5.block _ (blk_lt BZ4)).trans BZ4
  have BY5 := (hb5.block _ (blk_lt BY4)).trans BY4
  have hB5 := hB4.trans (hb5.mono hB4.size)
  clear hb5 BZ4 BY4 hB4 BZ3 hB3
  go_upto_region 4 with (fail)
  have BX6 : (w5.alloc (.cells #[.int .i64 v1, .bool v2, .int .i64 v3, .string v4] 36)).heap[w5.heap.size]? = some (.cells #[.int .i64 v1, .bool v2, .int .i64 v3, .string v4] 36 (0, 0)) := by simpa using heap_alloc_new w5 _
  have BZ6 := blk_alloc BZ5 (.cells #[.int .i64 v1, .bool v2, .int .i64 v3, .string v4] 36)
  have BY6 := blk_alloc BY5 (.cells #[.int .i64 v1, .bool v2, .int .i64 v3, .string v4] 36)
  have hB6 := below_alloc hB5 (.cells #[.int .i64 v1, .bool v2, .int .i64 v3, .string v4] 36)
  have hyx : w3.heap.size ≠ w5.heap.size := Nat.ne_of_lt (blk_lt BY5)
  have hzx : w.heap.size ≠ w5.heap.size := Nat.ne_of_lt (blk_lt BZ5)
  generalize w5.alloc (.cells #[.int .i64 v1, .bool v2, .int .i64 v3, .string v4] 36) = w6 at BX6 BZ6 BY6 hB6 ⊢
  generalize w5.heap.size = x at BX6 hyx hzx ⊢
  generalize w3.heap.size = y at BY6 hyw hzy hyx ⊢
  clear BZ5 BY5 hB5
  have yc1 : w6.cell? ⟨y, 1, none⟩ = some (.string (s.extract 0 n.toNat)) := (blk_cell BY6 1).trans rfl
  have yf1 := blk_frozen BY6 1
  generalize hc : decide ((s.extract 0 n.toNat).toList = ([110, 117, 108, 108] : List UInt8) ∨ v5 = 0) = c
  go_cut [30] (fun v wz => v = .bool c ∧ wz = w6)
  case first =>
   go_wp2_with fail
   all_goals go_meet
   all_goals (subst hc; refine ⟨?_, rfl⟩; first | (rw [Value.bool.injEq, Bool.eq_iff_iff]; simp; done) | (rw [Value.bool.injEq]; simp_all))
  case rest =>
   obtain ⟨rfl, hwc⟩ := hcut
   replace hwc := hwc.symm
   subst hwc
   have h := H.out
   clear H
   cases c with
   | true =>
    rw [if_pos (of_decide_eq_true hc)] at h
    simp only [Option.some.injEq, Prod.mk.injEq] at h
    obtain ⟨rfl, rfl, rfl, rfl, rfl, rfl, rfl, rfl⟩ := h
    clear hc yc1 yf1
    have xc0 : w6.cell? ⟨x, 0, none⟩ = some (.int .i64 v1) := (blk_cell BX6 0).trans rfl
    have xf0 := blk_frozen BX6 0
    have xc1 : w6.cell? ⟨x, 1, none⟩ = some (.bool v2) := (blk_cell BX6 1).trans rfl
    have xf1 := blk_frozen BX6 1
    have xc2 : w6.cell? ⟨x, 2, none⟩ = some (.int .i64 v3) := (blk_cell BX6 2).trans rfl
    have xf2 := blk_frozen BX6 2
    have xc3 : w6.cell? ⟨x, 3, none⟩ = some (.string v4) := (blk_cell BX6 3).trans rfl
    have xf3 := blk_frozen BX6 3
    have yc0 : w6.cell? ⟨y, 0, none⟩ = some (.int .i64 1) := (blk_cell BY6 0).trans rfl
    have yf0 := blk_frozen BY6 0
    have yc1 : w6.cell? ⟨y, 1, none⟩ = some (.string (s.extract 0 n.toNat)) := (blk_cell BY6 1).trans rfl
    have yf1 := blk_frozen BY6 1
    have yc2 : w6.cell? ⟨y, 2, none⟩ = some (.int .i64 0) := (blk_cell BY6 2).trans rfl
    have yf2 := blk_frozen BY6 2
    have yc3 : w6.cell? ⟨y, 3, none⟩ = some (.bool false) := (blk_cell BY6 3).trans rfl
    have yf3 := blk_frozen BY6 3
    have yc4 : w6.cell? ⟨y, 4, none⟩ = some (.int .i64 0) := (blk_cell BY6 4).trans rfl
    have yf4 := blk_frozen BY6 4
    have yc5 : w6.cell? ⟨y, 5, none⟩ = some (.string (⟨#[]⟩ : ByteArray)) := (blk_cell BY6 5).trans rfl
    have yf5 := blk_frozen BY6 5
    have yc6 : w6.cell? ⟨y, 6, none⟩ = some (.int .i64 0) := (blk_cell BY6 6).trans rfl
    have yf6 := blk_frozen BY6 6
    have zc0 : w6.cell? ⟨w.heap.size, 0, none⟩ = some (.int .i64 0) := (blk_cell BZ6 0).trans rfl
    have zf0 := blk_frozen BZ6 0
    have zc1 : w6.cell? ⟨w.heap.size, 1, none⟩ = some (.string (⟨#[]⟩ : ByteArray)) := (blk_cell BZ6 1).trans rfl
    have zf1 := blk_frozen BZ6 1
    have zc2 : w6.cell? ⟨w.heap.size, 2, none⟩ = some (.int .i64 0) := (blk_cell BZ6 2).trans rfl
    have zf2 := blk_frozen BZ6 2
    have zc3 : w6.cell? ⟨w.heap.size, 3, none⟩ = some (.bool false) := (blk_cell BZ6 3).trans rfl
    have zf3 := blk_frozen BZ6 3
    have zc4 : w6.cell? ⟨w.heap.size, 4, none⟩ = some (.int .i64 0) := (blk_cell BZ6 4).trans rfl
    have zf4 := blk_frozen BZ6 4
    have zc5 : w6.cell? ⟨w.heap.size, 5, none⟩ = some (.string (⟨#[]⟩ : ByteArray)) := (blk_cell BZ6 5).trans rfl
    have zf5 := blk_frozen BZ6 5
    have zc6 : w6.cell? ⟨w.heap.size, 6, none⟩ = some (.int .i64 0) := (blk_cell BZ6 6).trans rfl
    have zf6 := blk_frozen BZ6 6
    go_wp2_with fail
    have BR := blk_put (blk_put (blk_put (blk_put (blk_put (blk_put (blk_put ((blk_far (p := ⟨y, 5, none⟩) (blk_far (p := ⟨y, 4, none⟩) (blk_far (p := ⟨y, 3, none⟩) (blk_far (p := ⟨y, 2, none⟩) (blk_far (p := ⟨y, 0, none⟩) BZ6 hzy (.int .i64 2)) hzy (.int .i64 v1)) hzy (.bool v2)) hzy (.int .i64 v3)) hzy (.string v4))) 0 (.int .i64 2) rfl) 1 (.string (s.extract 0 n.toNat)) rfl) 2 (.int .i64 v1) rfl) 3 (.bool v2) rfl) 4 (.int .i64 v3) rfl) 5 (.string v4) rfl) 6 (.int .i64 0) rfl
    have hBf := (((((((((((((hB6.setCell (p := ⟨y, 0, none⟩) hyw (.int .i64 2)).setCell (p := ⟨y, 2, none⟩) hyw (.int .i64 v1)).setCell (p := ⟨y, 3, none⟩) hyw (.bool v2)).setCell (p := ⟨y, 4, none⟩) hyw (.int .i64 v3)).setCell (p := ⟨y, 5, none⟩) hyw (.string v4)))).setCell (p := ⟨w.heap.size, 0, none⟩) (Nat.le_refl _) (.int .i64 2)).setCell (p := ⟨w.heap.size, 1, none⟩) (Nat.le_refl _) (.string (s.extract 0 n.toNat))).setCell (p := ⟨w.heap.size, 2, none⟩) (Nat.le_refl _) (.int .i64 v1)).setCell (p := ⟨w.heap.size, 3, none⟩) (Nat.le_refl _) (.bool v2)).setCell (p := ⟨w.heap.size, 4, none⟩) (Nat.le_refl _) (.int .i64 v3)).setCell (p := ⟨w.heap.size, 5, none⟩) (Nat.le_refl _) (.string v4)).setCell (p := ⟨w.heap.size, 6, none⟩) (Nat.le_refl _) (.int .i64 0)
    refine bodyPost_ret (results_ct rfl _ _ w.heap.size 73 #[.int .i64 2, .string (s.extract 0 n.toNat), .int .i64 v1, .bool v2, .int .i64 v3, .string v4, .int .i64 0] (0, 0) _ rfl BR Try.underlying73 rfl rfl) rfl ?_
    exact ⟨rfl, hBf⟩
   | false =>
    rw [if_neg (of_decide_eq_false hc)] at h
    simp only [Option.some.injEq, Prod.mk.injEq] at h
    obtain ⟨rfl, rfl, rfl, rfl, rfl, rfl, rfl, rfl⟩ := h
    clear hc yc1 yf1
    have yc0 : w6.cell? ⟨y, 0, none⟩ = some (.int .i64 1) := (blk_cell BY6 0).trans rfl
    have yf0 := blk_frozen BY6 0
    have yc1 : w6.cell? ⟨y, 1, none⟩ = some (.string (s.extract 0 n.toNat)) := (blk_cell BY6 1).trans rfl
    have yf1 := blk_frozen BY6 1
    have yc2 : w6.cell? ⟨y, 2, none⟩ = some (.int .i64 0) := (blk_cell BY6 2).trans rfl
    have yf2 := blk_frozen BY6 2
    have yc3 : w6.cell? ⟨y, 3, none⟩ = some (.bool false) := (blk_cell BY6 3).trans rfl
    have yf3 := blk_frozen BY6 3
    have yc4 : w6.cell? ⟨y, 4, none⟩ = some (.int .i64 0) := (blk_cell BY6 4).trans rfl
    have yf4 := blk_frozen BY6 4
    have yc5 : w6.cell? ⟨y, 5, none⟩ = some (.string (⟨#[]⟩ : ByteArray)) := (blk_cell BY6 5).trans rfl
    have yf5 := blk_frozen BY6 5
    have yc6 : w6.cell? ⟨y, 6, none⟩ = some (.int .i64 0) := (blk_cell BY6 6).trans rfl
    have yf6 := blk_frozen BY6 6
    have zc0 : w6.cell? ⟨w.heap.size, 0, none⟩ = some (.int .i64 0) := (blk_cell BZ6 0).trans rfl
    have zf0 := blk_frozen BZ6 0
    have zc1 : w6.cell? ⟨w.heap.size, 1, none⟩ = some (.string (⟨#[]⟩ : ByteArray)) := (blk_cell BZ6 1).trans rfl
    have zf1 := blk_frozen BZ6 1
    have zc2 : w6.cell? ⟨w.heap.size, 2, none⟩ = some (.int .i64 0) := (blk_cell BZ6 2).trans rfl
    have zf2 := blk_frozen BZ6 2
    have zc3 : w6.cell? ⟨w.heap.size, 3, none⟩ = some (.bool false) := (blk_cell BZ6 3).trans rfl
    have zf3 := blk_frozen BZ6 3
    have zc4 : w6.cell? ⟨w.heap.size, 4, none⟩ = some (.int .i64 0) := (blk_cell BZ6 4).trans rfl
    have zf4 := blk_frozen BZ6 4
    have zc5 : w6.cell? ⟨w.heap.size, 5, none⟩ = some (.string (⟨#[]⟩ : ByteArray)) := (blk_cell BZ6 5).trans rfl
    have zf5 := blk_frozen BZ6 5
    have zc6 : w6.cell? ⟨w.heap.size, 6, none⟩ = some (.int .i64 0) := (blk_cell BZ6 6).trans rfl
    have zf6 := blk_frozen BZ6 6
    go_wp2_with fail
    have BR := blk_put (blk_put (blk_put (blk_put (blk_put (blk_put (blk_put (BZ6) 0 (.int .i64 1) rfl) 1 (.string (s.extract 0 n.toNat)) rfl) 2 (.int .i64 0) rfl) 3 (.bool false) rfl) 4 (.int .i64 0) rfl) 5 (.string (⟨#[]⟩ : ByteArray)) rfl) 6 (.int .i64 0) rfl
    have hBf := ((((((((hB6)).setCell (p := ⟨w.heap.size, 0, none⟩) (Nat.le_refl _) (.int .i64 1)).setCell (p := ⟨w.heap.size, 1, none⟩) (Nat.le_refl _) (.string (s.extract 0 n.toNat))).setCell (p := ⟨w.heap.size, 2, none⟩) (Nat.le_refl _) (.int .i64 0)).setCell (p := ⟨w.heap.size, 3, none⟩) (Nat.le_refl _) (.bool false)).setCell (p := ⟨w.heap.size, 4, none⟩) (Nat.le_refl _) (.int .i64 0)).setCell (p := ⟨w.heap.size, 5, none⟩) (Nat.le_refl _) (.string (⟨#[]⟩ : ByteArray))).setCell (p := ⟨w.heap.size, 6, none⟩) (Nat.le_refl _) (.int .i64 0)
    refine bodyPost_ret (results_ct rfl _ _ w.heap.size 73 #[.int .i64 1, .string (s.extract 0 n.toNat), .int .i64 0, .bool false, .int .i64 0, .string (⟨#[]⟩ : ByteArray), .int .i64 0] (0, 0) _ rfl BR Try.underlying73 rfl rfl) rfl ?_
    exact ⟨rfl, hBf⟩
 | false =>
  rw [if_neg (by decide)] at h
  obtain ⟨dg, hdg, h⟩ := Option.bind_eq_some_iff.1 h
  obtain ⟨⟨n, b⟩, hn, h⟩ := Option.bind_eq_some_iff.1 h
  try simp only at h
  have HD := Aside0.mk hdg
  have HN := Aside0.mk hn
  have H := Aside0.mk h
  clear hdg hn h
  go_upto_region 9 with (fail)
  generalize hc : (dg || bt s 0 == 45) = c at HN
  go_cut [42] (fun v wz => v = .bool c ∧ Below w2.heap.size w2 wz)
  case first =>
   go_wp2_with fail
   refine (verdererref11_digit.calls (bt s 0) dg _ HD.out).mono ?_
   rintro e w3 ⟨rfl, hd3⟩
   have hb3 : Below w2.heap.size w2 w3 := hd3.below
   clear hd3
   cases dg with
   | true =>
    go_wp2
    go_meet
    exact ⟨by rw [← hc]; rfl, hb3⟩
   | false =>
    go_wp2_with fail
    all_goals go_meet
    all_goals exact ⟨by rw [← hc] <;> simp [*], hb3⟩
  case rest =>
   obtain ⟨w3, rfl⟩ : ∃ z : World, z = wc := ⟨wc, rfl⟩
   obtain ⟨rfl, hd3⟩ := hcut
   have BZ3 := (hd3.block _ (blk_lt BZ2)).trans BZ2
   have hB3 := hB2.trans (hd3.mono hB2.size)
   clear BZ2 hB2 hd3 hc HD
   go_upto_if 42 with (fail)
   go_cut [7] (fun v wz => v = .int .i64 n ∧ b = false ∧ Below w3.heap.size w3 wz)
   case first =>
    have hn := HN.out
    clear HN
    unfold oneN at hn
    cases c with
    | true =>
     rw [if_pos rfl] at hn
     obtain ⟨n1, hn1, hn⟩ := Option.bind_eq_some_iff.1 hn
     obtain ⟨b1, hb1, hn⟩ := Option.bind_eq_some_iff.1 hn
     simp only [Option.some.injEq, Prod.mk.injEq] at hn
     obtain ⟨rfl, rfl⟩ := hn
     have HN1 := Aside0.mk hn1
     have HB1 := Aside0.mk hb1
     clear hn1 hb1
     go_wp2_with fail
     refine (verdererref11_number.calls k s n1 _ HN1.out).mono ?_
     rintro e w4 ⟨rfl, hd4⟩
     have hb4 : Below w3.heap.size w3 w4 := hd4.below
     clear hd4
     go_upto_region 11 with (fail)
     go_cut [60] (fun v wz => v = .bool b1 ∧ Below w4.heap.size w4 wz)
     case first =>
      have hb := HB1.out
      clear HB1
      unfold oneBad at hb
      by_cases hlt : n1 < (s.size : Int)
      ·
       rw [if_pos hlt] at hb
       split at hb
       case isFalse => cases hb
       rename_i h0
       obtain ⟨b2, hb2, hb⟩ := Option.bind_eq_some_iff.1 hb
       simp only [Option.some.injEq] at hb
       have hltb : decide (n1 < (s.size : Int)) = true := decide_eq_true hlt
       have hlt' : n1.toNat < s.size := by omega
       have hbn := bt_at s n1
       have HL2 := Aside0.mk hb2
       clear hb2
       go_wp2_with fail
       refine (verdererref11_letter.calls (bt s n1) b2 _ HL2.out).mono ?_
       rintro e w5 ⟨rfl, hd5⟩
       have hb5 : Below w4.heap.size w4 w5 := hd5.below
       clear hd5
       cases b2 with
       | true =>
        go_wp2
        go_meet
        exact ⟨by rw [← hb]; rfl, hb5⟩
       | false =>
        go_wp2_with fail
        all_goals go_meet
        all_goals exact ⟨by rw [← hb] <;> simp [*], hb5⟩
      ·
       rw [if_neg hlt] at hb
       obtain rfl : false = b1 := by injection hb
       have hltb : decide (n1 < (s.size : Int)) = false := decide_eq_false hlt
       go_wp2_with fail
       go_meet
       exact ⟨rfl, Below.refl _ _⟩
     case rest =>
      obtain ⟨w5, rfl⟩ : ∃ z : World, z = wc := ⟨wc, rfl⟩
      obtain ⟨rfl, hb5⟩ := hcut
      have hb6 := hb4.trans (hb5.mono hb4.size)
      cases b1 with
      | true =>
       have h := H.out
       rw [if_pos rfl] at h
       have BZ5 := (hb6.block _ (blk_lt BZ3)).trans BZ3
       have hB5 := hB3.trans (hb6.mono hB3.size)
       simp only [Option.some.injEq, Prod.mk.injEq] at h
       obtain ⟨rfl, rfl, rfl, rfl, rfl, rfl, rfl, rfl⟩ := h
       have zc0 : w5.cell? ⟨w.heap.size, 0, none⟩ = some (.int .i64 0) := (blk_cell BZ5 0).trans rfl
       have zf0 := blk_frozen BZ5 0
       have zc1 : w5.cell? ⟨w.heap.size, 1, none⟩ = some (.string (⟨#[]⟩ : ByteArray)) := (blk_cell BZ5 1).trans rfl
       have zf1 := blk_frozen BZ5 1
       have zc2 : w5.cell? ⟨w.heap.size, 2, none⟩ = some (.int .i64 0) := (blk_cell BZ5 2).trans rfl
       have zf2 := blk_frozen BZ5 2
       have zc3 : w5.cell? ⟨w.heap.size, 3, none⟩ = some (.bool false) := (blk_cell BZ5 3).trans rfl
       have zf3 := blk_frozen BZ5 3
       have zc4 : w5.cell? ⟨w.heap.size, 4, none⟩ = some (.int .i64 0) := (blk_cell BZ5 4).trans rfl
       have zf4 := blk_frozen BZ5 4
       have zc5 : w5.cell? ⟨w.heap.size, 5, none⟩ = some (.string (⟨#[]⟩ : ByteArray)) := (blk_cell BZ5 5).trans rfl
       have zf5 := blk_frozen BZ5 5
       have zc6 : w5.cell? ⟨w.heap.size, 6, none⟩ = some (.int .i64 0) := (blk_cell BZ5 6).trans rfl
       have zf6 := blk_frozen BZ5 6
       go_wp2
       have BR := blk_put (blk_put (blk_put (blk_put (blk_put (blk_put (blk_put (BZ5) 0 (.int .i64 0) rfl) 1 (.string (⟨#[]⟩ : ByteArray)) rfl) 2 (.int .i64 0) rfl) 3 (.bool false) rfl) 4 (.int .i64 0) rfl) 5 (.string (⟨#[]⟩ : ByteArray)) rfl) 6 (.int .i64 0) rfl
       have hBf := ((((((((hB5)).setCell (p := ⟨w.heap.size, 0, none⟩) (Nat.le_refl _) (.int .i64 0)).setCell (p := ⟨w.heap.size, 1, none⟩) (Nat.le_refl _) (.string (⟨#[]⟩ : ByteArray))).setCell (p := ⟨w.heap.size, 2, none⟩) (Nat.le_refl _) (.int .i64 0)).setCell (p := ⟨w.heap.size, 3, none⟩) (Nat.le_refl _) (.bool false)).setCell (p := ⟨w.heap.size, 4, none⟩) (Nat.le_refl _) (.int .i64 0)).setCell (p := ⟨w.heap.size, 5, none⟩) (Nat.le_refl _) (.string (⟨#[]⟩ : ByteArray))).setCell (p := ⟨w.heap.size, 6, none⟩) (Nat.le_refl _) (.int .i64 0)
       refine bodyPost_ret (results_ct rfl _ _ w.heap.size 73 #[.int .i64 0, .string (⟨#[]⟩ : ByteArray), .int .i64 0, .bool false, .int .i64 0, .string (⟨#[]⟩ : ByteArray), .int .i64 0] (0, 0) _ rfl BR Try.underlying73 rfl rfl) rfl ?_
       exact ⟨rfl, hBf⟩
      | false =>
       go_wp2_with fail
       go_meet
       exact ⟨by simp, by simp, hb6⟩
    | false =>
     rw [if_neg (by decide)] at hn
     cases h34 : (bt s 0 == 34) with
     | true =>
      rw [h34, if_pos rfl] at hn
      obtain ⟨n1, hn1, hn⟩ := Option.bind_eq_some_iff.1 hn
      simp only [Option.some.injEq, Prod.mk.injEq] at hn
      obtain ⟨rfl, rfl⟩ := hn
      have HN1 := Aside0.mk hn1
      clear hn1
      go_wp2_with fail
      refine (verdererref11_text.calls k s n1 _ HN1.out).mono ?_
      rintro e w4 ⟨rfl, hd4⟩
      have hb4 : Below w3.heap.size w3 w4 := hd4.below
      clear hd4
      go_wp2
      go_meet
      exact ⟨by simp, by simp, hb4⟩
     | false =>
      rw [h34, if_neg (by decide)] at hn
      simp only [Option.some.injEq, Prod.mk.injEq] at hn
      obtain ⟨rfl, rfl⟩ := hn
      go_wp2_with fail
      go_meet
      exact ⟨by simp, by simp, Below.refl _ _⟩
   case rest =>
    obtain ⟨w4, rfl⟩ : ∃ z : World, z = wc := ⟨wc, rfl⟩
    obtain ⟨rfl, rfl, hd4⟩ := hcut
    have h := H.out
    clear H HN
    rw [if_neg (by decide)] at h
    have BZ4 := (hd4.block _ (blk_lt BZ3)).trans BZ3
    have hB4 := hB3.trans (hd4.mono hB3.size)
    clear BZ3 hB3 hd4
    unfold oneE at h
    by_cases hp : n > 0
    ·
     rw [if_pos hp] at h
     split at h
     case isFalse => cases h
     rename_i hle
     obtain ⟨⟨v1, v2, v3, v4, v5⟩, hv, h⟩ := Option.bind_eq_some_iff.1 h
     simp only [Option.some.injEq, Prod.mk.injEq] at h
     obtain ⟨rfl, rfl, rfl, rfl, rfl, rfl, rfl, rfl⟩ := h
     have HV := Aside0.mk hv
     clear hv
     have hp' : decide (0 < n) = true := decide_eq_true hp
     have h00 : 0 ≤ n := by omega
     go_wp2_with fail
     refine (verdererref01_Read.calls k _ v1 v2 v3 v4 v5 _ HV.out).mono ?_
     rintro e w20 ⟨rfl, hb20⟩
     have BZ20 := (hb20.block _ (blk_lt BZ4)).trans BZ4
     have hB20 := hB4.trans (hb20.mono hB4.size)
     clear hb20
     go_upto_region 17 with (fail)
     have BX21 : (w20.alloc (.cells #[.int .i64 v1, .bool v2, .int .i64 v3, .string v4] 36)).heap[w20.heap.size]? = some (.cells #[.int .i64 v1, .bool v2, .int .i64 v3, .string v4] 36 (0, 0)) := by simpa using heap_alloc_new w20 _
     have BZ21 := blk_alloc BZ20 (.cells #[.int .i64 v1, .bool v2, .int .i64 v3, .string v4] 36)
     have hB21 := below_alloc hB20 (.cells #[.int .i64 v1, .bool v2, .int .i64 v3, .string v4] 36)
     have hne : w.heap.size ≠ w20.heap.size := Nat.ne_of_lt (blk_lt BZ20)
     generalize w20.alloc (.cells #[.int .i64 v1, .bool v2, .int .i64 v3, .string v4] 36) = w21 at BX21 BZ21 hB21 ⊢
     generalize w20.heap.size = x at BX21 hne ⊢
     clear BZ20 hB20 BZ4 hB4 HV hp
     refine start_ (n := 9) (S := fun w' => w'.heap[x]? = some (.cells #[.int .i64 v1, .bool v2, .int .i64 v3, .string v4] 36 (0, 0))) (ds := []) #[false, false, false, false, false, false, false, false, false] (by kernel_rfl) rfl rfl (blk_drew BX21) (fun hHeld => ?_)
     have BZ22 := blk_drew BZ21
     have hB22 := below_drew1 hB21
     generalize w21.drew = w22 at BZ22 hB22 hHeld ⊢
     clear BZ21 hB21 BX21
     refine pure_ (i := 0) (N := some 76) (v := ?_) (a' := ?_) #[true, false, false, false, false, false, false, false, false] rfl rfl (by kernel_rfl) (fun _ _ _ h => h) (Or.inl ⟨by rfl, ?_⟩) ?_ ?_
     rotate_left
     ·
      intro w'
      go_simp
      with_reducible rfl
     rotate_left
     ·
      simp only [Act.put, List.setIfInBounds_toArray, List.set_cons_zero, List.set_cons_succ, i64_w, i32_w]
      rfl
     refine pure_ (i := 1) (N := some 77) (v := ?_) (a' := ?_) #[true, true, false, false, false, false, false, false, false] rfl rfl (by kernel_rfl) (fun _ _ _ h => h) (Or.inl ⟨by rfl, ?_⟩) ?_ ?_
     rotate_left
     ·
      intro w'
      go_simp
      with_reducible rfl
     rotate_left
     ·
      simp only [Act.put, List.setIfInBounds_toArray, List.set_cons_zero, List.set_cons_succ, i64_w, i32_w]
      rfl
     refine pure_ (i := 2) (N := some 78) (v := ?_) (a' := ?_) #[true, true, true, false, false, false, false, false, false] rfl rfl (by kernel_rfl) (fun _ _ _ h => h) (Or.inl ⟨by rfl, ?_⟩) ?_ ?_
     rotate_left
     ·
      intro w'
      go_simp
      with_reducible rfl
     rotate_left
     ·
      simp only [Act.put, List.setIfInBounds_toArray, List.set_cons_zero, List.set_cons_succ, i64_w, i32_w]
      rfl
     refine pure_ (i := 5) (N := some 81) (v := ?_) (a' := ?_) #[true, true, true, false, false, true, false, false, false] rfl rfl (by kernel_rfl) (fun _ _ _ h => h) (Or.inl ⟨by rfl, ?_⟩) ?_ ?_
     rotate_left
     ·
      intro w'
      go_simp
      with_reducible rfl
     rotate_left
     ·
      simp only [Act.put, List.setIfInBounds_toArray, List.set_cons_zero, List.set_cons_succ, i64_w, i32_w]
      rfl
     refine pure_ (i := 6) (N := some 82) (v := ?_) (a' := ?_) #[true, true, true, false, false, true, true, false, false] rfl rfl (by kernel_rfl) (fun _ _ _ h => h) (Or.inl ⟨by rfl, ?_⟩) ?_ ?_
     rotate_left
     ·
      intro w'
      go_simp
      with_reducible rfl
     rotate_left
     ·
      simp only [Act.put, List.setIfInBounds_toArray, List.set_cons_zero, List.set_cons_succ, i64_w, i32_w]
      rfl
     refine take_ (i := 3) (N := some 79) (v := ?_) (a' := ?_) #[true, true, true, true, false, true, true, false, false] rfl rfl (by kernel_rfl) (fun _ _ _ h => h) (Or.inl ⟨by rfl, ?_⟩) hHeld ?_ ?_
     rotate_left
     ·
      rintro w' hx
      have e0 : w'.cell? ⟨x, 0, none⟩ = some (.int .i64 v1) := (blk_cell hx 0).trans rfl
      have e1 : w'.cell? ⟨x, 1, none⟩ = some (.bool v2) := (blk_cell hx 1).trans rfl
      have e2 : w'.cell? ⟨x, 2, none⟩ = some (.int .i64 v3) := (blk_cell hx 2).trans rfl
      have e3 : w'.cell? ⟨x, 3, none⟩ = some (.string v4) := (blk_cell hx 3).trans rfl
      go_simp
      with_reducible rfl
     rotate_left
     ·
      simp only [Act.put, List.setIfInBounds_toArray, List.set_cons_zero, List.set_cons_succ, i64_w, i32_w]
      rfl
     refine pure_ (i := 4) (N := some 80) (v := ?_) (a' := ?_) #[true, true, true, true, true, true, true, false, false] rfl rfl (by kernel_rfl) (fun _ _ _ h => h) (Or.inl ⟨by rfl, ?_⟩) ?_ ?_
     rotate_left
     ·
      intro w'
      go_simp
      with_reducible rfl
     rotate_left
     ·
      simp only [Act.put, List.setIfInBounds_toArray, List.set_cons_zero, List.set_cons_succ, i64_w, i32_w]
      rfl
     refine one_ (i := 7) (N := none) #[true, true, true, true, true, true, true, true, false] rfl rfl (by kernel_rfl) (by decide) (fun K hK => ?_)
     have zc0 : w22.cell? ⟨w.heap.size, 0, none⟩ = some (.int .i64 0) := (blk_cell BZ22 0).trans rfl
     have zf0 := blk_frozen BZ22 0
     have zc1 : w22.cell? ⟨w.heap.size, 1, none⟩ = some (.string (⟨#[]⟩ : ByteArray)) := (blk_cell BZ22 1).trans rfl
     have zf1 := blk_frozen BZ22 1
     have zc2 : w22.cell? ⟨w.heap.size, 2, none⟩ = some (.int .i64 0) := (blk_cell BZ22 2).trans rfl
     have zf2 := blk_frozen BZ22 2
     have zc3 : w22.cell? ⟨w.heap.size, 3, none⟩ = some (.bool false) := (blk_cell BZ22 3).trans rfl
     have zf3 := blk_frozen BZ22 3
     have zc4 : w22.cell? ⟨w.heap.size, 4, none⟩ = some (.int .i64 0) := (blk_cell BZ22 4).trans rfl
     have zf4 := blk_frozen BZ22 4
     have zc5 : w22.cell? ⟨w.heap.size, 5, none⟩ = some (.string (⟨#[]⟩ : ByteArray)) := (blk_cell BZ22 5).trans rfl
     have zf5 := blk_frozen BZ22 5
     have zc6 : w22.cell? ⟨w.heap.size, 6, none⟩ = some (.int .i64 0) := (blk_cell BZ22 6).trans rfl
     have zf6 := blk_frozen BZ22 6
     refine skip_ (w1 := ?_) (by rfl) rfl ?_ ?_
     rotate_left
     ·
      go_simp
      rfl
     refine hK.out _ _ (blk_far (p := ⟨w.heap.size, 6, none⟩) (blk_far (p := ⟨w.heap.size, 5, none⟩) (blk_far (p := ⟨w.heap.size, 4, none⟩) (blk_far (p := ⟨w.heap.size, 3, none⟩) (blk_far (p := ⟨w.heap.size, 2, none⟩) (blk_far (p := ⟨w.heap.size, 1, none⟩) (blk_far (p := ⟨w.heap.size, 0, none⟩) hHeld (Ne.symm hne) (.int .i64 2)) (Ne.symm hne) (.string (s.extract 0 n.toNat))) (Ne.symm hne) (.int .i64 v1)) (Ne.symm hne) (.bool v2)) (Ne.symm hne) (.int .i64 v3)) (Ne.symm hne) (.string v4)) (Ne.symm hne) (.int .i64 0)) (fun hHeld => ?_)
     clear hK K
     refine pure_ (i := 8) (N := some 3) (v := ?_) (a' := ?_) #[true, true, true, true, true, true, true, true, true] rfl rfl (by kernel_rfl) (fun _ _ _ h => h) (Or.inl ⟨by rfl, ?_⟩) ?_ ?_
     rotate_left
     ·
      intro w'
      go_simp
      with_reducible rfl
     rotate_left
     ·
      simp only [Act.put, List.setIfInBounds_toArray, List.set_cons_zero, List.set_cons_succ, i64_w, i32_w]
      rfl
     refine done_ (by kernel_rfl) ?_
     try go_wp2
     have BR := blk_put (blk_put (blk_put (blk_put (blk_put (blk_put (blk_put (BZ22) 0 (.int .i64 2) rfl) 1 (.string (s.extract 0 n.toNat)) rfl) 2 (.int .i64 v1) rfl) 3 (.bool v2) rfl) 4 (.int .i64 v3) rfl) 5 (.string v4) rfl) 6 (.int .i64 0) rfl
     have hBf := ((((((((hB22)).setCell (p := ⟨w.heap.size, 0, none⟩) (Nat.le_refl _) (.int .i64 2)).setCell (p := ⟨w.heap.size, 1, none⟩) (Nat.le_refl _) (.string (s.extract 0 n.toNat))).setCell (p := ⟨w.heap.size, 2, none⟩) (Nat.le_refl _) (.int .i64 v1)).setCell (p := ⟨w.heap.size, 3, none⟩) (Nat.le_refl _) (.bool v2)).setCell (p := ⟨w.heap.size, 4, none⟩) (Nat.le_refl _) (.int .i64 v3)).setCell (p := ⟨w.heap.size, 5, none⟩) (Nat.le_refl _) (.string v4)).setCell (p := ⟨w.heap.size, 6, none⟩) (Nat.le_refl _) (.int .i64 0)
     refine bodyPost_ret (results_ct rfl _ _ w.heap.size 73 #[.int .i64 2, .string (s.extract 0 n.toNat), .int .i64 v1, .bool v2, .int .i64 v3, .string v4, .int .i64 0] (0, 0) _ rfl BR Try.underlying73 rfl rfl) rfl ?_
     exact ⟨rfl, hBf⟩
    ·
     rw [if_neg hp] at h
     have hp' : decide (0 < n) = false := decide_eq_false hp
     by_cases h34 : bt s 0 = 34
     ·
      rw [if_pos h34] at h
      have h34b : (bt s 0 == 34) = true := by simp [h34]
      clear h34
      simp only [Option.some.injEq, Prod.mk.injEq] at h
      obtain ⟨rfl, rfl, rfl, rfl, rfl, rfl, rfl, rfl⟩ := h
      have zc0 : w4.cell? ⟨w.heap.size, 0, none⟩ = some (.int .i64 0) := (blk_cell BZ4 0).trans rfl
      have zf0 := blk_frozen BZ4 0
      have zc1 : w4.cell? ⟨w.heap.size, 1, none⟩ = some (.string (⟨#[]⟩ : ByteArray)) := (blk_cell BZ4 1).trans rfl
      have zf1 := blk_frozen BZ4 1
      have zc2 : w4.cell? ⟨w.heap.size, 2, none⟩ = some (.int .i64 0) := (blk_cell BZ4 2).trans rfl
      have zf2 := blk_frozen BZ4 2
      have zc3 : w4.cell? ⟨w.heap.size, 3, none⟩ = some (.bool false) := (blk_cell BZ4 3).trans rfl
      have zf3 := blk_frozen BZ4 3
      have zc4 : w4.cell? ⟨w.heap.size, 4, none⟩ = some (.int .i64 0) := (blk_cell BZ4 4).trans rfl
      have zf4 := blk_frozen BZ4 4
      have zc5 : w4.cell? ⟨w.heap.size, 5, none⟩ = some (.string (⟨#[]⟩ : ByteArray)) := (blk_cell BZ4 5).trans rfl
      have zf5 := blk_frozen BZ4 5
      have zc6 : w4.cell? ⟨w.heap.size, 6, none⟩ = some (.int .i64 0) := (blk_cell BZ4 6).trans rfl
      have zf6 := blk_frozen BZ4 6
      go_wp2
      have BR := blk_put (blk_put (blk_put (blk_put (blk_put (blk_put (blk_put (BZ4) 0 (.int .i64 0) rfl) 1 (.string (⟨#[]⟩ : ByteArray)) rfl) 2 (.int .i64 0) rfl) 3 (.bool false) rfl) 4 (.int .i64 0) rfl) 5 (.string (⟨#[]⟩ : ByteArray)) rfl) 6 (.int .i64 0) rfl
      have hBf := ((((((((hB4)).setCell (p := ⟨w.heap.size, 0, none⟩) (Nat.le_refl _) (.int .i64 0)).setCell (p := ⟨w.heap.size, 1, none⟩) (Nat.le_refl _) (.string (⟨#[]⟩ : ByteArray))).setCell (p := ⟨w.heap.size, 2, none⟩) (Nat.le_refl _) (.int .i64 0)).setCell (p := ⟨w.heap.size, 3, none⟩) (Nat.le_refl _) (.bool false)).setCell (p := ⟨w.heap.size, 4, none⟩) (Nat.le_refl _) (.int .i64 0)).setCell (p := ⟨w.heap.size, 5, none⟩) (Nat.le_refl _) (.string (⟨#[]⟩ : ByteArray))).setCell (p := ⟨w.heap.size, 6, none⟩) (Nat.le_refl _) (.int .i64 0)
      refine bodyPost_ret (results_ct rfl _ _ w.heap.size 73 #[.int .i64 0, .string (⟨#[]⟩ : ByteArray), .int .i64 0, .bool false, .int .i64 0, .string (⟨#[]⟩ : ByteArray), .int .i64 0] (0, 0) _ rfl BR Try.underlying73 rfl rfl) rfl ?_
      exact ⟨rfl, hBf⟩
     ·
      rw [if_neg h34] at h
      have h34b : (bt s 0 == 34) = false := by simp [h34]
      clear h34
      obtain ⟨m, hm, h⟩ := Option.bind_eq_some_iff.1 h
      try simp only at h
      split at h
      case isFalse => cases h
      rename_i hmm
      obtain ⟨hm0, hm1⟩ := hmm
      simp only [Option.some.injEq, Prod.mk.injEq] at h
      obtain ⟨rfl, rfl, rfl, rfl, rfl, rfl, rfl, rfl⟩ := h
      have HM := Aside0.mk hm
      clear hm
      go_wp2_with fail
      refine (verdererref11_sign.calls k s m _ HM.out).mono ?_
      rintro e w22 ⟨rfl, hd22⟩
      have BZ22 := (hd22.below.block _ (blk_lt BZ4)).trans BZ4
      have hB22 := hB4.trans (hd22.below.mono hB4.size)
      clear BZ4 hB4 hd22
      have zc0 : w22.cell? ⟨w.heap.size, 0, none⟩ = some (.int .i64 0) := (blk_cell BZ22 0).trans rfl
      have zf0 := blk_frozen BZ22 0
      have zc1 : w22.cell? ⟨w.heap.size, 1, none⟩ = some (.string (⟨#[]⟩ : ByteArray)) := (blk_cell BZ22 1).trans rfl
      have zf1 := blk_frozen BZ22 1
      have zc2 : w22.cell? ⟨w.heap.size, 2, none⟩ = some (.int .i64 0) := (blk_cell BZ22 2).trans rfl
      have zf2 := blk_frozen BZ22 2
      have zc3 : w22.cell? ⟨w.heap.size, 3, none⟩ = some (.bool false) := (blk_cell BZ22 3).trans rfl
      have zf3 := blk_frozen BZ22 3
      have zc4 : w22.cell? ⟨w.heap.size, 4, none⟩ = some (.int .i64 0) := (blk_cell BZ22 4).trans rfl
      have zf4 := blk_frozen BZ22 4
      have zc5 : w22.cell? ⟨w.heap.size, 5, none⟩ = some (.string (⟨#[]⟩ : ByteArray)) := (blk_cell BZ22 5).trans rfl
      have zf5 := blk_frozen BZ22 5
      have zc6 : w22.cell? ⟨w.heap.size, 6, none⟩ = some (.int .i64 0) := (blk_cell BZ22 6).trans rfl
      have zf6 := blk_frozen BZ22 6
      go_wp2
      have BR := blk_put (blk_put (blk_put (blk_put (blk_put (blk_put (blk_put (BZ22) 0 (.int .i64 3) rfl) 1 (.string (s.extract 0 m.toNat)) rfl) 2 (.int .i64 0) rfl) 3 (.bool false) rfl) 4 (.int .i64 0) rfl) 5 (.string (⟨#[]⟩ : ByteArray)) rfl) 6 (.int .i64 0) rfl
      have hBf := ((((((((hB22)).setCell (p := ⟨w.heap.size, 0, none⟩) (Nat.le_refl _) (.int .i64 3)).setCell (p := ⟨w.heap.size, 1, none⟩) (Nat.le_refl _) (.string (s.extract 0 m.toNat))).setCell (p := ⟨w.heap.size, 2, none⟩) (Nat.le_refl _) (.int .i64 0)).setCell (p := ⟨w.heap.size, 3, none⟩) (Nat.le_refl _) (.bool false)).setCell (p := ⟨w.heap.size, 4, none⟩) (Nat.le_refl _) (.int .i64 0)).setCell (p := ⟨w.heap.size, 5, none⟩) (Nat.le_refl _) (.string (⟨#[]⟩ : ByteArray))).setCell (p := ⟨w.heap.size, 6, none⟩) (Nat.le_refl _) (.int .i64 0)
      refine bodyPost_ret (results_ct rfl _ _ w.heap.size 73 #[.int .i64 3, .string (s.extract 0 m.toNat), .int .i64 0, .bool false, .int .i64 0, .string (⟨#[]⟩ : ByteArray), .int .i64 0] (0, 0) _ rfl BR Try.underlying73 rfl rfl) rfl ?_
      exact ⟨rfl, hBf⟩
/-! ### verdererref11_Read: function 34 -/
mutual
def verdererref11_Read.l0 : Nat → ByteArray → List (S73) → Int → Option ((List (S73)) × Int × Int)
 | 0, _, _, _ => none
 | k + 1, x0, x5, x6 => if x6 < (x0.size : Int) then (if 0 ≤ x6 then (if (bt x0 x6) = 32 then (verdererref11_Read.j1 k x0 x5 x6 true) else (verdererref11_Read.j1 k x0 x5 x6 ((bt x0 x6) == 10))) else (none)) else (if x5.length < 1954687338268 then (some ((x5 ++ [(⟨4, (⟨#[]⟩ : ByteArray), (⟨0, false, 0, (⟨#[]⟩ : ByteArray)⟩ : S36), (x0.size : Int)⟩ : S73)]), 0, 0)) else (none))
def verdererref11_Read.j1 : Nat → ByteArray → List (S73) → Int → Bool → Option ((List (S73)) × Int × Int)
 | 0, _, _, _, _ => none
 | k + 1, x0, x5, x6, x25 => if x25 = true then (verdererref11_Read.l0 k x0 x5 (wrap64 (x6 + 1))) else (if 0 ≤ x6 then (if x6 ≤ (x0.size : Int) then ((verdererref11_one.f k (x0.extract (x6 : Int).toNat x0.size)).bind fun bt136 => (if bt136.2.2.2.2.2.2.2 = true then (if x5.length < 1954687338268 then (verdererref11_Read.l0 k x0 (x5 ++ [(⟨bt136.1, bt136.2.1, (⟨bt136.2.2.1, bt136.2.2.2.1, bt136.2.2.2.2.1, bt136.2.2.2.2.2.1⟩ : S36), x6⟩ : S73)]) (wrap64 (x6 + (bt136.2.1.size : Int)))) else (none)) else (some (([] : List (S73)), x6, 7)))) else (none)) else (none))
end
def verdererref11_Read.f (k : Nat) (a0 : ByteArray) : Option ((List (S73)) × Int × Int) := if (a0.size : Int) > 300 then (some (([] : List (S73)), 0, 9)) else (verdererref11_Read.l0 k a0 ([] : List (S73)) 0)
set_option maxHeartbeats 8000000 in
set_option maxRecDepth 100000 in
theorem verdererref11_Read.calls (k : Nat) (a0 : ByteArray) (r1 : List (S73)) (r2 : Int) (r3 : Int) (w : World) (h : verdererref11_Read.f k a0 = some (r1, r2, r3)) :
  Calls Try.prog 34 #[.string a0] w fun e w' => ∃ v0_ : Value, e = .returned (.tuple #[v0_, .int .i64 r2, .int .i64 r3]) ∧ Kd.R k73 73 w' w.heap.size (fun _ => True) v0_ r1 ∧ Below w.heap.size w w' := by
 have hu73 := Try.underlying73
 have HB := Aside0.mk (Below.refl w.heap.size w)
 have H : (if (a0.size : Int) > 300 then (some (([] : List (S73)), 0, 9)) else (verdererref11_Read.l0 k a0 ([] : List (S73)) 0)) = some (r1, r2, r3) := h
 clear h
 by_cases c2 : (a0.size : Int) > 300
 ·
  rw [if_pos c2] at H
  have c2b0 : decide (300 < (a0.size : Int)) = true := decide_eq_true c2
  have c2b1 : decide (300 < a0.size) = true := decide_eq_true (by omega)
  clear c2
  simp only [Option.some.injEq, Prod.mk.injEq] at H
  obtain ⟨rfl, rfl, rfl⟩ := H
  go_enter Try.func34, Try.ntmps34
  go_wp2
  go_ret3
  exact ⟨_, rfl, by first | exact Kd.R_nil _ _ _ _ _ | exact Kd.N_nil _ _ _ _ _ | exact Kd.V_nil _ _ _ _ _ | exact Kd.Q_nil _ _ _ _ _ | exact Kd.S_nil _ _ _ _ _, by with_reducible exact HB.out⟩
 ·
  rw [if_neg c2] at H
  have c2b0 : decide (300 < (a0.size : Int)) = false := decide_eq_false c2
  have c2b1 : decide (300 < a0.size) = false := decide_eq_false (by omega)
  clear c2
  have H' := Aside0.mk H
  clear H
  go_enter Try.func34, Try.ntmps34
  go_wp2
  go_loopg [5, 6] k (fun kq v5 v6 w' => ∃ (x5_1 : List (S73)) (x6_1 : Int), v6 = .int .i64 x6_1 ∧ Aside0 (verdererref11_Read.l0 kq a0 x5_1 x6_1 = some (r1, r2, r3)) ∧ Aside0 (kq ≤ k) ∧ Aside0 (Kd.R k73 73 w' w.heap.size (fun _ => True) v5 x5_1) ∧ Aside0 (Below w.heap.size w w'))
  case atStart => exact ⟨(([] : List (S73))), (0), rfl, H', ⟨Nat.le_refl _⟩, ⟨by first | exact Kd.R_nil _ _ _ _ _ | exact Kd.N_nil _ _ _ _ _ | exact Kd.V_nil _ _ _ _ _ | exact Kd.Q_nil _ _ _ _ _ | exact Kd.S_nil _ _ _ _ _⟩, ⟨by with_reducible exact HB.out⟩⟩
  case round =>
   clear H'
   clear c2b0 c2b1
   obtain ⟨x5_1, x6_1, rfl, HA, HK1, HO_5, HB⟩ := hrel
   cases gk with
   | zero => exact absurd HA.out (by simp [verdererref11_Read.l0])
   | succ k1 =>
    have H := HA.out
    clear HA
    simp only [verdererref11_Read.l0] at H
    by_cases c3 : x6_1 < (a0.size : Int)
    ·
     rw [if_pos c3] at H
     have c3b0 : decide (x6_1 < (a0.size : Int)) = true := decide_eq_true c3
     clear c3
     have HC4 := Aside0.mk H
     clear H
     go_upto_region 6 with (fail)
     go_cut [25] (fun v25 wc => ∃ (kq : Nat) (x25_3 : Bool), v25 = .bool x25_3 ∧ Aside0 (verdererref11_Read.j1 kq a0 x5_1 x6_1 x25_3 = some (r1, r2, r3)) ∧ Aside0 (kq ≤ k1) ∧ Aside0 (Kd.R k73 73 wc w.heap.size (fun _ => True) u5 x5_1) ∧ Aside0 (Below w.heap.size w wc))
     case first =>
      have H := HC4.out
      clear HC4
      by_cases c5 : 0 ≤ x6_1
      ·
       rw [if_pos c5] at H
       have c5b0 : decide (0 ≤ x6_1) = true := decide_eq_true c5
       clear c5
       (first | rw [c5b0] | (simp only [i64_w, i32_w]; rw [c5b0]) | skip)
       by_cases c7 : (bt a0 x6_1) = 32
       ·
        rw [if_pos c7] at H
        have c7b0 : ((bt a0 x6_1) == 32) = true := beq_iff_eq.mpr c7
        have c7b1 : ((bt a0 x6_1) != 32) = false := bne_eq_false_iff_eq.mpr c7
        clear c7
        have H' := Aside0.mk H
        clear H
        have p6 : 0 ≤ (x6_1 : Int) := of_decide_eq_true (by first | (with_reducible assumption) | assumption)
        have q6 : x6_1 < (a0.size : Int) := of_decide_eq_true (by first | (with_reducible assumption) | assumption)
        have hx6 := bt_at a0 x6_1
        replace p6 := eq_true p6
        replace q6 := eq_true q6
        go_wp2
        go_meet
        case rel => exact ⟨_, (true), rfl, H', ⟨by have := HK1.out; first | omega | exact Nat.le_refl _⟩, ⟨by exact HO_5.out⟩, ⟨by with_reducible exact HB.out⟩⟩
       ·
        rw [if_neg c7] at H
        have c7b0 : ((bt a0 x6_1) == 32) = false := beq_eq_false_iff_ne.mpr c7
        have c7b1 : ((bt a0 x6_1) != 32) = true := bne_iff_ne.mpr c7
        have H' := Aside0.mk H
        clear H
        have p6 : 0 ≤ (x6_1 : Int) := of_decide_eq_true (by first | (with_reducible assumption) | assumption)
        have q6 : x6_1 < (a0.size : Int) := of_decide_eq_true (by first | (with_reducible assumption) | assumption)
        have hx6 := bt_at a0 x6_1
        replace p6 := eq_true p6
        replace q6 := eq_true q6
        have p8 : 0 ≤ (x6_1 : Int) := of_decide_eq_true (by first | (with_reducible assumption) | assumption)
        have q8 : x6_1 < (a0.size : Int) := of_decide_eq_true (by first | (with_reducible assumption) | assumption)
        have hx8 := bt_at a0 x6_1
        replace p8 := eq_true p8
        replace q8 := eq_true q8
        go_wp2
        go_meet
        case rel => exact ⟨_, (((bt a0 x6_1) == 10)), rfl, H', ⟨by have := HK1.out; first | omega | exact Nat.le_refl _⟩, ⟨by exact HO_5.out⟩, ⟨by with_reducible exact HB.out⟩⟩
      ·
       rw [if_neg c5] at H
       exact absurd H (by simp)
     case rest =>
      clear HC4
      clear c3b0
      obtain ⟨kq, x25_3, rfl, HA, HJ3, HO_5, HB⟩ := hcut
      cases kq with
      | zero => exact absurd HA.out (by simp [verdererref11_Read.j1])
      | succ kj3 =>
       have H := HA.out
       clear HA
       simp only [verdererref11_Read.j1] at H
       by_cases c9 : x25_3 = true
       ·
        subst c9
        have H1 : (verdererref11_Read.l0 kj3 a0 x5_1 (wrap64 (x6_1 + 1))) = some (r1, r2, r3) := by rw [if_pos rfl] at H; exact H
        clear H
        have H := H1
        clear H1
        have H' := Aside0.mk H
        clear H
        go_wp2
        go_roundg kj3
        case measure => have := HK1.out; have := HJ3.out; omega
        case rel => exact ⟨(x5_1), (wrap64 (x6_1 + 1)), rfl, H', ⟨by have := HK1.out; have := HJ3.out; omega⟩, ⟨by exact HO_5.out⟩, ⟨by with_reducible exact HB.out⟩⟩
       ·
        replace c9 := Bool.eq_false_iff.mpr c9
        subst c9
        have H1 : (if 0 ≤ x6_1 then (if x6_1 ≤ (a0.size : Int) then ((verdererref11_one.f kj3 (a0.extract (x6_1 : Int).toNat a0.size)).bind fun bt136 => (if bt136.2.2.2.2.2.2.2 = true then (if x5_1.length < 1954687338268 then (verdererref11_Read.l0 kj3 a0 (x5_1 ++ [(⟨bt136.1, bt136.2.1, (⟨bt136.2.2.1, bt136.2.2.2.1, bt136.2.2.2.2.1, bt136.2.2.2.2.2.1⟩ : S36), x6_1⟩ : S73)]) (wrap64 (x6_1 + (bt136.2.1.size : Int)))) else (none)) else (some (([] : List (S73)), x6_1, 7)))) else (none)) else (none)) = some (r1, r2, r3) := by rw [if_neg (show ¬ (false = true) by decide)] at H; exact H
        clear H
        have H := H1
        clear H1
        by_cases c10 : 0 ≤ x6_1
        ·
         rw [if_pos c10] at H
         have c10b0 := eq_true c10
         have c10b1 : decide (0 ≤ x6_1) = true := decide_eq_true c10
         clear c10
         by_cases c11 : x6_1 ≤ (a0.size : Int)
         ·
          rw [if_pos c11] at H
          have c11b0 := eq_true c11
          have c11b1 : decide (x6_1 ≤ (a0.size : Int)) = true := decide_eq_true c11
          clear c11
          replace H := Option.bind_eq_some_iff.mp H
          obtain ⟨⟨t136, t137, t138, t139, t140, t141, t142, t143⟩, A120, H⟩ := H
          replace H : (if t143 = true then (if x5_1.length < 1954687338268 then (verdererref11_Read.l0 kj3 a0 (x5_1 ++ [(⟨t136, t137, (⟨t138, t139, t140, t141⟩ : S36), x6_1⟩ : S73)]) (wrap64 (x6_1 + (t137.size : Int)))) else (none)) else (some (([] : List (S73)), x6_1, 7))) = some (r1, r2, r3) := H
          have A12 := Aside0.mk A120
          clear A120
          by_cases c13 : t143 = true
          ·
           subst c13
           have H1 : (if x5_1.length < 1954687338268 then (verdererref11_Read.l0 kj3 a0 (x5_1 ++ [(⟨t136, t137, (⟨t138, t139, t140, t141⟩ : S36), x6_1⟩ : S73)]) (wrap64 (x6_1 + (t137.size : Int)))) else (none)) = some (r1, r2, r3) := by rw [if_pos rfl] at H; exact H
           clear H
           have H := H1
           clear H1
           by_cases c14 : x5_1.length < 1954687338268
           ·
            rw [if_pos c14] at H
            have LMc14 := Aside0.mk c14
            clear c14
            obtain ⟨y145, hy145⟩ : ∃ y_ : List (S73), y_ = (x5_1 ++ [(⟨t136, t137, (⟨t138, t139, t140, t141⟩ : S36), x6_1⟩ : S73)]) := ⟨_, rfl⟩
            replace H : (verdererref11_Read.l0 kj3 a0 y145 (wrap64 (x6_1 + (t137.size : Int)))) = some (r1, r2, r3) := by first | (rw [hy145]; with_reducible exact H) | (have H2_ := (Option.bind_some _ _).symm.trans H; rw [hy145]; with_reducible exact H2_) | (have H2_ := (Option.bind_some _ _).symm.trans H; with_reducible exact H2_) | with_reducible exact H | (rw [hy145]; exact H) | exact H
            have Ny145 := Aside0.mk hy145
            clear hy145
            have H' := Aside0.mk H
            clear H
            go_wp2_with (first | ((with_reducible refine gate_callee (f := 55) rfl ?_); refine goesL_ (some 32) rfl rfl Try.func55 (by kernel_rfl) rfl #[.string (a0.extract (x6_1 : Int).toNat a0.size)] rfl (by (try simp only [List.map_toArray, List.map_cons, List.map_nil]); first | done | rfl | (simp only [List.length_drop, List.length_take]; rfl)) ?_; (with_reducible refine (verdererref11_one.calls kj3 (a0.extract (x6_1 : Int).toNat a0.size) t136 t137 t138 t139 t140 t141 t142 true _ A12.out).mono ?_); rintro e w15 ⟨rfl, hb⟩; refine ⟨_, rfl, ?_⟩; have n0_ := Aside0.mk (Kd.R_below (by exact HO_5.out) hb); have n1_ := Aside0.mk (below_step (by with_reducible exact HB.out) hb); clear HO_5 HB; have HO_5 := n0_; have HB := n1_; clear n0_ n1_ hb) | ((with_reducible refine gate_dst (N := 7) rfl ?_); refine box_event ?hg (N := 7) ?hd (cs := #[.int .i64 0, .string (⟨#[]⟩ : ByteArray), .int .i64 0, .bool false, .int .i64 0, .string (⟨#[]⟩ : ByteArray), .int .i64 0]) (t := 73) ?hr ?_; (case hd => rfl); (case hg => rfl); (case hr => first | (go_simp; done) | (go_simp; rfl)); intro gb144 hg w16 hbox hb; have n0_ := Aside0.mk (Kd.R_below (Kd.R_elderB (by exact HO_5.out) gb144 (Nat.le_of_eq hg.symm)) hb); have n1_ := Aside0.mk (below_step (by with_reducible exact HB.out) hb); have n2_ := Aside0.mk (hbox); have n3_ := Aside0.mk ((by rw [hg]; exact (below_size (by with_reducible exact HB.out)) : w.heap.size ≤ gb144)); have n4_ := Aside0.mk ((by rw [hg]; exact (below_size (by with_reducible exact HB.out)) : w.heap.size ≤ gb144)); clear HO_5 HB; have HO_5 := n0_; have HB := n1_; have BK144 := n2_; have GW144 := n3_; have GE144 := n4_; clear n0_ n1_ n2_ n3_ n4_ hb hbox hg; have hcz17_0 : w16.cell? ⟨gb144, 0, none⟩ = some (.int .i64 0) := (blk_cell BK144.out 0).trans rfl; have hcz17_1 : w16.cell? ⟨gb144, 1, none⟩ = some (.string (⟨#[]⟩ : ByteArray)) := (blk_cell BK144.out 1).trans rfl; have hcz17_2 : w16.cell? ⟨gb144, 2, none⟩ = some (.int .i64 0) := (blk_cell BK144.out 2).trans rfl; have hcz17_3 : w16.cell? ⟨gb144, 3, none⟩ = some (.bool false) := (blk_cell BK144.out 3).trans rfl; have hcz17_4 : w16.cell? ⟨gb144, 4, none⟩ = some (.int .i64 0) := (blk_cell BK144.out 4).trans rfl; have hcz17_5 : w16.cell? ⟨gb144, 5, none⟩ = some (.string (⟨#[]⟩ : ByteArray)) := (blk_cell BK144.out 5).trans rfl; have hcz17_6 : w16.cell? ⟨gb144, 6, none⟩ = some (.int .i64 0) := (blk_cell BK144.out 6).trans rfl; have hfz17_0 := blk_frozen BK144.out 0; have hfz17_1 := blk_frozen BK144.out 1; have hfz17_2 := blk_frozen BK144.out 2; have hfz17_3 := blk_frozen BK144.out 3; have hfz17_4 := blk_frozen BK144.out 4; have hfz17_5 := blk_frozen BK144.out 5; have hfz17_6 := blk_frozen BK144.out 6) | ((with_reducible refine gate_store (t := 73) (p := 7) rfl ?_); refine store_event (t := 73) (p := 7) (v := ?vo_w18) (w1 := (((((((w16.setCell ⟨gb144, 0, none⟩ (.int .i64 t136)).setCell ⟨gb144, 1, none⟩ (.string t137)).setCell ⟨gb144, 2, none⟩ (.int .i64 t138)).setCell ⟨gb144, 3, none⟩ (.bool t139)).setCell ⟨gb144, 4, none⟩ (.int .i64 t140)).setCell ⟨gb144, 5, none⟩ (.string t141)).setCell ⟨gb144, 6, none⟩ (.int .i64 t142))) ?hg ?ho ?hn ?hr ?_; (case ho => rfl); (case hg => rfl); (case hn => rfl); (case hr => first | (go_simp; done) | (go_simp; rfl)); intro w18 hw; have n0_ : Aside0 (Kd.R k73 73 w18 w.heap.size (fun k_ => k_ ≠ gb144) u5 x5_1) := ⟨(by rw [hw]; exact (by exact Kd.R_mono (Kd.R_far (p := ⟨gb144, 6, none⟩) (Kd.R_far (p := ⟨gb144, 5, none⟩) (Kd.R_far (p := ⟨gb144, 4, none⟩) (Kd.R_far (p := ⟨gb144, 3, none⟩) (Kd.R_far (p := ⟨gb144, 2, none⟩) (Kd.R_far (p := ⟨gb144, 1, none⟩) (Kd.R_far (p := ⟨gb144, 0, none⟩) (Kd.R_mono HO_5.out (fun k_ hk => (⟨hk, hk.2⟩ : _ ∧ k_ ≠ gb144))) (fun _ hk => hk.2) (.int .i64 t136)) (fun _ hk => hk.2) (.string t137)) (fun _ hk => hk.2) (.int .i64 t138)) (fun _ hk => hk.2) (.bool t139)) (fun _ hk => hk.2) (.int .i64 t140)) (fun _ hk => hk.2) (.string t141)) (fun _ hk => hk.2) (.int .i64 t142)) (fun _ hk => hk.1.2)))⟩; have n1_ : Aside0 (w18.heap[gb144]? = some (.cells #[.int .i64 t136, .string t137, .int .i64 t138, .bool t139, .int .i64 t140, .string t141, .int .i64 t142] 73 (0, 0))) := ⟨(by rw [hw]; exact (by refine blk_put (cs := #[.int .i64 t136, .string t137, .int .i64 t138, .bool t139, .int .i64 t140, .string t141, .int .i64 0]) ?_ 6 _ rfl; refine blk_put (cs := #[.int .i64 t136, .string t137, .int .i64 t138, .bool t139, .int .i64 t140, .string (⟨#[]⟩ : ByteArray), .int .i64 0]) ?_ 5 _ rfl; refine blk_put (cs := #[.int .i64 t136, .string t137, .int .i64 t138, .bool t139, .int .i64 0, .string (⟨#[]⟩ : ByteArray), .int .i64 0]) ?_ 4 _ rfl; refine blk_put (cs := #[.int .i64 t136, .string t137, .int .i64 t138, .bool false, .int .i64 0, .string (⟨#[]⟩ : ByteArray), .int .i64 0]) ?_ 3 _ rfl; refine blk_put (cs := #[.int .i64 t136, .string t137, .int .i64 0, .bool false, .int .i64 0, .string (⟨#[]⟩ : ByteArray), .int .i64 0]) ?_ 2 _ rfl; refine blk_put (cs := #[.int .i64 t136, .string (⟨#[]⟩ : ByteArray), .int .i64 0, .bool false, .int .i64 0, .string (⟨#[]⟩ : ByteArray), .int .i64 0]) ?_ 1 _ rfl; refine blk_put (cs := #[.int .i64 0, .string (⟨#[]⟩ : ByteArray), .int .i64 0, .bool false, .int .i64 0, .string (⟨#[]⟩ : ByteArray), .int .i64 0]) ?_ 0 _ rfl; exact BK144.out))⟩; have n2_ : Aside0 (Below w.heap.size w w18) := ⟨(by rw [hw]; exact (by repeat (first | (with_reducible first | exact HB.out | apply below_alloc | apply pw_below_drewN | apply below_drew1 | refine below_set ?_ GE144.out) | exact HB.out)))⟩; clear hw HO_5 BK144 HB; have HO_5 := n0_; have BK144 := n1_; have HB := n2_; clear n0_ n1_ n2_; have hcz19_0 : w18.cell? ⟨gb144, 0, none⟩ = some (.int .i64 t136) := (blk_cell BK144.out 0).trans rfl; have hcz19_1 : w18.cell? ⟨gb144, 1, none⟩ = some (.string t137) := (blk_cell BK144.out 1).trans rfl; have hcz19_2 : w18.cell? ⟨gb144, 2, none⟩ = some (.int .i64 t138) := (blk_cell BK144.out 2).trans rfl; have hcz19_3 : w18.cell? ⟨gb144, 3, none⟩ = some (.bool t139) := (blk_cell BK144.out 3).trans rfl; have hcz19_4 : w18.cell? ⟨gb144, 4, none⟩ = some (.int .i64 t140) := (blk_cell BK144.out 4).trans rfl; have hcz19_5 : w18.cell? ⟨gb144, 5, none⟩ = some (.string t141) := (blk_cell BK144.out 5).trans rfl; have hcz19_6 : w18.cell? ⟨gb144, 6, none⟩ = some (.int .i64 t142) := (blk_cell BK144.out 6).trans rfl; have hfz19_0 := blk_frozen BK144.out 0; have hfz19_1 := blk_frozen BK144.out 1; have hfz19_2 := blk_frozen BK144.out 2; have hfz19_3 := blk_frozen BK144.out 3; have hfz19_4 := blk_frozen BK144.out 4; have hfz19_5 := blk_frozen BK144.out 5; have hfz19_6 := blk_frozen BK144.out 6) | ((with_reducible refine gate_builtin (b := .append) (xs := #[.tmp 40, .tmp 42]) rfl ?_); at_builtin; refine Kd.R_append k73 (w0 := w) w.heap.size rfl (.tmp 40) (.tmp 42) 64 73 (.agg #[(.int .i64 0), (.string ⟨#[]⟩), (.int .i64 0), (.bool false), (.int .i64 0), (.string ⟨#[]⟩), (.int .i64 0)]) 72 rfl Try.underlying64 info73 rfl (by decide) (by omega) u5 x5_1 (⟨t136, t137, (⟨t138, t139, t140, t141⟩ : S36), x6_1⟩ : S73) [.int .i64 t136, .string t137, .int .i64 t138, .bool t139, .int .i64 t140, .string t141, .int .i64 x6_1] (fun k_ => k_ ≠ gb144) (fun _ => False) rfl (by first | (go_simp; done) | (go_simp; rfl)) ?aP (fun _ hk => hk.elim) ?aF ?aO ?aB ?aS ?aL ?_; (case aP => exact k73_mkM _ _ _ (⟨t136, t137, (⟨t138, t139, t140, t141⟩ : S36), x6_1⟩ : S73)); (case aB => exact (by repeat (first | (with_reducible first | exact HB.out | apply below_alloc | apply pw_below_drewN | apply below_drew1 | refine below_set ?_ GE144.out) | exact HB.out))); (case aF => exact (fun k_ hk => Kd.freshB (g := gb144) (o := .cells #[.int .i64 t136, .string t137, .int .i64 t138, .bool t139, .int .i64 t140, .string t141, .int .i64 x6_1] 73 (0, 0)) (by refine blk_put (cs := #[.int .i64 t136, .string t137, .int .i64 t138, .bool t139, .int .i64 t140, .string t141, .int .i64 t142]) ?_ 6 _ rfl; exact BK144.out) k_ hk)); (case aO => exact (by exact Kd.R_mono (Kd.R_far (p := ⟨gb144, 6, none⟩) (Kd.R_mono HO_5.out (fun k_ hk => (⟨hk, hk⟩ : _ ∧ k_ ≠ gb144))) (fun _ hk => hk.2) (.int .i64 x6_1)) (fun _ hk => hk.1))); (case aS => exact (below_size (by repeat (first | (with_reducible first | exact HB.out | apply below_alloc | apply pw_below_drewN | apply below_drew1 | refine below_set ?_ GE144.out) | exact HB.out)))); (case aL => have := LMc14.out; omega); intro v146 w20 ho hb hg hat; rw [← Ny145.out] at ho; have n0_ := Aside0.mk (blk_grown (g := gb144) (o := .cells #[.int .i64 t136, .string t137, .int .i64 t138, .bool t139, .int .i64 t140, .string t141, .int .i64 x6_1] 73 (0, 0)) (by refine blk_put (cs := #[.int .i64 t136, .string t137, .int .i64 t138, .bool t139, .int .i64 t140, .string t141, .int .i64 t142]) ?_ 6 _ rfl; exact BK144.out) hg (Kd.R_away HO_5.out (fun _ hk => hk))); have n1_ := Aside0.mk (hb); have n2_ := Aside0.mk (ho); clear BK144 HB HO_5; have BK144 := n0_; have HB := n1_; have HO147 := n2_; clear n0_ n1_ n2_ ho hb hg hat; have hcz21_0 : w20.cell? ⟨gb144, 0, none⟩ = some (.int .i64 t136) := (blk_cell BK144.out 0).trans rfl; have hcz21_1 : w20.cell? ⟨gb144, 1, none⟩ = some (.string t137) := (blk_cell BK144.out 1).trans rfl; have hcz21_2 : w20.cell? ⟨gb144, 2, none⟩ = some (.int .i64 t138) := (blk_cell BK144.out 2).trans rfl; have hcz21_3 : w20.cell? ⟨gb144, 3, none⟩ = some (.bool t139) := (blk_cell BK144.out 3).trans rfl; have hcz21_4 : w20.cell? ⟨gb144, 4, none⟩ = some (.int .i64 t140) := (blk_cell BK144.out 4).trans rfl; have hcz21_5 : w20.cell? ⟨gb144, 5, none⟩ = some (.string t141) := (blk_cell BK144.out 5).trans rfl; have hcz21_6 : w20.cell? ⟨gb144, 6, none⟩ = some (.int .i64 x6_1) := (blk_cell BK144.out 6).trans rfl; have hfz21_0 := blk_frozen BK144.out 0; have hfz21_1 := blk_frozen BK144.out 1; have hfz21_2 := blk_frozen BK144.out 2; have hfz21_3 := blk_frozen BK144.out 3; have hfz21_4 := blk_frozen BK144.out 4; have hfz21_5 := blk_frozen BK144.out 5; have hfz21_6 := blk_frozen BK144.out 6))
            go_roundg kj3
            case measure => have := HK1.out; have := HJ3.out; omega
            case rel => exact ⟨(y145), (wrap64 (x6_1 + (t137.size : Int))), rfl, H', ⟨by have := HK1.out; have := HJ3.out; omega⟩, ⟨by exact Kd.R_mono HO147.out (fun _ hk => trivial)⟩, ⟨by with_reducible exact HB.out⟩⟩
           ·
            rw [if_neg c14] at H
            exact absurd H (by simp)
          ·
           replace c13 := Bool.eq_false_iff.mpr c13
           subst c13
           have H1 : (some (([] : List (S73)), x6_1, 7)) = some (r1, r2, r3) := by rw [if_neg (show ¬ (false = true) by decide)] at H; exact H
           clear H
           have H := H1
           clear H1
           simp only [Option.some.injEq, Prod.mk.injEq] at H
           obtain ⟨rfl, rfl, rfl⟩ := H
           go_wp2_with (first | ((with_reducible refine gate_callee (f := 55) rfl ?_); refine goesL_ (some 32) rfl rfl Try.func55 (by kernel_rfl) rfl #[.string (a0.extract (x6_1 : Int).toNat a0.size)] rfl (by (try simp only [List.map_toArray, List.map_cons, List.map_nil]); first | done | rfl | (simp only [List.length_drop, List.length_take]; rfl)) ?_; (with_reducible refine (verdererref11_one.calls kj3 (a0.extract (x6_1 : Int).toNat a0.size) t136 t137 t138 t139 t140 t141 t142 false _ A12.out).mono ?_); rintro e w22 ⟨rfl, hb⟩; refine ⟨_, rfl, ?_⟩; have n0_ := Aside0.mk (Kd.R_below (by exact HO_5.out) hb); have n1_ := Aside0.mk (below_step (by with_reducible exact HB.out) hb); clear HO_5 HB; have HO_5 := n0_; have HB := n1_; clear n0_ n1_ hb) | ((with_reducible refine gate_dst (N := 7) rfl ?_); refine box_event ?hg (N := 7) ?hd (cs := #[.int .i64 0, .string (⟨#[]⟩ : ByteArray), .int .i64 0, .bool false, .int .i64 0, .string (⟨#[]⟩ : ByteArray), .int .i64 0]) (t := 73) ?hr ?_; (case hd => rfl); (case hg => rfl); (case hr => first | (go_simp; done) | (go_simp; rfl)); intro gb144 hg w23 hbox hb; have n0_ := Aside0.mk (Kd.R_below (Kd.R_elderB (by exact HO_5.out) gb144 (Nat.le_of_eq hg.symm)) hb); have n1_ := Aside0.mk (below_step (by with_reducible exact HB.out) hb); have n2_ := Aside0.mk (hbox); have n3_ := Aside0.mk ((by rw [hg]; exact (below_size (by with_reducible exact HB.out)) : w.heap.size ≤ gb144)); have n4_ := Aside0.mk ((by rw [hg]; exact (below_size (by with_reducible exact HB.out)) : w.heap.size ≤ gb144)); clear HO_5 HB; have HO_5 := n0_; have HB := n1_; have BK144 := n2_; have GW144 := n3_; have GE144 := n4_; clear n0_ n1_ n2_ n3_ n4_ hb hbox hg; have hcz24_0 : w23.cell? ⟨gb144, 0, none⟩ = some (.int .i64 0) := (blk_cell BK144.out 0).trans rfl; have hcz24_1 : w23.cell? ⟨gb144, 1, none⟩ = some (.string (⟨#[]⟩ : ByteArray)) := (blk_cell BK144.out 1).trans rfl; have hcz24_2 : w23.cell? ⟨gb144, 2, none⟩ = some (.int .i64 0) := (blk_cell BK144.out 2).trans rfl; have hcz24_3 : w23.cell? ⟨gb144, 3, none⟩ = some (.bool false) := (blk_cell BK144.out 3).trans rfl; have hcz24_4 : w23.cell? ⟨gb144, 4, none⟩ = some (.int .i64 0) := (blk_cell BK144.out 4).trans rfl; have hcz24_5 : w23.cell? ⟨gb144, 5, none⟩ = some (.string (⟨#[]⟩ : ByteArray)) := (blk_cell BK144.out 5).trans rfl; have hcz24_6 : w23.cell? ⟨gb144, 6, none⟩ = some (.int .i64 0) := (blk_cell BK144.out 6).trans rfl; have hfz24_0 := blk_frozen BK144.out 0; have hfz24_1 := blk_frozen BK144.out 1; have hfz24_2 := blk_frozen BK144.out 2; have hfz24_3 := blk_frozen BK144.out 3; have hfz24_4 := blk_frozen BK144.out 4; have hfz24_5 := blk_frozen BK144.out 5; have hfz24_6 := blk_frozen BK144.out 6))
           go_ret3
           exact ⟨_, rfl, by first | exact Kd.R_nil _ _ _ _ _ | exact Kd.N_nil _ _ _ _ _ | exact Kd.V_nil _ _ _ _ _ | exact Kd.Q_nil _ _ _ _ _ | exact Kd.S_nil _ _ _ _ _, by repeat (first | (with_reducible first | exact HB.out | apply below_alloc | apply pw_below_drewN | apply below_drew1 | refine below_set ?_ GE144.out) | exact HB.out)⟩
         ·
          rw [if_neg c11] at H
          exact absurd H (by simp)
        ·
         rw [if_neg c10] at H
         exact absurd H (by simp)
    ·
     rw [if_neg c3] at H
     have c3b0 : decide (x6_1 < (a0.size : Int)) = false := decide_eq_false c3
     clear c3
     by_cases c25 : x5_1.length < 1954687338268
     ·
      rw [if_pos c25] at H
      have LMc25 := Aside0.mk c25
      clear c25
      obtain ⟨y133, hy133⟩ : ∃ y_ : List (S73), y_ = (x5_1 ++ [(⟨4, (⟨#[]⟩ : ByteArray), (⟨0, false, 0, (⟨#[]⟩ : ByteArray)⟩ : S36), (a0.size : Int)⟩ : S73)]) := ⟨_, rfl⟩
      replace H : (some (y133, 0, 0)) = some (r1, r2, r3) := by first | (rw [hy133]; with_reducible exact H) | (have H2_ := (Option.bind_some _ _).symm.trans H; rw [hy133]; with_reducible exact H2_) | (have H2_ := (Option.bind_some _ _).symm.trans H; with_reducible exact H2_) | with_reducible exact H | (rw [hy133]; exact H) | exact H
      have Ny133 := Aside0.mk hy133
      clear hy133
      simp only [Option.some.injEq, Prod.mk.injEq] at H
      obtain ⟨rfl, rfl, rfl⟩ := H
      go_wp2_with (first | ((with_reducible refine gate_builtin (b := .append) (xs := #[.tmp 49, .tmp 53]) rfl ?_); at_builtin; refine Kd.R_append k73 (w0 := w) w.heap.size rfl (.tmp 49) (.tmp 53) 64 73 (.agg #[(.int .i64 0), (.string ⟨#[]⟩), (.int .i64 0), (.bool false), (.int .i64 0), (.string ⟨#[]⟩), (.int .i64 0)]) 72 rfl Try.underlying64 info73 rfl (by decide) (by omega) u5 x5_1 (⟨4, (⟨#[]⟩ : ByteArray), (⟨0, false, 0, (⟨#[]⟩ : ByteArray)⟩ : S36), (a0.size : Int)⟩ : S73) [.int .i64 4, .string (⟨#[]⟩ : ByteArray), .int .i64 0, .bool false, .int .i64 0, .string (⟨#[]⟩ : ByteArray), .int .i64 (a0.size : Int)] (fun _ => True) (fun _ => False) rfl rfl ?aP (fun _ hk => hk.elim) ?aF ?aO ?aB ?aS ?aL ?_; (case aP => exact k73_mkM _ _ _ (⟨4, (⟨#[]⟩ : ByteArray), (⟨0, false, 0, (⟨#[]⟩ : ByteArray)⟩ : S36), (a0.size : Int)⟩ : S73)); (case aB => exact (by with_reducible exact HB.out)); (case aF => exact (fun _ _ => trivial)); (case aO => exact (by exact HO_5.out)); (case aS => exact (below_size (by with_reducible exact HB.out))); (case aL => have := LMc25.out; omega); intro v134 w26 ho hb hg hat; rw [← Ny133.out] at ho; have n0_ := Aside0.mk (hb); have n1_ := Aside0.mk (ho); clear HB HO_5; have HB := n0_; have HO135 := n1_; clear n0_ n1_ ho hb hg hat))
      go_ret3
      exact ⟨_, rfl, by exact HO135.out, by with_reducible exact HB.out⟩
     ·
      rw [if_neg c25] at H
      exact absurd H (by simp)
end Go.Proofs.Ytikikmkfeeljgaa.G
