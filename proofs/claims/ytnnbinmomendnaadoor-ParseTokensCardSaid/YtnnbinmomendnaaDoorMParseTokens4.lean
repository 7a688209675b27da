/- A text of the proof that the law ParseTokens returns true: nothing is assumed in it. -/
import Derived.Test.YtnnbinmomendnaaDoorProg
import Derived.Lib.Strings
import Derived.Lib.Slices
import Derived.Lib.Walk
import Derived.Lib.Builder
import Derived.Lib.AppendStr
import Derived.Lib.UnsafeStr
import Derived.WalkKit
import Derived.OwnWalk
import Derived.KernelRfl
import Derived.Laws.Externs
import Derived.Laws.IdiomCopy
import Derived.Laws.BitsLemmas
import Derived.Shelf.Strings.Builder1
import Derived.Test.YtnnbinmomendnaaDoorMParseTokens3
set_option linter.unusedVariables false
set_option linter.unusedSimpArgs false
set_option linter.unusedSectionVars false
/- strings.Builder's copyCheck, WriteByte and WriteString at this translation, whose copyCheck bears no panic's text: contracts turned from the shelf's, walked anew over this program. -/
namespace Go.Proofs.YtnnbinmomendnaaDoor
open Go.RowKit
theorem sizeBuilder : (Tryd.prog.info? 121).map (·.size) = some 2 := by kernel_rfl
theorem liesBuilder : liesAt Tryd.prog Tryd.prog.depth 121 (2 / Tryd.prog.cellsOf 121) 0 121 1 = true := by kernel_rfl
theorem infoByte : (Tryd.prog.info? 5).map (fun i => (i.zero, i.size, i.bytes)) = some (some (.int .u8 0), 1, 1) := by kernel_rfl
set_option maxHeartbeats 1000000 in
set_option maxRecDepth 100000 in
theorem copyCheck_used (b : Nat) (w : World) (h0 : w.cell? ⟨b, 0, none⟩ = some (.pointer (some ⟨b, 0, none⟩))) :
    Calls Tryd.prog 108 #[.pointer (some ⟨b, 0, none⟩)] w fun e w' => e = .returned (.tuple #[]) ∧ w' = w := by
  obtain ⟨j, hj, _⟩ := Option.map_eq_some_iff.1 sizeBuilder
  go_enter Tryd.func108, Tryd.ntmps108
  go_wp2
  rw [Lib.run_neq_ptr_same w _ Tryd.underlying119 hj]
  go_wp2
  go_end0
  exact ⟨rfl, rfl⟩
set_option maxHeartbeats 1000000 in
set_option maxRecDepth 100000 in
theorem copyCheck_fresh (b : Nat) (w : World) (h0 : w.cell? ⟨b, 0, none⟩ = some (.pointer none)) (hsh : w.shape? b = some (121, 2)) (hfz : w.frozen? ⟨b, 0, none⟩ = false) :
    Calls Tryd.prog 108 #[.pointer (some ⟨b, 0, none⟩)] w fun e w' => e = .returned (.tuple #[]) ∧ w' = w.setCell ⟨b, 0, none⟩ (.pointer (some ⟨b, 0, none⟩)) := by
  obtain ⟨j, hj, hjs⟩ := Option.map_eq_some_iff.1 sizeBuilder
  go_enter Tryd.func108, Tryd.ntmps108
  go_wp2
  rw [Lib.run_to_unsafe w ⟨b, 0, none⟩ Tryd.underlying119 Tryd.underlying150 hj (by rw [hjs]; decide) hsh (Nat.zero_lt_succ 1)]
  simp only [Result.andThen]
  rw [Oper.upon_value]
  go_wp2
  rw [run_callFunc_extern Tryd.func120 (by kernel_rfl) (by kernel_rfl) (by kernel_rfl) (e := Extern.AbiNoEscape.same) (by kernel_rfl)]
  rw [Lib.run_noEscape]
  simp only [Result.andThen]
  rw [Oper.upon_value]
  go_wp2
  rw [Lib.run_from_unsafe w ⟨b, 0, none⟩ Tryd.underlying150 Tryd.underlying119 hj hsh liesBuilder]
  simp only [Result.andThen]
  rw [Oper.upon_value]
  go_wp2
  go_end0
  exact ⟨rfl, rfl⟩
theorem copyCheck (B b : Nat) (bs : List Value) (w : World) (h : Lib.IsBuilder 121 5 B b bs w) :
    Calls Tryd.prog 108 #[.pointer (some ⟨b, 0, none⟩)] w fun e w' => e = .returned (.tuple #[]) ∧ (Lib.BuilderAt 121 5 B b (.pointer (some ⟨b, 0, none⟩)) bs w' ∧ Below B w w') := by
  rcases h with h | h
  · refine (copyCheck_fresh b w h.cell0 h.shape h.frozen0).mono ?_
    rintro e w' ⟨rfl, rfl⟩
    exact ⟨rfl, h.used _, (Below.refl B w).setCell (p := ⟨b, 0, none⟩) h.1 _⟩
  · refine (copyCheck_used b w h.cell0).mono ?_
    rintro e w' ⟨rfl, rfl⟩
    exact ⟨rfl, h, Below.refl B _⟩
set_option maxHeartbeats 2000000 in
set_option maxRecDepth 100000 in
theorem writeByte (B b : Nat) (bs : List Value) (c : Int) (w : World) (h : Lib.IsBuilder 121 5 B b bs w) (hlen : bs.length + 1 ≤ 140737488355328) (hBw : B ≤ w.heap.size) :
    Calls Tryd.prog 95 #[.pointer (some ⟨b, 0, none⟩), .int .u8 c] w fun e w' => e = .returned .nilIface ∧ (Lib.BuilderAt 121 5 B b (.pointer (some ⟨b, 0, none⟩)) (bs ++ [.int .u8 c]) w' ∧ Below B w w') := by
  obtain ⟨i0, hi, hz0, hz1, hz2⟩ := info_parts infoByte
  go_enter Tryd.func95, Tryd.ntmps95
  go_wp2_with (go_at_call 108; refine (copyCheck B b bs _ h).mono ?_)
  rintro e w1 ⟨rfl, h1, hb1⟩
  obtain ⟨hB, v, hbk, hown, hne⟩ := h1
  have c0 : w1.cell? ⟨b, 0, none⟩ = some (.pointer (some ⟨b, 0, none⟩)) := by rw [Lib.cell_of_heap hbk]; rfl
  have c1 : w1.cell? ⟨b, 1, none⟩ = some v := by rw [Lib.cell_of_heap hbk]; rfl
  go_wp2_with (at_builtin; refine wpList_append_own _ rfl _ _ 96 rfl B 5 i0 (.int .u8 0) 1 1 Tryd.underlying96 hi hz0 hz1 hz2 rfl (by decide) _ _ _ rfl (hown.alloc _) ⟨w1.heap.size, 0, none⟩ 1 1 [.int .u8 c] rfl rfl ?c1 ?c2 ?c3 ?c4 ?c5 ?_)
  case c1 =>
    intro j u hj
    match j, hj with
    | 0, hj => simp at hj; subst hj; simp [Addr.add]
  case c2 => intro u hu; simp at hu; subst hu; rfl
  case c3 => unfold maxLen; omega
  case c4 => omega
  case c5 => have := hb1.size; simp; omega
  intro v' w2 hown' hgrow _
  have hlt : b < w1.heap.size := by
    rcases Nat.lt_or_ge b w1.heap.size with h' | h'
    · exact h'
    · simp [Array.getElem?_eq_none h'] at hbk
  have hb2 : w2.heap[b]? = some (.cells #[.pointer (some ⟨b, 0, none⟩), v] 121 (0, 0)) := by
    rw [hgrow.block b (by simp; omega) (fun e => hne e.symm), Lib.alloc_old w1 _ b hlt]
    exact hbk
  have d0 : w2.cell? ⟨b, 0, none⟩ = some (.pointer (some ⟨b, 0, none⟩)) := by rw [Lib.cell_of_heap hb2]; rfl
  have d1 : w2.cell? ⟨b, 1, none⟩ = some v := by rw [Lib.cell_of_heap hb2]; rfl
  have f1 : w2.frozen? ⟨b, 1, none⟩ = false := Lib.frozen_of_heap hb2 1
  obtain ⟨g, cap, rfl⟩ : ∃ g cap, v' = .slice (some ⟨g, 0, none⟩) (bs.length + 1) cap := by
    rcases hown'.2 with ⟨_, h0⟩ | ⟨g, cap, cur, hv, _⟩
    · omega
    · exact ⟨g, cap, hv⟩
  go_wp2
  go_ret
  refine ⟨rfl, ?_, ?_⟩
  · exact Lib.BuilderAt.put (T := 121) (e := 5) hB hb2 (bs' := bs ++ [.int .u8 c]) (by simpa using hown') (by decide)
  · exact ((hb1.alloc (by have := hb1.size; omega) _).grown hgrow (by have := hb1.size; simp; omega) (fun k hk => (hown.lt k hk).1)).setCell (p := ⟨b, 1, none⟩) hB _
set_option maxHeartbeats 2000000 in
set_option maxRecDepth 100000 in
theorem writeString (B b : Nat) (bs : List Value) (s : ByteArray) (w : World) (h : Lib.IsBuilder 121 5 B b bs w) (hlen : bs.length + s.size ≤ 140737488355328) (hBw : B ≤ w.heap.size) :
    Calls Tryd.prog 96 #[.pointer (some ⟨b, 0, none⟩), .string s] w fun e w' => e = .returned (.tuple #[.int .i64 s.size, .nilIface]) ∧ (Lib.BuilderAt 121 5 B b (.pointer (some ⟨b, 0, none⟩)) (bs ++ Lib.strCells s) w' ∧ Below B w w') := by
  obtain ⟨i0, hi, hz0, hz1, hz2⟩ := info_parts infoByte
  go_enter Tryd.func96, Tryd.ntmps96
  go_wp2_with (go_at_call 108; refine (copyCheck B b bs _ h).mono ?_)
  rintro e w1 ⟨rfl, h1, hb1⟩
  obtain ⟨hB, v, hbk, hown, hne⟩ := h1
  have c0 : w1.cell? ⟨b, 0, none⟩ = some (.pointer (some ⟨b, 0, none⟩)) := by rw [Lib.cell_of_heap hbk]; rfl
  have c1 : w1.cell? ⟨b, 1, none⟩ = some v := by rw [Lib.cell_of_heap hbk]; rfl
  go_wp2_with (at_builtin; refine Lib.wpList_append_own_string _ rfl _ _ 96 9 rfl B 5 i0 Tryd.underlying96 Tryd.underlying9 hi hz0 hz1 hz2 _ _ _ rfl hown s rfl ?c3 ?c4 ?c5 ?_)
  case c3 => unfold maxLen; omega
  case c4 => omega
  case c5 => have := hb1.size; omega
  intro v' w2 hown' hgrow _
  have hlt : b < w1.heap.size := by
    rcases Nat.lt_or_ge b w1.heap.size with h' | h'
    · exact h'
    · simp [Array.getElem?_eq_none h'] at hbk
  have hb2 : w2.heap[b]? = some (.cells #[.pointer (some ⟨b, 0, none⟩), v] 121 (0, 0)) := by
    rw [hgrow.block b hlt (fun e => hne e.symm)]
    exact hbk
  have d0 : w2.cell? ⟨b, 0, none⟩ = some (.pointer (some ⟨b, 0, none⟩)) := by rw [Lib.cell_of_heap hb2]; rfl
  have d1 : w2.cell? ⟨b, 1, none⟩ = some v := by rw [Lib.cell_of_heap hb2]; rfl
  have f1 : w2.frozen? ⟨b, 1, none⟩ = false := Lib.frozen_of_heap hb2 1
  obtain ⟨ao, n', cap, rfl⟩ : ∃ ao n' cap, v' = .slice ao n' cap := by
    rcases hown'.2 with ⟨hv, _⟩ | ⟨g, cap, cur, hv, _⟩
    · exact ⟨_, _, _, hv⟩
    · exact ⟨_, _, _, hv⟩
  go_wp2
  go_ret2
  refine ⟨rfl, ?_, ?_⟩
  · exact Lib.BuilderAt.put (T := 121) (e := 5) hB hb2 (bs' := bs ++ Lib.strCells s) (by simpa [Lib.strCells_length] using hown') (by decide)
  · exact (hb1.grown hgrow (by have := hb1.size; omega) (fun k hk => (hown.lt k hk).1)).setCell (p := ⟨b, 1, none⟩) hB _
end Go.Proofs.YtnnbinmomendnaaDoor
/- Contracts by hand: value.quoted (strings.Builder), strconv.FormatInt and ParseInt, as the engine takes them. -/
namespace Go.Proofs.YtnnbinmomendnaaDoor
open Go.RowKit Go.Shelf
/-- what a byte of a quoted text is written as -/
def qByte (c : UInt8) : List UInt8 :=
  if c = 34 ∨ c = 92 then [92, c] else if c < 32 ∨ c > 126 then [92, 120, ([48, 49, 50, 51, 52, 53, 54, 55, 56, 57, 97, 98, 99, 100, 101, 102] : List UInt8).getD (c.toNat / 16) 0, ([48, 49, 50, 51, 52, 53, 54, 55, 56, 57, 97, 98, 99, 100, 101, 102] : List UInt8).getD (c.toNat % 16) 0] else [c]
def quotedL (l : List UInt8) : List UInt8 := 34 :: (l.flatMap qByte ++ [34])
theorem qByte_len (c : UInt8) : (qByte c).length ≤ 4 := by
  unfold qByte
  split
  · simp
  · split <;> simp
theorem flatMap_qByte_len (l : List UInt8) : (l.flatMap qByte).length ≤ 4 * l.length := by
  induction l with
  | nil => simp
  | cons c l ih => have := qByte_len c; simp only [List.flatMap_cons, List.length_append, List.length_cons]; omega
theorem flatMap_take_snoc (s : ByteArray) (k : Nat) (h : k < s.size) : (s.data.toList.take (k + 1)).flatMap qByte = (s.data.toList.take k).flatMap qByte ++ qByte s[k] := by
  rw [show s.data.toList.take (k + 1) = s.data.toList.take k ++ [s[k]] from by rw [List.take_succ_eq_append_getElem (by simpa using h)]; rfl]
  simp
theorem cellsOf_one (l : List UInt8) (c : UInt8) : Lib.byteCells l ++ [.int .u8 (c.toNat : Int)] = Lib.byteCells (l ++ [c]) := by simp [Lib.byteCells]
/-- what the loop has written behind k rounds -/
def qTo (s : ByteArray) (k : Nat) : List UInt8 := 34 :: (s.data.toList.take k).flatMap qByte
theorem qTo_succ (s : ByteArray) (k : Nat) (h : k < s.size) : qTo s (k + 1) = qTo s k ++ qByte s[k] := by
  unfold qTo
  rw [flatMap_take_snoc s k h, List.cons_append]
theorem qTo_len (s : ByteArray) (k : Nat) (h : k ≤ s.size) : (qTo s k).length ≤ 1 + 4 * k := by
  unfold qTo
  have := flatMap_qByte_len (s.data.toList.take k)
  have h2 : (s.data.toList.take k).length ≤ k := List.length_take_le _ _
  simp only [List.length_cons]
  omega
theorem byteCells_len (l : List UInt8) : (Lib.byteCells l).length = l.length := by simp [Lib.byteCells]
theorem hexd_fin : ∀ i : Fin 16, ((⟨#[48, 49, 50, 51, 52, 53, 54, 55, 56, 57, 97, 98, 99, 100, 101, 102]⟩ : ByteArray)[i.1]'(i.2)) = ([48, 49, 50, 51, 52, 53, 54, 55, 56, 57, 97, 98, 99, 100, 101, 102] : List UInt8).getD i.1 0 := by decide
theorem hexd_at (n : Nat) (h : n < (⟨#[48, 49, 50, 51, 52, 53, 54, 55, 56, 57, 97, 98, 99, 100, 101, 102]⟩ : ByteArray).size) : ((⟨#[48, 49, 50, 51, 52, 53, 54, 55, 56, 57, 97, 98, 99, 100, 101, 102]⟩ : ByteArray)[n]'h) = ([48, 49, 50, 51, 52, 53, 54, 55, 56, 57, 97, 98, 99, 100, 101, 102] : List UInt8).getD n 0 := hexd_fin ⟨n, h⟩
set_option maxHeartbeats 4000000 in
set_option maxRecDepth 100000 in
theorem quoted_calls (a0 : ByteArray) (w : World) (hsz : a0.size ≤ 1048576) :
    Calls Tryd.prog 88 #[.string a0] w fun e w' => e = .returned (.string ⟨(quotedL a0.data.toList).toArray⟩) ∧ Below w.heap.size w w' := by
  have hmx : a0.size ≤ 9223372036854775807 := by omega
  go_enter Tryd.func88, Tryd.ntmps88
  go_wp2_with fail
  have h0 := Lib.fresh_isBuilder 121 5 w
  refine (writeByte w.heap.size w.heap.size [] 34 _ h0 (by simp) (by simp)).mono ?_
  rintro e W1 ⟨rfl, h1, b1⟩
  have b2 : Below w.heap.size w W1 := ((Below.refl w.heap.size w).alloc (Nat.le_refl _) _).trans b1
  have h2 : Lib.BuilderAt 121 5 w.heap.size w.heap.size (.pointer (some ⟨w.heap.size, 0, none⟩)) (Lib.byteCells (qTo a0 0)) W1 := h1
  clear h1 b1 h0
  generalize hB : w.heap.size = B at *
  have HB := Lib.hid hB
  clear hB
  go_wp2
  go_loopw [9] (fun v wr => ∃ k : Nat, k ≤ a0.size ∧ v = .int .i64 k ∧ Lib.BuilderAt 121 5 B B (.pointer (some ⟨B, 0, none⟩)) (Lib.byteCells (qTo a0 k)) wr ∧ Below B w wr) (fun v _ => a0.size - (intOf v).toNat)
  case atStart => exact ⟨0, Nat.zero_le _, rfl, h2, b2⟩
  case round =>
    obtain ⟨k, hk, rfl, hb, hbel⟩ := hrel
    by_cases hlt : k < a0.size
    · have hs := qTo_succ a0 k hlt
      have HS := Lib.hid hs
      clear hs
      have hl := qTo_len a0 k hk
      have hz : B ≤ wr.heap.size := by have := hbel.size; have := HB.out; omega
      have e34 : a0[k] = 34 ↔ (a0[k].toNat : Int) = 34 := ⟨fun h => by rw [h]; rfl, fun h => UInt8.toNat_inj.1 (by show _ = 34; omega)⟩
      have e92 : a0[k] = 92 ↔ (a0[k].toNat : Int) = 92 := ⟨fun h => by rw [h]; rfl, fun h => UInt8.toNat_inj.1 (by show _ = 92; omega)⟩
      have l32 : a0[k] < 32 ↔ (a0[k].toNat : Int) < 32 := by rw [UInt8.lt_iff_toNat_lt]; show _ < 32 ↔ _; omega
      have g126 : a0[k] > 126 ↔ (126 : Int) < (a0[k].toNat : Int) := by show 126 < a0[k] ↔ _; rw [UInt8.lt_iff_toNat_lt]; show 126 < _ ↔ _; omega
      have h255 : (a0[k].toNat : Int) < 256 := by have := a0[k].toNat_lt; omega
      by_cases hA : (a0[k].toNat : Int) = 34 ∨ (a0[k].toNat : Int) = 92
      · have hq : qByte a0[k] = [92, a0[k]] := by unfold qByte; rw [if_pos (by rw [e34, e92]; exact hA)]
        have HQ := Lib.hid hq
        have hor : ((a0[k].toNat : Int) == 34) = true ∨ ((a0[k].toNat : Int) == 34) = false ∧ ((a0[k].toNat : Int) == 92) = true := by
          by_cases h1 : (a0[k].toNat : Int) = 34
          · exact .inl (beq_iff_eq.2 h1)
          · exact .inr ⟨beq_eq_false_iff_ne.2 h1, beq_iff_eq.2 (hA.resolve_left h1)⟩
        clear hq hA e34 e92 l32 g126
        rcases hor with b34 | ⟨b34, b92⟩
        all_goals
          go_wp2_with fail
          refine (writeByte B B _ 92 _ (.inr hb) (by rw [byteCells_len]; omega) hz).mono ?_
          rintro e W2 ⟨rfl, hb2, bb2⟩
          go_wp2_with fail
          refine (writeByte B B _ a0[k].toNat _ (.inr hb2) (by simp only [List.length_append, byteCells_len, List.length_singleton]; omega) (Nat.le_trans hz bb2.size)).mono ?_
          rintro e W3 ⟨rfl, hb3, bb3⟩
          go_wp2
          go_roundw
          case rel => exact ⟨k + 1, by omega, by go_num, by rw [HS.out, HQ.out]; simpa [Lib.byteCells] using hb3, (hbel.trans bb2).trans bb3⟩
          case measure => simp [intOf]; omega
      · have b34 : ((a0[k].toNat : Int) == 34) = false := beq_eq_false_iff_ne.2 (fun h => hA (.inl h))
        have b92 : ((a0[k].toNat : Int) == 92) = false := beq_eq_false_iff_ne.2 (fun h => hA (.inr h))
        have nA : ¬ (a0[k] = 34 ∨ a0[k] = 92) := by rw [e34, e92]; exact hA
        have NA := Lib.hid nA
        clear hA e34 e92 nA
        by_cases hC : (a0[k].toNat : Int) < 32 ∨ 126 < (a0[k].toNat : Int)
        · have hq : qByte a0[k] = [92, 120, ([48, 49, 50, 51, 52, 53, 54, 55, 56, 57, 97, 98, 99, 100, 101, 102] : List UInt8).getD (a0[k].toNat / 16) 0, ([48, 49, 50, 51, 52, 53, 54, 55, 56, 57, 97, 98, 99, 100, 101, 102] : List UInt8).getD (a0[k].toNat % 16) 0] := by
            unfold qByte; rw [if_neg NA.out, if_pos (by rw [l32, g126]; exact hC)]
          have HQ := Lib.hid hq
          have hor : decide ((a0[k].toNat : Int) < 32) = true ∨ decide ((a0[k].toNat : Int) < 32) = false ∧ decide (126 < (a0[k].toNat : Int)) = true := by
            by_cases h1 : (a0[k].toNat : Int) < 32
            · exact .inl (decide_eq_true h1)
            · exact .inr ⟨decide_eq_false h1, decide_eq_true (hC.resolve_left h1)⟩
          clear hq hC l32 g126 NA
          rcases hor with d32 | ⟨d32, d126⟩
          all_goals
            go_wp2_with fail
            refine (writeString B B _ ⟨#[92, 120]⟩ _ (.inr hb) (by rw [byteCells_len]; show _ + 2 ≤ _; omega) hz).mono ?_
            rintro e W2 ⟨rfl, hb2, bb2⟩
            go_wp2_with fail
            refine (writeByte B B _ _ _ (.inr hb2) (by simp only [List.length_append, byteCells_len, Lib.strCells_length]; show _ + 2 + 1 ≤ _; omega) (Nat.le_trans hz bb2.size)).mono ?_
            rintro e W3 ⟨rfl, hb3, bb3⟩
            go_wp2_with fail
            refine (writeByte B B _ _ _ (.inr hb3) (by simp only [List.length_append, byteCells_len, Lib.strCells_length, List.length_singleton]; show _ + 2 + 1 + 1 ≤ _; omega) (Nat.le_trans hz (Nat.le_trans bb2.size bb3.size))).mono ?_
            rintro e W4 ⟨rfl, hb4, bb4⟩
            go_wp2
            go_roundw
            case rel => exact ⟨k + 1, by omega, by go_num, by rw [HS.out, HQ.out]; simpa [Lib.byteCells, Lib.strCells, hexd_at] using hb4, ((hbel.trans bb2).trans bb3).trans bb4⟩
            case measure => simp [intOf]; omega
        · have hq : qByte a0[k] = [a0[k]] := by unfold qByte; rw [if_neg NA.out, if_neg (by rw [l32, g126]; exact hC)]
          have HQ := Lib.hid hq
          have d32 : decide ((a0[k].toNat : Int) < 32) = false := decide_eq_false (fun h => hC (.inl h))
          have d126 : decide (126 < (a0[k].toNat : Int)) = false := decide_eq_false (fun h => hC (.inr h))
          clear hq hC l32 g126 NA
          go_wp2_with fail
          refine (writeByte B B _ a0[k].toNat _ (.inr hb) (by rw [byteCells_len]; omega) hz).mono ?_
          rintro e W2 ⟨rfl, hb2, bb2⟩
          go_wp2
          go_roundw
          case rel => exact ⟨k + 1, by omega, by go_num, by rw [HS.out, HQ.out]; simpa [Lib.byteCells] using hb2, hbel.trans bb2⟩
          case measure => simp [intOf]; omega
    · obtain rfl : k = a0.size := by omega
      have hz : B ≤ wr.heap.size := by have := hbel.size; have := HB.out; omega
      have hl := qTo_len a0 a0.size hk
      go_wp2_with fail
      refine (writeByte B B _ 34 _ (.inr hb) (by rw [byteCells_len]; omega) hz).mono ?_
      rintro e W2 ⟨rfl, hb2, bb2⟩
      have hb3 : Lib.BuilderAt 121 5 B B (.pointer (some ⟨B, 0, none⟩)) (Lib.byteCells (quotedL a0.data.toList)) W2 := by
        have e1 : qTo a0 a0.size ++ [34] = quotedL a0.data.toList := by
          unfold qTo quotedL
          rw [List.take_of_length_le (by simp)]
          rfl
        have e2 : Lib.byteCells (qTo a0 a0.size) ++ [.int .u8 34] = Lib.byteCells (qTo a0 a0.size ++ [34]) := cellsOf_one _ 34
        rw [← e1, ← e2]
        exact hb2
      clear hb2 hb
      go_wp2_with fail
      refine (Tryd.Builder_String_any B B _ _ (.inr hb3) (Nat.le_trans hz bb2.size)).mono ?_
      rintro e W3 ⟨rfl, bb3⟩
      go_wp2
      go_ret
      exact ⟨rfl, by rw [HB.out]; exact (hbel.trans bb2).trans bb3⟩
namespace E
def quB (s : ByteArray) : ByteArray := ⟨(quotedL s.data.toList).toArray⟩
def fmtB (n : Int) : ByteArray := ⟨(Lib.itoa n).toArray⟩
/-- is it no number? -/
def piE (s : ByteArray) : Bool := match Lib.parseIntB 64 s.data.toList with
  | .ok _ => false
  | _ => true
/-- what comes of it -/
def piV (s : ByteArray) : Int := match Lib.parseIntB 64 s.data.toList with
  | .ok v => v
  | .range => Lib.intSat 64 s.data.toList
  | _ => 0
theorem quoted_back (x : ByteArray) (w : World) (_ : LayC w) (_ : ∀ g ∈ layG, g < w.heap.size) (h : x.size ≤ 1048576) : Back Tryd.prog 88 #[valD .str x] w (.a (.c (.s (quB x)))) := by
  refine (quoted_calls x w h).mono ?_
  rintro e w' ⟨rfl, hb⟩
  exact ⟨_, rfl, rfl, hb⟩
theorem fmt_back (x y : Int) (w : World) (hc : LayC w) (_ : ∀ g ∈ layG, g < w.heap.size) (h : y = 10 ∧ -9223372036854775808 ≤ x ∧ x ≤ 9223372036854775807) : Back Tryd.prog 87 #[valD (.int .i64) x, valD (.int .i64) y] w (.a (.c (.s (fmtB x)))) := by
  obtain ⟨rfl, h0, h1⟩ := h
  refine (Tryd.strconv_FormatInt_10 x h0 h1 w hc.pow10).mono ?_
  rintro e w' ⟨rfl, k, os, rfl⟩
  exact ⟨_, rfl, rfl, Laid.below_grow w k os⟩
theorem parse_back (s : ByteArray) (y z : Int) (w : World) (hc : LayC w) (_ : ∀ g ∈ layG, g < w.heap.size) (h : y = 10 ∧ z = 64 ∧ s.size ≤ 281474976710656) : Back Tryd.prog 80 #[valD .str s, valD (.int .i64) y, valD (.int .i64) z] w (.tu [.c (.i .i64 (piV s)), .c (.er (piE s))]) := by
  obtain ⟨rfl, rfl, hs⟩ := h
  obtain ⟨b, hb⟩ : ∃ b, Lib.parseIntB 64 s.data.toList = b := ⟨_, rfl⟩
  cases b with
  | ok v =>
    refine (Tryd.strconv_ParseInt_10_at64_ok s (by omega) v hb w).mono ?_
    rintro e w' ⟨rfl, hw⟩
    have hbw : Below w.heap.size w w' := by
      rcases hw with rfl | ⟨t, rfl⟩
      · exact Below.refl _ _
      · exact Lib.bytesWorld_below _ _ _
    refine ⟨_, rfl, ⟨_, rfl, ?_, ?_, trivial⟩, hbw⟩
    · show Value.int .i64 v = .int .i64 (piV s)
      unfold piV; rw [hb]
    · show (if piE s = true then _ else _)
      unfold piE; rw [hb]; rfl
  | range =>
    obtain ⟨tp, p, hv⟩ := hc.rng
    refine (Tryd.strconv_ParseInt_10_at64_range_var s hs hb tp p w hv).mono ?_
    rintro e w' ⟨N, rfl, _, _, hbw⟩
    refine ⟨_, rfl, ⟨_, rfl, ?_, ?_, trivial⟩, hbw⟩
    · show Value.int .i64 _ = .int .i64 (piV s)
      unfold piV; rw [hb]
    · show (if piE s = true then _ else _)
      unfold piE; rw [hb]; exact ⟨_, _, rfl⟩
  | _ =>
    obtain ⟨tp, p, hv⟩ := hc.syn
    refine (Tryd.strconv_ParseInt_10_at64_syntax_var s hs (fun v e => by rw [hb] at e; cases e) (fun e => by rw [hb] at e; cases e) tp p w hv).mono ?_
    rintro e w' ⟨N, rfl, _, _, hbw⟩
    refine ⟨_, rfl, ⟨_, rfl, ?_, ?_, trivial⟩, hbw⟩
    · show Value.int .i64 _ = .int .i64 (piV s)
      unfold piV; rw [hb]
    · show (if piE s = true then _ else _)
      unfold piE; rw [hb]; exact ⟨_, _, rfl⟩
end E
end Go.Proofs.YtnnbinmomendnaaDoor
