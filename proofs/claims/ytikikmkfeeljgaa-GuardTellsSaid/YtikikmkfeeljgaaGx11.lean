-- Written by a program for this claim (my own print over the kit's words).
import Derived.Test.YtikikmkfeeljgaaGx0
import Derived.Test.YtikikmkfeeljgaaGx7
import Derived.Test.YtikikmkfeeljgaaGx8
namespace Go.Proofs.Ytikikmkfeeljgaa.G
open Go.RowKit Go.Proofs.YtikikmkfeeljgaaW.PrintWords Go.Proofs.YtikikmkfeeljgaaW.PrintLast Go.Proofs.YtikikmkfeeljgaaW.PrintMore
attribute [local go_sem] max2_int min2_int max_two min_two max_three min_three max_four min_four   -- for this text's walks alone
set_option linter.unusedVariables false
set_option linter.unusedSimpArgs false
/-! ### verdererref12_reader_agg: function 58 -/
/-- The rule that is made: its block, its rows (from base on). -/
def RuleAt (W : World) (base gx : Nat) (kd : Int) (nm : ByteArray) (hd : List ByteArray) (ag : Int) (og : ByteArray) (lim : Int) (bd : List (S41)) : Prop := ∃ v2 v6, W.heap[gx]? = some (.cells #[.int .i64 kd, .string nm, v2, .int .i64 ag, .string og, .int .i64 lim, v6] 25 (0, 0)) ∧ base ≤ gx ∧ Kd.R Kd.string 9 W base (fun _ => True) v2 hd ∧ Kd.R k41 41 W base (fun _ => True) v6 bd
/-- What is kept: all below base but the reader. -/
def KB (w w' : World) (base g : Nat) : Prop := w.heap.size ≤ w'.heap.size ∧ ∀ i, i < base → i ≠ g → w'.heap[i]? = w.heap[i]?
section
variable {w w0 W W1 W2 : World} {base gx g : Nat} {kd : Int} {nm : ByteArray} {hd : List ByteArray} {ag : Int} {og : ByteArray} {lim : Int} {bd : List (S41)}
theorem KB.refl (w : World) (base g : Nat) : KB w w base g := ⟨Nat.le_refl _, fun _ _ _ => rfl⟩
theorem KB.trans (h : KB w W base g) (h' : KB W W1 base g) : KB w W1 base g := ⟨Nat.le_trans h.1 h'.1, fun i hi hg => (h'.2 i hi hg).trans (h.2 i hi hg)⟩
theorem KB.keep (h : KB w W base g) (hk : KeepBut W W1 g none) (hb : base ≤ W.heap.size) : KB w W1 base g := ⟨Nat.le_trans h.1 hk.1, fun i hi hg => (hk.2 i (Nat.lt_of_lt_of_le hi hb) hg (by simp)).trans (h.2 i hi hg)⟩
theorem KB.below (h : KB w W base g) (hk : Below W.heap.size W W1) (hb : base ≤ W.heap.size) : KB w W1 base g := h.keep (KeepBut.of_below hk g none) hb
theorem KB.set (h : KB w W base g) {p : Addr} (hp : base ≤ p.block) (u : Value) : KB w (W.setCell p u) base g := ⟨by simpa [World.setCell] using h.1, fun i hi hg => (Below.heap_setCell W p u i (by omega)).trans (h.2 i hi hg)⟩
theorem KB.grown (h : KB w W base g) {row : Option Nat} (hg : W.grownBy W1 row) (hr : ∀ k, row = some k → base ≤ k) (hb : base ≤ W.heap.size) : KB w W1 base g := ⟨Nat.le_trans h.1 hg.size, fun i hi hne => (hg.block i (Nat.lt_of_lt_of_le hi hb) (fun e => by have := hr i e.symm; omega)).trans (h.2 i hi hne)⟩
theorem KB.blk (h : KB w W base g) {o : Obj} {i : Nat} (hi : i < base) (hne : i ≠ g) (hb : w.heap[i]? = some o) : W.heap[i]? = some o := (h.2 i hi hne).trans hb
theorem RuleAt.ge (h : RuleAt W base gx kd nm hd ag og lim bd) : base ≤ W.heap.size := by
 obtain ⟨v2, v6, BX, hb, _⟩ := h
 exact Nat.le_trans hb (Nat.le_of_lt (blk_lt BX))
theorem RuleAt.ne (h : RuleAt W base gx kd nm hd ag og lim bd) {cs : Array Value} {t : TypeId} {fr : Nat × Nat} (hg : W.heap[g]? = some (.cells cs t fr)) (ht : t ≠ 25) : gx ≠ g := by
 obtain ⟨v2, v6, BX, _⟩ := h
 intro e
 subst e
 rw [BX] at hg
 injection hg with hg
 injection hg with _ h2
 exact ht h2.symm
theorem RuleAt.keep (h : RuleAt W base gx kd nm hd ag og lim bd) {cs : Array Value} (hg : W.heap[g]? = some (.cells cs 69 (0, 0))) (hk : KeepBut W W1 g none) : RuleAt W1 base gx kd nm hd ag og lim bd := by
 have hne := h.ne hg (by decide)
 obtain ⟨v2, v6, BX, hb, R2, R6⟩ := h
 exact ⟨v2, v6, hk.blk BX hne (by simp), hb, Kd.R_mono (Kd.R_keep (Kd.R_types R2 hg (by decide)) hk (fun k h => h.2)) (fun _ _ => trivial), Kd.R_mono (Kd.R_keep (Kd.R_types R6 hg (by decide)) hk (fun k h => h.2)) (fun _ _ => trivial)⟩
theorem RuleAt.keepI {l : List (S73)} {p q r : Int} (h : RuleAt W base gx kd nm hd ag og lim bd) (hI : IsS69 w0 W g l p q r) (hk : KeepBut W W1 g none) : RuleAt W1 base gx kd nm hd ag og lim bd := by
 obtain ⟨A0, c0, hg, _, _⟩ := hI
 exact h.keep hg hk
theorem RuleAt.neI {l : List (S73)} {p q r : Int} (h : RuleAt W base gx kd nm hd ag og lim bd) (hI : IsS69 w0 W g l p q r) : gx ≠ g := by
 obtain ⟨A0, c0, hg, _, _⟩ := hI
 exact h.ne hg (by decide)
theorem RuleAt.gx_ge (h : RuleAt W base gx kd nm hd ag og lim bd) : base ≤ gx := by
 obtain ⟨v2, v6, BX, hb, _⟩ := h
 exact hb
theorem RuleAt.below (h : RuleAt W base gx kd nm hd ag og lim bd) (hk : Below W.heap.size W W1) : RuleAt W1 base gx kd nm hd ag og lim bd := by
 obtain ⟨v2, v6, BX, hb, R2, R6⟩ := h
 exact ⟨v2, v6, (hk.block _ (blk_lt BX)).trans BX, hb, Kd.R_below R2 hk, Kd.R_below R6 hk⟩
theorem RuleAt.alloc (h : RuleAt W base gx kd nm hd ag og lim bd) (o : Obj) : RuleAt (W.alloc o) base gx kd nm hd ag og lim bd := h.below (below_alloc (Below.refl _ _) o)
theorem RuleAt.drew (h : RuleAt W base gx kd nm hd ag og lim bd) : RuleAt W.drew base gx kd nm hd ag og lim bd := h.below (below_drew (Below.refl _ _))
theorem RuleAt.set0 (h : RuleAt W base gx kd nm hd ag og lim bd) (x : Int) : RuleAt (W.setCell ⟨gx, 0, none⟩ (.int .i64 x)) base gx x nm hd ag og lim bd := by
 obtain ⟨v2, v6, BX, hb, R2, R6⟩ := h
 exact ⟨v2, v6, blk_put BX 0 _ rfl, hb, Kd.R_set R2 BX (by decide) 0 _, Kd.R_set R6 BX (by decide) 0 _⟩
theorem RuleAt.set1 (h : RuleAt W base gx kd nm hd ag og lim bd) (x : ByteArray) : RuleAt (W.setCell ⟨gx, 1, none⟩ (.string x)) base gx kd x hd ag og lim bd := by
 obtain ⟨v2, v6, BX, hb, R2, R6⟩ := h
 exact ⟨v2, v6, blk_put BX 1 _ rfl, hb, Kd.R_set R2 BX (by decide) 1 _, Kd.R_set R6 BX (by decide) 1 _⟩
theorem RuleAt.set3 (h : RuleAt W base gx kd nm hd ag og lim bd) (x : Int) : RuleAt (W.setCell ⟨gx, 3, none⟩ (.int .i64 x)) base gx kd nm hd x og lim bd := by
 obtain ⟨v2, v6, BX, hb, R2, R6⟩ := h
 exact ⟨v2, v6, blk_put BX 3 _ rfl, hb, Kd.R_set R2 BX (by decide) 3 _, Kd.R_set R6 BX (by decide) 3 _⟩
theorem RuleAt.set4 (h : RuleAt W base gx kd nm hd ag og lim bd) (x : ByteArray) : RuleAt (W.setCell ⟨gx, 4, none⟩ (.string x)) base gx kd nm hd ag x lim bd := by
 obtain ⟨v2, v6, BX, hb, R2, R6⟩ := h
 exact ⟨v2, v6, blk_put BX 4 _ rfl, hb, Kd.R_set R2 BX (by decide) 4 _, Kd.R_set R6 BX (by decide) 4 _⟩
theorem RuleAt.set5 (h : RuleAt W base gx kd nm hd ag og lim bd) (x : Int) : RuleAt (W.setCell ⟨gx, 5, none⟩ (.int .i64 x)) base gx kd nm hd ag og x bd := by
 obtain ⟨v2, v6, BX, hb, R2, R6⟩ := h
 exact ⟨v2, v6, blk_put BX 5 _ rfl, hb, Kd.R_set R2 BX (by decide) 5 _, Kd.R_set R6 BX (by decide) 5 _⟩
theorem RuleAt.far (h : RuleAt W base gx kd nm hd ag og lim bd) {cs : Array Value} {t : TypeId} (hg : W.heap[g]? = some (.cells cs t (0, 0))) (ht : t ≠ 25 ∧ t ≠ 9 ∧ t ≠ 41 ∧ t ≠ 38) (j : Nat) (u : Value) : RuleAt (W.setCell ⟨g, j, none⟩ u) base gx kd nm hd ag og lim bd := by
 have hne := h.ne hg ht.1
 obtain ⟨v2, v6, BX, hb, R2, R6⟩ := h
 refine ⟨v2, v6, (Below.heap_setCell W ⟨g, j, none⟩ u gx hne).trans BX, hb, Kd.R_set R2 hg ?_ j u, Kd.R_set R6 hg ?_ j u⟩
 ·
  intro q hq
  rcases List.mem_cons.1 hq with rfl | hq
  · exact Ne.symm ht.2.1
  · cases hq
 ·
  intro q hq
  have : q = 41 ∨ q = 9 ∨ q = 38 := by
   revert hq
   show q ∈ (41 :: k41.E) → _
   intro hq
   have e : (41 :: k41.E) = [41, 38] := rfl
   rw [e] at hq
   simp at hq
   rcases hq with rfl | rfl
   · exact .inl rfl
   · exact .inr (.inr rfl)
  rcases this with rfl | rfl | rfl
  · exact Ne.symm ht.2.2.1
  · exact Ne.symm ht.2.1
  · exact Ne.symm ht.2.2.2
end
def aggHit (k : Nat) (l : List (S73)) (i : Int) (kd ag : Int) (og : ByteArray) (p q r : Int) : Option (Bool × Int × ByteArray × Int × Int × Int) :=
 if (kd = 1 ∨ (kd = 3 ∧ 2 < i)) then (verdererref12_reader_now.f l p q r).bind fun u => (verdererref12_reader_fail.f l p q r 7 u.2.2.2.2.2.2.1).bind fun s => some (true, ag, og, s.1, s.2.1, s.2.2)
 else (verdererref12_reader_step.f l p q r).bind fun s => if 1 < i then (verdererref12_reader_name.f k l s.1 s.2.1 s.2.2).bind fun m => some (true, i, m.1, m.2.1, m.2.2.1, m.2.2.2) else some (true, i, og, s.1, s.2.1, s.2.2)
def aggFrom (k : Nat) (l : List (S73)) (kd ag : Int) (og : ByteArray) : List ByteArray → Int → Int → Int → Int → Option (Bool × Int × ByteArray × Int × Int × Int)
 | [], _, p, q, r => some (false, ag, og, p, q, r)
 | s :: ws, i, p, q, r => (verdererref12_reader_is.f l p q r s).bind fun b => if b.1 = true then aggHit k l i kd ag og b.2.1 b.2.2.1 b.2.2.2 else aggFrom k l kd ag og ws (i + 1) b.2.1 b.2.2.1 b.2.2.2
def aggWords : List ByteArray := [⟨#[99, 111, 117, 110, 116]⟩, ⟨#[115, 117, 109]⟩, ⟨#[108, 101, 97, 115, 116]⟩, ⟨#[109, 111, 115, 116]⟩]
def verdererref12_reader_agg.f (k : Nat) (l : List (S73)) (p q r : Int) (kd ag : Int) (og : ByteArray) : Option (Bool × Int × ByteArray × Int × Int × Int) := aggFrom k l kd ag og aggWords 1 p q r
set_option maxHeartbeats 4000000 in
set_option maxRecDepth 100000 in
theorem verdererref12_reader_agg.calls (k : Nat) (g gx base : Nat) (l : List (S73)) (p q r : Int) (kd ag : Int) (og : ByteArray) (nm : ByteArray) (hd : List ByteArray) (lim : Int) (bd : List (S41)) (r1 : Bool) (ag' : Int) (og' : ByteArray) (p' q' r' : Int) (w0 w : World) (hI : IsS69 w0 w g l p q r) (hB : Below w0.heap.size w0 w) (hX : RuleAt w base gx kd nm hd ag og lim bd) (h0 : w0.heap.size ≤ base) (h : verdererref12_reader_agg.f k l p q r kd ag og = some (r1, ag', og', p', q', r')) :
  Calls Try.prog 58 #[.pointer (some ⟨g, 0, none⟩), .pointer (some ⟨gx, 0, none⟩)] w fun e w' => e = .returned (.bool r1) ∧ IsS69 w0 w' g l p' q' r' ∧ Below w0.heap.size w0 w' ∧ RuleAt w' base gx kd nm hd ag' og' lim bd ∧ KB w w' base g := by
 unfold verdererref12_reader_agg.f at h
 have H := Aside0.mk h
 clear h
 go_enter Try.func58, Try.ntmps58
 go_wp2
 have BR : (w.alloc (.cells #[.string (⟨#[]⟩ : ByteArray), .string (⟨#[99, 111, 117, 110, 116]⟩ : ByteArray), .string (⟨#[115, 117, 109]⟩ : ByteArray), .string (⟨#[108, 101, 97, 115, 116]⟩ : ByteArray), .string (⟨#[109, 111, 115, 116]⟩ : ByteArray)] 9)).heap[w.heap.size]? = some (.cells #[.string (⟨#[]⟩ : ByteArray), .string (⟨#[99, 111, 117, 110, 116]⟩ : ByteArray), .string (⟨#[115, 117, 109]⟩ : ByteArray), .string (⟨#[108, 101, 97, 115, 116]⟩ : ByteArray), .string (⟨#[109, 111, 115, 116]⟩ : ByteArray)] 9 (0, 0)) := by simpa using heap_alloc_new w _
 have hge0 := hX.ge
 have hB1 := below_alloc hB (.cells #[.string (⟨#[]⟩ : ByteArray), .string (⟨#[99, 111, 117, 110, 116]⟩ : ByteArray), .string (⟨#[115, 117, 109]⟩ : ByteArray), .string (⟨#[108, 101, 97, 115, 116]⟩ : ByteArray), .string (⟨#[109, 111, 115, 116]⟩ : ByteArray)] 9)
 have hI1 := hI.alloc (.cells #[.string (⟨#[]⟩ : ByteArray), .string (⟨#[99, 111, 117, 110, 116]⟩ : ByteArray), .string (⟨#[115, 117, 109]⟩ : ByteArray), .string (⟨#[108, 101, 97, 115, 116]⟩ : ByteArray), .string (⟨#[109, 111, 115, 116]⟩ : ByteArray)] 9)
 have hX1 := hX.alloc (.cells #[.string (⟨#[]⟩ : ByteArray), .string (⟨#[99, 111, 117, 110, 116]⟩ : ByteArray), .string (⟨#[115, 117, 109]⟩ : ByteArray), .string (⟨#[108, 101, 97, 115, 116]⟩ : ByteArray), .string (⟨#[109, 111, 115, 116]⟩ : ByteArray)] 9)
 have hK1 := (KB.refl w base g).below (below_alloc (Below.refl _ _) (.cells #[.string (⟨#[]⟩ : ByteArray), .string (⟨#[99, 111, 117, 110, 116]⟩ : ByteArray), .string (⟨#[115, 117, 109]⟩ : ByteArray), .string (⟨#[108, 101, 97, 115, 116]⟩ : ByteArray), .string (⟨#[109, 111, 115, 116]⟩ : ByteArray)] 9)) hge0
 generalize w.alloc (.cells #[.string (⟨#[]⟩ : ByteArray), .string (⟨#[99, 111, 117, 110, 116]⟩ : ByteArray), .string (⟨#[115, 117, 109]⟩ : ByteArray), .string (⟨#[108, 101, 97, 115, 116]⟩ : ByteArray), .string (⟨#[109, 111, 115, 116]⟩ : ByteArray)] 9) = w1 at BR hB1 hI1 hX1 hK1 ⊢
 clear hB hI hX
 generalize w.heap.size = b at BR ⊢
 go_loopw [6] (fun v wr => ∃ n : Nat, ∃ p1 q1 r2 : Int, 1 ≤ n ∧ n ≤ 5 ∧ v = .int .i64 n ∧ IsS69 w0 wr g l p1 q1 r2 ∧ Below w0.heap.size w0 wr ∧ RuleAt wr base gx kd nm hd ag og lim bd ∧ KB w wr base g ∧ Aside0 (wr.heap[b]? = some (.cells #[.string (⟨#[]⟩ : ByteArray), .string (⟨#[99, 111, 117, 110, 116]⟩ : ByteArray), .string (⟨#[115, 117, 109]⟩ : ByteArray), .string (⟨#[108, 101, 97, 115, 116]⟩ : ByteArray), .string (⟨#[109, 111, 115, 116]⟩ : ByteArray)] 9 (0, 0))) ∧ Aside0 (aggFrom k l kd ag og (aggWords.drop (n - 1)) n p1 q1 r2 = some (r1, ag', og', p', q', r'))) (fun v _ => 5 - (intOf v).toNat)
 case atStart => exact ⟨1, p, q, r, by omega, by omega, rfl, hI1, hB1, hX1, hK1, ⟨BR⟩, H⟩
 case round =>
  obtain ⟨n, p1, q1, r2, hn1, hn5, rfl, hI2, hB2, hX2, hK2, HR, H2⟩ := hrel
  clear hI1 hB1 hX1 hK1 BR H
  by_cases hlt : n < 5
  ·
   have hgt : (0 : Int) ≤ (n : Int) := by omega
   have hlt' : (n : Int) < 5 := by omega
   have hc : ∃ s, wr.cell? ⟨b, n, none⟩ = some (.string s) ∧ aggWords.drop (n - 1) = s :: aggWords.drop n := by
    have hh : n = 1 ∨ n = 2 ∨ n = 3 ∨ n = 4 := by omega
    rcases hh with rfl | rfl | rfl | rfl
    · exact ⟨_, (blk_cell HR.out 1).trans rfl, rfl⟩
    · exact ⟨_, (blk_cell HR.out 2).trans rfl, rfl⟩
    · exact ⟨_, (blk_cell HR.out 3).trans rfl, rfl⟩
    · exact ⟨_, (blk_cell HR.out 4).trans rfl, rfl⟩
   obtain ⟨s, hcs, hdr⟩ := hc
   have h := H2.out
   rw [hdr] at h
   unfold aggFrom at h
   obtain ⟨⟨c, p3, q3, r3⟩, his, h⟩ := Option.bind_eq_some_iff.1 h
   simp only at h
   have HS := Aside0.mk his
   have HH := Aside0.mk h
   clear his h hdr H2
   go_wp2_with fail
   refine (verdererref12_reader_is.calls g l p1 q1 r2 s c p3 q3 r3 w0 _ hI2 hB2 HS.out).mono ?_
   rintro e w3 ⟨rfl, hI3, hB3, hk3⟩
   have hX3 := hX2.keepI hI2 hk3
   have hK3 := hK2.keep hk3 hX2.ge
   have HR3 := Aside0.mk (hk3.blk HR.out (Ne.symm (hI2.ne_blk HR.out (by decide))) (by simp))
   clear hI2 hB2 hX2 hK2 HR hk3 HS hcs
   cases c with
   | false =>
    have h := HH.out
    rw [if_neg (by decide)] at h
    go_wp2_with fail
    go_roundw
    case rel => exact ⟨n + 1, p3, q3, r3, by omega, by omega, by go_num, hI3, hB3, hX3, hK3, HR3, ⟨by simpa using h⟩⟩
    case measure => simp [intOf]; omega
   | true =>
    have h := HH.out
    rw [if_pos rfl] at h
    clear HH HR3
    unfold aggHit at h
    have hne := hX3.neI hI3
    have hgx := hX3.gx_ge
    have hbs := hX3.ge
    obtain ⟨v2, v6, BX, _, _, _⟩ := id hX3
    have z0 : w3.cell? ⟨gx, 0, none⟩ = some (.int .i64 kd) := (blk_cell BX 0).trans rfl
    clear BX
    by_cases h1 : kd = 1
    ·
     have h1b : (kd == 1) = true := by simp [h1]
     rw [if_pos (.inl h1)] at h
     have F3 : ∀ (x0 : Int) (x1 : ByteArray) (x2 : Int) (x3 : Bool) (x4 : Int) (x5 : ByteArray) (x6 : Int) (w : World), Sem.run Try.prog (Instr.field 73 (.agg #[.int .i64 x0, .string x1, .int .i64 x2, .bool x3, .int .i64 x4, .string x5, .int .i64 x6]) 3) w = .ok (.int .i64 x6) w := by intros; kernel_rfl
     obtain ⟨⟨u1, u2, u3, u4, u5, u6, u7, u8, u9, u10⟩, hu, h⟩ := Option.bind_eq_some_iff.1 h
     obtain ⟨⟨s1, s2, s3⟩, hs, h⟩ := Option.bind_eq_some_iff.1 h
     simp only [Option.some.injEq, Prod.mk.injEq] at h
     obtain ⟨rfl, rfl, rfl, rfl, rfl, rfl⟩ := h
     have HU := Aside0.mk hu
     have HS := Aside0.mk hs
     clear hu hs
     go_wp2_with fail
     refine (verdererref12_reader_now.callsB g l _ _ _ u1 u2 u3 u4 u5 u6 u7 u8 u9 u10 w0 _ hI3 hB3 HU.out).mono ?_
     rintro e w4 ⟨rfl, hb4⟩
     have hI4 := hI3.below hb4
     have hB4 := hB3.trans (hb4.mono hB3.size)
     have hX4 := hX3.below hb4
     have hK4 := hK3.below hb4 hbs
     clear hI3 hB3 hX3 hK3 hb4 z0
     go_wp2_with fail
     refine (verdererref12_reader_fail.calls g l _ _ _ 7 u7 s1 s2 s3 w0 _ hI4 hB4 HS.out).mono ?_
     rintro e w5 ⟨rfl, hI5, hB5, hk5⟩
     have hX5 := hX4.keepI hI4 hk5
     have hK5 := hK4.keep hk5 hX4.ge
     clear hI4 hB4 hX4 hK4 hk5
     go_wp2
     go_ret
     exact ⟨rfl, hI5, hB5, hX5, hK5⟩
    ·
     have h1b : (kd == 1) = false := by simp [h1]
     by_cases h3 : kd = 3
     ·
      have h3b : (kd == 3) = true := by simp [h3]
      by_cases h2 : (2 : Int) < n
      ·
       have h2b : decide ((2 : Int) < n) = true := decide_eq_true h2
       rw [if_pos (.inr ⟨h3, h2⟩)] at h
       have F3 : ∀ (x0 : Int) (x1 : ByteArray) (x2 : Int) (x3 : Bool) (x4 : Int) (x5 : ByteArray) (x6 : Int) (w : World), Sem.run Try.prog (Instr.field 73 (.agg #[.int .i64 x0, .string x1, .int .i64 x2, .bool x3, .int .i64 x4, .string x5, .int .i64 x6]) 3) w = .ok (.int .i64 x6) w := by intros; kernel_rfl
       obtain ⟨⟨u1, u2, u3, u4, u5, u6, u7, u8, u9, u10⟩, hu, h⟩ := Option.bind_eq_some_iff.1 h
       obtain ⟨⟨s1, s2, s3⟩, hs, h⟩ := Option.bind_eq_some_iff.1 h
       simp only [Option.some.injEq, Prod.mk.injEq] at h
       obtain ⟨rfl, rfl, rfl, rfl, rfl, rfl⟩ := h
       have HU := Aside0.mk hu
       have HS := Aside0.mk hs
       clear hu hs
       go_wp2_with fail
       refine (verdererref12_reader_now.callsB g l _ _ _ u1 u2 u3 u4 u5 u6 u7 u8 u9 u10 w0 _ hI3 hB3 HU.out).mono ?_
       rintro e w4 ⟨rfl, hb4⟩
       have hI4 := hI3.below hb4
       have hB4 := hB3.trans (hb4.mono hB3.size)
       have hX4 := hX3.below hb4
       have hK4 := hK3.below hb4 hbs
       clear hI3 hB3 hX3 hK3 hb4 z0
       go_wp2_with fail
       refine (verdererref12_reader_fail.calls g l _ _ _ 7 u7 s1 s2 s3 w0 _ hI4 hB4 HS.out).mono ?_
       rintro e w5 ⟨rfl, hI5, hB5, hk5⟩
       have hX5 := hX4.keepI hI4 hk5
       have hK5 := hK4.keep hk5 hX4.ge
       clear hI4 hB4 hX4 hK4 hk5
       go_wp2
       go_ret
       exact ⟨rfl, hI5, hB5, hX5, hK5⟩
      ·
       have h2b : decide ((2 : Int) < n) = false := decide_eq_false h2
       rw [if_neg (fun hh => hh.elim h1 (fun hh => h2 hh.2))] at h
       clear h3
       obtain ⟨⟨s1, s2, s3⟩, hs, h⟩ := Option.bind_eq_some_iff.1 h
       simp only at h
       have HS := Aside0.mk hs
       clear hs
       go_wp2_with fail
       refine (verdererref12_reader_step.calls g l _ _ _ s1 s2 s3 w0 _ hI3 hB3 HS.out).mono ?_
       rintro e w4 ⟨rfl, hI4, hB4, hk4⟩
       have hX4 := hX3.keepI hI3 hk4
       have hK4 := hK3.keep hk4 hbs
       clear hI3 hB3 hX3 hK3 hk4 HS z0
       obtain ⟨v2, v6, BX, _, _, _⟩ := id hX4
       have z3 : w4.cell? ⟨gx, 3, none⟩ = some (.int .i64 ag) := (blk_cell BX 3).trans rfl
       have zf := blk_frozen BX 3
       clear BX
       go_upto_region 11 with (fail)
       have hX5 := hX4.set3 (n : Int)
       have hI5 := hI4.far (p := ⟨gx, 3, none⟩) (Ne.symm hne) (.int .i64 (n : Int))
       have hB5 := hB4.setCell (p := ⟨gx, 3, none⟩) (Nat.le_trans h0 hgx) (.int .i64 (n : Int))
       have hK5 := hK4.set (p := ⟨gx, 3, none⟩) hgx (.int .i64 (n : Int))
       generalize w4.setCell ⟨gx, 3, none⟩ (.int .i64 (n : Int)) = w5 at hX5 hI5 hB5 hK5 ⊢
       clear hI4 hB4 hX4 hK4 z3 zf
       by_cases h5 : (1 : Int) < n
       ·
        have h5b : decide ((1 : Int) < n) = true := decide_eq_true h5
        rw [if_pos h5] at h
        obtain ⟨⟨m1, m2, m3, m4⟩, hm, h⟩ := Option.bind_eq_some_iff.1 h
        simp only [Option.some.injEq, Prod.mk.injEq] at h
        obtain ⟨rfl, rfl, rfl, rfl, rfl, rfl⟩ := h
        have HM := Aside0.mk hm
        clear hm
        go_wp2_with fail
        refine (verdererref12_reader_name.calls k g l _ _ _ m1 m2 m3 m4 w0 _ hI5 hB5 HM.out).mono ?_
        rintro e w6 ⟨rfl, hI6, hB6, hk6⟩
        have hX6 := hX5.keepI hI5 hk6
        have hK6 := hK5.keep hk6 hX5.ge
        clear hI5 hB5 hX5 hK5 hk6
        obtain ⟨v2, v6, BX, _, _, _⟩ := id hX6
        have z4 : w6.cell? ⟨gx, 4, none⟩ = some (.string og) := (blk_cell BX 4).trans rfl
        have zf := blk_frozen BX 4
        clear BX
        have hX7 := hX6.set4 m1
        have hI7 := hI6.far (p := ⟨gx, 4, none⟩) (Ne.symm hne) (.string m1)
        have hB7 := hB6.setCell (p := ⟨gx, 4, none⟩) (Nat.le_trans h0 hgx) (.string m1)
        have hK7 := hK6.set (p := ⟨gx, 4, none⟩) hgx (.string m1)
        go_wp2
        go_ret
        exact ⟨rfl, hI7, hB7, hX7, hK7⟩
       ·
        have h5b : decide ((1 : Int) < n) = false := decide_eq_false h5
        rw [if_neg h5] at h
        simp only [Option.some.injEq, Prod.mk.injEq] at h
        obtain ⟨rfl, rfl, rfl, rfl, rfl, rfl⟩ := h
        go_wp2
        go_ret
        exact ⟨rfl, hI5, hB5, hX5, hK5⟩
     ·
      have h3b : (kd == 3) = false := by simp [h3]
      rw [if_neg (fun hh => hh.elim h1 (fun hh => h3 hh.1))] at h
      obtain ⟨⟨s1, s2, s3⟩, hs, h⟩ := Option.bind_eq_some_iff.1 h
      simp only at h
      have HS := Aside0.mk hs
      clear hs
      go_wp2_with fail
      refine (verdererref12_reader_step.calls g l _ _ _ s1 s2 s3 w0 _ hI3 hB3 HS.out).mono ?_
      rintro e w4 ⟨rfl, hI4, hB4, hk4⟩
      have hX4 := hX3.keepI hI3 hk4
      have hK4 := hK3.keep hk4 hbs
      clear hI3 hB3 hX3 hK3 hk4 HS z0
      obtain ⟨v2, v6, BX, _, _, _⟩ := id hX4
      have z3 : w4.cell? ⟨gx, 3, none⟩ = some (.int .i64 ag) := (blk_cell BX 3).trans rfl
      have zf := blk_frozen BX 3
      clear BX
      go_upto_region 11 with (fail)
      have hX5 := hX4.set3 (n : Int)
      have hI5 := hI4.far (p := ⟨gx, 3, none⟩) (Ne.symm hne) (.int .i64 (n : Int))
      have hB5 := hB4.setCell (p := ⟨gx, 3, none⟩) (Nat.le_trans h0 hgx) (.int .i64 (n : Int))
      have hK5 := hK4.set (p := ⟨gx, 3, none⟩) hgx (.int .i64 (n : Int))
      generalize w4.setCell ⟨gx, 3, none⟩ (.int .i64 (n : Int)) = w5 at hX5 hI5 hB5 hK5 ⊢
      clear hI4 hB4 hX4 hK4 z3 zf
      by_cases h5 : (1 : Int) < n
      ·
       have h5b : decide ((1 : Int) < n) = true := decide_eq_true h5
       rw [if_pos h5] at h
       obtain ⟨⟨m1, m2, m3, m4⟩, hm, h⟩ := Option.bind_eq_some_iff.1 h
       simp only [Option.some.injEq, Prod.mk.injEq] at h
       obtain ⟨rfl, rfl, rfl, rfl, rfl, rfl⟩ := h
       have HM := Aside0.mk hm
       clear hm
       go_wp2_with fail
       refine (verdererref12_reader_name.calls k g l _ _ _ m1 m2 m3 m4 w0 _ hI5 hB5 HM.out).mono ?_
       rintro e w6 ⟨rfl, hI6, hB6, hk6⟩
       have hX6 := hX5.keepI hI5 hk6
       have hK6 := hK5.keep hk6 hX5.ge
       clear hI5 hB5 hX5 hK5 hk6
       obtain ⟨v2, v6, BX, _, _, _⟩ := id hX6
       have z4 : w6.cell? ⟨gx, 4, none⟩ = some (.string og) := (blk_cell BX 4).trans rfl
       have zf := blk_frozen BX 4
       clear BX
       have hX7 := hX6.set4 m1
       have hI7 := hI6.far (p := ⟨gx, 4, none⟩) (Ne.symm hne) (.string m1)
       have hB7 := hB6.setCell (p := ⟨gx, 4, none⟩) (Nat.le_trans h0 hgx) (.string m1)
       have hK7 := hK6.set (p := ⟨gx, 4, none⟩) hgx (.string m1)
       go_wp2
       go_ret
       exact ⟨rfl, hI7, hB7, hX7, hK7⟩
      ·
       have h5b : decide ((1 : Int) < n) = false := decide_eq_false h5
       rw [if_neg h5] at h
       simp only [Option.some.injEq, Prod.mk.injEq] at h
       obtain ⟨rfl, rfl, rfl, rfl, rfl, rfl⟩ := h
       go_wp2
       go_ret
       exact ⟨rfl, hI5, hB5, hX5, hK5⟩
  ·
   obtain rfl : n = 5 := by omega
   have h := H2.out
   simp only [aggWords, List.drop, aggFrom, Option.some.injEq, Prod.mk.injEq] at h
   obtain ⟨rfl, rfl, rfl, rfl, rfl, rfl⟩ := h
   clear H2 HR
   go_wp2
   go_ret
   exact ⟨rfl, hI2, hB2, hX2, hK2⟩
/-! ### verdererref12_reader_head: function 40 -/
section
variable {w w0 W W1 W2 : World} {base gx g : Nat} {kd : Int} {nm : ByteArray} {hd hd' : List ByteArray} {ag : Int} {og : ByteArray} {lim : Int} {bd bd' : List (S41)} {v1 v2 v6 : Value}
theorem rule_blk2 (BX : W.heap[gx]? = some (.cells #[.int .i64 kd, .string nm, v2, .int .i64 ag, .string og, .int .i64 lim, v6] 25 (0, 0))) (R2 : Kd.R Kd.string 9 W base (fun _ => True) v2 hd) (hg : W.grownBy W1 v2.ownBlock) : W1.heap[gx]? = some (.cells #[.int .i64 kd, .string nm, v2, .int .i64 ag, .string og, .int .i64 lim, v6] 25 (0, 0)) :=
 (hg.block gx (blk_lt BX) (Kd.R_ne R2 BX (by decide))).trans BX
theorem rule_put2 (BX : W.heap[gx]? = some (.cells #[.int .i64 kd, .string nm, v2, .int .i64 ag, .string og, .int .i64 lim, v6] 25 (0, 0))) (hb : base ≤ gx) (R2 : Kd.R Kd.string 9 W base (fun _ => True) v2 hd) (R6 : Kd.R k41 41 W base (fun _ => True) v6 bd) (R1 : Kd.R Kd.string 9 W1 base (fun _ => True) v1 hd') (hg : W.grownBy W1 v2.ownBlock) : RuleAt (W1.setCell ⟨gx, 2, none⟩ v1) base gx kd nm hd' ag og lim bd := by
 have BX1 := rule_blk2 BX R2 hg
 exact ⟨v1, v6, blk_put BX1 2 _ rfl, hb, Kd.R_set R1 BX1 (by decide) 2 _, Kd.R_set (Kd.R_over R6 R2 (by decide) hg) BX1 (by decide) 2 _⟩
end
def headL (k : Nat) (l : List (S73)) (kd : Int) : Nat → List ByteArray → Int → ByteArray → Int → Int → Int → Option (List ByteArray × Int × ByteArray × Int × Int × Int)
 | 0, hd, ag, og, p, q, r => some (hd, ag, og, p, q, r)
 | n + 1, hd, ag, og, p, q, r => if q = 0 then (verdererref12_reader_agg.f k l p q r kd ag og).bind fun b => (if b.1 = true then some (hd, b.2.1, b.2.2.1, b.2.2.2.1, b.2.2.2.2.1, b.2.2.2.2.2) else
   (verdererref12_reader_now.f l b.2.2.2.1 b.2.2.2.2.1 b.2.2.2.2.2).bind fun u => (verdererref12_reader_name.f k l b.2.2.2.1 b.2.2.2.2.1 b.2.2.2.2.2).bind fun m => (if 40 ≤ (hd.length : Int) then verdererref12_reader_fail.f l m.2.1 m.2.2.1 m.2.2.2 9 u.2.2.2.2.2.2.1 else some (m.2.1, m.2.2.1, m.2.2.2)).bind fun s =>
   (if hd.length < 100000 then (verdererref12_reader_take.f l s.1 s.2.1 s.2.2 ⟨#[44]⟩).bind fun c => (if c.1 = true then headL k l kd n (hd ++ [m.1]) b.2.1 b.2.2.1 c.2.1 c.2.2.1 c.2.2.2 else some (hd ++ [m.1], b.2.1, b.2.2.1, c.2.1, c.2.2.1, c.2.2.2)) else none)) else some (hd, ag, og, p, q, r)
def headQ (k : Nat) (l : List (S73)) (hd : List ByteArray) (ag : Int) (og : ByteArray) (p q r : Int) : Option (List ByteArray × Int × ByteArray × Int × Int × Int) :=
 (verdererref12_reader_name.f k l p q r).bind fun m => (if hd.length < 100000 then (verdererref12_reader_must.f l m.2.1 m.2.2.1 m.2.2.2 ⟨#[44]⟩).bind fun s => (verdererref12_reader_agg.f k l s.1 s.2.1 s.2.2 3 ag og).bind fun b => (if b.1 = true then some (hd ++ [m.1], b.2.1, b.2.2.1, b.2.2.2.1, b.2.2.2.2.1, b.2.2.2.2.2) else
  (verdererref12_reader_now.f l b.2.2.2.1 b.2.2.2.2.1 b.2.2.2.2.2).bind fun u => (verdererref12_reader_fail.f l b.2.2.2.1 b.2.2.2.2.1 b.2.2.2.2.2 7 u.2.2.2.2.2.2.1).bind fun x => some (hd ++ [m.1], b.2.1, b.2.2.1, x.1, x.2.1, x.2.2)) else none)
def verdererref12_reader_head.f (k : Nat) (l : List (S73)) (p q r : Int) (kd ag : Int) (og : ByteArray) (hd : List ByteArray) : Option (List ByteArray × Int × ByteArray × Int × Int × Int) := if kd = 3 then headQ k l hd ag og p q r else headL k l kd 400 hd ag og p q r
set_option maxHeartbeats 4000000 in
set_option maxRecDepth 100000 in
theorem verdererref12_reader_head.calls (k : Nat) (g gx base : Nat) (l : List (S73)) (p q r : Int) (kd ag : Int) (og : ByteArray) (nm : ByteArray) (hd : List ByteArray) (lim : Int) (bd : List (S41)) (hd' : List ByteArray) (ag' : Int) (og' : ByteArray) (p' q' r' : Int) (w0 w : World) (hI : IsS69 w0 w g l p q r) (hB : Below w0.heap.size w0 w) (hX : RuleAt w base gx kd nm hd ag og lim bd) (h0 : w0.heap.size ≤ base) (h : verdererref12_reader_head.f k l p q r kd ag og hd = some (hd', ag', og', p', q', r')) :
  Calls Try.prog 40 #[.pointer (some ⟨g, 0, none⟩), .pointer (some ⟨gx, 0, none⟩)] w fun e w' => e = .returned (.tuple #[]) ∧ IsS69 w0 w' g l p' q' r' ∧ Below w0.heap.size w0 w' ∧ RuleAt w' base gx kd nm hd' ag' og' lim bd ∧ KB w w' base g := by
 unfold verdererref12_reader_head.f at h
 have hne := hX.neI hI
 have hgx := hX.gx_ge
 have hbs := hX.ge
 obtain ⟨v2, v6, BX, _, R2, R6⟩ := id hX
 have z0 : w.cell? ⟨gx, 0, none⟩ = some (.int .i64 kd) := (blk_cell BX 0).trans rfl
 go_enter Try.func40, Try.ntmps40
 by_cases h3 : kd = 3
 ·
  subst h3
  rw [if_pos rfl] at h
  clear R2 R6 BX
  go_upto_region 1 with (fail)
  unfold headQ at h
  obtain ⟨⟨m1, m2, m3, m4⟩, hm, h⟩ := Option.bind_eq_some_iff.1 h
  simp only at h
  split at h
  case isFalse => cases h
  rename_i hlen
  obtain ⟨⟨s1, s2, s3⟩, hs, h⟩ := Option.bind_eq_some_iff.1 h
  obtain ⟨⟨b1, ag2, og2, p2, q2, r2⟩, ha, h⟩ := Option.bind_eq_some_iff.1 h
  simp only at h
  have HM := Aside0.mk hm
  have HS := Aside0.mk hs
  have HA := Aside0.mk ha
  have HH := Aside0.mk h
  clear hm hs ha h z0
  have hX0 := hX.drew
  have hI0 := hI.drew
  have hB0 := below_drew1 hB
  have hK0 : KB w w.drew base g := (KB.refl w base g).below (below_drew (Below.refl _ _)) hbs
  obtain ⟨v2, v6, BX, _, R2, R6⟩ := id hX0
  obtain ⟨A2, c2, rfl⟩ := Kd.R_slice R2
  have BXo := Aside0.mk BX
  have R2o := Aside0.mk R2
  have R6o := Aside0.mk R6
  clear R2 R6
  have z2 : w.cell? ⟨gx, 2, none⟩ = some (.slice A2 hd.length c2) := (blk_cell BX 2).trans rfl
  clear BX
  refine start_ (n := 12) (S := fun w' => w'.cell? ⟨gx, 2, none⟩ = some (.slice A2 hd.length c2)) (ds := [11]) #[false, false, false, false, false, false, false, false, false, false, false, false] (by kernel_rfl) rfl rfl z2 (fun hHeld => ?_)
  refine pure_ (i := 0) (N := some 12) (v := ?_) (a' := ?_) #[true, false, false, false, false, false, false, false, false, false, false, false] rfl rfl (by kernel_rfl) (fun _ _ _ h => h) (Or.inl ⟨by rfl, ?_⟩) ?_ ?_
  rotate_left
  ·
   intro w'
   go_simp
   with_reducible rfl
  rotate_left
  ·
   simp only [Act.put, List.setIfInBounds_toArray, List.set_cons_zero, List.set_cons_succ, i64_w, i32_w]
   rfl
  refine pure_ (i := 1) (N := some 13) (v := ?_) (a' := ?_) #[true, true, false, false, false, false, false, false, false, false, false, false] rfl rfl (by kernel_rfl) (fun _ _ _ h => h) (Or.inl ⟨by rfl, ?_⟩) ?_ ?_
  rotate_left
  ·
   intro w'
   go_simp
   with_reducible rfl
  rotate_left
  ·
   simp only [Act.put, List.setIfInBounds_toArray, List.set_cons_zero, List.set_cons_succ, i64_w, i32_w]
   rfl
  refine pure_ (i := 2) (N := some 14) (v := ?_) (a' := ?_) #[true, true, true, false, false, false, false, false, false, false, false, false] rfl rfl (by kernel_rfl) (fun _ _ _ h => h) (Or.inl ⟨by rfl, ?_⟩) ?_ ?_
  rotate_left
  ·
   intro w'
   go_simp
   with_reducible rfl
  rotate_left
  ·
   simp only [Act.put, List.setIfInBounds_toArray, List.set_cons_zero, List.set_cons_succ, i64_w, i32_w]
   rfl
  refine pure_ (i := 3) (N := some 15) (v := ?_) (a' := ?_) #[true, true, true, true, false, false, false, false, false, false, false, false] rfl rfl (by kernel_rfl) (fun _ _ _ h => h) (Or.inl ⟨by rfl, ?_⟩) ?_ ?_
  rotate_left
  ·
   intro w'
   go_simp
   with_reducible rfl
  rotate_left
  ·
   simp only [Act.put, List.setIfInBounds_toArray, List.set_cons_zero, List.set_cons_succ, i64_w, i32_w]
   rfl
  refine take_ (i := 4) (N := some 16) (v := ?_) (a' := ?_) #[true, true, true, true, true, false, false, false, false, false, false, false] rfl rfl (by kernel_rfl) (fun _ _ _ h => h) (Or.inl ⟨by rfl, ?_⟩) hHeld ?_ ?_
  rotate_left
  ·
   rintro w' e0
   go_simp
   with_reducible rfl
  rotate_left
  ·
   simp only [Act.put, List.setIfInBounds_toArray, List.set_cons_zero, List.set_cons_succ, i64_w, i32_w]
   rfl
  refine pure_ (i := 5) (N := some 17) (v := ?_) (a' := ?_) #[true, true, true, true, true, true, false, false, false, false, false, false] rfl rfl (by kernel_rfl) (fun _ _ _ h => h) (Or.inl ⟨by rfl, ?_⟩) ?_ ?_
  rotate_left
  ·
   intro w'
   go_simp
   with_reducible rfl
  rotate_left
  ·
   simp only [Act.put, List.setIfInBounds_toArray, List.set_cons_zero, List.set_cons_succ, i64_w, i32_w]
   rfl
  refine one_ (i := 6) (N := some 18) #[true, true, true, true, true, true, true, false, false, false, false, false] rfl rfl (by kernel_rfl) (by decide) (fun K hK => ?_)
  refine goes_ Try.func38 (by kernel_rfl) rfl #[.pointer (some ⟨g, 0, none⟩)] (by rfl) rfl rfl (by (try simp only [List.map_toArray, List.map_cons, List.map_nil]); rfl) ?_
  refine (verdererref12_reader_name.calls k g l _ _ _ m1 m2 m3 m4 w0 _ hI0 hB0 HM.out).mono ?_
  rintro e w1 ⟨rfl, hI1, hB1, hk1⟩
  have BX1 := Aside0.mk (hk1.blk BXo.out hne (by simp))
  have R21 := Aside0.mk (Kd.R_mono (Kd.R_keep (hI0.apart R2o.out (by decide)) hk1 (fun _ h => h.2)) (fun _ _ => trivial))
  have R61 := Aside0.mk (Kd.R_mono (Kd.R_keep (hI0.apart R6o.out (by decide)) hk1 (fun _ h => h.2)) (fun _ _ => trivial))
  have hK1 := hK0.keep hk1 hX0.ge
  have hbs1 : base ≤ w1.heap.size := Nat.le_trans hbs hk1.1
  refine ⟨_, rfl, hK.out _ _ ((blk_cell BX1.out 2).trans rfl) (fun hHeld => ?_)⟩
  clear hK K
  refine norm_ (a' := ?_) ?_ ?_
  rotate_left
  ·
   show Act.put _ (some 18) _ = _
   simp only [Act.put, List.setIfInBounds_toArray, List.set_cons_zero, List.set_cons_succ, i64_w, i32_w]
   rfl
  refine one_ (i := 7) (N := some 19) #[true, true, true, true, true, true, true, true, false, false, false, false] rfl rfl (by kernel_rfl) (by decide) (fun K hK => ?_)
  refine value_ (w1 := w1.alloc (.cells #[.string m1] 9)) (v := .slice (some ⟨w1.heap.size, 0, none⟩) 1 1) (by rfl) rfl ?_ ?_
  · go_simp
  refine hK.out _ _ ((blk_cell (blk_alloc BX1.out _) 2).trans rfl) (fun hHeld => ?_)
  clear hK K
  refine norm_ (a' := ?_) ?_ ?_
  rotate_left
  ·
   show Act.put _ (some 19) _ = _
   simp only [Act.put, List.setIfInBounds_toArray, List.set_cons_zero, List.set_cons_succ, i64_w, i32_w]
   rfl
  refine one_ (i := 8) (N := some 20) #[true, true, true, true, true, true, true, true, true, false, false, false] rfl rfl (by kernel_rfl) (by decide) (fun K hK => ?_)
  refine Kd.R_append_step Kd.string (w0 := w1) base (by rfl) (.tmp 16) (.tmp 19) 22 9 (.string ⟨#[]⟩) 16 rfl Try.underlying22 (by kernel_rfl) rfl (by decide) (by omega) (.slice A2 hd.length c2) hd m1 [.string m1] (fun _ => True) (fun _ => False) rfl rfl (show Kd.M Kd.string _ _ _ m1 [.string m1] from rfl) (fun _ hk => hk.elim) (fun _ _ => trivial) R21.out (Below.refl _ _) hbs1 (by omega) ?_
  intro v1 w6 ho hb6 hg6 hat6
  obtain ⟨A6, c6, rfl⟩ := Kd.R_slice ho
  have BX6 := Aside0.mk (rule_blk2 BX1.out R21.out hg6)
  refine hK.out _ _ ((blk_cell BX6.out 2).trans rfl) (fun hHeld => ?_)
  clear hK K
  refine norm_ (a' := ?_) ?_ ?_
  rotate_left
  ·
   show Act.put _ (some 20) _ = _
   simp only [Act.put, List.setIfInBounds_toArray, List.set_cons_zero, List.set_cons_succ, i64_w, i32_w]
   rfl
  refine pure_ (i := 9) (N := some 21) (v := ?_) (a' := ?_) #[true, true, true, true, true, true, true, true, true, true, false, false] rfl rfl (by kernel_rfl) (fun _ _ _ h => h) (Or.inl ⟨by rfl, ?_⟩) ?_ ?_
  rotate_left
  ·
   intro w'
   go_simp
   with_reducible rfl
  rotate_left
  ·
   simp only [Act.put, List.setIfInBounds_toArray, List.set_cons_zero, List.set_cons_succ, i64_w, i32_w]
   rfl
  refine pure_ (i := 10) (N := some 22) (v := ?_) (a' := ?_) #[true, true, true, true, true, true, true, true, true, true, true, false] rfl rfl (by kernel_rfl) (fun _ _ _ h => h) (Or.inl ⟨by rfl, ?_⟩) ?_ ?_
  rotate_left
  ·
   intro w'
   go_simp
   with_reducible rfl
  rotate_left
  ·
   simp only [Act.put, List.setIfInBounds_toArray, List.set_cons_zero, List.set_cons_succ, i64_w, i32_w]
   rfl
  refine last_ (i := 11) (N := none) #[true, true, true, true, true, true, true, true, true, true, true, true] rfl rfl (by kernel_rfl) (by decide) (fun K hK => ?_)
  have z6 : w6.cell? ⟨gx, 2, none⟩ = some (.slice A2 hd.length c2) := (blk_cell BX6.out 2).trans rfl
  have zf6 := blk_frozen BX6.out 2
  have hX7 := rule_put2 BX1.out hgx R21.out R61.out ho hg6
  have hI6 := hI1.grown hg6 (hI1.own_ne R21.out (by decide))
  have hB6 := pw_below_grown hB1 _ (Nat.le_trans h0 hbs1) hg6 (fun k hk => Nat.le_trans h0 (Kd.R_base R21.out k hk))
  have hK6 := hK1.grown hg6 (Kd.R_base R21.out) hbs1
  have hI7 := hI6.far (p := ⟨gx, 2, none⟩) (Ne.symm hne) (.slice A6 (hd ++ [m1]).length c6)
  have hB7 := hB6.setCell (p := ⟨gx, 2, none⟩) (Nat.le_trans h0 hgx) (.slice A6 (hd ++ [m1]).length c6)
  have hK7 := hK6.set (p := ⟨gx, 2, none⟩) hgx (.slice A6 (hd ++ [m1]).length c6)
  refine skip_ (w1 := w6.setCell ⟨gx, 2, none⟩ (.slice A6 (hd ++ [m1]).length c6)) (by rfl) rfl ?_ ?_
  · go_simp
  refine hK.out _ _ (done_ (by kernel_rfl) ?_)
  clear hK K hHeld
  have el : (hd ++ [m1]).length = hd.length + 1 := by simp
  generalize w6.setCell ⟨gx, 2, none⟩ (.slice A6 (hd ++ [m1]).length c6) = w7 at hX7 hI7 hB7 hK7 ⊢
  clear hI6 hB6 hK6 hI1 hB1 hK1 hI0 hB0 hX0 hK0 R2o R6o BXo BX1 R21 R61 BX6 ho hb6 hg6 hat6 z2 z6 zf6 el hX hI hB hk1 HM
  go_wp2_with fail
  refine (verdererref12_reader_must.calls g l _ _ _ ⟨#[44]⟩ s1 s2 s3 w0 _ hI7 hB7 HS.out).mono ?_
  rintro e w8 ⟨rfl, hI8, hB8, hk8⟩
  have hX8 := hX7.keepI hI7 hk8
  have hK8 := hK7.keep hk8 hX7.ge
  clear hI7 hB7 hX7 hK7 hk8
  go_wp2_with fail
  refine (verdererref12_reader_agg.calls k g gx base l _ _ _ 3 ag og nm (hd ++ [m1]) lim bd b1 ag2 og2 p2 q2 r2 w0 _ hI8 hB8 hX8 h0 HA.out).mono ?_
  rintro e w9 ⟨rfl, hI9, hB9, hX9, hkb⟩
  have hK9 := hK8.trans hkb
  clear hI8 hB8 hX8 hK8 hkb
  have h := HH.out
  cases b1 with
  | true =>
   rw [if_pos rfl] at h
   simp only [Option.some.injEq, Prod.mk.injEq] at h
   obtain ⟨rfl, rfl, rfl, rfl, rfl, rfl⟩ := h
   go_wp2
   first | go_end0 | ((try simp only [Exit.inBlock, Exit.then]); refine bodyPost_ret (results_none rfl _ _ _) rfl ?_)
   exact ⟨rfl, hI9, hB9, hX9, hK9⟩
  | false =>
   rw [if_neg (by decide)] at h
   obtain ⟨⟨u1, u2, u3, u4, u5, u6, u7, u8, u9, u10⟩, hu, h⟩ := Option.bind_eq_some_iff.1 h
   obtain ⟨⟨x1, x2, x3⟩, hx, h⟩ := Option.bind_eq_some_iff.1 h
   simp only [Option.some.injEq, Prod.mk.injEq] at h
   obtain ⟨rfl, rfl, rfl, rfl, rfl, rfl⟩ := h
   have HU := Aside0.mk hu
   have HX := Aside0.mk hx
   clear hu hx HH
   have F3 : ∀ (x0 : Int) (x1 : ByteArray) (x2 : Int) (x3 : Bool) (x4 : Int) (x5 : ByteArray) (x6 : Int) (w : World), Sem.run Try.prog (Instr.field 73 (.agg #[.int .i64 x0, .string x1, .int .i64 x2, .bool x3, .int .i64 x4, .string x5, .int .i64 x6]) 3) w = .ok (.int .i64 x6) w := by intros; kernel_rfl
   go_wp2_with fail
   refine (verdererref12_reader_now.callsB g l _ _ _ u1 u2 u3 u4 u5 u6 u7 u8 u9 u10 w0 _ hI9 hB9 HU.out).mono ?_
   rintro e w10 ⟨rfl, hb10⟩
   have hI10 := hI9.below hb10
   have hB10 := hB9.trans (hb10.mono hB9.size)
   have hX10 := hX9.below hb10
   have hK10 := hK9.below hb10 hX9.ge
   clear hI9 hB9 hX9 hK9 hb10
   go_wp2_with fail
   refine (verdererref12_reader_fail.calls g l _ _ _ 7 u7 x1 x2 x3 w0 _ hI10 hB10 HX.out).mono ?_
   rintro e w11 ⟨rfl, hI11, hB11, hk11⟩
   have hX11 := hX10.keepI hI10 hk11
   have hK11 := hK10.keep hk11 hX10.ge
   clear hI10 hB10 hX10 hK10 hk11
   go_wp2
   first | go_end0 | ((try simp only [Exit.inBlock, Exit.then]); refine bodyPost_ret (results_none rfl _ _ _) rfl ?_)
   exact ⟨rfl, hI11, hB11, hX11, hK11⟩
 ·
  rw [if_neg h3] at h
  have h3b : (kd == 3) = false := by simp [h3]
  clear h3 R2 R6 BX
  have H := Aside0.mk h
  clear h
  go_wp2
  clear z0
  go_loopw [4] (fun v wr => ∃ n m : Nat, ∃ hd1 : List ByteArray, ∃ ag1 : Int, ∃ og1 : ByteArray, ∃ p1 q1 r1 : Int, n + m = 400 ∧ v = .int .i64 n ∧ IsS69 w0 wr g l p1 q1 r1 ∧ Below w0.heap.size w0 wr ∧ RuleAt wr base gx kd nm hd1 ag1 og1 lim bd ∧ KB w wr base g ∧ Aside0 (headL k l kd m hd1 ag1 og1 p1 q1 r1 = some (hd', ag', og', p', q', r'))) (fun v _ => 400 - (intOf v).toNat)
  case atStart => exact ⟨0, 400, hd, ag, og, p, q, r, rfl, rfl, hI, hB, hX, KB.refl w base g, H⟩
  case round =>
   obtain ⟨n, m, hd1, ag1, og1, p1, q1, r1, hnm, rfl, hI1, hB1, hX1, hK1, H1⟩ := hrel
   clear hI hB hX H
   by_cases hlt : n < 400
   ·
    obtain ⟨m, rfl⟩ : ∃ j, m = j + 1 := ⟨m - 1, by omega⟩
    have hlt' : (n : Int) < 400 := by omega
    have h := H1.out
    clear H1
    unfold headL at h
    obtain ⟨A0, c0, hgb, _, _⟩ := id hI1
    have z2 : wr.cell? ⟨g, 2, none⟩ = some (.int .i64 q1) := (blk_cell hgb 2).trans rfl
    clear hgb
    by_cases hq : q1 = 0
    ·
     rw [if_pos hq] at h
     have hqb : (q1 == 0) = true := by simp [hq]
     clear hq
     obtain ⟨⟨b1, ag2, og2, p2, q2, r2⟩, ha, h⟩ := Option.bind_eq_some_iff.1 h
     simp only at h
     have HA := Aside0.mk ha
     clear ha
     go_wp2_with fail
     refine (verdererref12_reader_agg.calls k g gx base l p1 q1 r1 kd ag1 og1 nm hd1 lim bd b1 ag2 og2 p2 q2 r2 w0 _ hI1 hB1 hX1 h0 HA.out).mono ?_
     rintro e w2 ⟨rfl, hI2, hB2, hX2, hkb⟩
     have hK2 := hK1.trans hkb
     clear hI1 hB1 hX1 hK1 hkb z2 hqb HA
     cases b1 with
     | true =>
      rw [if_pos rfl] at h
      simp only [Option.some.injEq, Prod.mk.injEq] at h
      obtain ⟨rfl, rfl, rfl, rfl, rfl, rfl⟩ := h
      go_wp2
      first | go_end0 | ((try simp only [Exit.inBlock, Exit.then]); refine bodyPost_ret (results_none rfl _ _ _) rfl ?_)
      exact ⟨rfl, hI2, hB2, hX2, hK2⟩
     | false =>
      rw [if_neg (by decide)] at h
      obtain ⟨⟨u1, u2, u3, u4, u5, u6, u7, u8, u9, u10⟩, hu, h⟩ := Option.bind_eq_some_iff.1 h
      obtain ⟨⟨m1, m2, m3, m4⟩, hm, h⟩ := Option.bind_eq_some_iff.1 h
      obtain ⟨⟨s1, s2, s3⟩, hs, h⟩ := Option.bind_eq_some_iff.1 h
      simp only at h hs
      split at h
      case isFalse => cases h
      rename_i hlen
      obtain ⟨⟨c, p5, q5, r5⟩, hc, h⟩ := Option.bind_eq_some_iff.1 h
      simp only at h
      have HU := Aside0.mk hu
      have HM := Aside0.mk hm
      have HS := Aside0.mk hs
      have HC := Aside0.mk hc
      have HH := Aside0.mk h
      clear hu hm hs hc h
      have F3 : ∀ (x0 : Int) (x1 : ByteArray) (x2 : Int) (x3 : Bool) (x4 : Int) (x5 : ByteArray) (x6 : Int) (w : World), Sem.run Try.prog (Instr.field 73 (.agg #[.int .i64 x0, .string x1, .int .i64 x2, .bool x3, .int .i64 x4, .string x5, .int .i64 x6]) 3) w = .ok (.int .i64 x6) w := by intros; kernel_rfl
      go_wp2_with fail
      refine (verdererref12_reader_now.callsB g l _ _ _ u1 u2 u3 u4 u5 u6 u7 u8 u9 u10 w0 _ hI2 hB2 HU.out).mono ?_
      rintro e w3 ⟨rfl, hb3⟩
      have hI3 := hI2.below hb3
      have hB3 := hB2.trans (hb3.mono hB2.size)
      have hX3 := hX2.below hb3
      have hK3 := hK2.below hb3 hX2.ge
      clear hI2 hB2 hX2 hK2 hb3
      go_wp2_with fail
      refine (verdererref12_reader_name.calls k g l _ _ _ m1 m2 m3 m4 w0 _ hI3 hB3 HM.out).mono ?_
      rintro e w4 ⟨rfl, hI4, hB4, hk4⟩
      have hX4 := hX3.keepI hI3 hk4
      have hK4 := hK3.keep hk4 hX3.ge
      clear hI3 hB3 hX3 hK3 hk4 F3
      obtain ⟨v2, v6, BX, _, R2, _⟩ := id hX4
      obtain ⟨A2, c2, rfl⟩ := Kd.R_slice R2
      have z2 : w4.cell? ⟨gx, 2, none⟩ = some (.slice A2 hd1.length c2) := (blk_cell BX 2).trans rfl
      clear BX R2
      have hnn : (0 : Int) ≤ (hd1.length : Int) := by omega
      have hs := HS.out
      by_cases h40 : 40 ≤ (hd1.length : Int)
      ·
       have h40b : decide ((40 : Int) ≤ (hd1.length : Int)) = true := decide_eq_true h40
       rw [if_pos h40] at hs
       have HS2 := Aside0.mk hs
       clear HS hs h40
       go_wp2_with fail
       refine (verdererref12_reader_fail.calls g l _ _ _ 9 u7 s1 s2 s3 w0 _ hI4 hB4 HS2.out).mono ?_
       rintro e w5 ⟨rfl, hI5, hB5, hk5⟩
       have hX5 := hX4.keepI hI4 hk5
       have hK5 := hK4.keep hk5 hX4.ge
       clear hI4 hB4 hX4 hK4 hk5 z2 h40b HS2
       obtain ⟨v2, v6, BX, _, R2, R6⟩ := id hX5
       have R2o := Aside0.mk R2
       have R6o := Aside0.mk R6
       have BXo := Aside0.mk BX
       obtain ⟨A2, c2, rfl⟩ := Kd.R_slice R2
       have z2 : w5.cell? ⟨gx, 2, none⟩ = some (.slice A2 hd1.length c2) := (blk_cell BX 2).trans rfl
       have hbs5 := hX5.ge
       clear BX R2 R6
       go_upto_region 14 with (first | ((with_reducible refine gate_builtin (b := .append) (xs := #[.tmp 66, .tmp 68]) rfl ?_); at_builtin; refine Kd.R_append Kd.string (w0 := w5) base rfl (.tmp 66) (.tmp 68) 22 9 (.string ⟨#[]⟩) 16 rfl Try.underlying22 (by kernel_rfl) rfl (by decide) (by omega) _ hd1 m1 [.string m1] (fun _ => True) (fun _ => False) rfl rfl ?aP (fun _ hk => hk.elim) (fun _ _ => trivial) R2o.out (Below.refl _ _) hbs5 ?aL ?_; (case aP => exact (show Kd.M Kd.string _ _ _ m1 [.string m1] from rfl)); (case aL => omega); intro v1 w6 ho hb6 hg6 hat6; obtain ⟨A6, c6, rfl⟩ := Kd.R_slice ho; have BX6 := rule_blk2 BXo.out R2o.out hg6; have y2 : w6.cell? ⟨gx, 2, none⟩ = some (.slice A2 hd1.length c2) := (blk_cell BX6 2).trans rfl; have yf := blk_frozen BX6 2))
       have hX7 := rule_put2 BXo.out hgx R2o.out R6o.out ho hg6
       have hI6 := hI5.grown hg6 (hI5.own_ne R2o.out (by decide))
       have hB6 := pw_below_grown hB5 _ (Nat.le_trans h0 hbs5) hg6 (fun k hk => Nat.le_trans h0 (Kd.R_base R2o.out k hk))
       have hK6 := hK5.grown hg6 (Kd.R_base R2o.out) hbs5
       have hI7 := hI6.far (p := ⟨gx, 2, none⟩) (Ne.symm hne) (.slice A6 (hd1 ++ [m1]).length c6)
       have hB7 := hB6.setCell (p := ⟨gx, 2, none⟩) (Nat.le_trans h0 hgx) (.slice A6 (hd1 ++ [m1]).length c6)
       have hK7 := hK6.set (p := ⟨gx, 2, none⟩) hgx (.slice A6 (hd1 ++ [m1]).length c6)
       have el : (hd1 ++ [m1]).length = hd1.length + 1 := by simp
       rw [el] at hX7 hI7 hB7 hK7
       clear el
       generalize w6.setCell ⟨gx, 2, none⟩ (.slice A6 (hd1.length + 1) c6) = w7 at hX7 hI7 hB7 hK7 ⊢
       clear hX5 hI5 hB5 hK5 hI6 hB6 hK6 ho hb6 hg6 hat6 BX6 y2 yf z2 R2o R6o BXo
       go_wp2_with fail
       refine (verdererref12_reader_take.calls g l _ _ _ ⟨#[44]⟩ c p5 q5 r5 w0 _ hI7 hB7 HC.out).mono ?_
       rintro e w8 ⟨rfl, hI8, hB8, hk8⟩
       have hX8 := hX7.keepI hI7 hk8
       have hK8 := hK7.keep hk8 hX7.ge
       clear hI7 hB7 hX7 hK7 hk8
       have h := HH.out
       cases c with
       | true =>
        rw [if_pos rfl] at h
        go_wp2_with fail
        go_roundw
        case rel => exact ⟨n + 1, m, _, _, _, _, _, _, by omega, by go_num, hI8, hB8, hX8, hK8, ⟨h⟩⟩
        case measure => simp [intOf]; omega
       | false =>
        rw [if_neg (by decide)] at h
        simp only [Option.some.injEq, Prod.mk.injEq] at h
        obtain ⟨rfl, rfl, rfl, rfl, rfl, rfl⟩ := h
        go_wp2
        first | go_end0 | ((try simp only [Exit.inBlock, Exit.then]); refine bodyPost_ret (results_none rfl _ _ _) rfl ?_)
        exact ⟨rfl, hI8, hB8, hX8, hK8⟩
      ·
       have h40b : decide ((40 : Int) ≤ (hd1.length : Int)) = false := decide_eq_false h40
       rw [if_neg h40] at hs
       simp only [Option.some.injEq, Prod.mk.injEq] at hs
       obtain ⟨rfl, rfl, rfl⟩ := hs
       clear HS h40
       go_upto_region 13 with (fail)
       clear z2 h40b
       obtain ⟨w5, rfl⟩ : ∃ z : World, z = w4 := ⟨w4, rfl⟩
       have hI5 := hI4
       have hB5 := hB4
       have hX5 := hX4
       have hK5 := hK4
       clear hI4 hB4 hX4 hK4
       obtain ⟨v2, v6, BX, _, R2, R6⟩ := id hX5
       have R2o := Aside0.mk R2
       have R6o := Aside0.mk R6
       have BXo := Aside0.mk BX
       obtain ⟨A2, c2, rfl⟩ := Kd.R_slice R2
       have z2 : w5.cell? ⟨gx, 2, none⟩ = some (.slice A2 hd1.length c2) := (blk_cell BX 2).trans rfl
       have hbs5 := hX5.ge
       clear BX R2 R6
       go_upto_region 14 with (first | ((with_reducible refine gate_builtin (b := .append) (xs := #[.tmp 66, .tmp 68]) rfl ?_); at_builtin; refine Kd.R_append Kd.string (w0 := w5) base rfl (.tmp 66) (.tmp 68) 22 9 (.string ⟨#[]⟩) 16 rfl Try.underlying22 (by kernel_rfl) rfl (by decide) (by omega) _ hd1 m1 [.string m1] (fun _ => True) (fun _ => False) rfl rfl ?aP (fun _ hk => hk.elim) (fun _ _ => trivial) R2o.out (Below.refl _ _) hbs5 ?aL ?_; (case aP => exact (show Kd.M Kd.string _ _ _ m1 [.string m1] from rfl)); (case aL => omega); intro v1 w6 ho hb6 hg6 hat6; obtain ⟨A6, c6, rfl⟩ := Kd.R_slice ho; have BX6 := rule_blk2 BXo.out R2o.out hg6; have y2 : w6.cell? ⟨gx, 2, none⟩ = some (.slice A2 hd1.length c2) := (blk_cell BX6 2).trans rfl; have yf := blk_frozen BX6 2))
       have hX7 := rule_put2 BXo.out hgx R2o.out R6o.out ho hg6
       have hI6 := hI5.grown hg6 (hI5.own_ne R2o.out (by decide))
       have hB6 := pw_below_grown hB5 _ (Nat.le_trans h0 hbs5) hg6 (fun k hk => Nat.le_trans h0 (Kd.R_base R2o.out k hk))
       have hK6 := hK5.grown hg6 (Kd.R_base R2o.out) hbs5
       have hI7 := hI6.far (p := ⟨gx, 2, none⟩) (Ne.symm hne) (.slice A6 (hd1 ++ [m1]).length c6)
       have hB7 := hB6.setCell (p := ⟨gx, 2, none⟩) (Nat.le_trans h0 hgx) (.slice A6 (hd1 ++ [m1]).length c6)
       have hK7 := hK6.set (p := ⟨gx, 2, none⟩) hgx (.slice A6 (hd1 ++ [m1]).length c6)
       have el : (hd1 ++ [m1]).length = hd1.length + 1 := by simp
       rw [el] at hX7 hI7 hB7 hK7
       clear el
       generalize w6.setCell ⟨gx, 2, none⟩ (.slice A6 (hd1.length + 1) c6) = w7 at hX7 hI7 hB7 hK7 ⊢
       clear hX5 hI5 hB5 hK5 hI6 hB6 hK6 ho hb6 hg6 hat6 BX6 y2 yf z2 R2o R6o BXo
       go_wp2_with fail
       refine (verdererref12_reader_take.calls g l _ _ _ ⟨#[44]⟩ c p5 q5 r5 w0 _ hI7 hB7 HC.out).mono ?_
       rintro e w8 ⟨rfl, hI8, hB8, hk8⟩
       have hX8 := hX7.keepI hI7 hk8
       have hK8 := hK7.keep hk8 hX7.ge
       clear hI7 hB7 hX7 hK7 hk8
       have h := HH.out
       cases c with
       | true =>
        rw [if_pos rfl] at h
        go_wp2_with fail
        go_roundw
        case rel => exact ⟨n + 1, m, _, _, _, _, _, _, by omega, by go_num, hI8, hB8, hX8, hK8, ⟨h⟩⟩
        case measure => simp [intOf]; omega
       | false =>
        rw [if_neg (by decide)] at h
        simp only [Option.some.injEq, Prod.mk.injEq] at h
        obtain ⟨rfl, rfl, rfl, rfl, rfl, rfl⟩ := h
        go_wp2
        first | go_end0 | ((try simp only [Exit.inBlock, Exit.then]); refine bodyPost_ret (results_none rfl _ _ _) rfl ?_)
        exact ⟨rfl, hI8, hB8, hX8, hK8⟩
    ·
     rw [if_neg hq] at h
     have hqb : (q1 == 0) = false := by simp [hq]
     clear hq
     simp only [Option.some.injEq, Prod.mk.injEq] at h
     obtain ⟨rfl, rfl, rfl, rfl, rfl, rfl⟩ := h
     go_wp2
     first | go_end0 | ((try simp only [Exit.inBlock, Exit.then]); refine bodyPost_ret (results_none rfl _ _ _) rfl ?_)
     exact ⟨rfl, hI1, hB1, hX1, hK1⟩
   ·
    obtain rfl : n = 400 := by omega
    obtain rfl : m = 0 := by omega
    have h := H1.out
    clear H1
    simp only [headL, Option.some.injEq, Prod.mk.injEq] at h
    obtain ⟨rfl, rfl, rfl, rfl, rfl, rfl⟩ := h
    go_wp2
    first | go_end0 | ((try simp only [Exit.inBlock, Exit.then]); refine bodyPost_ret (results_none rfl _ _ _) rfl ?_)
    exact ⟨rfl, hI1, hB1, hX1, hK1⟩
end Go.Proofs.Ytikikmkfeeljgaa.G
