-- Written by a program for this claim (my own print over the kit's words).
import Derived.Test.YtikikmkfeeljgaaGx0
import Derived.Test.YtikikmkfeeljgaaGx7
import Derived.Test.YtikikmkfeeljgaaGx8
import Derived.Test.YtikikmkfeeljgaaGx9
namespace Go.Proofs.Ytikikmkfeeljgaa.G
open Go.RowKit Go.Proofs.YtikikmkfeeljgaaW.PrintWords Go.Proofs.YtikikmkfeeljgaaW.PrintLast Go.Proofs.YtikikmkfeeljgaaW.PrintMore
attribute [local go_sem] max2_int min2_int max_two min_two max_three min_three max_four min_four   -- for this text's walks alone
set_option linter.unusedVariables false
set_option linter.unusedSimpArgs false
/-! ### verdererref12_reader_lit: function 60 -/
/-- does an atom stand there? -/
def litIs (s0_0 : List (S73)) (s0_1 : Int) (b n : Bool) : Option Bool :=
 if b = true then (if n = true then some true else if wrap64 (s0_1 + 1) < (s0_0.length : Int) then (if 0 ≤ wrap64 (s0_1 + 1) then (if (rd_T73 s0_0 (wrap64 (s0_1 + 1))).f0 = 3 then some ((rd_T73 s0_0 (wrap64 (s0_1 + 1))).f1.toList == ([40] : List UInt8)) else some false) else none) else some false) else some false
theorem lit_term (w : World) (base : Nat) (ok : Nat → Prop) (a1 : ByteArray) (a2 : Bool) (a3 : Int) (a4 : Bool) (a5 : Int) (a6 : ByteArray) : Kd.M k38 w base ok (⟨a1, a2, ⟨a3, a4, a5, a6⟩⟩ : S38) [.string a1, .bool a2, .int .i64 a3, .bool a4, .int .i64 a5, .string a6] :=
 ⟨_, _, rfl, rfl, ⟨_, _, rfl, rfl, ⟨_, _, rfl, rfl, ⟨_, _, rfl, rfl, ⟨_, _, rfl, rfl, rfl⟩⟩⟩⟩⟩
theorem lit_two (w : World) (base : Nat) (hb : base ≤ w.heap.size) (a1 : ByteArray) (a2 : Bool) (a3 : Int) (a4 : Bool) (a5 : Int) (a6 : ByteArray) (b1 : ByteArray) (b2 : Bool) (b3 : Int) (b4 : Bool) (b5 : Int) (b6 : ByteArray) : Kd.R k38 38 (w.alloc (.cells #[.string a1, .bool a2, .int .i64 a3, .bool a4, .int .i64 a5, .string a6, .string b1, .bool b2, .int .i64 b3, .bool b4, .int .i64 b5, .string b6] 38)) base (fun _ => True) (.slice (some ⟨w.heap.size, 0, none⟩) 2 2) [⟨a1, a2, ⟨a3, a4, a5, a6⟩⟩, ⟨b1, b2, ⟨b3, b4, b5, b6⟩⟩] :=
 ⟨fun _ _ => trivial, OwnRow.lit w base (inner := [.string a1, .bool a2, .int .i64 a3, .bool a4, .int .i64 a5, .string a6, .string b1, .bool b2, .int .i64 b3, .bool b4, .int .i64 b5, .string b6]) (Reps.c6 (lit_term _ _ _ _ _ _ _ _ _) (Reps.c6 (lit_term _ _ _ _ _ _ _ _ _) (Reps.none _ _))) hb (by simp)⟩
def litA (k : Nat) (l : List (S73)) (n : Bool) (a1 t : Int) (p q r : Int) : Option (Bool × ByteArray × List (S38) × Int × Int × Int × Int) :=
 (verdererref12_reader_name.f k l p q r).bind fun m => (verdererref12_reader_must.f l m.2.1 m.2.2.1 m.2.2.2 ⟨#[40]⟩).bind fun s => (if n = true then some s else if a1 ≥ 6 then verdererref12_reader_fail.f l s.1 s.2.1 s.2.2 9 t else some s).bind fun x => (verdererref12_reader_args.f k l x.1 x.2.1 x.2.2).bind fun y => some (n, m.1, y.1, 0, y.2.1, y.2.2.1, y.2.2.2)
def litB (k : Nat) (l : List (S73)) (n : Bool) (t : Int) (p q r : Int) : Option (Bool × ByteArray × List (S38) × Int × Int × Int × Int) :=
 (if n = true then verdererref12_reader_fail.f l p q r 7 t else some (p, q, r)).bind fun s => (verdererref12_reader_term.f k l s.1 s.2.1 s.2.2).bind fun a => (verdererref12_reader_now.f l a.2.2.2.2.2.2.1 a.2.2.2.2.2.2.2.1 a.2.2.2.2.2.2.2.2).bind fun u => (verdererref11_Op.f k u.2.1).bind fun o =>
 (if (u.1 = 3 ∧ o ≠ 0) then some (a.2.2.2.2.2.2.1, a.2.2.2.2.2.2.2.1, a.2.2.2.2.2.2.2.2) else verdererref12_reader_fail.f l a.2.2.2.2.2.2.1 a.2.2.2.2.2.2.2.1 a.2.2.2.2.2.2.2.2 7 u.2.2.2.2.2.2.1).bind fun x => (verdererref12_reader_step.f l x.1 x.2.1 x.2.2).bind fun y => (verdererref12_reader_term.f k l y.1 y.2.1 y.2.2).bind fun b =>
 some (n, ⟨#[]⟩, [⟨a.1, a.2.1, ⟨a.2.2.1, a.2.2.2.1, a.2.2.2.2.1, a.2.2.2.2.2.1⟩⟩, ⟨b.1, b.2.1, ⟨b.2.2.1, b.2.2.2.1, b.2.2.2.2.1, b.2.2.2.2.2.1⟩⟩], o, b.2.2.2.2.2.2.1, b.2.2.2.2.2.2.2.1, b.2.2.2.2.2.2.2.2)
def verdererref12_reader_lit.f (k : Nat) (s0_0 : List (S73)) (s0_1 : Int) (s0_2 : Int) (s0_3 : Int) (a1 : Int) : Option (Bool × ByteArray × List (S38) × Int × Int × Int × Int) :=
 (verdererref12_reader_take.f s0_0 s0_1 s0_2 s0_3 ⟨#[110, 111, 116]⟩).bind fun t => (verdererref12_reader_now.f s0_0 t.2.1 t.2.2.1 t.2.2.2).bind fun u => (verdererref12_reader_named.f k s0_0 t.2.1 t.2.2.1 t.2.2.2).bind fun b => (litIs s0_0 t.2.1 b.1 t.1).bind fun c => if c = true then litA k s0_0 t.1 a1 u.2.2.2.2.2.2.1 t.2.1 t.2.2.1 t.2.2.2 else litB k s0_0 t.1 u.2.2.2.2.2.2.1 t.2.1 t.2.2.1 t.2.2.2
set_option maxHeartbeats 4000000 in
set_option maxRecDepth 100000 in
theorem verdererref12_reader_lit.calls (k : Nat) (g : Nat) (s0_0 : List (S73)) (s0_1 : Int) (s0_2 : Int) (s0_3 : Int) (a1 : Int) (r1 : Bool) (r2 : ByteArray) (r3 : List (S38)) (r4 : Int) (r5 : Int) (r6 : Int) (r7 : Int) (w0 w : World) (hI : IsS69 w0 w g s0_0 s0_1 s0_2 s0_3) (hB : Below w0.heap.size w0 w) (h : verdererref12_reader_lit.f k s0_0 s0_1 s0_2 s0_3 a1 = some (r1, r2, r3, r4, r5, r6, r7)) :
  Calls Try.prog 60 #[.pointer (some ⟨g, 0, none⟩), .int .i64 a1] w fun e w' => ∃ v0_ : Value, e = .returned (.agg #[.bool r1, .string r2, v0_, .int .i64 r4]) ∧ Kd.R k38 38 w' w.heap.size (fun _ => True) v0_ r3 ∧ IsS69 w0 w' g s0_0 r5 r6 r7 ∧ Below w0.heap.size w0 w' ∧ KeepBut w w' g none := by
 unfold verdererref12_reader_lit.f at h
 obtain ⟨⟨n, q1, q2, q3⟩, ht, h1⟩ := Option.bind_eq_some_iff.1 h
 clear h
 simp only at h1
 obtain ⟨⟨t1, t2, t3, t4, t5, t6, t7, t8, t9, t10⟩, hn, h2⟩ := Option.bind_eq_some_iff.1 h1
 clear h1
 simp only at h2
 obtain ⟨⟨b, b1, b2, b3⟩, hb, h3⟩ := Option.bind_eq_some_iff.1 h2
 clear h2
 simp only at h3
 obtain ⟨c, hc, h⟩ := Option.bind_eq_some_iff.1 h3
 clear h3
 have HT := Aside0.mk ht
 have HN := Aside0.mk hn
 have HBN := Aside0.mk hb
 have HC := Aside0.mk hc
 have H := Aside0.mk h
 clear ht hn hb hc h
 have hg : g < w.heap.size := hI.lt
 have hu := Try.underlying41
 have hu2 := Try.underlying73
 go_enter Try.func60, Try.ntmps60
 go_wp2_with fail
 refine (verdererref12_reader_take.calls g s0_0 s0_1 s0_2 s0_3 _ n q1 q2 q3 w0 _ (hI.alloc _) (below_alloc hB _) HT.out).mono ?_
 rintro e w1 ⟨rfl, hI1, hB1, hk1⟩
 have K1 : KeepBut w w1 g none := (keep_alloc (KeepBut.refl w g none) _).trans hk1 (.inl rfl)
 have BA : w1.heap[w.heap.size]? = some (.cells #[.bool false, .string (⟨#[]⟩ : ByteArray), .slice none 0 0, .int .i64 0] 41 (0, 0)) := hk1.blk (by simpa using heap_alloc_new w _) (by omega) (by simp)
 clear hI hB hk1
 go_wp2_with fail
 refine (verdererref12_reader_now.callsB g s0_0 q1 q2 q3 t1 t2 t3 t4 t5 t6 t7 t8 t9 t10 w0 _ (hI1.alloc _) (below_alloc hB1 _) HN.out).mono ?_
 rintro e w2 ⟨rfl, hb2⟩
 have hI2 : IsS69 w0 w2 g s0_0 q1 q2 q3 := (hI1.alloc _).below hb2
 have hB2 : Below w0.heap.size w0 w2 := (below_alloc hB1 _).trans (hb2.mono (below_alloc hB1 _).size)
 have hlt1 : w.heap.size < w1.heap.size := blk_lt BA
 have BX : w2.heap[w1.heap.size]? = some (.cells #[.bool n, .string (⟨#[]⟩ : ByteArray), .slice none 0 0, .int .i64 0] 41 (0, 0)) := (hb2.block _ (by simp)).trans (by simpa using heap_alloc_new w1 _)
 have BA2 : w2.heap[w.heap.size]? = some (.cells #[.bool false, .string (⟨#[]⟩ : ByteArray), .slice none 0 0, .int .i64 0] 41 (0, 0)) := (hb2.block _ (by simp; omega)).trans (blk_alloc BA _)
 have K2 : KeepBut w w2 g none := (keep_alloc K1 _).trans (KeepBut.of_below hb2 g none) (.inl rfl)
 clear hI1 hB1 K1 BA hb2
 have F3 : ∀ (x0 : Int) (x1 : ByteArray) (x2 : Int) (x3 : Bool) (x4 : Int) (x5 : ByteArray) (x6 : Int) (w : World), Sem.run Try.prog (Instr.field 73 (.agg #[.int .i64 x0, .string x1, .int .i64 x2, .bool x3, .int .i64 x4, .string x5, .int .i64 x6]) 3) w = .ok (.int .i64 x6) w := by intros; kernel_rfl
 go_upto_region 3 with (fail)
 have cN : ∀ d os, Calls Try.prog 57 #[.pointer (some ⟨g, 0, none⟩)] (Sort.grow (redrawn w2 d) os) fun e w'' => e = .returned (.bool b) ∧ ∃ p : Regrown, w'' = Sort.grow (redrawn w2 p.d) p.os := fun d os => Calls.regrown_of (verdererref12_reader_named.callsB k g s0_0 q1 q2 q3 b b1 b2 b3 w0 _ (hI2.below (below_regrown _ _ _)) (hB2.trans ((below_regrown _ _ _).mono hB2.size)) HBN.out)
 have cX := cell_regrown ((blk_cell BX 0).trans rfl : w2.cell? ⟨w1.heap.size, 0, none⟩ = some (.bool n))
 obtain ⟨A0, c0, hblk, hge, hC⟩ := id hI2
 have cG0 := cell_regrown ((blk_cell hblk 0).trans rfl : w2.cell? ⟨g, 0, none⟩ = some (.slice A0 s0_0.length c0))
 have cG1 := cell_regrown ((blk_cell hblk 1).trans rfl : w2.cell? ⟨g, 1, none⟩ = some (.int .i64 q1))
 go_cut [62] (fun v wc => v = .bool c ∧ Below w2.heap.size w2 wc)
 case first =>
  have hc := HC.out
  unfold litIs at hc
  clear hblk BX BA2 K2 F3 hg hu hu2 hge hlt1
  refine wp_region_quiet_below (by kernel_rfl) (by kernel_rfl) ?_
  go_big_quiet_step (fail)
  go_big_quiet_step (exact cN _ _)
  cases b with
  | false =>
   rw [if_neg (by decide)] at hc
   obtain rfl : false = c := by injection hc
   clear hC
   repeat (go_big_quiet_step (fail))
   refine wpQuiet_nil ?_
   intro _ hw'
   obtain ⟨⟨dq, osq⟩, hw''⟩ := hw'
   subst hw''
   go_wp2
   go_meet
   exact ⟨rfl, below_regrown _ _ _⟩
  | true =>
   rw [if_pos rfl] at hc
   cases n with
   | true =>
    rw [if_pos rfl] at hc
    obtain rfl : true = c := by injection hc
    clear hC
    repeat (go_big_quiet_step (fail))
    refine wpQuiet_nil ?_
    intro _ hw'
    obtain ⟨⟨dq, osq⟩, hw''⟩ := hw'
    subst hw''
    go_wp2
    go_meet
    exact ⟨rfl, below_regrown _ _ _⟩
   | false =>
    rw [if_neg (by decide)] at hc
    by_cases hx : wrap64 (q1 + 1) < (s0_0.length : Int)
    ·
     rw [if_pos hx] at hc
     have hxd : decide (wrap64 (q1 + 1) < (s0_0.length : Int)) = true := decide_eq_true hx
     split at hc
     case isFalse => cases hc
     rename_i hx0
     obtain ⟨ad, rfl, z0, z1, z2, z3, z4, z5, z6⟩ := at_T73 hC (wrap64 (q1 + 1)) hx0 hx
     have cZ0 := cell_regrown ((hB2.cell (World.block_lt_of_cell? _ _ z0)).trans z0)
     have cZ1 := cell_regrown ((hB2.cell (World.block_lt_of_cell? _ _ z1)).trans z1)
     clear z0 z1 z2 z3 z4 z5 z6 hC
     by_cases h3 : (rd_T73 s0_0 (wrap64 (q1 + 1))).f0 = 3
     ·
      rw [if_pos h3] at hc
      have h3b : ((rd_T73 s0_0 (wrap64 (q1 + 1))).f0 == 3) = true := beq_iff_eq.mpr h3
      clear h3
      repeat (go_big_quiet_step (fail))
      refine wpQuiet_nil ?_
      intro _ hw'
      obtain ⟨⟨dq, osq⟩, hw''⟩ := hw'
      subst hw''
      go_wp2
      go_meet
      injection hc with hc
      exact ⟨by rw [← hc], below_regrown _ _ _⟩
     ·
      rw [if_neg h3] at hc
      obtain rfl : false = c := by injection hc
      have h3b : ((rd_T73 s0_0 (wrap64 (q1 + 1))).f0 == 3) = false := beq_eq_false_iff_ne.mpr h3
      clear h3
      repeat (go_big_quiet_step (fail))
      refine wpQuiet_nil ?_
      intro _ hw'
      obtain ⟨⟨dq, osq⟩, hw''⟩ := hw'
      subst hw''
      go_wp2
      go_meet
      exact ⟨rfl, below_regrown _ _ _⟩
    ·
     rw [if_neg hx] at hc
     obtain rfl : false = c := by injection hc
     have hxd : decide (wrap64 (q1 + 1) < (s0_0.length : Int)) = false := decide_eq_false hx
     clear hC
     repeat (go_big_quiet_step (fail))
     refine wpQuiet_nil ?_
     intro _ hw'
     obtain ⟨⟨dq, osq⟩, hw''⟩ := hw'
     subst hw''
     go_wp2
     go_meet
     exact ⟨rfl, below_regrown _ _ _⟩
 case rest =>
  obtain ⟨rfl, hbc⟩ := hcut
  have hIc : IsS69 w0 wc g s0_0 q1 q2 q3 := hI2.below hbc
  have hBc : Below w0.heap.size w0 wc := hB2.trans (hbc.mono hB2.size)
  have KC : KeepBut w wc g none := K2.trans (KeepBut.of_below hbc g none) (.inl rfl)
  have X0 : wc.heap[w1.heap.size]? = some (.cells #[.bool n, .string (⟨#[]⟩ : ByteArray), .slice none 0 0, .int .i64 0] 41 (0, 0)) := (hbc.block _ (blk_lt BX)).trans BX
  have Y0 : wc.heap[w.heap.size]? = some (.cells #[.bool false, .string (⟨#[]⟩ : ByteArray), .slice none 0 0, .int .i64 0] 41 (0, 0)) := (hbc.block _ (blk_lt BA2)).trans BA2
  have hgx : g ≠ w1.heap.size := by omega
  have hgy : g ≠ w.heap.size := by omega
  have hg0 : w0.heap.size ≤ g := hge
  have hy0 : w0.heap.size ≤ w.heap.size := Nat.le_trans hge (Nat.le_of_lt hg)
  have h := H.out
  clear cN cX cG0 cG1 hblk hge hC hI2 hB2 K2 BX BA2 hbc HBN HC H F3
  generalize hwx : w1.heap.size = x at *
  cases c with
  | true =>
   rw [if_pos rfl] at h
   unfold litA at h
   obtain ⟨⟨m1, m2, m3, m4⟩, hm, h⟩ := Option.bind_eq_some_iff.1 h
   obtain ⟨⟨s1, s2, s3⟩, hs, h⟩ := Option.bind_eq_some_iff.1 h
   obtain ⟨⟨x1, x2, x3⟩, hx, h⟩ := Option.bind_eq_some_iff.1 h
   obtain ⟨⟨y1, y2, y3, y4⟩, hy, h⟩ := Option.bind_eq_some_iff.1 h
   simp only [Option.some.injEq, Prod.mk.injEq] at h
   obtain ⟨rfl, rfl, rfl, rfl, rfl, rfl, rfl⟩ := h
   have HM := Aside0.mk hm
   have HS := Aside0.mk hs
   have HX := Aside0.mk hx
   have HY := Aside0.mk hy
   clear hm hs hx hy
   go_wp2_with fail
   refine (verdererref12_reader_name.calls k g s0_0 q1 q2 q3 m1 m2 m3 m4 w0 _ hIc hBc HM.out).mono ?_
   rintro e w3 ⟨rfl, hI3, hB3, hk3⟩
   have X3 := hk3.blk X0 (Ne.symm hgx) (by simp)
   have Y3 := hk3.blk Y0 (Ne.symm hgy) (by simp)
   have K3 : KeepBut w w3 g none := KC.trans hk3 (.inl rfl)
   clear hIc hBc KC X0 Y0 hk3 HM
   have z1 : w3.cell? ⟨x, 1, none⟩ = some (.string (⟨#[]⟩ : ByteArray)) := (blk_cell X3 1).trans rfl
   have zf := blk_frozen X3 1
   go_upto_region 5 with (fail)
   have X4 : (w3.setCell ⟨x, 1, none⟩ (.string m1)).heap[x]? = some (.cells #[.bool n, .string m1, .slice none 0 0, .int .i64 0] 41 (0, 0)) := blk_put X3 1 (.string m1) rfl
   have Y4 : (w3.setCell ⟨x, 1, none⟩ (.string m1)).heap[w.heap.size]? = some (.cells #[.bool false, .string (⟨#[]⟩ : ByteArray), .slice none 0 0, .int .i64 0] 41 (0, 0)) := (Below.heap_setCell w3 ⟨x, 1, none⟩ (.string m1) w.heap.size (Nat.ne_of_lt hlt1)).trans Y3
   have hI4 := hI3.far (p := ⟨x, 1, none⟩) hgx (.string m1)
   have hB4 := hB3.setCell (p := ⟨x, 1, none⟩) (by show w0.heap.size ≤ x; omega) (.string m1)
   have K4 := keep_far K3 (p := ⟨x, 1, none⟩) (by show w.heap.size ≤ x; omega) (.string m1)
   generalize w3.setCell ⟨x, 1, none⟩ (.string m1) = w4 at X4 Y4 hI4 hB4 K4 ⊢
   clear X3 Y3 hI3 hB3 K3 z1 zf
   go_wp2_with fail
   refine (verdererref12_reader_must.calls g s0_0 m2 m3 m4 ⟨#[40]⟩ s1 s2 s3 w0 _ hI4 hB4 HS.out).mono ?_
   rintro e w5 ⟨rfl, hI5, hB5, hk5⟩
   have X5 := hk5.blk X4 (Ne.symm hgx) (by simp)
   have Y5 := hk5.blk Y4 (Ne.symm hgy) (by simp)
   have K5 : KeepBut w w5 g none := K4.trans hk5 (.inl rfl)
   clear hI4 hB4 K4 X4 Y4 hk5 HS
   have z0 : w5.cell? ⟨x, 0, none⟩ = some (.bool n) := (blk_cell X5 0).trans rfl
   cases n with
   | true =>
    have hx := HX.out
    rw [if_pos rfl] at hx
    simp only [Option.some.injEq, Prod.mk.injEq] at hx
    obtain ⟨rfl, rfl, rfl⟩ := hx
    clear HX
    go_upto_region 8 with (fail)
    clear z0
    obtain ⟨w6, rfl⟩ : ∃ z : World, z = w5 := ⟨w5, rfl⟩
    have X6 := X5
    have Y6 := Y5
    have hI6 := hI5
    have hB6 := hB5
    have K6 := K5
    clear X5 Y5 hI5 hB5 K5
    go_wp2_with fail
    refine (verdererref12_reader_args.calls k g s0_0 _ _ _ y1 y2 y3 y4 w0 _ hI6 hB6 HY.out).mono ?_
    rintro e w7 ⟨v0, rfl, hR7, hI7, hB7, hk7⟩
    have X7 := hk7.blk X6 (Ne.symm hgx) (by simp)
    have Y7 := hk7.blk Y6 (Ne.symm hgy) (by simp)
    have K7 : KeepBut w w7 g none := K6.trans hk7 (.inl rfl)
    have hle : w.heap.size ≤ w6.heap.size := Nat.le_of_lt (blk_lt Y6)
    have hR7 := Kd.R_lower hR7 hle
    clear hI6 hB6 K6 X6 Y6 hk7 HY
    obtain ⟨A7, c7, rfl⟩ := Kd.R_slice hR7
    have z2 : w7.cell? ⟨x, 2, none⟩ = some (.slice none 0 0) := (blk_cell X7 2).trans rfl
    have zf := blk_frozen X7 2
    go_upto_region 9 with (fail)
    have X8 : (w7.setCell ⟨x, 2, none⟩ (.slice A7 y1.length c7)).heap[x]? = some (.cells #[.bool true, .string m1, .slice A7 y1.length c7, .int .i64 0] 41 (0, 0)) := blk_put X7 2 _ rfl
    have Y8 : (w7.setCell ⟨x, 2, none⟩ (.slice A7 y1.length c7)).heap[w.heap.size]? = some (.cells #[.bool false, .string (⟨#[]⟩ : ByteArray), .slice none 0 0, .int .i64 0] 41 (0, 0)) := (Below.heap_setCell w7 ⟨x, 2, none⟩ _ w.heap.size (Nat.ne_of_lt hlt1)).trans Y7
    have hI8 := hI7.far (p := ⟨x, 2, none⟩) hgx (.slice A7 y1.length c7)
    have hB8 := hB7.setCell (p := ⟨x, 2, none⟩) (by show w0.heap.size ≤ x; omega) (.slice A7 y1.length c7)
    have K8 := keep_far K7 (p := ⟨x, 2, none⟩) (by show w.heap.size ≤ x; omega) (.slice A7 y1.length c7)
    have hR8 := Kd.R_set hR7 X7 (by decide) 2 (.slice A7 y1.length c7)
    generalize w7.setCell ⟨x, 2, none⟩ (.slice A7 y1.length c7) = w8 at X8 Y8 hI8 hB8 K8 hR8 ⊢
    clear X7 Y7 hI7 hB7 K7 hR7 z2 zf
    have c0_ : w8.cell? ⟨x, 0, none⟩ = some (.bool true) := (blk_cell X8 0).trans rfl
    have c1_ : w8.cell? ⟨x, 1, none⟩ = some (.string m1) := (blk_cell X8 1).trans rfl
    have c2_ : w8.cell? ⟨x, 2, none⟩ = some (.slice A7 y1.length c7) := (blk_cell X8 2).trans rfl
    have c3_ : w8.cell? ⟨x, 3, none⟩ = some (.int .i64 0) := (blk_cell X8 3).trans rfl
    have p0 : w8.cell? ⟨w.heap.size, 0, none⟩ = some (.bool false) := (blk_cell Y8 0).trans rfl
    have pf0 := blk_frozen Y8 0
    have p1 : w8.cell? ⟨w.heap.size, 1, none⟩ = some (.string (⟨#[]⟩ : ByteArray)) := (blk_cell Y8 1).trans rfl
    have pf1 := blk_frozen Y8 1
    have p2 : w8.cell? ⟨w.heap.size, 2, none⟩ = some (.slice none 0 0) := (blk_cell Y8 2).trans rfl
    have pf2 := blk_frozen Y8 2
    have p3 : w8.cell? ⟨w.heap.size, 3, none⟩ = some (.int .i64 0) := (blk_cell Y8 3).trans rfl
    have pf3 := blk_frozen Y8 3
    go_wp2
    have BR := blk_put (blk_put (blk_put (blk_put Y8 0 (.bool true) rfl) 1 (.string m1) rfl) 2 (.slice A7 y1.length c7) rfl) 3 (.int .i64 0) rfl
    refine bodyPost_ret (results_cell_row rfl _ _ w.heap.size 41 #[.bool true, .string m1, .slice A7 y1.length c7, .int .i64 0] (0, 0) _ rfl BR Try.underlying41 rfl rfl) rfl ?_
    refine ⟨_, rfl, ?_, ?_, ?_, ?_⟩
    · exact Kd.R_set (Kd.R_set (Kd.R_set (Kd.R_set hR8 Y8 (by decide) 0 _) (blk_put Y8 0 _ rfl) (by decide) 1 _) (blk_put (blk_put Y8 0 _ rfl) 1 _ rfl) (by decide) 2 _) (blk_put (blk_put (blk_put Y8 0 _ rfl) 1 _ rfl) 2 _ rfl) (by decide) 3 _
    · exact (((hI8.far (p := ⟨w.heap.size, 0, none⟩) hgy _).far (p := ⟨w.heap.size, 1, none⟩) hgy _).far (p := ⟨w.heap.size, 2, none⟩) hgy _).far (p := ⟨w.heap.size, 3, none⟩) hgy _
    · exact (((hB8.setCell (p := ⟨w.heap.size, 0, none⟩) hy0 _).setCell (p := ⟨w.heap.size, 1, none⟩) hy0 _).setCell (p := ⟨w.heap.size, 2, none⟩) hy0 _).setCell (p := ⟨w.heap.size, 3, none⟩) hy0 _
    · exact keep_far (keep_far (keep_far (keep_far K8 (p := ⟨w.heap.size, 0, none⟩) (Nat.le_refl _) _) (p := ⟨w.heap.size, 1, none⟩) (Nat.le_refl _) _) (p := ⟨w.heap.size, 2, none⟩) (Nat.le_refl _) _) (p := ⟨w.heap.size, 3, none⟩) (Nat.le_refl _) _
   | false =>
    have hx := HX.out
    rw [if_neg (by decide)] at hx
    by_cases h6 : a1 ≥ 6
    ·
     rw [if_pos h6] at hx
     have HX2 := Aside0.mk hx
     clear HX hx
     have h6' : decide (6 ≤ a1) = true := decide_eq_true h6
     go_wp2_with fail
     refine (verdererref12_reader_fail.calls g s0_0 s1 s2 s3 9 t7 x1 x2 x3 w0 _ hI5 hB5 HX2.out).mono ?_
     rintro e w6 ⟨rfl, hI6, hB6, hk6⟩
     have X6 := hk6.blk X5 (Ne.symm hgx) (by simp)
     have Y6 := hk6.blk Y5 (Ne.symm hgy) (by simp)
     have K6 : KeepBut w w6 g none := K5.trans hk6 (.inl rfl)
     clear hI5 hB5 K5 X5 Y5 hk6 z0 HX2
     go_wp2_with fail
     refine (verdererref12_reader_args.calls k g s0_0 _ _ _ y1 y2 y3 y4 w0 _ hI6 hB6 HY.out).mono ?_
     rintro e w7 ⟨v0, rfl, hR7, hI7, hB7, hk7⟩
     have X7 := hk7.blk X6 (Ne.symm hgx) (by simp)
     have Y7 := hk7.blk Y6 (Ne.symm hgy) (by simp)
     have K7 : KeepBut w w7 g none := K6.trans hk7 (.inl rfl)
     have hle : w.heap.size ≤ w6.heap.size := Nat.le_of_lt (blk_lt Y6)
     have hR7 := Kd.R_lower hR7 hle
     clear hI6 hB6 K6 X6 Y6 hk7 HY
     obtain ⟨A7, c7, rfl⟩ := Kd.R_slice hR7
     have z2 : w7.cell? ⟨x, 2, none⟩ = some (.slice none 0 0) := (blk_cell X7 2).trans rfl
     have zf := blk_frozen X7 2
     go_upto_region 9 with (fail)
     have X8 : (w7.setCell ⟨x, 2, none⟩ (.slice A7 y1.length c7)).heap[x]? = some (.cells #[.bool false, .string m1, .slice A7 y1.length c7, .int .i64 0] 41 (0, 0)) := blk_put X7 2 _ rfl
     have Y8 : (w7.setCell ⟨x, 2, none⟩ (.slice A7 y1.length c7)).heap[w.heap.size]? = some (.cells #[.bool false, .string (⟨#[]⟩ : ByteArray), .slice none 0 0, .int .i64 0] 41 (0, 0)) := (Below.heap_setCell w7 ⟨x, 2, none⟩ _ w.heap.size (Nat.ne_of_lt hlt1)).trans Y7
     have hI8 := hI7.far (p := ⟨x, 2, none⟩) hgx (.slice A7 y1.length c7)
     have hB8 := hB7.setCell (p := ⟨x, 2, none⟩) (by show w0.heap.size ≤ x; omega) (.slice A7 y1.length c7)
     have K8 := keep_far K7 (p := ⟨x, 2, none⟩) (by show w.heap.size ≤ x; omega) (.slice A7 y1.length c7)
     have hR8 := Kd.R_set hR7 X7 (by decide) 2 (.slice A7 y1.length c7)
     generalize w7.setCell ⟨x, 2, none⟩ (.slice A7 y1.length c7) = w8 at X8 Y8 hI8 hB8 K8 hR8 ⊢
     clear X7 Y7 hI7 hB7 K7 hR7 z2 zf
     have c0_ : w8.cell? ⟨x, 0, none⟩ = some (.bool false) := (blk_cell X8 0).trans rfl
     have c1_ : w8.cell? ⟨x, 1, none⟩ = some (.string m1) := (blk_cell X8 1).trans rfl
     have c2_ : w8.cell? ⟨x, 2, none⟩ = some (.slice A7 y1.length c7) := (blk_cell X8 2).trans rfl
     have c3_ : w8.cell? ⟨x, 3, none⟩ = some (.int .i64 0) := (blk_cell X8 3).trans rfl
     have p0 : w8.cell? ⟨w.heap.size, 0, none⟩ = some (.bool false) := (blk_cell Y8 0).trans rfl
     have pf0 := blk_frozen Y8 0
     have p1 : w8.cell? ⟨w.heap.size, 1, none⟩ = some (.string (⟨#[]⟩ : ByteArray)) := (blk_cell Y8 1).trans rfl
     have pf1 := blk_frozen Y8 1
     have p2 : w8.cell? ⟨w.heap.size, 2, none⟩ = some (.slice none 0 0) := (blk_cell Y8 2).trans rfl
     have pf2 := blk_frozen Y8 2
     have p3 : w8.cell? ⟨w.heap.size, 3, none⟩ = some (.int .i64 0) := (blk_cell Y8 3).trans rfl
     have pf3 := blk_frozen Y8 3
     go_wp2
     have BR := blk_put (blk_put (blk_put (blk_put Y8 0 (.bool false) rfl) 1 (.string m1) rfl) 2 (.slice A7 y1.length c7) rfl) 3 (.int .i64 0) rfl
     refine bodyPost_ret (results_cell_row rfl _ _ w.heap.size 41 #[.bool false, .string m1, .slice A7 y1.length c7, .int .i64 0] (0, 0) _ rfl BR Try.underlying41 rfl rfl) rfl ?_
     refine ⟨_, rfl, ?_, ?_, ?_, ?_⟩
     · exact Kd.R_set (Kd.R_set (Kd.R_set (Kd.R_set hR8 Y8 (by decide) 0 _) (blk_put Y8 0 _ rfl) (by decide) 1 _) (blk_put (blk_put Y8 0 _ rfl) 1 _ rfl) (by decide) 2 _) (blk_put (blk_put (blk_put Y8 0 _ rfl) 1 _ rfl) 2 _ rfl) (by decide) 3 _
     · exact (((hI8.far (p := ⟨w.heap.size, 0, none⟩) hgy _).far (p := ⟨w.heap.size, 1, none⟩) hgy _).far (p := ⟨w.heap.size, 2, none⟩) hgy _).far (p := ⟨w.heap.size, 3, none⟩) hgy _
     · exact (((hB8.setCell (p := ⟨w.heap.size, 0, none⟩) hy0 _).setCell (p := ⟨w.heap.size, 1, none⟩) hy0 _).setCell (p := ⟨w.heap.size, 2, none⟩) hy0 _).setCell (p := ⟨w.heap.size, 3, none⟩) hy0 _
     · exact keep_far (keep_far (keep_far (keep_far K8 (p := ⟨w.heap.size, 0, none⟩) (Nat.le_refl _) _) (p := ⟨w.heap.size, 1, none⟩) (Nat.le_refl _) _) (p := ⟨w.heap.size, 2, none⟩) (Nat.le_refl _) _) (p := ⟨w.heap.size, 3, none⟩) (Nat.le_refl _) _
    ·
     rw [if_neg h6] at hx
     simp only [Option.some.injEq, Prod.mk.injEq] at hx
     obtain ⟨rfl, rfl, rfl⟩ := hx
     clear HX
     have h6' : decide (6 ≤ a1) = false := decide_eq_false h6
     go_upto_region 8 with (fail)
     clear z0
     obtain ⟨w6, rfl⟩ : ∃ z : World, z = w5 := ⟨w5, rfl⟩
     have X6 := X5
     have Y6 := Y5
     have hI6 := hI5
     have hB6 := hB5
     have K6 := K5
     clear X5 Y5 hI5 hB5 K5
     go_wp2_with fail
     refine (verdererref12_reader_args.calls k g s0_0 _ _ _ y1 y2 y3 y4 w0 _ hI6 hB6 HY.out).mono ?_
     rintro e w7 ⟨v0, rfl, hR7, hI7, hB7, hk7⟩
     have X7 := hk7.blk X6 (Ne.symm hgx) (by simp)
     have Y7 := hk7.blk Y6 (Ne.symm hgy) (by simp)
     have K7 : KeepBut w w7 g none := K6.trans hk7 (.inl rfl)
     have hle : w.heap.size ≤ w6.heap.size := Nat.le_of_lt (blk_lt Y6)
     have hR7 := Kd.R_lower hR7 hle
     clear hI6 hB6 K6 X6 Y6 hk7 HY
     obtain ⟨A7, c7, rfl⟩ := Kd.R_slice hR7
     have z2 : w7.cell? ⟨x, 2, none⟩ = some (.slice none 0 0) := (blk_cell X7 2).trans rfl
     have zf := blk_frozen X7 2
     go_upto_region 9 with (fail)
     have X8 : (w7.setCell ⟨x, 2, none⟩ (.slice A7 y1.length c7)).heap[x]? = some (.cells #[.bool false, .string m1, .slice A7 y1.length c7, .int .i64 0] 41 (0, 0)) := blk_put X7 2 _ rfl
     have Y8 : (w7.setCell ⟨x, 2, none⟩ (.slice A7 y1.length c7)).heap[w.heap.size]? = some (.cells #[.bool false, .string (⟨#[]⟩ : ByteArray), .slice none 0 0, .int .i64 0] 41 (0, 0)) := (Below.heap_setCell w7 ⟨x, 2, none⟩ _ w.heap.size (Nat.ne_of_lt hlt1)).trans Y7
     have hI8 := hI7.far (p := ⟨x, 2, none⟩) hgx (.slice A7 y1.length c7)
     have hB8 := hB7.setCell (p := ⟨x, 2, none⟩) (by show w0.heap.size ≤ x; omega) (.slice A7 y1.length c7)
     have K8 := keep_far K7 (p := ⟨x, 2, none⟩) (by show w.heap.size ≤ x; omega) (.slice A7 y1.length c7)
     have hR8 := Kd.R_set hR7 X7 (by decide) 2 (.slice A7 y1.length c7)
     generalize w7.setCell ⟨x, 2, none⟩ (.slice A7 y1.length c7) = w8 at X8 Y8 hI8 hB8 K8 hR8 ⊢
     clear X7 Y7 hI7 hB7 K7 hR7 z2 zf
     have c0_ : w8.cell? ⟨x, 0, none⟩ = some (.bool false) := (blk_cell X8 0).trans rfl
     have c1_ : w8.cell? ⟨x, 1, none⟩ = some (.string m1) := (blk_cell X8 1).trans rfl
     have c2_ : w8.cell? ⟨x, 2, none⟩ = some (.slice A7 y1.length c7) := (blk_cell X8 2).trans rfl
     have c3_ : w8.cell? ⟨x, 3, none⟩ = some (.int .i64 0) := (blk_cell X8 3).trans rfl
     have p0 : w8.cell? ⟨w.heap.size, 0, none⟩ = some (.bool false) := (blk_cell Y8 0).trans rfl
     have pf0 := blk_frozen Y8 0
     have p1 : w8.cell? ⟨w.heap.size, 1, none⟩ = some (.string (⟨#[]⟩ : ByteArray)) := (blk_cell Y8 1).trans rfl
     have pf1 := blk_frozen Y8 1
     have p2 : w8.cell? ⟨w.heap.size, 2, none⟩ = some (.slice none 0 0) := (blk_cell Y8 2).trans rfl
     have pf2 := blk_frozen Y8 2
     have p3 : w8.cell? ⟨w.heap.size, 3, none⟩ = some (.int .i64 0) := (blk_cell Y8 3).trans rfl
     have pf3 := blk_frozen Y8 3
     go_wp2
     have BR := blk_put (blk_put (blk_put (blk_put Y8 0 (.bool false) rfl) 1 (.string m1) rfl) 2 (.slice A7 y1.length c7) rfl) 3 (.int .i64 0) rfl
     refine bodyPost_ret (results_cell_row rfl _ _ w.heap.size 41 #[.bool false, .string m1, .slice A7 y1.length c7, .int .i64 0] (0, 0) _ rfl BR Try.underlying41 rfl rfl) rfl ?_
     refine ⟨_, rfl, ?_, ?_, ?_, ?_⟩
     · exact Kd.R_set (Kd.R_set (Kd.R_set (Kd.R_set hR8 Y8 (by decide) 0 _) (blk_put Y8 0 _ rfl) (by decide) 1 _) (blk_put (blk_put Y8 0 _ rfl) 1 _ rfl) (by decide) 2 _) (blk_put (blk_put (blk_put Y8 0 _ rfl) 1 _ rfl) 2 _ rfl) (by decide) 3 _
     · exact (((hI8.far (p := ⟨w.heap.size, 0, none⟩) hgy _).far (p := ⟨w.heap.size, 1, none⟩) hgy _).far (p := ⟨w.heap.size, 2, none⟩) hgy _).far (p := ⟨w.heap.size, 3, none⟩) hgy _
     · exact (((hB8.setCell (p := ⟨w.heap.size, 0, none⟩) hy0 _).setCell (p := ⟨w.heap.size, 1, none⟩) hy0 _).setCell (p := ⟨w.heap.size, 2, none⟩) hy0 _).setCell (p := ⟨w.heap.size, 3, none⟩) hy0 _
     · exact keep_far (keep_far (keep_far (keep_far K8 (p := ⟨w.heap.size, 0, none⟩) (Nat.le_refl _) _) (p := ⟨w.heap.size, 1, none⟩) (Nat.le_refl _) _) (p := ⟨w.heap.size, 2, none⟩) (Nat.le_refl _) _) (p := ⟨w.heap.size, 3, none⟩) (Nat.le_refl _) _
  | false =>
   rw [if_neg (by decide)] at h
   unfold litB at h
   obtain ⟨⟨s1, s2, s3⟩, hs, h⟩ := Option.bind_eq_some_iff.1 h
   obtain ⟨⟨e1, e2, e3, e4, e5, e6, f1, f2, f3⟩, he, h⟩ := Option.bind_eq_some_iff.1 h
   obtain ⟨⟨v1, v2, v3, v4, v5, v6, v7, v8, v9, v10⟩, hu9, h⟩ := Option.bind_eq_some_iff.1 h
   obtain ⟨o, ho, h⟩ := Option.bind_eq_some_iff.1 h
   obtain ⟨⟨x1, x2, x3⟩, hx, h⟩ := Option.bind_eq_some_iff.1 h
   obtain ⟨⟨y1, y2, y3⟩, hy, h⟩ := Option.bind_eq_some_iff.1 h
   obtain ⟨⟨j1, j2, j3, j4, j5, j6, g1, g2, g3⟩, hj, h⟩ := Option.bind_eq_some_iff.1 h
   simp only [Option.some.injEq, Prod.mk.injEq] at h
   obtain ⟨rfl, rfl, rfl, rfl, rfl, rfl, rfl⟩ := h
   have HS := Aside0.mk hs
   have HE := Aside0.mk he
   have HV := Aside0.mk hu9
   have HO := Aside0.mk ho
   have HX := Aside0.mk hx
   have HY := Aside0.mk hy
   have HJ := Aside0.mk hj
   clear hs he hu9 ho hx hy hj
   have z0 : wc.cell? ⟨x, 0, none⟩ = some (.bool n) := (blk_cell X0 0).trans rfl
   go_upto_if 83 with (fail)
   go_cut [] (fun wz => IsS69 w0 wz g s0_0 s1 s2 s3 ∧ Below w0.heap.size w0 wz ∧ Aside0 (wz.heap[x]? = some (.cells #[.bool n, .string (⟨#[]⟩ : ByteArray), .slice none 0 0, .int .i64 0] 41 (0, 0))) ∧ Aside0 (wz.heap[w.heap.size]? = some (.cells #[.bool false, .string (⟨#[]⟩ : ByteArray), .slice none 0 0, .int .i64 0] 41 (0, 0))) ∧ KeepBut w wz g none)
   case first =>
    cases n with
    | true =>
     have hs := HS.out
     rw [if_pos rfl] at hs
     have HS2 := Aside0.mk hs
     clear HS hs
     go_wp2_with fail
     refine (verdererref12_reader_fail.calls g s0_0 q1 q2 q3 7 t7 s1 s2 s3 w0 _ hIc hBc HS2.out).mono ?_
     rintro e w3 ⟨rfl, hI3, hB3, hk3⟩
     have X3 := hk3.blk X0 (Ne.symm hgx) (by simp)
     have Y3 := hk3.blk Y0 (Ne.symm hgy) (by simp)
     have K3 : KeepBut w w3 g none := KC.trans hk3 (.inl rfl)
     go_wp2
     go_meet
     exact ⟨hI3, hB3, ⟨X3⟩, ⟨Y3⟩, K3⟩
    | false =>
     have hs := HS.out
     rw [if_neg (by decide)] at hs
     simp only [Option.some.injEq, Prod.mk.injEq] at hs
     obtain ⟨rfl, rfl, rfl⟩ := hs
     go_wp2
     go_meet
     exact ⟨hIc, hBc, ⟨X0⟩, ⟨Y0⟩, KC⟩
   case rest =>
    obtain ⟨w3, rfl⟩ : ∃ z : World, z = wc := ⟨wc, rfl⟩
    obtain ⟨hI3, hB3, ⟨X3⟩, ⟨Y3⟩, K3⟩ := hcut
    clear hIc hBc KC X0 Y0 z0 HS
    go_wp2_with fail
    refine (verdererref12_reader_term.calls k g s0_0 _ _ _ e1 e2 e3 e4 e5 e6 f1 f2 f3 w0 _ hI3 hB3 HE.out).mono ?_
    rintro e w4 ⟨rfl, hI4, hB4, hk4⟩
    have X4 := hk4.blk X3 (Ne.symm hgx) (by simp)
    have Y4 := hk4.blk Y3 (Ne.symm hgy) (by simp)
    have K4 : KeepBut w w4 g none := K3.trans hk4 (.inl rfl)
    clear hI3 hB3 K3 X3 Y3 hk4 HE
    go_upto_region 13 with (fail)
    have Z5 : (w4.alloc (.cells #[.string e1, .bool e2, .int .i64 e3, .bool e4, .int .i64 e5, .string e6] 38)).heap[w4.heap.size]? = some (.cells #[.string e1, .bool e2, .int .i64 e3, .bool e4, .int .i64 e5, .string e6] 38 (0, 0)) := by simpa using heap_alloc_new w4 _
    have X5 := blk_alloc X4 (.cells #[.string e1, .bool e2, .int .i64 e3, .bool e4, .int .i64 e5, .string e6] 38)
    have Y5 := blk_alloc Y4 (.cells #[.string e1, .bool e2, .int .i64 e3, .bool e4, .int .i64 e5, .string e6] 38)
    have hI5 := hI4.alloc (.cells #[.string e1, .bool e2, .int .i64 e3, .bool e4, .int .i64 e5, .string e6] 38)
    have hB5 := below_alloc hB4 (.cells #[.string e1, .bool e2, .int .i64 e3, .bool e4, .int .i64 e5, .string e6] 38)
    have K5 := keep_alloc K4 (.cells #[.string e1, .bool e2, .int .i64 e3, .bool e4, .int .i64 e5, .string e6] 38)
    have hzx : x < w4.heap.size := blk_lt X4
    have hzy : w.heap.size < w4.heap.size := blk_lt Y4
    have hzg : g < w4.heap.size := hI4.lt
    clear X4 Y4 hI4 hB4 K4
    generalize w4.alloc (.cells #[.string e1, .bool e2, .int .i64 e3, .bool e4, .int .i64 e5, .string e6] 38) = w5 at Z5 X5 Y5 hI5 hB5 K5 ⊢
    generalize w4.heap.size = z at Z5 hzx hzy hzg ⊢
    have F1 : ∀ (x0 : Int) (x1 : ByteArray) (x2 : Int) (x3 : Bool) (x4 : Int) (x5 : ByteArray) (x6 : Int) (w : World), Sem.run Try.prog (Instr.field 73 (.agg #[.int .i64 x0, .string x1, .int .i64 x2, .bool x3, .int .i64 x4, .string x5, .int .i64 x6]) 1) w = .ok (.string x1) w := by intros; kernel_rfl
    go_wp2_with fail
    refine (verdererref12_reader_now.callsB g s0_0 _ _ _ v1 v2 v3 v4 v5 v6 v7 v8 v9 v10 w0 _ hI5 hB5 HV.out).mono ?_
    rintro e w6 ⟨rfl, hb6⟩
    go_wp2_with fail
    refine (verdererref11_Op.calls k v2 o _ HO.out).mono ?_
    rintro e w7 ⟨rfl, hb7⟩
    have hb57 : Below w5.heap.size w5 w7 := hb6.trans (hb7.mono hb6.size)
    have X7 := (hb57.block _ (blk_lt X5)).trans X5
    have Y7 := (hb57.block _ (blk_lt Y5)).trans Y5
    have Z7 := (hb57.block _ (blk_lt Z5)).trans Z5
    have hI7 := hI5.below hb57
    have hB7 := hB5.trans (hb57.mono hB5.size)
    have K7 : KeepBut w w7 g none := K5.trans (KeepBut.of_below hb57 g none) (.inl rfl)
    clear hb6 hb7 hb57 X5 Y5 Z5 hI5 hB5 K5 HO F1
    have z3 : w7.cell? ⟨x, 3, none⟩ = some (.int .i64 0) := (blk_cell X7 3).trans rfl
    have zf := blk_frozen X7 3
    go_upto_region 14 with (fail)
    have X8 : (w7.setCell ⟨x, 3, none⟩ (.int .i64 o)).heap[x]? = some (.cells #[.bool n, .string (⟨#[]⟩ : ByteArray), .slice none 0 0, .int .i64 o] 41 (0, 0)) := blk_put X7 3 _ rfl
    have Y8 : (w7.setCell ⟨x, 3, none⟩ (.int .i64 o)).heap[w.heap.size]? = some (.cells #[.bool false, .string (⟨#[]⟩ : ByteArray), .slice none 0 0, .int .i64 0] 41 (0, 0)) := (Below.heap_setCell w7 ⟨x, 3, none⟩ _ w.heap.size (Nat.ne_of_lt hlt1)).trans Y7
    have Z8 : (w7.setCell ⟨x, 3, none⟩ (.int .i64 o)).heap[z]? = some (.cells #[.string e1, .bool e2, .int .i64 e3, .bool e4, .int .i64 e5, .string e6] 38 (0, 0)) := (Below.heap_setCell w7 ⟨x, 3, none⟩ _ z (Ne.symm (Nat.ne_of_lt hzx))).trans Z7
    have hI8 := hI7.far (p := ⟨x, 3, none⟩) hgx (.int .i64 o)
    have hB8 := hB7.setCell (p := ⟨x, 3, none⟩) (by show w0.heap.size ≤ x; omega) (.int .i64 o)
    have K8 := keep_far K7 (p := ⟨x, 3, none⟩) (by show w.heap.size ≤ x; omega) (.int .i64 o)
    clear X7 Y7 Z7 hI7 hB7 K7 z3 zf
    generalize w7.setCell ⟨x, 3, none⟩ (.int .i64 o) = w8 at X8 Y8 Z8 hI8 hB8 K8 ⊢
    have HW : ∃ m : Bool, m = !(decide (v1 = 3) && decide (o ≠ 0)) := ⟨_, rfl⟩
    obtain ⟨m, hm⟩ := HW
    have HMM := Aside0.mk hm
    clear hm
    go_cut [102] (fun v wz => v = .bool m ∧ IsS69 w0 wz g s0_0 f1 f2 f3 ∧ Below w0.heap.size w0 wz ∧ Aside0 (wz.heap[x]? = some (.cells #[.bool n, .string (⟨#[]⟩ : ByteArray), .slice none 0 0, .int .i64 o] 41 (0, 0))) ∧ Aside0 (wz.heap[w.heap.size]? = some (.cells #[.bool false, .string (⟨#[]⟩ : ByteArray), .slice none 0 0, .int .i64 0] 41 (0, 0))) ∧ Aside0 (wz.heap[z]? = some (.cells #[.string e1, .bool e2, .int .i64 e3, .bool e4, .int .i64 e5, .string e6] 38 (0, 0))) ∧ KeepBut w wz g none)
    case first =>
     have F0 : ∀ (x0 : Int) (x1 : ByteArray) (x2 : Int) (x3 : Bool) (x4 : Int) (x5 : ByteArray) (x6 : Int) (w : World), Sem.run Try.prog (Instr.field 73 (.agg #[.int .i64 x0, .string x1, .int .i64 x2, .bool x3, .int .i64 x4, .string x5, .int .i64 x6]) 0) w = .ok (.int .i64 x0) w := by intros; kernel_rfl
     go_wp2_with fail
     refine (verdererref12_reader_now.callsB g s0_0 _ _ _ v1 v2 v3 v4 v5 v6 v7 v8 v9 v10 w0 _ hI8 hB8 HV.out).mono ?_
     rintro e w9 ⟨rfl, hb9⟩
     have X9 := (hb9.block _ (blk_lt X8)).trans X8
     have Y9 := (hb9.block _ (blk_lt Y8)).trans Y8
     have Z9 := (hb9.block _ (blk_lt Z8)).trans Z8
     have hI9 := hI8.below hb9
     have hB9 := hB8.trans (hb9.mono hB8.size)
     have K9 : KeepBut w w9 g none := K8.trans (KeepBut.of_below hb9 g none) (.inl rfl)
     have z3 : w9.cell? ⟨x, 3, none⟩ = some (.int .i64 o) := (blk_cell X9 3).trans rfl
     have hm := HMM.out
     by_cases hv : v1 = 3
     ·
      have hvb : (v1 != 3) = false := by simp [hv]
      by_cases hoz : o = 0
      ·
       have hob : (o == 0) = true := by simp [hoz]
       have hm2 : m = true := by rw [hm]; simp [hv, hoz]
       clear hoz hv hm
       subst hm2
       go_wp2
       go_meet
       exact ⟨rfl, hI9, hB9, ⟨X9⟩, ⟨Y9⟩, ⟨Z9⟩, K9⟩
      ·
       have hob : (o == 0) = false := by simp [hoz]
       have hm2 : m = false := by rw [hm]; simp [hv, hoz]
       clear hoz hv hm
       subst hm2
       go_wp2
       go_meet
       exact ⟨rfl, hI9, hB9, ⟨X9⟩, ⟨Y9⟩, ⟨Z9⟩, K9⟩
     ·
      have hvb : (v1 != 3) = true := by simp [hv]
      have hm2 : m = true := by rw [hm]; simp [hv]
      clear hv hm
      subst hm2
      go_wp2
      go_meet
      exact ⟨rfl, hI9, hB9, ⟨X9⟩, ⟨Y9⟩, ⟨Z9⟩, K9⟩
    case rest =>
     obtain ⟨w9, rfl⟩ : ∃ z : World, z = wc := ⟨wc, rfl⟩
     obtain ⟨rfl, hI9, hB9, ⟨X9⟩, ⟨Y9⟩, ⟨Z9⟩, K9⟩ := hcut
     clear hI8 hB8 X8 Y8 Z8 K8
     go_upto_if 102 with (fail)
     go_cut [] (fun wz => IsS69 w0 wz g s0_0 x1 x2 x3 ∧ Below w0.heap.size w0 wz ∧ Aside0 (wz.heap[x]? = some (.cells #[.bool n, .string (⟨#[]⟩ : ByteArray), .slice none 0 0, .int .i64 o] 41 (0, 0))) ∧ Aside0 (wz.heap[w.heap.size]? = some (.cells #[.bool false, .string (⟨#[]⟩ : ByteArray), .slice none 0 0, .int .i64 0] 41 (0, 0))) ∧ Aside0 (wz.heap[z]? = some (.cells #[.string e1, .bool e2, .int .i64 e3, .bool e4, .int .i64 e5, .string e6] 38 (0, 0))) ∧ KeepBut w wz g none)
     case first =>
      have hx := HX.out
      have hm := HMM.out
      by_cases hv : v1 = 3 ∧ o ≠ 0
      ·
       rw [if_pos hv] at hx
       have hm2 : m = false := by rw [hm]; simp [hv.1, hv.2]
       clear hv hm HMM
       subst hm2
       simp only [Option.some.injEq, Prod.mk.injEq] at hx
       obtain ⟨rfl, rfl, rfl⟩ := hx
       go_wp2
       go_meet
       exact ⟨hI9, hB9, ⟨X9⟩, ⟨Y9⟩, ⟨Z9⟩, K9⟩
      ·
       rw [if_neg hv] at hx
       have hm2 : m = true := by
        rw [hm]
        by_cases h3 : v1 = 3
        ·
         have h4 : o = 0 := Decidable.byContradiction (fun h4 => hv ⟨h3, h4⟩)
         simp only [h4, ne_eq, not_true_eq_false, decide_false, Bool.and_false, Bool.not_false]
        · simp only [h3, decide_false, Bool.false_and, Bool.not_false]
       clear hv hm HMM
       subst hm2
       have HX2 := Aside0.mk hx
       clear HX hx
       have F3 : ∀ (x0 : Int) (x1 : ByteArray) (x2 : Int) (x3 : Bool) (x4 : Int) (x5 : ByteArray) (x6 : Int) (w : World), Sem.run Try.prog (Instr.field 73 (.agg #[.int .i64 x0, .string x1, .int .i64 x2, .bool x3, .int .i64 x4, .string x5, .int .i64 x6]) 3) w = .ok (.int .i64 x6) w := by intros; kernel_rfl
       go_wp2_with fail
       refine (verdererref12_reader_now.callsB g s0_0 _ _ _ v1 v2 v3 v4 v5 v6 v7 v8 v9 v10 w0 _ hI9 hB9 HV.out).mono ?_
       rintro e w10 ⟨rfl, hb10⟩
       have hI10 := hI9.below hb10
       have hB10 := hB9.trans (hb10.mono hB9.size)
       have X10 := (hb10.block _ (blk_lt X9)).trans X9
       have Y10 := (hb10.block _ (blk_lt Y9)).trans Y9
       have Z10 := (hb10.block _ (blk_lt Z9)).trans Z9
       have K10 : KeepBut w w10 g none := K9.trans (KeepBut.of_below hb10 g none) (.inl rfl)
       clear hb10 hI9 hB9 X9 Y9 Z9 K9
       go_wp2_with fail
       refine (verdererref12_reader_fail.calls g s0_0 _ _ _ 7 v7 x1 x2 x3 w0 _ hI10 hB10 HX2.out).mono ?_
       rintro e w11 ⟨rfl, hI11, hB11, hk11⟩
       have X11 := hk11.blk X10 (Ne.symm hgx) (by simp)
       have Y11 := hk11.blk Y10 (Ne.symm hgy) (by simp)
       have Z11 := hk11.blk Z10 (by omega) (by simp)
       have K11 : KeepBut w w11 g none := K10.trans hk11 (.inl rfl)
       go_wp2
       go_meet
       exact ⟨hI11, hB11, ⟨X11⟩, ⟨Y11⟩, ⟨Z11⟩, K11⟩
     case rest =>
      obtain ⟨w11, rfl⟩ : ∃ z : World, z = wc := ⟨wc, rfl⟩
      obtain ⟨hI11, hB11, ⟨X11⟩, ⟨Y11⟩, ⟨Z11⟩, K11⟩ := hcut
      clear hI9 hB9 X9 Y9 Z9 K9 HMM HX
      go_wp2_with fail
      refine (verdererref12_reader_step.calls g s0_0 _ _ _ y1 y2 y3 w0 _ hI11 hB11 HY.out).mono ?_
      rintro e w12 ⟨rfl, hI12, hB12, hk12⟩
      have X12 := hk12.blk X11 (Ne.symm hgx) (by simp)
      have Y12 := hk12.blk Y11 (Ne.symm hgy) (by simp)
      have Z12 := hk12.blk Z11 (by omega) (by simp)
      have K12 : KeepBut w w12 g none := K11.trans hk12 (.inl rfl)
      clear hI11 hB11 X11 Y11 Z11 K11 hk12
      go_upto_region 17 with (fail)
      have hI12d := hI12.drew
      have hB12d := below_drew1 hB12
      have X12d := blk_drew X12
      have Y12d := blk_drew Y12
      have Z12d := blk_drew Z12
      have K12d := keep_drew K12
      clear hI12 hB12 X12 Y12 K12
      have l0 : w12.cell? ⟨z, 0, none⟩ = some (.string e1) := (blk_cell Z12 0).trans rfl
      have l1 : w12.cell? ⟨z, 1, none⟩ = some (.bool e2) := (blk_cell Z12 1).trans rfl
      have l2 : w12.cell? ⟨z, 2, none⟩ = some (.int .i64 e3) := (blk_cell Z12 2).trans rfl
      have l3 : w12.cell? ⟨z, 3, none⟩ = some (.bool e4) := (blk_cell Z12 3).trans rfl
      have l4 : w12.cell? ⟨z, 4, none⟩ = some (.int .i64 e5) := (blk_cell Z12 4).trans rfl
      have l5 : w12.cell? ⟨z, 5, none⟩ = some (.string e6) := (blk_cell Z12 5).trans rfl
      clear Z12
      have n1 : ¬ z = x := by omega
      have n2 : ¬ x = z := by omega
      go_region_held3 (fun w' => w'.cell? ⟨z, 0, none⟩ = some (.string e1) ∧ w'.cell? ⟨z, 1, none⟩ = some (.bool e2) ∧ w'.cell? ⟨z, 2, none⟩ = some (.int .i64 e3) ∧ w'.cell? ⟨z, 3, none⟩ = some (.bool e4) ∧ w'.cell? ⟨z, 4, none⟩ = some (.int .i64 e5) ∧ w'.cell? ⟨z, 5, none⟩ = some (.string e6)) (go_keep) ((go_at_call 77; refine (verdererref12_reader_term.calls k g s0_0 _ _ _ j1 j2 j3 j4 j5 j6 g1 g2 g3 w0 _ hI12d hB12d HJ.out).mono ?_; rintro e w13 ⟨rfl, hI13, hB13, hk13⟩; have X13 := hk13.blk X12d (Ne.symm hgx) (by simp); have Y13 := hk13.blk Y12d (Ne.symm hgy) (by simp); have Z13 := hk13.blk Z12d (by omega) (by simp); have K13 : KeepBut w w13 g none := K12d.trans hk13 (.inl rfl); have i0 : w13.cell? ⟨z, 0, none⟩ = some (.string e1) := (blk_cell Z13 0).trans rfl; have i1 : w13.cell? ⟨z, 1, none⟩ = some (.bool e2) := (blk_cell Z13 1).trans rfl; have i2 : w13.cell? ⟨z, 2, none⟩ = some (.int .i64 e3) := (blk_cell Z13 2).trans rfl; have i3 : w13.cell? ⟨z, 3, none⟩ = some (.bool e4) := (blk_cell Z13 3).trans rfl; have i4 : w13.cell? ⟨z, 4, none⟩ = some (.int .i64 e5) := (blk_cell Z13 4).trans rfl; have i5 : w13.cell? ⟨z, 5, none⟩ = some (.string e6) := (blk_cell Z13 5).trans rfl; have i6 : w13.cell? ⟨x, 2, none⟩ = some (.slice none 0 0) := (blk_cell X13 2).trans rfl; have i7 := blk_frozen X13 2; have i8 := World.new_ne w13 _ i6; have i9 := World.new_ne w13 _ i0; have j8 : ∀ o, (w13.alloc o).cell? ⟨x, 2, none⟩ = some (.slice none 0 0) := fun o => (blk_cell (blk_alloc X13 o) 2).trans rfl; have j9 : ∀ o, (w13.alloc o).frozen? ⟨x, 2, none⟩ = false := fun o => blk_frozen (blk_alloc X13 o) 2))
      clear l0 l1 l2 l3 l4 l5 i0 i1 i2 i3 i4 i5 i6 i7 i8 i9 j8 j9 hI12d hB12d X12d Y12d Z12d K12d Z13 hk13
      have hle : w.heap.size ≤ w13.heap.size := Nat.le_of_lt (blk_lt Y13)
      have hR14 := lit_two w13 w.heap.size hle e1 e2 e3 e4 e5 e6 j1 j2 j3 j4 j5 j6
      have X14 := blk_alloc X13 (.cells #[.string e1, .bool e2, .int .i64 e3, .bool e4, .int .i64 e5, .string e6, .string j1, .bool j2, .int .i64 j3, .bool j4, .int .i64 j5, .string j6] 38)
      have Y14 := blk_alloc Y13 (.cells #[.string e1, .bool e2, .int .i64 e3, .bool e4, .int .i64 e5, .string e6, .string j1, .bool j2, .int .i64 j3, .bool j4, .int .i64 j5, .string j6] 38)
      have hI14 := hI13.alloc (.cells #[.string e1, .bool e2, .int .i64 e3, .bool e4, .int .i64 e5, .string e6, .string j1, .bool j2, .int .i64 j3, .bool j4, .int .i64 j5, .string j6] 38)
      have hB14 := below_alloc hB13 (.cells #[.string e1, .bool e2, .int .i64 e3, .bool e4, .int .i64 e5, .string e6, .string j1, .bool j2, .int .i64 j3, .bool j4, .int .i64 j5, .string j6] 38)
      have K14 := keep_alloc K13 (.cells #[.string e1, .bool e2, .int .i64 e3, .bool e4, .int .i64 e5, .string e6, .string j1, .bool j2, .int .i64 j3, .bool j4, .int .i64 j5, .string j6] 38)
      generalize w13.alloc (.cells #[.string e1, .bool e2, .int .i64 e3, .bool e4, .int .i64 e5, .string e6, .string j1, .bool j2, .int .i64 j3, .bool j4, .int .i64 j5, .string j6] 38) = w14 at *
      generalize w13.heap.size = bb at *
      have X8 : (w14.setCell ⟨x, 2, none⟩ (.slice (some ⟨bb, 0, none⟩) 2 2)).heap[x]? = some (.cells #[.bool n, .string (⟨#[]⟩ : ByteArray), .slice (some ⟨bb, 0, none⟩) 2 2, .int .i64 o] 41 (0, 0)) := blk_put X14 2 _ rfl
      have Y8 : (w14.setCell ⟨x, 2, none⟩ (.slice (some ⟨bb, 0, none⟩) 2 2)).heap[w.heap.size]? = some (.cells #[.bool false, .string (⟨#[]⟩ : ByteArray), .slice none 0 0, .int .i64 0] 41 (0, 0)) := (Below.heap_setCell w14 ⟨x, 2, none⟩ _ w.heap.size (Nat.ne_of_lt hlt1)).trans Y14
      have hI8 := hI14.far (p := ⟨x, 2, none⟩) hgx (.slice (some ⟨bb, 0, none⟩) 2 2)
      have hB8 := hB14.setCell (p := ⟨x, 2, none⟩) (by show w0.heap.size ≤ x; omega) (.slice (some ⟨bb, 0, none⟩) 2 2)
      have K8 := keep_far K14 (p := ⟨x, 2, none⟩) (by show w.heap.size ≤ x; omega) (.slice (some ⟨bb, 0, none⟩) 2 2)
      have hR8 := Kd.R_set hR14 X14 (by decide) 2 (.slice (some ⟨bb, 0, none⟩) 2 2)
      generalize w14.setCell ⟨x, 2, none⟩ (.slice (some ⟨bb, 0, none⟩) 2 2) = w8 at X8 Y8 hI8 hB8 K8 hR8 ⊢
      clear X14 Y14 hI14 hB14 K14 hR14 X13 Y13 hI13 hB13 K13
      have c0_ : w8.cell? ⟨x, 0, none⟩ = some (.bool n) := (blk_cell X8 0).trans rfl
      have c1_ : w8.cell? ⟨x, 1, none⟩ = some (.string (⟨#[]⟩ : ByteArray)) := (blk_cell X8 1).trans rfl
      have c2_ : w8.cell? ⟨x, 2, none⟩ = some (.slice (some ⟨bb, 0, none⟩) 2 2) := (blk_cell X8 2).trans rfl
      have c3_ : w8.cell? ⟨x, 3, none⟩ = some (.int .i64 o) := (blk_cell X8 3).trans rfl
      have p0 : w8.cell? ⟨w.heap.size, 0, none⟩ = some (.bool false) := (blk_cell Y8 0).trans rfl
      have pf0 := blk_frozen Y8 0
      have p1 : w8.cell? ⟨w.heap.size, 1, none⟩ = some (.string (⟨#[]⟩ : ByteArray)) := (blk_cell Y8 1).trans rfl
      have pf1 := blk_frozen Y8 1
      have p2 : w8.cell? ⟨w.heap.size, 2, none⟩ = some (.slice none 0 0) := (blk_cell Y8 2).trans rfl
      have pf2 := blk_frozen Y8 2
      have p3 : w8.cell? ⟨w.heap.size, 3, none⟩ = some (.int .i64 0) := (blk_cell Y8 3).trans rfl
      have pf3 := blk_frozen Y8 3
      go_wp2
      have BR := blk_put (blk_put (blk_put (blk_put Y8 0 (.bool n) rfl) 1 (.string (⟨#[]⟩ : ByteArray)) rfl) 2 (.slice (some ⟨bb, 0, none⟩) 2 2) rfl) 3 (.int .i64 o) rfl
      refine bodyPost_ret (results_cell_row rfl _ _ w.heap.size 41 #[.bool n, .string (⟨#[]⟩ : ByteArray), .slice (some ⟨bb, 0, none⟩) 2 2, .int .i64 o] (0, 0) _ rfl BR Try.underlying41 rfl rfl) rfl ?_
      refine ⟨_, rfl, ?_, ?_, ?_, ?_⟩
      · exact Kd.R_set (Kd.R_set (Kd.R_set (Kd.R_set hR8 Y8 (by decide) 0 _) (blk_put Y8 0 _ rfl) (by decide) 1 _) (blk_put (blk_put Y8 0 _ rfl) 1 _ rfl) (by decide) 2 _) (blk_put (blk_put (blk_put Y8 0 _ rfl) 1 _ rfl) 2 _ rfl) (by decide) 3 _
      · exact (((hI8.far (p := ⟨w.heap.size, 0, none⟩) hgy _).far (p := ⟨w.heap.size, 1, none⟩) hgy _).far (p := ⟨w.heap.size, 2, none⟩) hgy _).far (p := ⟨w.heap.size, 3, none⟩) hgy _
      · exact (((hB8.setCell (p := ⟨w.heap.size, 0, none⟩) hy0 _).setCell (p := ⟨w.heap.size, 1, none⟩) hy0 _).setCell (p := ⟨w.heap.size, 2, none⟩) hy0 _).setCell (p := ⟨w.heap.size, 3, none⟩) hy0 _
      · exact keep_far (keep_far (keep_far (keep_far K8 (p := ⟨w.heap.size, 0, none⟩) (Nat.le_refl _) _) (p := ⟨w.heap.size, 1, none⟩) (Nat.le_refl _) _) (p := ⟨w.heap.size, 2, none⟩) (Nat.le_refl _) _) (p := ⟨w.heap.size, 3, none⟩) (Nat.le_refl _) _
end Go.Proofs.Ytikikmkfeeljgaa.G
