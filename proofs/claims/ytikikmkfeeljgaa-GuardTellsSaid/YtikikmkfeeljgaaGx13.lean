-- Written by a program for this claim (my own print over the kit's words).
import Derived.Test.YtikikmkfeeljgaaGx0
import Derived.Test.YtikikmkfeeljgaaGx6
import Derived.Test.YtikikmkfeeljgaaGx7
import Derived.Test.YtikikmkfeeljgaaGx8
import Derived.Test.YtikikmkfeeljgaaGx11
import Derived.Test.YtikikmkfeeljgaaGx12
namespace Go.Proofs.Ytikikmkfeeljgaa.G
open Go.RowKit Go.Proofs.YtikikmkfeeljgaaW.PrintWords Go.Proofs.YtikikmkfeeljgaaW.PrintLast Go.Proofs.YtikikmkfeeljgaaW.PrintMore
attribute [local go_sem] max2_int min2_int max_two min_two max_three min_three max_four min_four   -- for this text's walks alone
set_option linter.unusedVariables false
set_option linter.unusedSimpArgs false
/-! ### verdererref12_Rule: function 18 -/
def ruleKind (l : List (S73)) : Option (Int × Int × Int × Int) :=
 (verdererref12_reader_take.f l 0 0 0 ⟨#[100, 101, 110, 121]⟩).bind fun a => if a.1 = true then some (1, a.2.1, a.2.2.1, a.2.2.2) else (verdererref12_reader_take.f l a.2.1 a.2.2.1 a.2.2.2 ⟨#[118, 105, 101, 119]⟩).bind fun b => if b.1 = true then some (2, b.2.1, b.2.2.1, b.2.2.2) else (verdererref12_reader_take.f l b.2.1 b.2.2.1 b.2.2.2 ⟨#[113, 117, 111, 116, 97]⟩).bind fun c => if c.1 = true then some (3, c.2.1, c.2.2.1, c.2.2.2) else (verdererref12_reader_now.f l c.2.1 c.2.2.1 c.2.2.2).bind fun u => (verdererref12_reader_fail.f l c.2.1 c.2.2.1 c.2.2.2 7 u.2.2.2.2.2.2.1).bind fun s => some (0, s.1, s.2.1, s.2.2)
def ruleLim (l : List (S73)) (p q r : Int) : Option (Int × Int × Int × Int) :=
 (verdererref12_reader_must.f l p q r ⟨#[108, 105, 109, 105, 116]⟩).bind fun s => (if s.2.1 = 0 then (verdererref12_reader_now.f l s.1 s.2.1 s.2.2).bind fun u => (if (u.1 = 2 ∧ u.2.2.1 = 2) then some (s.1, s.2.1, s.2.2) else verdererref12_reader_fail.f l s.1 s.2.1 s.2.2 7 u.2.2.2.2.2.2.1) else some (s.1, s.2.1, s.2.2)).bind fun x => (verdererref12_reader_now.f l x.1 x.2.1 x.2.2).bind fun v => (verdererref12_reader_step.f l x.1 x.2.1 x.2.2).bind fun y => some (v.2.2.2.2.1, y.1, y.2.1, y.2.2)
def ruleEnd (l : List (S73)) (p q r : Int) : Option (Int × Int × Int) :=
 (verdererref12_reader_now.f l p q r).bind fun u => if u.1 = 4 then some (p, q, r) else verdererref12_reader_fail.f l p q r 7 u.2.2.2.2.2.2.1
def ruleFrom (k : Nat) (l : List (S73)) : Option (Int × ByteArray × List ByteArray × Int × ByteArray × Int × List (S41) × Int × Int) :=
 (ruleKind l).bind fun K => (verdererref12_reader_name.f k l K.2.1 K.2.2.1 K.2.2.2).bind fun m => (verdererref12_reader_must.f l m.2.1 m.2.2.1 m.2.2.2 ⟨#[40]⟩).bind fun s => (verdererref12_reader_head.f k l s.1 s.2.1 s.2.2 K.1 0 ⟨#[]⟩ []).bind fun h => (verdererref12_reader_must.f l h.2.2.2.1 h.2.2.2.2.1 h.2.2.2.2.2 ⟨#[41]⟩).bind fun t => (if K.1 = 3 then ruleLim l t.1 t.2.1 t.2.2 else some (0, t.1, t.2.1, t.2.2)).bind fun L => (verdererref12_reader_must.f l L.2.1 L.2.2.1 L.2.2.2 ⟨#[105, 102]⟩).bind fun v => (verdererref12_reader_body.f k l v.1 v.2.1 v.2.2 []).bind fun b => (ruleEnd l b.2.1 b.2.2.1 b.2.2.2).bind fun z => if z.2.1 = 0 then some (K.1, m.1, h.1, h.2.1, h.2.2.1, L.1, b.1, 0, 0) else some (0, ⟨#[]⟩, [], 0, ⟨#[]⟩, 0, [], z.2.2, z.2.1)
def verdererref12_Rule.f (k : Nat) (a0 : ByteArray) : Option (Int × ByteArray × List ByteArray × Int × ByteArray × Int × List (S41) × Int × Int) :=
 (verdererref11_Read.f k a0).bind fun t => if t.2.2 = 0 then ruleFrom k t.1 else some (0, ⟨#[]⟩, [], 0, ⟨#[]⟩, 0, [], t.2.1, t.2.2)
set_option maxHeartbeats 8000000 in
set_option maxRecDepth 100000 in
theorem verdererref12_Rule.calls (k : Nat) (a0 : ByteArray) (r1 : Int) (r2 : ByteArray) (r3 : List ByteArray) (r4 : Int) (r5 : ByteArray) (r6 : Int) (r7 : List (S41)) (r8 : Int) (r9 : Int) (w : World) (h : verdererref12_Rule.f k a0 = some (r1, r2, r3, r4, r5, r6, r7, r8, r9)) :
  Calls Try.prog 18 #[.string a0] w fun e w' => ∃ v2_ v6_ : Value, e = .returned (.tuple #[.agg #[.int .i64 r1, .string r2, v2_, .int .i64 r4, .string r5, .int .i64 r6, v6_], .int .i64 r8, .int .i64 r9]) ∧ Kd.R Kd.string 9 w' w.heap.size (fun _ => True) v2_ r3 ∧ Kd.R k41 41 w' w.heap.size (fun _ => True) v6_ r7 ∧ Below w.heap.size w w' := by
 unfold verdererref12_Rule.f at h
 obtain ⟨⟨l, t1, t2⟩, ht, h⟩ := Option.bind_eq_some_iff.1 h
 simp only at h
 have HT := Aside0.mk ht
 have H := Aside0.mk h
 clear ht h
 go_enter Try.func18, Try.ntmps18
 go_wp2_with fail
 have BZ : (w.alloc (.cells #[.int .i64 0, .string (⟨#[]⟩ : ByteArray), .slice none 0 0, .int .i64 0, .string (⟨#[]⟩ : ByteArray), .int .i64 0, .slice none 0 0] 25)).heap[w.heap.size]? = some (.cells #[.int .i64 0, .string (⟨#[]⟩ : ByteArray), .slice none 0 0, .int .i64 0, .string (⟨#[]⟩ : ByteArray), .int .i64 0, .slice none 0 0] 25 (0, 0)) := by simpa using heap_alloc_new w _
 have hb1 := below_alloc (Below.refl w.heap.size w) (.cells #[.int .i64 0, .string (⟨#[]⟩ : ByteArray), .slice none 0 0, .int .i64 0, .string (⟨#[]⟩ : ByteArray), .int .i64 0, .slice none 0 0] 25)
 generalize w.alloc (.cells #[.int .i64 0, .string (⟨#[]⟩ : ByteArray), .slice none 0 0, .int .i64 0, .string (⟨#[]⟩ : ByteArray), .int .i64 0, .slice none 0 0] 25) = w1 at BZ hb1 ⊢
 refine (verdererref11_Read.calls k a0 l t1 t2 w1 HT.out).mono ?_
 rintro e w2 ⟨v0, rfl, R0, hb2⟩
 have Z2 := Aside0.mk ((hb2.block _ (blk_lt BZ)).trans BZ)
 have hbw2 := hb1.trans (hb2.mono hb1.size)
 obtain ⟨A0, c0, rfl, hc0, hC0⟩ := Kd.R_reads R0
 clear hb1 BZ R0 hb2
 by_cases ht2 : t2 = 0
 ·
  have h := H.out
  rw [if_pos ht2] at h
  have ht2b : (t2 != 0) = false := by simp [ht2]
  clear ht2 H
  unfold ruleFrom at h
  obtain ⟨⟨kd, k1, k2, k3⟩, hK, h⟩ := Option.bind_eq_some_iff.1 h
  obtain ⟨⟨nm, m1, m2, m3⟩, hm, h⟩ := Option.bind_eq_some_iff.1 h
  obtain ⟨⟨s1, s2, s3⟩, hs, h⟩ := Option.bind_eq_some_iff.1 h
  obtain ⟨⟨hd, ag, og, h1, h2, h3⟩, hh, h⟩ := Option.bind_eq_some_iff.1 h
  obtain ⟨⟨p1, p2, p3⟩, hp, h⟩ := Option.bind_eq_some_iff.1 h
  obtain ⟨⟨lim, i1, i2, i3⟩, hl, h⟩ := Option.bind_eq_some_iff.1 h
  obtain ⟨⟨f1, f2, f3⟩, hf, h⟩ := Option.bind_eq_some_iff.1 h
  obtain ⟨⟨bd, b1, b2, b3⟩, hb, h⟩ := Option.bind_eq_some_iff.1 h
  obtain ⟨⟨z1, z2, z3⟩, hz, h⟩ := Option.bind_eq_some_iff.1 h
  simp only at h hm hs hh hp hl hf hb hz
  have HK := Aside0.mk hK
  have HM := Aside0.mk hm
  have HS := Aside0.mk hs
  have HH := Aside0.mk hh
  have HP := Aside0.mk hp
  have HL := Aside0.mk hl
  have HF := Aside0.mk hf
  have HB := Aside0.mk hb
  have HZ := Aside0.mk hz
  have HE := Aside0.mk h
  clear hK hm hs hh hp hl hf hb hz h
  go_upto_region 6 with (fail)
  have hzg : w.heap.size ≠ w2.heap.size := Nat.ne_of_lt (blk_lt Z2.out)
  have hzx : w.heap.size ≠ w2.heap.size + 1 := by have := blk_lt Z2.out; omega
  have hzl : w.heap.size < w2.heap.size := blk_lt Z2.out
  have hI4 := (IsS69.new w2 w2 A0 c0 l 0 0 0 (Below.refl _ _) hC0).alloc (.cells #[.int .i64 0, .string (⟨#[]⟩ : ByteArray), .slice none 0 0, .int .i64 0, .string (⟨#[]⟩ : ByteArray), .int .i64 0, .slice none 0 0] 25)
  have hB4 := below_alloc (below_alloc (Below.refl w2.heap.size w2) (.cells #[.slice A0 l.length c0, .int .i64 0, .int .i64 0, .int .i64 0] 69)) (.cells #[.int .i64 0, .string (⟨#[]⟩ : ByteArray), .slice none 0 0, .int .i64 0, .string (⟨#[]⟩ : ByteArray), .int .i64 0, .slice none 0 0] 25)
  have BX4 : ((w2.alloc (.cells #[.slice A0 l.length c0, .int .i64 0, .int .i64 0, .int .i64 0] 69)).alloc (.cells #[.int .i64 0, .string (⟨#[]⟩ : ByteArray), .slice none 0 0, .int .i64 0, .string (⟨#[]⟩ : ByteArray), .int .i64 0, .slice none 0 0] 25)).heap[w2.heap.size + 1]? = some (.cells #[.int .i64 0, .string (⟨#[]⟩ : ByteArray), .slice none 0 0, .int .i64 0, .string (⟨#[]⟩ : ByteArray), .int .i64 0, .slice none 0 0] 25 (0, 0)) := by simpa using heap_alloc_new (w2.alloc (.cells #[.slice A0 l.length c0, .int .i64 0, .int .i64 0, .int .i64 0] 69)) (.cells #[.int .i64 0, .string (⟨#[]⟩ : ByteArray), .slice none 0 0, .int .i64 0, .string (⟨#[]⟩ : ByteArray), .int .i64 0, .slice none 0 0] 25)
  have hX4 : RuleAt ((w2.alloc (.cells #[.slice A0 l.length c0, .int .i64 0, .int .i64 0, .int .i64 0] 69)).alloc (.cells #[.int .i64 0, .string (⟨#[]⟩ : ByteArray), .slice none 0 0, .int .i64 0, .string (⟨#[]⟩ : ByteArray), .int .i64 0, .slice none 0 0] 25)) (w2.heap.size + 1) (w2.heap.size + 1) 0 ⟨#[]⟩ [] 0 ⟨#[]⟩ 0 [] := ⟨_, _, BX4, Nat.le_refl _, Kd.R_nil _ _ _ _ _, Kd.R_nil _ _ _ _ _⟩
  have Z4 := Aside0.mk (blk_alloc (blk_alloc Z2.out (.cells #[.slice A0 l.length c0, .int .i64 0, .int .i64 0, .int .i64 0] 69)) (.cells #[.int .i64 0, .string (⟨#[]⟩ : ByteArray), .slice none 0 0, .int .i64 0, .string (⟨#[]⟩ : ByteArray), .int .i64 0, .slice none 0 0] 25))
  clear BX4 Z2 hC0
  generalize (w2.alloc (.cells #[.slice A0 l.length c0, .int .i64 0, .int .i64 0, .int .i64 0] 69)).alloc (.cells #[.int .i64 0, .string (⟨#[]⟩ : ByteArray), .slice none 0 0, .int .i64 0, .string (⟨#[]⟩ : ByteArray), .int .i64 0, .slice none 0 0] 25) = w4 at hI4 hB4 hX4 Z4 ⊢
  have hxg : w2.heap.size ≠ w2.heap.size + 1 := by omega
  have hle1 : w2.heap.size ≤ w2.heap.size + 1 := by omega
  have hK := HK.out
  unfold ruleKind at hK
  obtain ⟨⟨c1, d1, d2, d3⟩, hc, hK⟩ := Option.bind_eq_some_iff.1 hK
  simp only at hK
  have HC := Aside0.mk hc
  have HK2 := Aside0.mk hK
  clear hc hK HK
  go_wp2_with fail
  refine (verdererref12_reader_take.calls w2.heap.size l _ _ _ ⟨#[100, 101, 110, 121]⟩ c1 d1 d2 d3 w2 _ hI4 hB4 HC.out).mono ?_
  rintro e w5 ⟨rfl, hI5, hB5, hk5⟩
  have hX5 := hX4.keepI hI4 hk5
  have Z5 := Aside0.mk (hk5.blk Z4.out hzg (by simp))
  clear hI4 hB4 hX4 Z4 hk5
  go_upto_if 26 with (fail)
  go_cut [] (fun wc => IsS69 w2 wc w2.heap.size l k1 k2 k3 ∧ Below w2.heap.size w2 wc ∧ RuleAt wc (w2.heap.size + 1) (w2.heap.size + 1) kd ⟨#[]⟩ [] 0 ⟨#[]⟩ 0 [] ∧ Aside0 (wc.heap[w.heap.size]? = some (.cells #[.int .i64 0, .string (⟨#[]⟩ : ByteArray), .slice none 0 0, .int .i64 0, .string (⟨#[]⟩ : ByteArray), .int .i64 0, .slice none 0 0] 25 (0, 0))))
  case first =>
   clear HM HS HH HP HL HF HB HZ HE HC
   cases c1 with
   | true =>
    have hK := HK2.out
    rw [if_pos rfl] at hK
    simp only [Option.some.injEq, Prod.mk.injEq] at hK
    obtain ⟨rfl, rfl, rfl, rfl⟩ := hK
    clear HK2
    obtain ⟨v2, v6, BX, _, _, _⟩ := id hX5
    have y0 : w5.cell? ⟨w2.heap.size + 1, 0, none⟩ = some (.int .i64 0) := (blk_cell BX 0).trans rfl
    have yf := blk_frozen BX 0
    clear BX
    go_wp2
    go_meet
    exact ⟨hI5.far (p := ⟨w2.heap.size + 1, 0, none⟩) hxg _, hB5.setCell (p := ⟨w2.heap.size + 1, 0, none⟩) hle1 _, hX5.set0 1, ⟨(Below.heap_setCell w5 ⟨w2.heap.size + 1, 0, none⟩ _ w.heap.size hzx).trans Z5.out⟩⟩
   | false =>
    have hK := HK2.out
    rw [if_neg (by decide)] at hK
    clear HK2
    obtain ⟨⟨c2, d1, d2, d3⟩, hc, hK⟩ := Option.bind_eq_some_iff.1 hK
    simp only at hK
    have HC := Aside0.mk hc
    have HK2 := Aside0.mk hK
    clear hc hK
    go_wp2_with fail
    refine (verdererref12_reader_take.calls w2.heap.size l _ _ _ ⟨#[118, 105, 101, 119]⟩ c2 d1 d2 d3 w2 _ hI5 hB5 HC.out).mono ?_
    rintro e w6 ⟨rfl, hI6, hB6, hk6⟩
    have hX6 := hX5.keepI hI5 hk6
    have Z6 := Aside0.mk (hk6.blk Z5.out hzg (by simp))
    clear hI5 hB5 hX5 Z5 hk6
    clear HC
    cases c2 with
    | true =>
     have hK := HK2.out
     rw [if_pos rfl] at hK
     simp only [Option.some.injEq, Prod.mk.injEq] at hK
     obtain ⟨rfl, rfl, rfl, rfl⟩ := hK
     clear HK2
     obtain ⟨v2, v6, BX, _, _, _⟩ := id hX6
     have y0 : w6.cell? ⟨w2.heap.size + 1, 0, none⟩ = some (.int .i64 0) := (blk_cell BX 0).trans rfl
     have yf := blk_frozen BX 0
     clear BX
     go_wp2
     go_meet
     exact ⟨hI6.far (p := ⟨w2.heap.size + 1, 0, none⟩) hxg _, hB6.setCell (p := ⟨w2.heap.size + 1, 0, none⟩) hle1 _, hX6.set0 2, ⟨(Below.heap_setCell w6 ⟨w2.heap.size + 1, 0, none⟩ _ w.heap.size hzx).trans Z6.out⟩⟩
    | false =>
     have hK := HK2.out
     rw [if_neg (by decide)] at hK
     clear HK2
     obtain ⟨⟨c3, d1, d2, d3⟩, hc, hK⟩ := Option.bind_eq_some_iff.1 hK
     simp only at hK
     have HC := Aside0.mk hc
     have HK2 := Aside0.mk hK
     clear hc hK
     go_wp2_with fail
     refine (verdererref12_reader_take.calls w2.heap.size l _ _ _ ⟨#[113, 117, 111, 116, 97]⟩ c3 d1 d2 d3 w2 _ hI6 hB6 HC.out).mono ?_
     rintro e w7 ⟨rfl, hI7, hB7, hk7⟩
     have hX7 := hX6.keepI hI6 hk7
     have Z7 := Aside0.mk (hk7.blk Z6.out hzg (by simp))
     clear hI6 hB6 hX6 Z6 hk7
     clear HC
     cases c3 with
     | true =>
      have hK := HK2.out
      rw [if_pos rfl] at hK
      simp only [Option.some.injEq, Prod.mk.injEq] at hK
      obtain ⟨rfl, rfl, rfl, rfl⟩ := hK
      clear HK2
      obtain ⟨v2, v6, BX, _, _, _⟩ := id hX7
      have y0 : w7.cell? ⟨w2.heap.size + 1, 0, none⟩ = some (.int .i64 0) := (blk_cell BX 0).trans rfl
      have yf := blk_frozen BX 0
      clear BX
      go_wp2
      go_meet
      exact ⟨hI7.far (p := ⟨w2.heap.size + 1, 0, none⟩) hxg _, hB7.setCell (p := ⟨w2.heap.size + 1, 0, none⟩) hle1 _, hX7.set0 3, ⟨(Below.heap_setCell w7 ⟨w2.heap.size + 1, 0, none⟩ _ w.heap.size hzx).trans Z7.out⟩⟩
     | false =>
      have hK := HK2.out
      rw [if_neg (by decide)] at hK
      clear HK2
      obtain ⟨⟨u1, u2, u3, u4, u5, u6, u7, u8, u9, u10⟩, hu, hK⟩ := Option.bind_eq_some_iff.1 hK
      obtain ⟨⟨x1, x2, x3⟩, hx, hK⟩ := Option.bind_eq_some_iff.1 hK
      simp only [Option.some.injEq, Prod.mk.injEq] at hK
      obtain ⟨rfl, rfl, rfl, rfl⟩ := hK
      have HU := Aside0.mk hu
      have HX := Aside0.mk hx
      clear hu hx
      have F3 : ∀ (x0 : Int) (x1 : ByteArray) (x2 : Int) (x3 : Bool) (x4 : Int) (x5 : ByteArray) (x6 : Int) (w : World), Sem.run Try.prog (Instr.field 73 (.agg #[.int .i64 x0, .string x1, .int .i64 x2, .bool x3, .int .i64 x4, .string x5, .int .i64 x6]) 3) w = .ok (.int .i64 x6) w := by intros; kernel_rfl
      go_wp2_with fail
      refine (verdererref12_reader_now.callsB w2.heap.size l _ _ _ u1 u2 u3 u4 u5 u6 u7 u8 u9 u10 w2 _ hI7 hB7 HU.out).mono ?_
      rintro e w8 ⟨rfl, hb8⟩
      have hI8 := hI7.below hb8
      have hB8 := hB7.trans (hb8.mono hB7.size)
      have hX8 := hX7.below hb8
      have Z8 := Aside0.mk ((hb8.block _ (blk_lt Z7.out)).trans Z7.out)
      clear hI7 hB7 hX7 Z7 hb8
      go_wp2_with fail
      refine (verdererref12_reader_fail.calls w2.heap.size l _ _ _ 7 u7 x1 x2 x3 w2 _ hI8 hB8 HX.out).mono ?_
      rintro e w9 ⟨rfl, hI9, hB9, hk9⟩
      have hX9 := hX8.keepI hI8 hk9
      have Z9 := Aside0.mk (hk9.blk Z8.out hzg (by simp))
      clear hI8 hB8 hX8 Z8 hk9
      go_wp2
      go_meet
      exact ⟨hI9, hB9, hX9, Z9⟩
  case rest =>
   obtain ⟨hI6, hB6, hX6, Z6⟩ := hcut
   clear hI5 hB5 hX5 Z5 HK2 HC
   go_wp2_with fail
   refine (verdererref12_reader_name.calls k w2.heap.size l _ _ _ nm m1 m2 m3 w2 _ hI6 hB6 HM.out).mono ?_
   rintro e w7 ⟨rfl, hI7, hB7, hk7⟩
   have hX7 := hX6.keepI hI6 hk7
   have Z7 := Aside0.mk (hk7.blk Z6.out hzg (by simp))
   clear hI6 hB6 hX6 Z6 hk7
   obtain ⟨v2, v6, BX, _, _, _⟩ := id hX7
   have y0 : w7.cell? ⟨w2.heap.size + 1, 1, none⟩ = some (.string (⟨#[]⟩ : ByteArray)) := (blk_cell BX 1).trans rfl
   have yf := blk_frozen BX 1
   clear BX
   go_upto_region 14 with (fail)
   have hI8 := hI7.far (p := ⟨w2.heap.size + 1, 1, none⟩) hxg (.string nm)
   have hB8 := hB7.setCell (p := ⟨w2.heap.size + 1, 1, none⟩) hle1 (.string nm)
   have hX8 := hX7.set1 nm
   have Z8 : Aside0 ((w7.setCell ⟨w2.heap.size + 1, 1, none⟩ (.string nm)).heap[w.heap.size]? = _) := ⟨(Below.heap_setCell w7 ⟨w2.heap.size + 1, 1, none⟩ (.string nm) w.heap.size hzx).trans Z7.out⟩
   generalize w7.setCell ⟨w2.heap.size + 1, 1, none⟩ (.string nm) = w8 at hI8 hB8 hX8 Z8 ⊢
   clear hI7 hB7 hX7 Z7 y0 yf
   go_wp2_with fail
   refine (verdererref12_reader_must.calls w2.heap.size l _ _ _ ⟨#[40]⟩ s1 s2 s3 w2 _ hI8 hB8 HS.out).mono ?_
   rintro e w9 ⟨rfl, hI9, hB9, hk9⟩
   have hX9 := hX8.keepI hI8 hk9
   have Z9 := Aside0.mk (hk9.blk Z8.out hzg (by simp))
   clear hI8 hB8 hX8 Z8 hk9
   go_wp2_with fail
   refine (verdererref12_reader_head.calls k w2.heap.size (w2.heap.size + 1) (w2.heap.size + 1) l _ _ _ kd 0 ⟨#[]⟩ nm [] 0 [] hd ag og h1 h2 h3 w2 _ hI9 hB9 hX9 hle1 HH.out).mono ?_
   rintro e w10 ⟨rfl, hI10, hB10, hX10, hkb10⟩
   have Z10 := Aside0.mk (hkb10.blk (by omega) hzg Z9.out)
   clear hI9 hB9 hX9 Z9 hkb10
   go_wp2_with fail
   refine (verdererref12_reader_must.calls w2.heap.size l _ _ _ ⟨#[41]⟩ p1 p2 p3 w2 _ hI10 hB10 HP.out).mono ?_
   rintro e w11 ⟨rfl, hI11, hB11, hk11⟩
   have hX11 := hX10.keepI hI10 hk11
   have Z11 := Aside0.mk (hk11.blk Z10.out hzg (by simp))
   clear hI10 hB10 hX10 Z10 hk11
   obtain ⟨v2, v6, BX, _, _, _⟩ := id hX11
   have y0 : w11.cell? ⟨w2.heap.size + 1, 0, none⟩ = some (.int .i64 kd) := (blk_cell BX 0).trans rfl
   clear BX
   go_upto_if 50 with (fail)
   go_cut [] (fun wc => IsS69 w2 wc w2.heap.size l i1 i2 i3 ∧ Below w2.heap.size w2 wc ∧ RuleAt wc (w2.heap.size + 1) (w2.heap.size + 1) kd nm hd ag og lim [] ∧ Aside0 (wc.heap[w.heap.size]? = some (.cells #[.int .i64 0, .string (⟨#[]⟩ : ByteArray), .slice none 0 0, .int .i64 0, .string (⟨#[]⟩ : ByteArray), .int .i64 0, .slice none 0 0] 25 (0, 0))))
   case first =>
    clear HF HB HZ HE
    by_cases hk3 : kd = 3
    ·
     have hL := HL.out
     rw [if_pos hk3] at hL
     have hk3b : (kd == 3) = true := by simp [hk3]
     clear hk3 HL y0
     unfold ruleLim at hL
     obtain ⟨⟨j1, j2, j3⟩, hj, hL⟩ := Option.bind_eq_some_iff.1 hL
     obtain ⟨⟨x1, x2, x3⟩, hx, hL⟩ := Option.bind_eq_some_iff.1 hL
     obtain ⟨⟨v1, v2, v3, v4, v5, v6, v7, v8, v9, v10⟩, hv, hL⟩ := Option.bind_eq_some_iff.1 hL
     obtain ⟨⟨y1, y2, y3⟩, hy, hL⟩ := Option.bind_eq_some_iff.1 hL
     simp only [Option.some.injEq, Prod.mk.injEq] at hL
     obtain ⟨rfl, rfl, rfl, rfl⟩ := hL
     have HJ := Aside0.mk hj
     have HX := Aside0.mk hx
     have HV := Aside0.mk hv
     have HY := Aside0.mk hy
     clear hj hx hv hy
     go_wp2_with fail
     refine (verdererref12_reader_must.calls w2.heap.size l _ _ _ ⟨#[108, 105, 109, 105, 116]⟩ j1 j2 j3 w2 _ hI11 hB11 HJ.out).mono ?_
     rintro e w12 ⟨rfl, hI12, hB12, hk12⟩
     have hX12 := hX11.keepI hI11 hk12
     have Z12 := Aside0.mk (hk12.blk Z11.out hzg (by simp))
     clear hI11 hB11 hX11 Z11 hk12
     obtain ⟨A_, c_, hgb, _, _⟩ := id hI12
     have q2 : w12.cell? ⟨w2.heap.size, 2, none⟩ = some (.int .i64 j2) := (blk_cell hgb 2).trans rfl
     clear hgb
     have hx := HX.out
     by_cases hj2 : j2 = 0
     ·
      rw [if_pos hj2] at hx
      have hj2b : (j2 == 0) = true := by simp [hj2]
      clear hj2
      obtain ⟨⟨u1, u2, u3, u4, u5, u6, u7, u8, u9, u10⟩, hu, hx⟩ := Option.bind_eq_some_iff.1 hx
      simp only at hx
      have HU := Aside0.mk hu
      clear hu
      have F0 : ∀ (x0 : Int) (x1 : ByteArray) (x2 : Int) (x3 : Bool) (x4 : Int) (x5 : ByteArray) (x6 : Int) (w : World), Sem.run Try.prog (Instr.field 73 (.agg #[.int .i64 x0, .string x1, .int .i64 x2, .bool x3, .int .i64 x4, .string x5, .int .i64 x6]) 0) w = .ok (.int .i64 x0) w := by intros; kernel_rfl
      have F2 : ∀ (x0 : Int) (x1 : ByteArray) (x2 : Int) (x3 : Bool) (x4 : Int) (x5 : ByteArray) (x6 : Int) (w : World), Sem.run Try.prog (Instr.field 73 (.agg #[.int .i64 x0, .string x1, .int .i64 x2, .bool x3, .int .i64 x4, .string x5, .int .i64 x6]) 2) w = .ok (.agg #[.int .i64 x2, .bool x3, .int .i64 x4, .string x5]) w := by intros; kernel_rfl
      have G0 : ∀ (x2 : Int) (x3 : Bool) (x4 : Int) (x5 : ByteArray) (w : World), Sem.run Try.prog (Instr.field 36 (.agg #[.int .i64 x2, .bool x3, .int .i64 x4, .string x5]) 0) w = .ok (.int .i64 x2) w := by intros; kernel_rfl
      go_wp2_with fail
      refine (verdererref12_reader_now.callsB w2.heap.size l _ _ _ u1 u2 u3 u4 u5 u6 u7 u8 u9 u10 w2 _ hI12 hB12 HU.out).mono ?_
      rintro e w13 ⟨rfl, hb13⟩
      have hI13 := hI12.below hb13
      have hB13 := hB12.trans (hb13.mono hB12.size)
      have hX13 := hX12.below hb13
      have Z13 := Aside0.mk ((hb13.block _ (blk_lt Z12.out)).trans Z12.out)
      clear hI12 hB12 hX12 Z12 hb13
      by_cases hu1 : u1 = 2
      ·
       have hu1b : (u1 != 2) = false := by simp [hu1]
       go_wp2_with fail
       refine (verdererref12_reader_now.callsB w2.heap.size l _ _ _ u1 u2 u3 u4 u5 u6 u7 u8 u9 u10 w2 _ hI13 hB13 HU.out).mono ?_
       rintro e w14 ⟨rfl, hb14⟩
       have hI14 := hI13.below hb14
       have hB14 := hB13.trans (hb14.mono hB13.size)
       have hX14 := hX13.below hb14
       have Z14 := Aside0.mk ((hb14.block _ (blk_lt Z13.out)).trans Z13.out)
       clear hI13 hB13 hX13 Z13 hb14
       by_cases hu3 : u3 = 2
       ·
        have hu3b : (u3 != 2) = false := by simp [hu3]
        rw [if_pos ⟨hu1, hu3⟩] at hx
        clear hu1 hu3
        simp only [Option.some.injEq, Prod.mk.injEq] at hx
        obtain ⟨rfl, rfl, rfl⟩ := hx
        clear HX
        go_upto_region 21 with (fail)
        clear q2
        have F2 : ∀ (x0 : Int) (x1 : ByteArray) (x2 : Int) (x3 : Bool) (x4 : Int) (x5 : ByteArray) (x6 : Int) (w : World), Sem.run Try.prog (Instr.field 73 (.agg #[.int .i64 x0, .string x1, .int .i64 x2, .bool x3, .int .i64 x4, .string x5, .int .i64 x6]) 2) w = .ok (.agg #[.int .i64 x2, .bool x3, .int .i64 x4, .string x5]) w := by intros; kernel_rfl
        have G2 : ∀ (x2 : Int) (x3 : Bool) (x4 : Int) (x5 : ByteArray) (w : World), Sem.run Try.prog (Instr.field 36 (.agg #[.int .i64 x2, .bool x3, .int .i64 x4, .string x5]) 2) w = .ok (.int .i64 x4) w := by intros; kernel_rfl
        go_wp2_with fail
        refine (verdererref12_reader_now.callsB w2.heap.size l _ _ _ v1 v2 v3 v4 v5 v6 v7 v8 v9 v10 w2 _ hI14 hB14 HV.out).mono ?_
        rintro e w15 ⟨rfl, hb15⟩
        have hI15 := hI14.below hb15
        have hB15 := hB14.trans (hb15.mono hB14.size)
        have hX15 := hX14.below hb15
        have Z15 := Aside0.mk ((hb15.block _ (blk_lt Z14.out)).trans Z14.out)
        clear hI14 hB14 hX14 Z14 hb15
        obtain ⟨w_2, w_6, BX, _, _, _⟩ := id hX15
        have y0 : w15.cell? ⟨w2.heap.size + 1, 5, none⟩ = some (.int .i64 0) := (blk_cell BX 5).trans rfl
        have yf := blk_frozen BX 5
        clear BX
        go_upto_region 22 with (fail)
        have hI16 := hI15.far (p := ⟨w2.heap.size + 1, 5, none⟩) hxg (.int .i64 v5)
        have hB16 := hB15.setCell (p := ⟨w2.heap.size + 1, 5, none⟩) hle1 (.int .i64 v5)
        have hX16 := hX15.set5 v5
        have Z16 : Aside0 ((w15.setCell ⟨w2.heap.size + 1, 5, none⟩ (.int .i64 v5)).heap[w.heap.size]? = _) := ⟨(Below.heap_setCell w15 ⟨w2.heap.size + 1, 5, none⟩ (.int .i64 v5) w.heap.size hzx).trans Z15.out⟩
        generalize w15.setCell ⟨w2.heap.size + 1, 5, none⟩ (.int .i64 v5) = w16 at hI16 hB16 hX16 Z16 ⊢
        clear hI15 hB15 hX15 Z15 y0 yf
        go_wp2_with fail
        refine (verdererref12_reader_step.calls w2.heap.size l _ _ _ y1 y2 y3 w2 _ hI16 hB16 HY.out).mono ?_
        rintro e w17 ⟨rfl, hI17, hB17, hk17⟩
        have hX17 := hX16.keepI hI16 hk17
        have Z17 := Aside0.mk (hk17.blk Z16.out hzg (by simp))
        clear hI16 hB16 hX16 Z16 hk17
        go_wp2
        go_meet
        exact ⟨hI17, hB17, hX17, Z17⟩
       ·
        have hu3b : (u3 != 2) = true := by simp [hu3]
        rw [if_neg (fun hh => hu3 hh.2)] at hx
        clear hu1 hu3
        have HX2 := Aside0.mk hx
        clear HX hx
        have F3 : ∀ (x0 : Int) (x1 : ByteArray) (x2 : Int) (x3 : Bool) (x4 : Int) (x5 : ByteArray) (x6 : Int) (w : World), Sem.run Try.prog (Instr.field 73 (.agg #[.int .i64 x0, .string x1, .int .i64 x2, .bool x3, .int .i64 x4, .string x5, .int .i64 x6]) 3) w = .ok (.int .i64 x6) w := by intros; kernel_rfl
        go_wp2_with fail
        refine (verdererref12_reader_now.callsB w2.heap.size l _ _ _ u1 u2 u3 u4 u5 u6 u7 u8 u9 u10 w2 _ hI14 hB14 HU.out).mono ?_
        rintro e w15 ⟨rfl, hb15⟩
        have hI15 := hI14.below hb15
        have hB15 := hB14.trans (hb15.mono hB14.size)
        have hX15 := hX14.below hb15
        have Z15 := Aside0.mk ((hb15.block _ (blk_lt Z14.out)).trans Z14.out)
        clear hI14 hB14 hX14 Z14 hb15
        go_wp2_with fail
        refine (verdererref12_reader_fail.calls w2.heap.size l _ _ _ 7 u7 x1 x2 x3 w2 _ hI15 hB15 HX2.out).mono ?_
        rintro e w16 ⟨rfl, hI16, hB16, hk16⟩
        have hX16 := hX15.keepI hI15 hk16
        have Z16 := Aside0.mk (hk16.blk Z15.out hzg (by simp))
        clear hI15 hB15 hX15 Z15 hk16
        have F2 : ∀ (x0 : Int) (x1 : ByteArray) (x2 : Int) (x3 : Bool) (x4 : Int) (x5 : ByteArray) (x6 : Int) (w : World), Sem.run Try.prog (Instr.field 73 (.agg #[.int .i64 x0, .string x1, .int .i64 x2, .bool x3, .int .i64 x4, .string x5, .int .i64 x6]) 2) w = .ok (.agg #[.int .i64 x2, .bool x3, .int .i64 x4, .string x5]) w := by intros; kernel_rfl
        have G2 : ∀ (x2 : Int) (x3 : Bool) (x4 : Int) (x5 : ByteArray) (w : World), Sem.run Try.prog (Instr.field 36 (.agg #[.int .i64 x2, .bool x3, .int .i64 x4, .string x5]) 2) w = .ok (.int .i64 x4) w := by intros; kernel_rfl
        go_wp2_with fail
        refine (verdererref12_reader_now.callsB w2.heap.size l _ _ _ v1 v2 v3 v4 v5 v6 v7 v8 v9 v10 w2 _ hI16 hB16 HV.out).mono ?_
        rintro e w17 ⟨rfl, hb17⟩
        have hI17 := hI16.below hb17
        have hB17 := hB16.trans (hb17.mono hB16.size)
        have hX17 := hX16.below hb17
        have Z17 := Aside0.mk ((hb17.block _ (blk_lt Z16.out)).trans Z16.out)
        clear hI16 hB16 hX16 Z16 hb17
        obtain ⟨w_2, w_6, BX, _, _, _⟩ := id hX17
        have y0 : w17.cell? ⟨w2.heap.size + 1, 5, none⟩ = some (.int .i64 0) := (blk_cell BX 5).trans rfl
        have yf := blk_frozen BX 5
        clear BX
        go_upto_region 22 with (fail)
        have hI18 := hI17.far (p := ⟨w2.heap.size + 1, 5, none⟩) hxg (.int .i64 v5)
        have hB18 := hB17.setCell (p := ⟨w2.heap.size + 1, 5, none⟩) hle1 (.int .i64 v5)
        have hX18 := hX17.set5 v5
        have Z18 : Aside0 ((w17.setCell ⟨w2.heap.size + 1, 5, none⟩ (.int .i64 v5)).heap[w.heap.size]? = _) := ⟨(Below.heap_setCell w17 ⟨w2.heap.size + 1, 5, none⟩ (.int .i64 v5) w.heap.size hzx).trans Z17.out⟩
        generalize w17.setCell ⟨w2.heap.size + 1, 5, none⟩ (.int .i64 v5) = w18 at hI18 hB18 hX18 Z18 ⊢
        clear hI17 hB17 hX17 Z17 y0 yf
        go_wp2_with fail
        refine (verdererref12_reader_step.calls w2.heap.size l _ _ _ y1 y2 y3 w2 _ hI18 hB18 HY.out).mono ?_
        rintro e w19 ⟨rfl, hI19, hB19, hk19⟩
        have hX19 := hX18.keepI hI18 hk19
        have Z19 := Aside0.mk (hk19.blk Z18.out hzg (by simp))
        clear hI18 hB18 hX18 Z18 hk19
        go_wp2
        go_meet
        exact ⟨hI19, hB19, hX19, Z19⟩
      ·
       have hu1b : (u1 != 2) = true := by simp [hu1]
       rw [if_neg (fun hh => hu1 hh.1)] at hx
       clear hu1
       have HX2 := Aside0.mk hx
       clear HX hx
       have F3 : ∀ (x0 : Int) (x1 : ByteArray) (x2 : Int) (x3 : Bool) (x4 : Int) (x5 : ByteArray) (x6 : Int) (w : World), Sem.run Try.prog (Instr.field 73 (.agg #[.int .i64 x0, .string x1, .int .i64 x2, .bool x3, .int .i64 x4, .string x5, .int .i64 x6]) 3) w = .ok (.int .i64 x6) w := by intros; kernel_rfl
       go_wp2_with fail
       refine (verdererref12_reader_now.callsB w2.heap.size l _ _ _ u1 u2 u3 u4 u5 u6 u7 u8 u9 u10 w2 _ hI13 hB13 HU.out).mono ?_
       rintro e w14 ⟨rfl, hb14⟩
       have hI14 := hI13.below hb14
       have hB14 := hB13.trans (hb14.mono hB13.size)
       have hX14 := hX13.below hb14
       have Z14 := Aside0.mk ((hb14.block _ (blk_lt Z13.out)).trans Z13.out)
       clear hI13 hB13 hX13 Z13 hb14
       go_wp2_with fail
       refine (verdererref12_reader_fail.calls w2.heap.size l _ _ _ 7 u7 x1 x2 x3 w2 _ hI14 hB14 HX2.out).mono ?_
       rintro e w15 ⟨rfl, hI15, hB15, hk15⟩
       have hX15 := hX14.keepI hI14 hk15
       have Z15 := Aside0.mk (hk15.blk Z14.out hzg (by simp))
       clear hI14 hB14 hX14 Z14 hk15
       have F2 : ∀ (x0 : Int) (x1 : ByteArray) (x2 : Int) (x3 : Bool) (x4 : Int) (x5 : ByteArray) (x6 : Int) (w : World), Sem.run Try.prog (Instr.field 73 (.agg #[.int .i64 x0, .string x1, .int .i64 x2, .bool x3, .int .i64 x4, .string x5, .int .i64 x6]) 2) w = .ok (.agg #[.int .i64 x2, .bool x3, .int .i64 x4, .string x5]) w := by intros; kernel_rfl
       have G2 : ∀ (x2 : Int) (x3 : Bool) (x4 : Int) (x5 : ByteArray) (w : World), Sem.run Try.prog (Instr.field 36 (.agg #[.int .i64 x2, .bool x3, .int .i64 x4, .string x5]) 2) w = .ok (.int .i64 x4) w := by intros; kernel_rfl
       go_wp2_with fail
       refine (verdererref12_reader_now.callsB w2.heap.size l _ _ _ v1 v2 v3 v4 v5 v6 v7 v8 v9 v10 w2 _ hI15 hB15 HV.out).mono ?_
       rintro e w16 ⟨rfl, hb16⟩
       have hI16 := hI15.below hb16
       have hB16 := hB15.trans (hb16.mono hB15.size)
       have hX16 := hX15.below hb16
       have Z16 := Aside0.mk ((hb16.block _ (blk_lt Z15.out)).trans Z15.out)
       clear hI15 hB15 hX15 Z15 hb16
       obtain ⟨w_2, w_6, BX, _, _, _⟩ := id hX16
       have y0 : w16.cell? ⟨w2.heap.size + 1, 5, none⟩ = some (.int .i64 0) := (blk_cell BX 5).trans rfl
       have yf := blk_frozen BX 5
       clear BX
       go_upto_region 22 with (fail)
       have hI17 := hI16.far (p := ⟨w2.heap.size + 1, 5, none⟩) hxg (.int .i64 v5)
       have hB17 := hB16.setCell (p := ⟨w2.heap.size + 1, 5, none⟩) hle1 (.int .i64 v5)
       have hX17 := hX16.set5 v5
       have Z17 : Aside0 ((w16.setCell ⟨w2.heap.size + 1, 5, none⟩ (.int .i64 v5)).heap[w.heap.size]? = _) := ⟨(Below.heap_setCell w16 ⟨w2.heap.size + 1, 5, none⟩ (.int .i64 v5) w.heap.size hzx).trans Z16.out⟩
       generalize w16.setCell ⟨w2.heap.size + 1, 5, none⟩ (.int .i64 v5) = w17 at hI17 hB17 hX17 Z17 ⊢
       clear hI16 hB16 hX16 Z16 y0 yf
       go_wp2_with fail
       refine (verdererref12_reader_step.calls w2.heap.size l _ _ _ y1 y2 y3 w2 _ hI17 hB17 HY.out).mono ?_
       rintro e w18 ⟨rfl, hI18, hB18, hk18⟩
       have hX18 := hX17.keepI hI17 hk18
       have Z18 := Aside0.mk (hk18.blk Z17.out hzg (by simp))
       clear hI17 hB17 hX17 Z17 hk18
       go_wp2
       go_meet
       exact ⟨hI18, hB18, hX18, Z18⟩
     ·
      rw [if_neg hj2] at hx
      have hj2b : (j2 == 0) = false := by simp [hj2]
      clear hj2
      simp only [Option.some.injEq, Prod.mk.injEq] at hx
      obtain ⟨rfl, rfl, rfl⟩ := hx
      clear HX
      go_upto_region 21 with (fail)
      clear q2
      have F2 : ∀ (x0 : Int) (x1 : ByteArray) (x2 : Int) (x3 : Bool) (x4 : Int) (x5 : ByteArray) (x6 : Int) (w : World), Sem.run Try.prog (Instr.field 73 (.agg #[.int .i64 x0, .string x1, .int .i64 x2, .bool x3, .int .i64 x4, .string x5, .int .i64 x6]) 2) w = .ok (.agg #[.int .i64 x2, .bool x3, .int .i64 x4, .string x5]) w := by intros; kernel_rfl
      have G2 : ∀ (x2 : Int) (x3 : Bool) (x4 : Int) (x5 : ByteArray) (w : World), Sem.run Try.prog (Instr.field 36 (.agg #[.int .i64 x2, .bool x3, .int .i64 x4, .string x5]) 2) w = .ok (.int .i64 x4) w := by intros; kernel_rfl
      go_wp2_with fail
      refine (verdererref12_reader_now.callsB w2.heap.size l _ _ _ v1 v2 v3 v4 v5 v6 v7 v8 v9 v10 w2 _ hI12 hB12 HV.out).mono ?_
      rintro e w13 ⟨rfl, hb13⟩
      have hI13 := hI12.below hb13
      have hB13 := hB12.trans (hb13.mono hB12.size)
      have hX13 := hX12.below hb13
      have Z13 := Aside0.mk ((hb13.block _ (blk_lt Z12.out)).trans Z12.out)
      clear hI12 hB12 hX12 Z12 hb13
      obtain ⟨w_2, w_6, BX, _, _, _⟩ := id hX13
      have y0 : w13.cell? ⟨w2.heap.size + 1, 5, none⟩ = some (.int .i64 0) := (blk_cell BX 5).trans rfl
      have yf := blk_frozen BX 5
      clear BX
      go_upto_region 22 with (fail)
      have hI14 := hI13.far (p := ⟨w2.heap.size + 1, 5, none⟩) hxg (.int .i64 v5)
      have hB14 := hB13.setCell (p := ⟨w2.heap.size + 1, 5, none⟩) hle1 (.int .i64 v5)
      have hX14 := hX13.set5 v5
      have Z14 : Aside0 ((w13.setCell ⟨w2.heap.size + 1, 5, none⟩ (.int .i64 v5)).heap[w.heap.size]? = _) := ⟨(Below.heap_setCell w13 ⟨w2.heap.size + 1, 5, none⟩ (.int .i64 v5) w.heap.size hzx).trans Z13.out⟩
      generalize w13.setCell ⟨w2.heap.size + 1, 5, none⟩ (.int .i64 v5) = w14 at hI14 hB14 hX14 Z14 ⊢
      clear hI13 hB13 hX13 Z13 y0 yf
      go_wp2_with fail
      refine (verdererref12_reader_step.calls w2.heap.size l _ _ _ y1 y2 y3 w2 _ hI14 hB14 HY.out).mono ?_
      rintro e w15 ⟨rfl, hI15, hB15, hk15⟩
      have hX15 := hX14.keepI hI14 hk15
      have Z15 := Aside0.mk (hk15.blk Z14.out hzg (by simp))
      clear hI14 hB14 hX14 Z14 hk15
      go_wp2
      go_meet
      exact ⟨hI15, hB15, hX15, Z15⟩
    ·
     have hL := HL.out
     rw [if_neg hk3] at hL
     have hk3b : (kd == 3) = false := by simp [hk3]
     simp only [Option.some.injEq, Prod.mk.injEq] at hL
     obtain ⟨rfl, rfl, rfl, rfl⟩ := hL
     go_wp2
     go_meet
     exact ⟨hI11, hB11, hX11, Z11⟩
   case rest =>
    obtain ⟨hI20, hB20, hX20, Z20⟩ := hcut
    clear hI11 hB11 hX11 Z11 HL y0
    go_wp2_with fail
    refine (verdererref12_reader_must.calls w2.heap.size l _ _ _ ⟨#[105, 102]⟩ f1 f2 f3 w2 _ hI20 hB20 HF.out).mono ?_
    rintro e w21 ⟨rfl, hI21, hB21, hk21⟩
    have hX21 := hX20.keepI hI20 hk21
    have Z21 := Aside0.mk (hk21.blk Z20.out hzg (by simp))
    clear hI20 hB20 hX20 Z20 hk21
    go_wp2_with fail
    refine (verdererref12_reader_body.calls k w2.heap.size (w2.heap.size + 1) (w2.heap.size + 1) l _ _ _ kd ag og nm hd lim [] bd b1 b2 b3 w2 _ hI21 hB21 hX21 hle1 HB.out).mono ?_
    rintro e w22 ⟨rfl, hI22, hB22, hX22, hkb22⟩
    have Z22 := Aside0.mk (hkb22.blk (by omega) hzg Z21.out)
    clear hI21 hB21 hX21 Z21 hkb22
    have hz := HZ.out
    unfold ruleEnd at hz
    obtain ⟨⟨u1, u2, u3, u4, u5, u6, u7, u8, u9, u10⟩, hu, hz⟩ := Option.bind_eq_some_iff.1 hz
    simp only at hz
    have HU := Aside0.mk hu
    have HZ2 := Aside0.mk hz
    clear hu hz HZ
    have F0 : ∀ (x0 : Int) (x1 : ByteArray) (x2 : Int) (x3 : Bool) (x4 : Int) (x5 : ByteArray) (x6 : Int) (w : World), Sem.run Try.prog (Instr.field 73 (.agg #[.int .i64 x0, .string x1, .int .i64 x2, .bool x3, .int .i64 x4, .string x5, .int .i64 x6]) 0) w = .ok (.int .i64 x0) w := by intros; kernel_rfl
    go_wp2_with fail
    refine (verdererref12_reader_now.callsB w2.heap.size l _ _ _ u1 u2 u3 u4 u5 u6 u7 u8 u9 u10 w2 _ hI22 hB22 HU.out).mono ?_
    rintro e w23 ⟨rfl, hb23⟩
    have hI23 := hI22.below hb23
    have hB23 := hB22.trans (hb23.mono hB22.size)
    have hX23 := hX22.below hb23
    have Z23 := Aside0.mk ((hb23.block _ (blk_lt Z22.out)).trans Z22.out)
    clear hI22 hB22 hX22 Z22 hb23
    go_upto_if 90 with (fail)
    clear F0
    go_cut [] (fun wc => IsS69 w2 wc w2.heap.size l z1 z2 z3 ∧ Below w2.heap.size w2 wc ∧ RuleAt wc (w2.heap.size + 1) (w2.heap.size + 1) kd nm hd ag og lim bd ∧ Aside0 (wc.heap[w.heap.size]? = some (.cells #[.int .i64 0, .string (⟨#[]⟩ : ByteArray), .slice none 0 0, .int .i64 0, .string (⟨#[]⟩ : ByteArray), .int .i64 0, .slice none 0 0] 25 (0, 0))))
    case first =>
     have hz := HZ2.out
     clear HE
     by_cases hu4 : u1 = 4
     ·
      rw [if_pos hu4] at hz
      have hu4b : (u1 != 4) = false := by simp [hu4]
      clear hu4
      simp only [Option.some.injEq, Prod.mk.injEq] at hz
      obtain ⟨rfl, rfl, rfl⟩ := hz
      go_wp2
      go_meet
      exact ⟨hI23, hB23, hX23, Z23⟩
     ·
      rw [if_neg hu4] at hz
      have hu4b : (u1 != 4) = true := by simp [hu4]
      clear hu4
      have HX := Aside0.mk hz
      clear hz HZ2
      have F3 : ∀ (x0 : Int) (x1 : ByteArray) (x2 : Int) (x3 : Bool) (x4 : Int) (x5 : ByteArray) (x6 : Int) (w : World), Sem.run Try.prog (Instr.field 73 (.agg #[.int .i64 x0, .string x1, .int .i64 x2, .bool x3, .int .i64 x4, .string x5, .int .i64 x6]) 3) w = .ok (.int .i64 x6) w := by intros; kernel_rfl
      go_wp2_with fail
      refine (verdererref12_reader_now.callsB w2.heap.size l _ _ _ u1 u2 u3 u4 u5 u6 u7 u8 u9 u10 w2 _ hI23 hB23 HU.out).mono ?_
      rintro e w24 ⟨rfl, hb24⟩
      have hI24 := hI23.below hb24
      have hB24 := hB23.trans (hb24.mono hB23.size)
      have hX24 := hX23.below hb24
      have Z24 := Aside0.mk ((hb24.block _ (blk_lt Z23.out)).trans Z23.out)
      clear hI23 hB23 hX23 Z23 hb24
      go_wp2_with fail
      refine (verdererref12_reader_fail.calls w2.heap.size l _ _ _ 7 u7 z1 z2 z3 w2 _ hI24 hB24 HX.out).mono ?_
      rintro e w25 ⟨rfl, hI25, hB25, hk25⟩
      have hX25 := hX24.keepI hI24 hk25
      have Z25 := Aside0.mk (hk25.blk Z24.out hzg (by simp))
      clear hI24 hB24 hX24 Z24 hk25
      go_wp2
      go_meet
      exact ⟨hI25, hB25, hX25, Z25⟩
    case rest =>
     obtain ⟨w30, rfl⟩ : ∃ z : World, z = wc := ⟨wc, rfl⟩
     obtain ⟨hI30, hB30, hX30, Z30⟩ := hcut
     clear hI23 hB23 hX23 Z23 HZ2 HU
     obtain ⟨A_, c_, hgb, _, _⟩ := id hI30
     have hgB := Aside0.mk hgb
     have q2 : w30.cell? ⟨w2.heap.size, 2, none⟩ = some (.int .i64 z2) := (blk_cell hgb 2).trans rfl
     have q3 : w30.cell? ⟨w2.heap.size, 3, none⟩ = some (.int .i64 z3) := (blk_cell hgb 3).trans rfl
     clear hgb
     have h := HE.out
     by_cases hz2 : z2 = 0
     ·
      rw [if_pos hz2] at h
      have hz2b : (z2 != 0) = false := by simp [hz2]
      clear hz2
      simp only [Option.some.injEq, Prod.mk.injEq] at h
      obtain ⟨rfl, rfl, rfl, rfl, rfl, rfl, rfl, rfl, rfl⟩ := h
      obtain ⟨v_2, v_6, BX, _, R2, R6⟩ := id hX30
      obtain ⟨A_2, c_2, rfl⟩ := Kd.R_slice R2
      obtain ⟨A_6, c_6, rfl⟩ := Kd.R_slice R6
      have R2o := Aside0.mk R2
      have R6o := Aside0.mk R6
      clear R2 R6
      have xc0 : w30.cell? ⟨w2.heap.size + 1, 0, none⟩ = some (.int .i64 kd) := (blk_cell BX 0).trans rfl
      have xc1 : w30.cell? ⟨w2.heap.size + 1, 1, none⟩ = some (.string nm) := (blk_cell BX 1).trans rfl
      have xc2 : w30.cell? ⟨w2.heap.size + 1, 2, none⟩ = some (.slice A_2 hd.length c_2) := (blk_cell BX 2).trans rfl
      have xc3 : w30.cell? ⟨w2.heap.size + 1, 3, none⟩ = some (.int .i64 ag) := (blk_cell BX 3).trans rfl
      have xc4 : w30.cell? ⟨w2.heap.size + 1, 4, none⟩ = some (.string og) := (blk_cell BX 4).trans rfl
      have xc5 : w30.cell? ⟨w2.heap.size + 1, 5, none⟩ = some (.int .i64 lim) := (blk_cell BX 5).trans rfl
      have xc6 : w30.cell? ⟨w2.heap.size + 1, 6, none⟩ = some (.slice A_6 bd.length c_6) := (blk_cell BX 6).trans rfl
      clear BX
      have BZ := Z30.out
      have zc0 : w30.cell? ⟨w.heap.size, 0, none⟩ = some (.int .i64 0) := (blk_cell BZ 0).trans rfl
      have zf0 := blk_frozen BZ 0
      have zc1 : w30.cell? ⟨w.heap.size, 1, none⟩ = some (.string (⟨#[]⟩ : ByteArray)) := (blk_cell BZ 1).trans rfl
      have zf1 := blk_frozen BZ 1
      have zc2 : w30.cell? ⟨w.heap.size, 2, none⟩ = some (.slice none 0 0) := (blk_cell BZ 2).trans rfl
      have zf2 := blk_frozen BZ 2
      have zc3 : w30.cell? ⟨w.heap.size, 3, none⟩ = some (.int .i64 0) := (blk_cell BZ 3).trans rfl
      have zf3 := blk_frozen BZ 3
      have zc4 : w30.cell? ⟨w.heap.size, 4, none⟩ = some (.string (⟨#[]⟩ : ByteArray)) := (blk_cell BZ 4).trans rfl
      have zf4 := blk_frozen BZ 4
      have zc5 : w30.cell? ⟨w.heap.size, 5, none⟩ = some (.int .i64 0) := (blk_cell BZ 5).trans rfl
      have zf5 := blk_frozen BZ 5
      have zc6 : w30.cell? ⟨w.heap.size, 6, none⟩ = some (.slice none 0 0) := (blk_cell BZ 6).trans rfl
      have zf6 := blk_frozen BZ 6
      clear BZ
      go_wp2
      have BR := blk_put (blk_put (blk_put (blk_put (blk_put (blk_put (blk_put (Z30.out) 0 (.int .i64 kd) rfl) 1 (.string nm) rfl) 2 (.slice A_2 hd.length c_2) rfl) 3 (.int .i64 ag) rfl) 4 (.string og) rfl) 5 (.int .i64 lim) rfl) 6 (.slice A_6 bd.length c_6) rfl
      refine bodyPost_ret (results_ctt rfl _ _ w.heap.size 25 #[.int .i64 kd, .string nm, .slice A_2 hd.length c_2, .int .i64 ag, .string og, .int .i64 lim, .slice A_6 bd.length c_6] (0, 0) _ rfl BR Try.underlying25 rfl rfl) rfl ?_
      refine ⟨_, _, rfl, ?_, ?_, ?_⟩
      · exact Kd.R_set (Kd.R_set (Kd.R_set (Kd.R_set (Kd.R_set (Kd.R_set (Kd.R_set (Kd.R_lower R2o.out (by omega)) (Z30.out) (by decide) 0 _) (blk_put (Z30.out) 0 (.int .i64 kd) rfl) (by decide) 1 _) (blk_put (blk_put (Z30.out) 0 (.int .i64 kd) rfl) 1 (.string nm) rfl) (by decide) 2 _) (blk_put (blk_put (blk_put (Z30.out) 0 (.int .i64 kd) rfl) 1 (.string nm) rfl) 2 (.slice A_2 hd.length c_2) rfl) (by decide) 3 _) (blk_put (blk_put (blk_put (blk_put (Z30.out) 0 (.int .i64 kd) rfl) 1 (.string nm) rfl) 2 (.slice A_2 hd.length c_2) rfl) 3 (.int .i64 ag) rfl) (by decide) 4 _) (blk_put (blk_put (blk_put (blk_put (blk_put (Z30.out) 0 (.int .i64 kd) rfl) 1 (.string nm) rfl) 2 (.slice A_2 hd.length c_2) rfl) 3 (.int .i64 ag) rfl) 4 (.string og) rfl) (by decide) 5 _) (blk_put (blk_put (blk_put (blk_put (blk_put (blk_put (Z30.out) 0 (.int .i64 kd) rfl) 1 (.string nm) rfl) 2 (.slice A_2 hd.length c_2) rfl) 3 (.int .i64 ag) rfl) 4 (.string og) rfl) 5 (.int .i64 lim) rfl) (by decide) 6 _
      · exact Kd.R_set (Kd.R_set (Kd.R_set (Kd.R_set (Kd.R_set (Kd.R_set (Kd.R_set (Kd.R_lower R6o.out (by omega)) (Z30.out) (by decide) 0 _) (blk_put (Z30.out) 0 (.int .i64 kd) rfl) (by decide) 1 _) (blk_put (blk_put (Z30.out) 0 (.int .i64 kd) rfl) 1 (.string nm) rfl) (by decide) 2 _) (blk_put (blk_put (blk_put (Z30.out) 0 (.int .i64 kd) rfl) 1 (.string nm) rfl) 2 (.slice A_2 hd.length c_2) rfl) (by decide) 3 _) (blk_put (blk_put (blk_put (blk_put (Z30.out) 0 (.int .i64 kd) rfl) 1 (.string nm) rfl) 2 (.slice A_2 hd.length c_2) rfl) 3 (.int .i64 ag) rfl) (by decide) 4 _) (blk_put (blk_put (blk_put (blk_put (blk_put (Z30.out) 0 (.int .i64 kd) rfl) 1 (.string nm) rfl) 2 (.slice A_2 hd.length c_2) rfl) 3 (.int .i64 ag) rfl) 4 (.string og) rfl) (by decide) 5 _) (blk_put (blk_put (blk_put (blk_put (blk_put (blk_put (Z30.out) 0 (.int .i64 kd) rfl) 1 (.string nm) rfl) 2 (.slice A_2 hd.length c_2) rfl) 3 (.int .i64 ag) rfl) 4 (.string og) rfl) 5 (.int .i64 lim) rfl) (by decide) 6 _
      · exact (((((((hbw2.trans (hB30.mono hbw2.size)).setCell (p := ⟨w.heap.size, 0, none⟩) (Nat.le_refl _) _).setCell (p := ⟨w.heap.size, 1, none⟩) (Nat.le_refl _) _).setCell (p := ⟨w.heap.size, 2, none⟩) (Nat.le_refl _) _).setCell (p := ⟨w.heap.size, 3, none⟩) (Nat.le_refl _) _).setCell (p := ⟨w.heap.size, 4, none⟩) (Nat.le_refl _) _).setCell (p := ⟨w.heap.size, 5, none⟩) (Nat.le_refl _) _).setCell (p := ⟨w.heap.size, 6, none⟩) (Nat.le_refl _) _
     ·
      rw [if_neg hz2] at h
      have hz2b : (z2 != 0) = true := by simp [hz2]
      clear hz2
      simp only [Option.some.injEq, Prod.mk.injEq] at h
      obtain ⟨rfl, rfl, rfl, rfl, rfl, rfl, rfl, rfl, rfl⟩ := h
      go_upto_region 28 with (fail)
      refine start_ (n := 12) (S := fun w' => w'.cell? ⟨w2.heap.size, 2, none⟩ = some (.int .i64 z2) ∧ w'.cell? ⟨w2.heap.size, 3, none⟩ = some (.int .i64 z3)) (ds := []) #[false, false, false, false, false, false, false, false, false, false, false, false] (by kernel_rfl) rfl rfl ⟨q2, q3⟩ (fun hHeld => ?_)
      refine pure_ (i := 0) (N := some 101) (v := ?_) (a' := ?_) #[true, false, false, false, false, false, false, false, false, false, false, false] rfl rfl (by kernel_rfl) (fun _ _ _ h => h) (Or.inl ⟨by rfl, ?_⟩) ?_ ?_
      rotate_left
      ·
       intro w'
       go_simp
       with_reducible rfl
      rotate_left
      ·
       simp only [Act.put, List.setIfInBounds_toArray, List.set_cons_zero, List.set_cons_succ, i64_w, i32_w]
       rfl
      refine pure_ (i := 1) (N := some 102) (v := ?_) (a' := ?_) #[true, true, false, false, false, false, false, false, false, false, false, false] rfl rfl (by kernel_rfl) (fun _ _ _ h => h) (Or.inl ⟨by rfl, ?_⟩) ?_ ?_
      rotate_left
      ·
       intro w'
       go_simp
       with_reducible rfl
      rotate_left
      ·
       simp only [Act.put, List.setIfInBounds_toArray, List.set_cons_zero, List.set_cons_succ, i64_w, i32_w]
       rfl
      refine pure_ (i := 2) (N := some 103) (v := ?_) (a' := ?_) #[true, true, true, false, false, false, false, false, false, false, false, false] rfl rfl (by kernel_rfl) (fun _ _ _ h => h) (Or.inl ⟨by rfl, ?_⟩) ?_ ?_
      rotate_left
      ·
       intro w'
       go_simp
       with_reducible rfl
      rotate_left
      ·
       simp only [Act.put, List.setIfInBounds_toArray, List.set_cons_zero, List.set_cons_succ, i64_w, i32_w]
       rfl
      refine pure_ (i := 3) (N := some 104) (v := ?_) (a' := ?_) #[true, true, true, true, false, false, false, false, false, false, false, false] rfl rfl (by kernel_rfl) (fun _ _ _ h => h) (Or.inl ⟨by rfl, ?_⟩) ?_ ?_
      rotate_left
      ·
       intro w'
       go_simp
       with_reducible rfl
      rotate_left
      ·
       simp only [Act.put, List.setIfInBounds_toArray, List.set_cons_zero, List.set_cons_succ, i64_w, i32_w]
       rfl
      refine take_ (i := 4) (N := some 105) (v := ?_) (a' := ?_) #[true, true, true, true, true, false, false, false, false, false, false, false] rfl rfl (by kernel_rfl) (fun _ _ _ h => h) (Or.inl ⟨by rfl, ?_⟩) hHeld ?_ ?_
      rotate_left
      ·
       rintro w' ⟨e0, e1⟩
       go_simp
       with_reducible rfl
      rotate_left
      ·
       simp only [Act.put, List.setIfInBounds_toArray, List.set_cons_zero, List.set_cons_succ, i64_w, i32_w]
       rfl
      refine pure_ (i := 5) (N := some 106) (v := ?_) (a' := ?_) #[true, true, true, true, true, true, false, false, false, false, false, false] rfl rfl (by kernel_rfl) (fun _ _ _ h => h) (Or.inl ⟨by rfl, ?_⟩) ?_ ?_
      rotate_left
      ·
       intro w'
       go_simp
       with_reducible rfl
      rotate_left
      ·
       simp only [Act.put, List.setIfInBounds_toArray, List.set_cons_zero, List.set_cons_succ, i64_w, i32_w]
       rfl
      refine pure_ (i := 6) (N := some 107) (v := ?_) (a' := ?_) #[true, true, true, true, true, true, true, false, false, false, false, false] rfl rfl (by kernel_rfl) (fun _ _ _ h => h) (Or.inl ⟨by rfl, ?_⟩) ?_ ?_
      rotate_left
      ·
       intro w'
       go_simp
       with_reducible rfl
      rotate_left
      ·
       simp only [Act.put, List.setIfInBounds_toArray, List.set_cons_zero, List.set_cons_succ, i64_w, i32_w]
       rfl
      refine pure_ (i := 7) (N := some 108) (v := ?_) (a' := ?_) #[true, true, true, true, true, true, true, true, false, false, false, false] rfl rfl (by kernel_rfl) (fun _ _ _ h => h) (Or.inl ⟨by rfl, ?_⟩) ?_ ?_
      rotate_left
      ·
       intro w'
       go_simp
       with_reducible rfl
      rotate_left
      ·
       simp only [Act.put, List.setIfInBounds_toArray, List.set_cons_zero, List.set_cons_succ, i64_w, i32_w]
       rfl
      refine take_ (i := 8) (N := some 109) (v := ?_) (a' := ?_) #[true, true, true, true, true, true, true, true, true, false, false, false] rfl rfl (by kernel_rfl) (fun _ _ _ h => h) (Or.inl ⟨by rfl, ?_⟩) hHeld ?_ ?_
      rotate_left
      ·
       rintro w' ⟨e0, e1⟩
       go_simp
       with_reducible rfl
      rotate_left
      ·
       simp only [Act.put, List.setIfInBounds_toArray, List.set_cons_zero, List.set_cons_succ, i64_w, i32_w]
       rfl
      refine one_ (i := 9) (N := none) #[true, true, true, true, true, true, true, true, true, true, false, false] rfl rfl (by kernel_rfl) (by decide) (fun K hK => ?_)
      have BZ := Z30.out
      have zc0 : w30.cell? ⟨w.heap.size, 0, none⟩ = some (.int .i64 0) := (blk_cell BZ 0).trans rfl
      have zf0 := blk_frozen BZ 0
      have zc1 : w30.cell? ⟨w.heap.size, 1, none⟩ = some (.string (⟨#[]⟩ : ByteArray)) := (blk_cell BZ 1).trans rfl
      have zf1 := blk_frozen BZ 1
      have zc2 : w30.cell? ⟨w.heap.size, 2, none⟩ = some (.slice none 0 0) := (blk_cell BZ 2).trans rfl
      have zf2 := blk_frozen BZ 2
      have zc3 : w30.cell? ⟨w.heap.size, 3, none⟩ = some (.int .i64 0) := (blk_cell BZ 3).trans rfl
      have zf3 := blk_frozen BZ 3
      have zc4 : w30.cell? ⟨w.heap.size, 4, none⟩ = some (.string (⟨#[]⟩ : ByteArray)) := (blk_cell BZ 4).trans rfl
      have zf4 := blk_frozen BZ 4
      have zc5 : w30.cell? ⟨w.heap.size, 5, none⟩ = some (.int .i64 0) := (blk_cell BZ 5).trans rfl
      have zf5 := blk_frozen BZ 5
      have zc6 : w30.cell? ⟨w.heap.size, 6, none⟩ = some (.slice none 0 0) := (blk_cell BZ 6).trans rfl
      have zf6 := blk_frozen BZ 6
      have BR := blk_drew (blk_put (blk_put (blk_put (blk_put (blk_put (blk_put (blk_put (BZ) 0 (.int .i64 0) rfl) 1 (.string (⟨#[]⟩ : ByteArray)) rfl) 2 (.slice none 0 0) rfl) 3 (.int .i64 0) rfl) 4 (.string (⟨#[]⟩ : ByteArray)) rfl) 5 (.int .i64 0) rfl) 6 (.slice none 0 0) rfl)
      have hBf := below_drew (((((((((hbw2.trans (hB30.mono hbw2.size))).setCell (p := ⟨w.heap.size, 0, none⟩) (Nat.le_refl _) (.int .i64 0)).setCell (p := ⟨w.heap.size, 1, none⟩) (Nat.le_refl _) (.string (⟨#[]⟩ : ByteArray))).setCell (p := ⟨w.heap.size, 2, none⟩) (Nat.le_refl _) (.slice none 0 0)).setCell (p := ⟨w.heap.size, 3, none⟩) (Nat.le_refl _) (.int .i64 0)).setCell (p := ⟨w.heap.size, 4, none⟩) (Nat.le_refl _) (.string (⟨#[]⟩ : ByteArray))).setCell (p := ⟨w.heap.size, 5, none⟩) (Nat.le_refl _) (.int .i64 0)).setCell (p := ⟨w.heap.size, 6, none⟩) (Nat.le_refl _) (.slice none 0 0))
      have hgr := blk_drew ((Below.heap_setCell _ ⟨w.heap.size, 6, none⟩ (.slice none 0 0) w2.heap.size (Ne.symm hzg)).trans ((Below.heap_setCell _ ⟨w.heap.size, 5, none⟩ (.int .i64 0) w2.heap.size (Ne.symm hzg)).trans ((Below.heap_setCell _ ⟨w.heap.size, 4, none⟩ (.string (⟨#[]⟩ : ByteArray)) w2.heap.size (Ne.symm hzg)).trans ((Below.heap_setCell _ ⟨w.heap.size, 3, none⟩ (.int .i64 0) w2.heap.size (Ne.symm hzg)).trans ((Below.heap_setCell _ ⟨w.heap.size, 2, none⟩ (.slice none 0 0) w2.heap.size (Ne.symm hzg)).trans ((Below.heap_setCell _ ⟨w.heap.size, 1, none⟩ (.string (⟨#[]⟩ : ByteArray)) w2.heap.size (Ne.symm hzg)).trans ((Below.heap_setCell _ ⟨w.heap.size, 0, none⟩ (.int .i64 0) w2.heap.size (Ne.symm hzg)).trans (hgB.out))))))))
      refine skip_ (w1 := (((((((w30.setCell ⟨w.heap.size, 0, none⟩ (.int .i64 0)).setCell ⟨w.heap.size, 1, none⟩ (.string (⟨#[]⟩ : ByteArray))).setCell ⟨w.heap.size, 2, none⟩ (.slice none 0 0)).setCell ⟨w.heap.size, 3, none⟩ (.int .i64 0)).setCell ⟨w.heap.size, 4, none⟩ (.string (⟨#[]⟩ : ByteArray))).setCell ⟨w.heap.size, 5, none⟩ (.int .i64 0)).setCell ⟨w.heap.size, 6, none⟩ (.slice none 0 0)).drew) (by rfl) rfl ?_ ?_
      · go_simp
      generalize (((((((w30.setCell ⟨w.heap.size, 0, none⟩ (.int .i64 0)).setCell ⟨w.heap.size, 1, none⟩ (.string (⟨#[]⟩ : ByteArray))).setCell ⟨w.heap.size, 2, none⟩ (.slice none 0 0)).setCell ⟨w.heap.size, 3, none⟩ (.int .i64 0)).setCell ⟨w.heap.size, 4, none⟩ (.string (⟨#[]⟩ : ByteArray))).setCell ⟨w.heap.size, 5, none⟩ (.int .i64 0)).setCell ⟨w.heap.size, 6, none⟩ (.slice none 0 0)).drew = wf at BR hBf hgr ⊢
      refine hK.out _ _ ⟨(blk_cell hgr 2).trans rfl, (blk_cell hgr 3).trans rfl⟩ (fun hHeld => ?_)
      clear hK K hHeld
      clear BZ
      clear zc0 zf0
      clear zc1 zf1
      clear zc2 zf2
      clear zc3 zf3
      clear zc4 zf4
      clear zc5 zf5
      clear zc6 zf6
      refine pure_ (i := 10) (N := some 3) (v := ?_) (a' := ?_) #[true, true, true, true, true, true, true, true, true, true, true, false] rfl rfl (by kernel_rfl) (fun _ _ _ h => h) (Or.inl ⟨by rfl, ?_⟩) ?_ ?_
      rotate_left
      ·
       intro w'
       go_simp
       with_reducible rfl
      rotate_left
      ·
       simp only [Act.put, List.setIfInBounds_toArray, List.set_cons_zero, List.set_cons_succ, i64_w, i32_w]
       rfl
      refine pure_ (i := 11) (N := some 4) (v := ?_) (a' := ?_) #[true, true, true, true, true, true, true, true, true, true, true, true] rfl rfl (by kernel_rfl) (fun _ _ _ h => h) (Or.inl ⟨by rfl, ?_⟩) ?_ ?_
      rotate_left
      ·
       intro w'
       go_simp
       with_reducible rfl
      rotate_left
      ·
       simp only [Act.put, List.setIfInBounds_toArray, List.set_cons_zero, List.set_cons_succ, i64_w, i32_w]
       rfl
      refine done_ (by kernel_rfl) ?_
      go_wp2
      refine bodyPost_ret (results_ctt rfl _ _ w.heap.size 25 #[.int .i64 0, .string (⟨#[]⟩ : ByteArray), .slice none 0 0, .int .i64 0, .string (⟨#[]⟩ : ByteArray), .int .i64 0, .slice none 0 0] (0, 0) _ rfl BR Try.underlying25 rfl rfl) rfl ?_
      exact ⟨_, _, rfl, Kd.R_nil _ _ _ _ _, Kd.R_nil _ _ _ _ _, hBf⟩
 ·
  have h := H.out
  rw [if_neg ht2] at h
  simp only [Option.some.injEq, Prod.mk.injEq] at h
  obtain ⟨rfl, rfl, rfl, rfl, rfl, rfl, rfl, rfl, rfl⟩ := h
  have ht2b : (t2 != 0) = true := by simp [ht2]
  clear ht2 H
  have BZ := Z2.out
  have zc0 : w2.cell? ⟨w.heap.size, 0, none⟩ = some (.int .i64 0) := (blk_cell BZ 0).trans rfl
  have zf0 := blk_frozen BZ 0
  have zc1 : w2.cell? ⟨w.heap.size, 1, none⟩ = some (.string (⟨#[]⟩ : ByteArray)) := (blk_cell BZ 1).trans rfl
  have zf1 := blk_frozen BZ 1
  have zc2 : w2.cell? ⟨w.heap.size, 2, none⟩ = some (.slice none 0 0) := (blk_cell BZ 2).trans rfl
  have zf2 := blk_frozen BZ 2
  have zc3 : w2.cell? ⟨w.heap.size, 3, none⟩ = some (.int .i64 0) := (blk_cell BZ 3).trans rfl
  have zf3 := blk_frozen BZ 3
  have zc4 : w2.cell? ⟨w.heap.size, 4, none⟩ = some (.string (⟨#[]⟩ : ByteArray)) := (blk_cell BZ 4).trans rfl
  have zf4 := blk_frozen BZ 4
  have zc5 : w2.cell? ⟨w.heap.size, 5, none⟩ = some (.int .i64 0) := (blk_cell BZ 5).trans rfl
  have zf5 := blk_frozen BZ 5
  have zc6 : w2.cell? ⟨w.heap.size, 6, none⟩ = some (.slice none 0 0) := (blk_cell BZ 6).trans rfl
  have zf6 := blk_frozen BZ 6
  go_wp2
  have BR := blk_put (blk_put (blk_put (blk_put (blk_put (blk_put (blk_put (BZ) 0 (.int .i64 0) rfl) 1 (.string (⟨#[]⟩ : ByteArray)) rfl) 2 (.slice none 0 0) rfl) 3 (.int .i64 0) rfl) 4 (.string (⟨#[]⟩ : ByteArray)) rfl) 5 (.int .i64 0) rfl) 6 (.slice none 0 0) rfl
  have hBf := (((((((hbw2).setCell (p := ⟨w.heap.size, 0, none⟩) (Nat.le_refl _) (.int .i64 0)).setCell (p := ⟨w.heap.size, 1, none⟩) (Nat.le_refl _) (.string (⟨#[]⟩ : ByteArray))).setCell (p := ⟨w.heap.size, 2, none⟩) (Nat.le_refl _) (.slice none 0 0)).setCell (p := ⟨w.heap.size, 3, none⟩) (Nat.le_refl _) (.int .i64 0)).setCell (p := ⟨w.heap.size, 4, none⟩) (Nat.le_refl _) (.string (⟨#[]⟩ : ByteArray))).setCell (p := ⟨w.heap.size, 5, none⟩) (Nat.le_refl _) (.int .i64 0)).setCell (p := ⟨w.heap.size, 6, none⟩) (Nat.le_refl _) (.slice none 0 0)
  refine bodyPost_ret (results_ctt rfl _ _ w.heap.size 25 #[.int .i64 0, .string (⟨#[]⟩ : ByteArray), .slice none 0 0, .int .i64 0, .string (⟨#[]⟩ : ByteArray), .int .i64 0, .slice none 0 0] (0, 0) _ rfl BR Try.underlying25 rfl rfl) rfl ?_
  exact ⟨_, _, rfl, Kd.R_nil _ _ _ _ _, Kd.R_nil _ _ _ _ _, hBf⟩
/-! ### slices_Index_string_string: function 53 -/
def slices_Index_string_string.l0 : Nat → List ByteArray → ByteArray → Int → Int → Option (Int)
 | 0, _, _, _, _ => none
 | k + 1, x0, x1, x7, x8 => if x8 < x7 then (if 0 ≤ x8 then (if x8 < (x0.length : Int) then (if x1.toList = (rdOf ByteArray.empty x0 x8).toList then (some x8) else (slices_Index_string_string.l0 k x0 x1 x7 (wrap64 (x8 + 1)))) else (none)) else (none)) else (some (-1))
def slices_Index_string_string.f (k : Nat) (l0 : List ByteArray) (a1 : ByteArray) : Option (Int) := slices_Index_string_string.l0 k l0 a1 (l0.length : Int) 0
set_option maxHeartbeats 8000000 in
set_option maxRecDepth 100000 in
theorem slices_Index_string_string.calls (k : Nat) (A0 : Option Addr) (c0 : Nat) (l0 : List ByteArray) (a1 : ByteArray) (r : Int) (w : World) (hr0 : Kd.C Kd.string w A0 l0.length l0) (hc0 : l0.length ≤ c0) (h : slices_Index_string_string.f k l0 a1 = some r) :
  Calls Try.prog 53 #[.slice A0 l0.length c0, .string a1] w fun e w' => e = .returned (.int .i64 r) ∧ Drawn0 w w' := by
 have HR0 := Aside0.mk hr0
 have HC0 := Aside0.mk hc0
 clear hr0 hc0
 have H : (slices_Index_string_string.l0 k l0 a1 (l0.length : Int) 0) = some r := h
 clear h
 have H' := Aside0.mk H
 clear H
 go_enter Try.func53, Try.ntmps53
 go_wp2
 go_loopg [8] k (fun kq v8 w' => ∃ (x8_1 : Int), v8 = .int .i64 x8_1 ∧ Aside0 (slices_Index_string_string.l0 kq l0 a1 (l0.length : Int) x8_1 = some r) ∧ Aside0 (kq ≤ k) ∧ Drawn0 w w')
 case atStart => exact ⟨(0), rfl, H', ⟨Nat.le_refl _⟩, by repeat (first | exact Drawn0.refl _ | apply Drawn0.step)⟩
 case round =>
  clear H'
  try clear p2
  obtain ⟨x8_1, rfl, HA, HK1, ⟨m1, rfl⟩⟩ := hrel
  cases gk with
  | zero => exact absurd HA.out (by simp [slices_Index_string_string.l0])
  | succ k1 =>
   have H := HA.out
   clear HA
   simp only [slices_Index_string_string.l0] at H
   by_cases c3 : x8_1 < (l0.length : Int)
   ·
    rw [if_pos c3] at H
    have c3b0 : decide (x8_1 < (l0.length : Int)) = true := decide_eq_true c3
    clear c3
    by_cases c4 : 0 ≤ x8_1
    ·
     rw [if_pos c4] at H
     have c4b0 : decide (0 ≤ x8_1) = true := decide_eq_true c4
     clear c4
     by_cases c5 : x8_1 < (l0.length : Int)
     ·
      rw [if_pos c5] at H
      have c5b0 : decide (x8_1 < (l0.length : Int)) = true := decide_eq_true c5
      clear c5
      by_cases c6 : a1.toList = (rdOf ByteArray.empty l0 x8_1).toList
      ·
       rw [if_pos c6] at H
       have c6b0 : (a1.toList == (rdOf ByteArray.empty l0 x8_1).toList) = true := beq_iff_eq.mpr c6
       have c6b1 : (a1.toList != (rdOf ByteArray.empty l0 x8_1).toList) = false := bne_eq_false_iff_eq.mpr c6
       clear c6
       obtain rfl := Option.some.inj H
       have p315 : 0 ≤ (x8_1 : Int) := of_decide_eq_true (by first | (with_reducible assumption) | assumption)
       have q315 : x8_1 < (l0.length : Int) := of_decide_eq_true (by first | (with_reducible assumption) | assumption)
       obtain ⟨ad315, e315, hx315_0⟩ := Kd.at_string HR0.out x8_1 p315 q315
       cases e315
       replace p315 := eq_true p315
       replace q315 := eq_true q315
       go_wp2
       go_ret
       exact ⟨by first | rfl | (simp; done) | (simp [*]; done), by repeat (first | exact Drawn0.refl _ | apply Drawn0.step)⟩
      ·
       rw [if_neg c6] at H
       have c6b0 : (a1.toList == (rdOf ByteArray.empty l0 x8_1).toList) = false := beq_eq_false_iff_ne.mpr c6
       have c6b1 : (a1.toList != (rdOf ByteArray.empty l0 x8_1).toList) = true := bne_iff_ne.mpr c6
       have H' := Aside0.mk H
       clear H
       have p315 : 0 ≤ (x8_1 : Int) := of_decide_eq_true (by first | (with_reducible assumption) | assumption)
       have q315 : x8_1 < (l0.length : Int) := of_decide_eq_true (by first | (with_reducible assumption) | assumption)
       obtain ⟨ad315, e315, hx315_0⟩ := Kd.at_string HR0.out x8_1 p315 q315
       cases e315
       replace p315 := eq_true p315
       replace q315 := eq_true q315
       go_wp2
       go_roundg k1
       case measure => have := HK1.out; omega
       case rel => exact ⟨(wrap64 (x8_1 + 1)), rfl, H', ⟨by have := HK1.out; omega⟩, by repeat (first | exact Drawn0.refl _ | apply Drawn0.step)⟩
     ·
      rw [if_neg c5] at H
      exact absurd H (by simp)
    ·
     rw [if_neg c4] at H
     exact absurd H (by simp)
   ·
    rw [if_neg c3] at H
    have c3b0 : decide (x8_1 < (l0.length : Int)) = false := decide_eq_false c3
    clear c3
    obtain rfl := Option.some.inj H
    go_wp2
    go_ret
    exact ⟨by first | rfl | (simp; done) | (simp [*]; done), by repeat (first | exact Drawn0.refl _ | apply Drawn0.step)⟩
end Go.Proofs.Ytikikmkfeeljgaa.G
