/- A text of the proof that the law ParseSame returns true: nothing is assumed in it. -/
import Derived.Test.YtnnbinmomendnaaGreatDoorMParseSame7
import Derived.Test.YtnnbinmomendnaaGreatDoorProg
import Derived.KernelRfl
import Derived.Test.YtnnbinmomendnaaGreatDoorRows
import Derived.Test.YtnnbinmomendnaaGreatDoorMParseSame1
import Derived.Stop.LaidErr
import Derived.Lib.LaidTab
import Derived.LaidLaws
set_option linter.unusedVariables false
set_option linter.unusedSimpArgs false
set_option linter.unusedSectionVars false
/-! parse.Rule -/
namespace Go.Proofs.YtnnbinmomendnaaGreatDoor
open Go.RowKit Go.Shelf
noncomputable def E.ruleD (s : ByteArray) : E.ty25.D := E.ruleT (E.rRule s)
theorem lex_vals {W : World} {F : Nat → Prop} {v : Value} {l : E.Toks} {a e : Int} (h : E.RepT W F [] v (.tu [.c (.fz E.ty78 l), .c (.i .i64 a), .c (.i .i64 e)])) : ∃ vl, v = .tuple #[vl, .int .i64 a, .int .i64 e] ∧ E.DRep W F (.sl E.ty78) l [vl] := by
  obtain ⟨vs, rfl, h⟩ := h
  obtain ⟨cl, hcl⟩ : ∃ cl, vs.toList = cl := ⟨_, rfl⟩
  rw [hcl] at h
  match cl, h with
  | [v1, v2, v3], ⟨h1, h2, h3, _⟩ =>
    refine ⟨v1, ?_, h1⟩
    have e2 : v2 = .int .i64 a := h2
    have e3 : v3 = .int .i64 e := h3
    subst e2 e3
    congr 1
    rw [← Array.toList_inj, hcl]
theorem rule_results {W : World} {tmps : Array Value} {p2 p3 p4 : Nat} {c0 c1 c2 c3 c4 c5 c6 x y : Value} (t2 : tmps.getD 2 undef = .pointer (some ⟨p2, 0, none⟩)) (t3 : tmps.getD 3 undef = .pointer (some ⟨p3, 0, none⟩)) (t4 : tmps.getD 4 undef = .pointer (some ⟨p4, 0, none⟩))
    (h2 : W.heap[p2]? = some (.cells #[c0, c1, c2, c3, c4, c5, c6] 25 (0, 0))) (h3 : Boxed W p3 3 x) (h4 : Boxed W p4 26 y) : (results Tryz.f6 tmps).run Tryz.prog W = .ok (.tuple #[.agg #[c0, c1, c2, c3, c4, c5, c6], x, y]) W := by
  have k0 : W.cell? ⟨p2, 0, none⟩ = some c0 := by simp [World.cell?, h2]
  have k1 : W.cell? ⟨p2, 1, none⟩ = some c1 := by simp [World.cell?, h2]
  have k2 : W.cell? ⟨p2, 2, none⟩ = some c2 := by simp [World.cell?, h2]
  have k3 : W.cell? ⟨p2, 3, none⟩ = some c3 := by simp [World.cell?, h2]
  have k4 : W.cell? ⟨p2, 4, none⟩ = some c4 := by simp [World.cell?, h2]
  have k5 : W.cell? ⟨p2, 5, none⟩ = some c5 := by simp [World.cell?, h2]
  have k6 : W.cell? ⟨p2, 6, none⟩ = some c6 := by simp [World.cell?, h2]
  have hr : Tryz.f6.results = #[.cell 2 25, .cell 3 3, .cell 4 26] := rfl
  have q3 := h3.cell
  have q4 := h4.cell
  simp only [results, hr, Array.getD_eq_getD_getElem?] at *
  simp [go_sem, t2, t3, t4, k0, k1, k2, k3, k4, k5, k6, q3, q4]
/-- what the walk is asked for at its end -/
def RuleEnd (s : ByteArray) (w : World) : Ending → World → Prop := fun e w' => ∃ v, e = .returned v ∧ E.RepT w' (fun b => (w.heap.size ≤ b ∨ b ∈ E.layG) ∧ b < w'.heap.size) [] v (.tu [E.encA E.ty25 (E.ruleD s), .c (.i .i64 (E.rRule s).2.2.2.2.2.1), .c (.i .i64 (E.rRule s).2.2.2.2.2.2.1)]) ∧ Below w.heap.size w w'
theorem rule_end {s : ByteArray} {w W : World} {tmps : Array Value} {p2 p3 p4 : Nat} {c0 c1 c2 c3 c4 c5 c6 : Value} {x y : Int} (t2 : tmps.getD 2 undef = .pointer (some ⟨p2, 0, none⟩)) (t3 : tmps.getD 3 undef = .pointer (some ⟨p3, 0, none⟩)) (t4 : tmps.getD 4 undef = .pointer (some ⟨p4, 0, none⟩))
    (h2 : W.heap[p2]? = some (.cells #[c0, c1, c2, c3, c4, c5, c6] 25 (0, 0))) (h3 : Boxed W p3 3 (.int .i64 x)) (h4 : Boxed W p4 26 (.int .i64 y)) (hB : Below w.heap.size w W)
    (hr : E.RepT W (fun b => (w.heap.size ≤ b ∨ b ∈ E.layG) ∧ b < W.heap.size) [] (.agg #[c0, c1, c2, c3, c4, c5, c6]) (.a (E.encA E.ty25 (E.ruleD s)))) (hx : x = (E.rRule s).2.2.2.2.2.1) (hy : y = (E.rRule s).2.2.2.2.2.2.1) :
    Leaves Tryz.prog Tryz.f6 tmps (RuleEnd s w) [] .returning W :=
  ⟨_, rule_results t2 t3 t4 h2 h3 h4, _, rfl, ⟨_, rfl, hr, by rw [← hx]; rfl, by rw [← hy]; rfl, trivial⟩, hB⟩
/-- a rule as it comes back -/
theorem rule_vals {W : World} {F : Nat → Prop} {hv : List Value} {v : Value} {r : E.ty25.D} (h : E.RepT W F hv v (.a (E.encA E.ty25 r))) : ∃ a2 n2 k2 a6 n6 k6, v = .agg #[.int .i64 r.1, .string r.2.1, .slice a2 n2 k2, .int .i64 r.2.2.2.1, .string r.2.2.2.2.1, .int .i64 r.2.2.2.2.2.1, .slice a6 n6 k6] ∧
    E.DRep W F (.sl .str) r.2.2.1 [.slice a2 n2 k2] ∧ E.DRep W F (.sl E.ty51) r.2.2.2.2.2.2.1 [.slice a6 n6 k6] := by
  obtain ⟨cs, rfl, h⟩ := h
  obtain ⟨cl, hcl⟩ : ∃ cl, cs.toList = cl := ⟨_, rfl⟩
  rw [hcl] at h
  match cl, h with
  | [v0, v1, v2, v3, v4, v5, v6], ⟨h0, h1, h2, h3, h4, h5, h6, _⟩ =>
    obtain ⟨a2, k2, e2, _⟩ := id (show E.DRep W F (.sl .str) r.2.2.1 [v2] from h2)
    obtain ⟨a6, k6, e6, _⟩ := id (show E.DRep W F (.sl E.ty51) r.2.2.2.2.2.2.1 [v6] from h6)
    injection e2 with e2
    injection e6 with e6
    subst e2 e6
    refine ⟨a2, _, k2, a6, _, k6, ?_, h2, h6⟩
    have g0 : v0 = .int .i64 r.1 := h0
    have g1 : v1 = .string r.2.1 := h1
    have g3 : v3 = .int .i64 r.2.2.2.1 := h3
    have g4 : v4 = .string r.2.2.2.2.1 := h4
    have g5 : v5 = .int .i64 r.2.2.2.2.2.1 := h5
    subst g0 g1 g3 g4 g5
    congr 1
    rw [← Array.toList_inj, hcl]
theorem ruleG (n : Nat) (l : E.Toks) (k : E.T → List E.Blk → Option E.Fate) : E.parse_reader_rule_g n [.c (.pt 0 0)] [.box true 43 [.fz E.ty78 l, .i .i64 0]] k = E.parse_reader_rule_F n l 0 (fun y0 y1 y2 => k (.a (E.encA E.ty25 y0)) [.box true 43 [.fz E.ty78 y1, .i .i64 y2]]) := rfl
theorem ruleR (l : E.Toks) (ho : E.TOk l) (h0 : 0 < l.length) : ∃ p : Nat, E.parse_reader_rule_g 3000 [.c (.pt 0 0)] [.box true 43 [.fz E.ty78 l, .i .i64 0]] (fun x HN => some (E.Fate.ok x HN)) =
    some (if (E.rTok l).2.2.2.2.2.2.1 = 0 then E.Fate.ok (.a (E.encA E.ty25 (E.ruleT (E.rTok l)))) [.box true 43 [.fz E.ty78 l, .i .i64 (p : Int)]] else E.Fate.pan (wrongV (E.rTok l).2.2.2.2.2.2.1 (E.rTok l).2.2.2.2.2.1)) := by
  obtain ⟨n, hn, hn2⟩ : ∃ n : Nat, 500 < n ∧ n = 3000 := ⟨3000, by omega, rfl⟩
  rw [← hn2]
  obtain ⟨p, hp⟩ := E.ruleP_F (R := E.Fate) n l ho h0 hn (fun y0 y1 y2 => some (E.Fate.ok (.a (E.encA E.ty25 y0)) [.box true 43 [.fz E.ty78 y1, .i .i64 y2]]))
  refine ⟨p, (ruleG n l _).trans (hp.trans ?_)⟩
  split <;> rfl
theorem tok_bad {l : E.Toks} (h : (E.rTok l).2.2.2.2.2.2.1 ≠ 0) : E.rTok l = E.rErr (E.rTok l).2.2.2.2.2.1 (E.rTok l).2.2.2.2.2.2.1 := by
  unfold E.rTok E.rRest E.rEnd at h ⊢
  split at h
  · rename_i hc
    rw [if_pos hc]
    rfl
  · exact absurd rfl h
theorem tok_good {l : E.Toks} (h : (E.rTok l).2.2.2.2.2.2.1 = 0) : (E.rTok l).2.2.2.2.2.1 = 0 := by
  unfold E.rTok E.rRest E.rEnd at h ⊢
  split at h
  · rename_i hc
    exact absurd h hc
  · rename_i hc
    rw [if_neg hc]
/-- no rule -/
theorem rule0_rep (W : World) (F : Nat → Prop) : E.RepT W F [] (.agg #[.int .i64 0, .string ⟨#[]⟩, .slice none 0 0, .int .i64 0, .string ⟨#[]⟩, .int .i64 0, .slice none 0 0]) (.a (E.encA E.ty25 ((0 : Int), (⟨#[]⟩ : ByteArray), ([] : List ByteArray), (0 : Int), (⟨#[]⟩ : ByteArray), (0 : Int), ([] : List E.ty51.D), ()))) :=
  ⟨_, rfl, rfl, rfl, ⟨none, 0, rfl, ⟨Nat.le_refl _, fun _ => rfl⟩, fun i hi => by simp at hi⟩, rfl, rfl, rfl, ⟨none, 0, rfl, ⟨Nat.le_refl _, fun _ => rfl⟩, fun i hi => by simp at hi⟩, trivial⟩
set_option maxRecDepth 100000 in
set_option maxHeartbeats 4000000 in
theorem E.rule_back (s : ByteArray) (w : World) (hc : E.LayC w) (hl : ∀ g ∈ E.layG, g < w.heap.size) (_ : True) : E.Back Tryz.prog 6 #[E.valD .str s] w (.tu [E.encA E.ty25 (E.ruleD s), .c (.i .i64 (E.rRule s).2.2.2.2.2.1), .c (.i .i64 (E.rRule s).2.2.2.2.2.2.1)]) := by
  have hmf : ∀ (fn : Fn) (first cap : Array Value) (w : World), (Instr.makeFunc fn first cap).run Tryz.prog w = .ok (.func fn first cap) w := fun _ _ _ _ => rfl
  show Calls _ _ #[.string s] w (RuleEnd s w)
  go_enter_defers Tryz.func6, Tryz.ntmps6
  go_wp2_with fail
  obtain ⟨W0, hW0⟩ : ∃ W0, ((w.alloc (.cells #[.int .i64 0, .string ⟨#[]⟩, .slice none 0 0, .int .i64 0, .string ⟨#[]⟩, .int .i64 0, .slice none 0 0] 25)).alloc (.cells #[.int .i64 0] 3)).alloc (.cells #[.int .i64 0] 26) = W0 := ⟨_, rfl⟩
  have S0 : W0.heap.size = w.heap.size + 3 := by rw [← hW0]; simp
  have B0 : Below w.heap.size w W0 := by
    rw [← hW0]
    exact (((Below.refl _ w).alloc (Nat.le_refl _) _).alloc (by simp) _).alloc (by simp; omega) _
  have a2 : W0.heap[w.heap.size]? = some (.cells #[.int .i64 0, .string ⟨#[]⟩, .slice none 0 0, .int .i64 0, .string ⟨#[]⟩, .int .i64 0, .slice none 0 0] 25 (0, 0)) := by
    rw [← hW0]
    exact (Below.heap_alloc _ _ _ (by simp; omega)).trans ((Below.heap_alloc _ _ _ (by simp)).trans (World.alloc_heap_new w _))
  have a3 : Boxed W0 (w.heap.size + 1) 3 (.int .i64 0) := by
    rw [← hW0]
    have := Boxed.new (w.alloc (.cells #[.int .i64 0, .string ⟨#[]⟩, .slice none 0 0, .int .i64 0, .string ⟨#[]⟩, .int .i64 0, .slice none 0 0] 25)) 3 (.int .i64 0)
    rw [World.size_alloc] at this
    exact this.alloc _
  have a4 : Boxed W0 (w.heap.size + 1 + 1) 26 (.int .i64 0) := by
    rw [← hW0]
    have := Boxed.new ((w.alloc (.cells #[.int .i64 0, .string ⟨#[]⟩, .slice none 0 0, .int .i64 0, .string ⟨#[]⟩, .int .i64 0, .slice none 0 0] 25)).alloc (.cells #[.int .i64 0] 3)) 26 (.int .i64 0)
    rw [World.size_alloc, World.size_alloc] at this
    exact this
  rw [hW0]
  clear hW0
  have hc0 : E.LayC W0 := E.LayC.same (fun g hg => B0.block g (hl g hg)) hc
  have hl0 : ∀ g ∈ E.layG, g < W0.heap.size := fun g hg => by have := hl g hg; omega
  refine (E.lex_back s W0 hc0 hl0 trivial).mono ?_
  rintro e W1 ⟨v, rfl, hv, B1⟩
  obtain ⟨vl, rfl, hd⟩ := lex_vals hv
  obtain ⟨ad, cap, hvl, hle, hrows⟩ := id hd
  injection hvl with hvl
  subst hvl
  have S1 := B1.size
  have b2 : W1.heap[w.heap.size]? = some (.cells #[.int .i64 0, .string ⟨#[]⟩, .slice none 0 0, .int .i64 0, .string ⟨#[]⟩, .int .i64 0, .slice none 0 0] 25 (0, 0)) := (B1.block _ (by omega)).trans a2
  have b3 : Boxed W1 (w.heap.size + 1) 3 (.int .i64 0) := (B1.block _ (by omega)).trans a3
  have b4 : Boxed W1 (w.heap.size + 1 + 1) 26 (.int .i64 0) := (B1.block _ (by omega)).trans a4
  have b3c := b3.cell
  have b3f := b3.frozen
  have b4c := b4.cell
  have b4f := b4.frozen
  by_cases he : (E.lexS s).2.1 = 0
  · rw [he]
    obtain ⟨hto, hlen⟩ := E.lexS_tok s he
    have hrr : E.rRule s = E.rTok (E.lexS s).2.2 := by unfold E.rRule; rw [if_neg (fun g => g he)]
    generalize (E.lexS s).2.2 = toks at hd hle hrows hto hlen hrr ⊢
    generalize (E.lexS s).1 = pl at hv ⊢
    go_wp2_with fail
    obtain ⟨V1, hV1⟩ : ∃ V, W1.setCell ⟨w.heap.size + 1, 0, none⟩ (.int .i64 pl) = V := ⟨_, rfl⟩
    rw [hV1]
    have o1 := one_set hV1 b3
    obtain ⟨V2, hV2⟩ : ∃ V, V1.setCell ⟨w.heap.size + 1 + 1, 0, none⟩ (.int .i64 0) = V := ⟨_, rfl⟩
    rw [hV2]
    have n23 : ¬ w.heap.size = w.heap.size + 1 := by omega
    have n24 : ¬ w.heap.size = w.heap.size + 1 + 1 := by omega
    have n34 : ¬ w.heap.size + 1 = w.heap.size + 1 + 1 := by omega
    have n32 : ¬ w.heap.size + 1 = w.heap.size := by omega
    have n42 : ¬ w.heap.size + 1 + 1 = w.heap.size := by omega
    have n43 : ¬ w.heap.size + 1 + 1 = w.heap.size + 1 := by omega
    have o2 := one_set hV2 ((o1.old _ n43).trans b4)
    clear hV1 hV2
    have hsz2 : V2.heap.size = W1.heap.size := by rw [o2.size, o1.size]
    obtain ⟨W3, hW3⟩ : ∃ W3, V2.alloc (.cells #[.slice ad toks.length cap, .int .i64 0] 43) = W3 := ⟨_, rfl⟩
    rw [hW3]
    have S3 : W3.heap.size = W1.heap.size + 1 := by rw [← hW3]; simp [hsz2]
    have O3 : ∀ k, k < W1.heap.size → k ≠ w.heap.size + 1 → k ≠ w.heap.size + 1 + 1 → W3.heap[k]? = W1.heap[k]? := fun k hk k3 k4 => by
      rw [← hW3, Below.heap_alloc _ _ _ (by omega), o2.old k k4, o1.old k k3]
    have M3 : W3.os = w.os ∧ W3.tape = w.tape ∧ W3.output = w.output := by
      rw [← hW3]
      exact ⟨(o2.os.trans o1.os).trans (B1.os.trans B0.os), (o2.tape.trans o1.tape).trans (B1.tape.trans B0.tape), (o2.output.trans o1.output).trans (B1.output.trans B0.output)⟩
    have r5 : W3.heap[W1.heap.size]? = some (.cells #[.slice ad toks.length cap, .int .i64 0] 43 (0, 0)) := by
      have := World.alloc_heap_new V2 (.cells #[.slice ad toks.length cap, .int .i64 0] 43)
      rw [hsz2] at this
      rw [← hW3]
      exact this
    have d2 : W3.heap[w.heap.size]? = some (.cells #[.int .i64 0, .string ⟨#[]⟩, .slice none 0 0, .int .i64 0, .string ⟨#[]⟩, .int .i64 0, .slice none 0 0] 25 (0, 0)) := (O3 _ (by omega) n23 n24).trans b2
    have d3 : Boxed W3 (w.heap.size + 1) 3 (.int .i64 pl) := by
      show W3.heap[_]? = _
      rw [← hW3, Below.heap_alloc _ _ _ (by omega)]
      exact (o2.old _ n34).trans o1.row
    have d4 : Boxed W3 (w.heap.size + 1 + 1) 26 (.int .i64 0) := by
      show W3.heap[_]? = _
      rw [← hW3, Below.heap_alloc _ _ _ (by omega)]
      exact o2.row
    clear hW3
    have hF : ∀ k, ((W0.heap.size ≤ k ∨ k ∈ E.layG) ∧ k < W1.heap.size) → k < W1.heap.size ∧ k ≠ w.heap.size ∧ k ≠ w.heap.size + 1 ∧ k ≠ w.heap.size + 1 + 1 := fun k hk => by
      rcases hk.1 with h | h
      · exact ⟨hk.2, by omega, by omega, by omega⟩
      · have := hl k h; exact ⟨hk.2, by omega, by omega, by omega⟩
    have hold : E.Holds1 W3 (fun k => (W0.heap.size ≤ k ∨ k ∈ E.layG) ∧ k < W1.heap.size) W1.heap.size 43 [.fz E.ty78 toks, .i .i64 0] :=
      ⟨⟨_, r5, E.DRep.mono (t := .sl E.ty78) (fun _ h => h) (fun k hk => O3 k (hF k hk).1 (hF k hk).2.2.1 (hF k hk).2.2.2) hd, rfl, trivial⟩⟩
    have hlay3 : E.LayC W3 := E.LayC.same (fun g hg => by have := hl g hg; exact (O3 g (by omega) (by omega) (by omega)).trans ((B1.block g (by omega)).trans (B0.block g (by omega)))) hc
    obtain ⟨p, hp⟩ := ruleR toks hto hlen
    refine (E.Good.callsP (E.parse_reader_rule_ok 3000) Tryz.func15 (by kernel_rfl) rfl hold (fun k hk => by have := hk.2; omega) (fun h => Nat.lt_irrefl _ h.2) hlay3 (fun g hg => ⟨.inr hg, by have := hl g hg; omega⟩) (args := [.c (.pt 0 0)]) (vs := [.pointer (some ⟨W1.heap.size, 0, none⟩)]) ⟨⟨_, rfl, rfl⟩, trivial⟩ hp).mono ?_
    rintro e W4 (⟨x, HN, v, F', hvN, hr, rfl, iN, hx⟩ | ⟨pv, hr, rfl, hfr⟩)
    · by_cases hwhy : (E.rTok toks).2.2.2.2.2.2.1 = 0
      · rw [if_pos hwhy] at hr
        injection hr with hr1 hr2
        subst hr1 hr2
        obtain ⟨a2, m2, k2, a6, m6, k6, rfl, hd2, hd6⟩ := rule_vals hx
        have O4 : ∀ k, k < W3.heap.size → k ≠ W1.heap.size → W4.heap[k]? = W3.heap[k]? := fun k hk hne => iN.old k hk (fun hu => hne (E.only1 hu))
        have S4 := iN.size
        have g2 : W4.heap[w.heap.size]? = some (.cells #[.int .i64 0, .string ⟨#[]⟩, .slice none 0 0, .int .i64 0, .string ⟨#[]⟩, .int .i64 0, .slice none 0 0] 25 (0, 0)) := (O4 _ (by omega) (by omega)).trans d2
        have g3 : Boxed W4 (w.heap.size + 1) 3 (.int .i64 pl) := (O4 _ (by omega) (by omega)).trans d3
        have g4 : Boxed W4 (w.heap.size + 1 + 1) 26 (.int .i64 0) := (O4 _ (by omega) (by omega)).trans d4
        have g3c := g3.cell
        have g3f := g3.frozen
        have g4c := g4.cell
        have g4f := g4.frozen
        have hz0 : W4.cell? ⟨w.heap.size, 0, none⟩ = some (.int .i64 0) := by simp [World.cell?, g2]
        have hy0 : W4.frozen? ⟨w.heap.size, 0, none⟩ = false := by simp [World.frozen?, g2]
        have hz1 : W4.cell? ⟨w.heap.size, 1, none⟩ = some (.string ⟨#[]⟩) := by simp [World.cell?, g2]
        have hy1 : W4.frozen? ⟨w.heap.size, 1, none⟩ = false := by simp [World.frozen?, g2]
        have hz2 : W4.cell? ⟨w.heap.size, 2, none⟩ = some (.slice none 0 0) := by simp [World.cell?, g2]
        have hy2 : W4.frozen? ⟨w.heap.size, 2, none⟩ = false := by simp [World.frozen?, g2]
        have hz3 : W4.cell? ⟨w.heap.size, 3, none⟩ = some (.int .i64 0) := by simp [World.cell?, g2]
        have hy3 : W4.frozen? ⟨w.heap.size, 3, none⟩ = false := by simp [World.frozen?, g2]
        have hz4 : W4.cell? ⟨w.heap.size, 4, none⟩ = some (.string ⟨#[]⟩) := by simp [World.cell?, g2]
        have hy4 : W4.frozen? ⟨w.heap.size, 4, none⟩ = false := by simp [World.frozen?, g2]
        have hz5 : W4.cell? ⟨w.heap.size, 5, none⟩ = some (.int .i64 0) := by simp [World.cell?, g2]
        have hy5 : W4.frozen? ⟨w.heap.size, 5, none⟩ = false := by simp [World.frozen?, g2]
        have hz6 : W4.cell? ⟨w.heap.size, 6, none⟩ = some (.slice none 0 0) := by simp [World.cell?, g2]
        have hy6 : W4.frozen? ⟨w.heap.size, 6, none⟩ = false := by simp [World.frozen?, g2]
        go_wp2
        obtain ⟨X0, hX0⟩ : ∃ V, W4.setCell ⟨w.heap.size, 0, none⟩ (.int .i64 (E.ruleT (E.rTok toks)).1) = V := ⟨_, rfl⟩
        rw [hX0]
        have x0 := one_set hX0 g2
        clear hX0
        obtain ⟨X1, hX1⟩ : ∃ V, X0.setCell ⟨w.heap.size, 1, none⟩ (.string (E.ruleT (E.rTok toks)).2.1) = V := ⟨_, rfl⟩
        rw [hX1]
        have x1 := x0.trans (one_set hX1 x0.row)
        clear hX1
        obtain ⟨X2, hX2⟩ : ∃ V, X1.setCell ⟨w.heap.size, 2, none⟩ (.slice a2 m2 k2) = V := ⟨_, rfl⟩
        rw [hX2]
        have x2 := x1.trans (one_set hX2 x1.row)
        clear hX2
        obtain ⟨X3, hX3⟩ : ∃ V, X2.setCell ⟨w.heap.size, 3, none⟩ (.int .i64 (E.ruleT (E.rTok toks)).2.2.2.1) = V := ⟨_, rfl⟩
        rw [hX3]
        have x3 := x2.trans (one_set hX3 x2.row)
        clear hX3
        obtain ⟨X4, hX4⟩ : ∃ V, X3.setCell ⟨w.heap.size, 4, none⟩ (.string (E.ruleT (E.rTok toks)).2.2.2.2.1) = V := ⟨_, rfl⟩
        rw [hX4]
        have x4 := x3.trans (one_set hX4 x3.row)
        clear hX4
        obtain ⟨X5, hX5⟩ : ∃ V, X4.setCell ⟨w.heap.size, 5, none⟩ (.int .i64 (E.ruleT (E.rTok toks)).2.2.2.2.2.1) = V := ⟨_, rfl⟩
        rw [hX5]
        have x5 := x4.trans (one_set hX5 x4.row)
        clear hX5
        obtain ⟨X6, hX6⟩ : ∃ V, X5.setCell ⟨w.heap.size, 6, none⟩ (.slice a6 m6 k6) = V := ⟨_, rfl⟩
        rw [hX6]
        have x6 := x5.trans (one_set hX6 x5.row)
        clear hX6
        obtain ⟨X7, hX7⟩ : ∃ V, X6.setCell ⟨w.heap.size + 1, 0, none⟩ (.int .i64 0) = V := ⟨_, rfl⟩
        rw [hX7]
        have x7 := one_set hX7 ((x6.old _ n32).trans g3)
        clear hX7
        obtain ⟨X8, hX8⟩ : ∃ V, X7.setCell ⟨w.heap.size + 1 + 1, 0, none⟩ (.int .i64 0) = V := ⟨_, rfl⟩
        rw [hX8]
        have x8 := one_set hX8 ((x7.old _ n43).trans ((x6.old _ n42).trans g4))
        clear hX8
        have e2 : X8.heap[w.heap.size]? = some (.cells #[.int .i64 (E.ruleT (E.rTok toks)).1, .string (E.ruleT (E.rTok toks)).2.1, .slice a2 m2 k2, .int .i64 (E.ruleT (E.rTok toks)).2.2.2.1, .string (E.ruleT (E.rTok toks)).2.2.2.2.1, .int .i64 (E.ruleT (E.rTok toks)).2.2.2.2.2.1, .slice a6 m6 k6] 25 (0, 0)) := (x8.old _ n24).trans ((x7.old _ n23).trans x6.row)
        have e3 : X8.heap[w.heap.size + 1]? = some (.cells #[.int .i64 0] 3 (0, 0)) := (x8.old _ n34).trans x7.row
        have e4 : X8.heap[w.heap.size + 1 + 1]? = some (.cells #[.int .i64 0] 26 (0, 0)) := x8.row
        have hsz : X8.heap.size = W4.heap.size := by rw [x8.size, x7.size, x6.size]
        have eX : ∀ k, k ≠ w.heap.size → k ≠ w.heap.size + 1 → k ≠ w.heap.size + 1 + 1 → X8.heap[k]? = W4.heap[k]? := fun k k2 k3 k4 => by rw [x8.old k k4, x7.old k k3, x6.old k k2]
        have eM : X8.os = w.os ∧ X8.tape = w.tape ∧ X8.output = w.output := ⟨(x8.os.trans (x7.os.trans x6.os)).trans (iN.os.trans M3.1), (x8.tape.trans (x7.tape.trans x6.tape)).trans (iN.tape.trans M3.2.1), (x8.output.trans (x7.output.trans x6.output)).trans (iN.output.trans M3.2.2)⟩
        refine leaves_cons (f := 14) (args := #[.pointer (some ⟨w.heap.size, 0, none⟩), .pointer (some ⟨w.heap.size + 1, 0, none⟩), .pointer (some ⟨w.heap.size + 1 + 1, 0, none⟩)]) (by simp) (by simp [go_sem]) ?_
        refine (catch_idle w.heap.size (w.heap.size + 1) (w.heap.size + 1 + 1) X8).mono ?_
        rintro e u' W5 ⟨rfl, rfl, i1, i2, i3, i4, i5⟩
        show Leaves _ _ _ (RuleEnd s w) [] .returning _
        have eB : Below w.heap.size w W5 := ⟨i1.trans eM.1, i2.trans eM.2.1, i3.trans eM.2.2, by omega, fun k hk => by
          rw [i5 k (by omega), eX k (by omega) (by omega) (by omega), O4 k (by omega) (by omega), O3 k (by omega) (by omega) (by omega), B1.block k (by omega), B0.block k hk]⟩
        refine rule_end rfl rfl rfl ((i5 _ (by omega)).trans e2) ((i5 _ (by omega)).trans e3) ((i5 _ (by omega)).trans e4) eB ?_ (by rw [hrr]; exact (tok_good hwhy).symm) (by rw [hrr]; exact hwhy.symm)
        have hD : E.ruleD s = E.ruleT (E.rTok toks) := by unfold E.ruleD; rw [hrr]
        rw [hD]
        have hfr : ∀ k, F' k → (w.heap.size ≤ k ∨ k ∈ E.layG) ∧ k ≠ w.heap.size ∧ k ≠ w.heap.size + 1 ∧ k ≠ w.heap.size + 1 + 1 := fun k hk => by
          rcases iN.f1 k hk with h | h | h
          · have h' : (W0.heap.size ≤ k ∨ k ∈ E.layG) ∧ k < W1.heap.size := h
            have := hF k h'
            exact ⟨h'.1.imp (fun h => by omega) id, this.2⟩
          · exact ⟨.inl (by omega), by omega, by omega, by omega⟩
          · have := E.only1 h
            exact ⟨.inl (by omega), by omega, by omega, by omega⟩
        have up : ∀ {t : E.Ty} {x : t.D} {cs : List Value}, E.DRep W4 F' t x cs → E.DRep W5 (fun b => (w.heap.size ≤ b ∨ b ∈ E.layG) ∧ b < W5.heap.size) t x cs := fun h =>
          E.DRep.mono (fun k hk => ⟨(hfr k hk).1, by have := iN.fb k hk; omega⟩) (fun k hk => by have h1 := hfr k hk; have := iN.fb k hk; rw [i5 k (by omega), eX k h1.2.1 h1.2.2.1 h1.2.2.2]) h
        exact ⟨_, rfl, rfl, rfl, up hd2, rfl, rfl, rfl, up hd6, trivial⟩
      · rw [if_neg hwhy] at hr
        cases hr
    · by_cases hwhy : (E.rTok toks).2.2.2.2.2.2.1 = 0
      · rw [if_pos hwhy] at hr
        cases hr
      · rw [if_neg hwhy] at hr
        injection hr with hr1
        subst hr1
        have O4 : ∀ k, k < W3.heap.size → k ≠ W1.heap.size → W4.heap[k]? = W3.heap[k]? := fun k hk hne => hfr.old k hk (fun hu => hne (E.only1 hu))
        have S4 := hfr.size
        have g2 : W4.heap[w.heap.size]? = some (.cells #[.int .i64 0, .string ⟨#[]⟩, .slice none 0 0, .int .i64 0, .string ⟨#[]⟩, .int .i64 0, .slice none 0 0] 25 (0, 0)) := (O4 _ (by omega) (by omega)).trans d2
        have g3 : Boxed W4 (w.heap.size + 1) 3 (.int .i64 pl) := (O4 _ (by omega) (by omega)).trans d3
        have g4 : Boxed W4 (w.heap.size + 1 + 1) 26 (.int .i64 0) := (O4 _ (by omega) (by omega)).trans d4
        refine leaves_cons (f := 14) (args := #[.pointer (some ⟨w.heap.size, 0, none⟩), .pointer (some ⟨w.heap.size + 1, 0, none⟩), .pointer (some ⟨w.heap.size + 1 + 1, 0, none⟩)]) (by simp) (by simp [go_sem]) ?_
        refine (catch_panic w.heap.size (w.heap.size + 1) (w.heap.size + 1 + 1) 0 ⟨#[]⟩ .nilIface 0 ⟨#[]⟩ 0 .nilIface pl 0 (E.rTok toks).2.2.2.2.2.2.1 (E.rTok toks).2.2.2.2.2.1 W4 g2 g3 g4 n23 n24 n34).mono ?_
        rintro e u' W5 ⟨rfl, rfl, e2, e3, e4, eb⟩
        show Leaves _ _ _ (RuleEnd s w) [] .returning _
        have hbad := tok_bad hwhy
        have eB : Below w.heap.size w W5 := ⟨eb.os.trans (hfr.os.trans M3.1), eb.tape.trans (hfr.tape.trans M3.2.1), eb.output.trans (hfr.output.trans M3.2.2), by have := eb.size; omega, fun k hk => by
          rw [eb.old k (by omega) (by omega) (by omega) (by omega), O4 k (by omega) (by omega), O3 k (by omega) (by omega) (by omega), B1.block k (by omega), B0.block k hk]⟩
        refine rule_end rfl rfl rfl e2 e3 e4 eB ?_ (by rw [hrr]) (by rw [hrr])
        have hz : E.ruleD s = ((0 : Int), (⟨#[]⟩ : ByteArray), ([] : List ByteArray), (0 : Int), (⟨#[]⟩ : ByteArray), (0 : Int), ([] : List E.ty51.D), ()) := by unfold E.ruleD; rw [hrr, hbad]; rfl
        rw [hz]
        exact rule0_rep _ _
  · have he' : ¬ (E.lexS s).2.1 = 0 := he
    have hrr : E.rRule s = E.rErr (E.lexS s).1 (E.lexS s).2.1 := by unfold E.rRule; rw [if_pos he]
    have gz0 : W1.cell? ⟨w.heap.size, 0, none⟩ = some (.int .i64 0) := by simp [World.cell?, b2]
    have gy0 : W1.frozen? ⟨w.heap.size, 0, none⟩ = false := by simp [World.frozen?, b2]
    have gz1 : W1.cell? ⟨w.heap.size, 1, none⟩ = some (.string ⟨#[]⟩) := by simp [World.cell?, b2]
    have gy1 : W1.frozen? ⟨w.heap.size, 1, none⟩ = false := by simp [World.frozen?, b2]
    have gz2 : W1.cell? ⟨w.heap.size, 2, none⟩ = some (.slice none 0 0) := by simp [World.cell?, b2]
    have gy2 : W1.frozen? ⟨w.heap.size, 2, none⟩ = false := by simp [World.frozen?, b2]
    have gz3 : W1.cell? ⟨w.heap.size, 3, none⟩ = some (.int .i64 0) := by simp [World.cell?, b2]
    have gy3 : W1.frozen? ⟨w.heap.size, 3, none⟩ = false := by simp [World.frozen?, b2]
    have gz4 : W1.cell? ⟨w.heap.size, 4, none⟩ = some (.string ⟨#[]⟩) := by simp [World.cell?, b2]
    have gy4 : W1.frozen? ⟨w.heap.size, 4, none⟩ = false := by simp [World.frozen?, b2]
    have gz5 : W1.cell? ⟨w.heap.size, 5, none⟩ = some (.int .i64 0) := by simp [World.cell?, b2]
    have gy5 : W1.frozen? ⟨w.heap.size, 5, none⟩ = false := by simp [World.frozen?, b2]
    have gz6 : W1.cell? ⟨w.heap.size, 6, none⟩ = some (.slice none 0 0) := by simp [World.cell?, b2]
    have gy6 : W1.frozen? ⟨w.heap.size, 6, none⟩ = false := by simp [World.frozen?, b2]
    generalize (E.lexS s).2.1 = er at he he' hrr ⊢
    generalize (E.lexS s).1 = pl at hrr ⊢
    go_wp2_with fail
    obtain ⟨V1, hV1⟩ : ∃ V, W1.setCell ⟨w.heap.size + 1, 0, none⟩ (.int .i64 pl) = V := ⟨_, rfl⟩
    rw [hV1]
    have o1 := one_set hV1 b3
    obtain ⟨V2, hV2⟩ : ∃ V, V1.setCell ⟨w.heap.size + 1 + 1, 0, none⟩ (.int .i64 er) = V := ⟨_, rfl⟩
    rw [hV2]
    have n23 : ¬ w.heap.size = w.heap.size + 1 := by omega
    have n24 : ¬ w.heap.size = w.heap.size + 1 + 1 := by omega
    have n34 : ¬ w.heap.size + 1 = w.heap.size + 1 + 1 := by omega
    have n32 : ¬ w.heap.size + 1 = w.heap.size := by omega
    have n42 : ¬ w.heap.size + 1 + 1 = w.heap.size := by omega
    have n43 : ¬ w.heap.size + 1 + 1 = w.heap.size + 1 := by omega
    have o2 := one_set hV2 ((o1.old _ n43).trans b4)
    clear hV1 hV2
    have c2 : V2.heap[w.heap.size]? = some (.cells #[.int .i64 0, .string ⟨#[]⟩, .slice none 0 0, .int .i64 0, .string ⟨#[]⟩, .int .i64 0, .slice none 0 0] 25 (0, 0)) := (o2.old _ n24).trans ((o1.old _ n23).trans b2)
    have c3 : Boxed V2 (w.heap.size + 1) 3 (.int .i64 pl) := (o2.old _ n34).trans o1.row
    have c4 : Boxed V2 (w.heap.size + 1 + 1) 26 (.int .i64 er) := o2.row
    have c3c := c3.cell
    have c3f := c3.frozen
    have c4c := c4.cell
    have c4f := c4.frozen
    have hz0 : V2.cell? ⟨w.heap.size, 0, none⟩ = some (.int .i64 0) := by simp [World.cell?, c2]
    have hy0 : V2.frozen? ⟨w.heap.size, 0, none⟩ = false := by simp [World.frozen?, c2]
    have hz1 : V2.cell? ⟨w.heap.size, 1, none⟩ = some (.string ⟨#[]⟩) := by simp [World.cell?, c2]
    have hy1 : V2.frozen? ⟨w.heap.size, 1, none⟩ = false := by simp [World.frozen?, c2]
    have hz2 : V2.cell? ⟨w.heap.size, 2, none⟩ = some (.slice none 0 0) := by simp [World.cell?, c2]
    have hy2 : V2.frozen? ⟨w.heap.size, 2, none⟩ = false := by simp [World.frozen?, c2]
    have hz3 : V2.cell? ⟨w.heap.size, 3, none⟩ = some (.int .i64 0) := by simp [World.cell?, c2]
    have hy3 : V2.frozen? ⟨w.heap.size, 3, none⟩ = false := by simp [World.frozen?, c2]
    have hz4 : V2.cell? ⟨w.heap.size, 4, none⟩ = some (.string ⟨#[]⟩) := by simp [World.cell?, c2]
    have hy4 : V2.frozen? ⟨w.heap.size, 4, none⟩ = false := by simp [World.frozen?, c2]
    have hz5 : V2.cell? ⟨w.heap.size, 5, none⟩ = some (.int .i64 0) := by simp [World.cell?, c2]
    have hy5 : V2.frozen? ⟨w.heap.size, 5, none⟩ = false := by simp [World.frozen?, c2]
    have hz6 : V2.cell? ⟨w.heap.size, 6, none⟩ = some (.slice none 0 0) := by simp [World.cell?, c2]
    have hy6 : V2.frozen? ⟨w.heap.size, 6, none⟩ = false := by simp [World.frozen?, c2]
    go_region
    go_wp2
    obtain ⟨X0, hX0⟩ : ∃ V, V2.setCell ⟨w.heap.size, 0, none⟩ (.int .i64 0) = V := ⟨_, rfl⟩
    rw [hX0]
    have x0 := one_set hX0 c2
    clear hX0
    obtain ⟨X1, hX1⟩ : ∃ V, X0.setCell ⟨w.heap.size, 1, none⟩ (.string ⟨#[]⟩) = V := ⟨_, rfl⟩
    rw [hX1]
    have x1 := x0.trans (one_set hX1 x0.row)
    clear hX1
    obtain ⟨X2, hX2⟩ : ∃ V, X1.setCell ⟨w.heap.size, 2, none⟩ (.slice none 0 0) = V := ⟨_, rfl⟩
    rw [hX2]
    have x2 := x1.trans (one_set hX2 x1.row)
    clear hX2
    obtain ⟨X3, hX3⟩ : ∃ V, X2.setCell ⟨w.heap.size, 3, none⟩ (.int .i64 0) = V := ⟨_, rfl⟩
    rw [hX3]
    have x3 := x2.trans (one_set hX3 x2.row)
    clear hX3
    obtain ⟨X4, hX4⟩ : ∃ V, X3.setCell ⟨w.heap.size, 4, none⟩ (.string ⟨#[]⟩) = V := ⟨_, rfl⟩
    rw [hX4]
    have x4 := x3.trans (one_set hX4 x3.row)
    clear hX4
    obtain ⟨X5, hX5⟩ : ∃ V, X4.setCell ⟨w.heap.size, 5, none⟩ (.int .i64 0) = V := ⟨_, rfl⟩
    rw [hX5]
    have x5 := x4.trans (one_set hX5 x4.row)
    clear hX5
    obtain ⟨X6, hX6⟩ : ∃ V, X5.setCell ⟨w.heap.size, 6, none⟩ (.slice none 0 0) = V := ⟨_, rfl⟩
    rw [hX6]
    have x6 := x5.trans (one_set hX6 x5.row)
    clear hX6
    obtain ⟨X7, hX7⟩ : ∃ V, X6.setCell ⟨w.heap.size + 1, 0, none⟩ (.int .i64 pl) = V := ⟨_, rfl⟩
    rw [hX7]
    have x7 := one_set hX7 ((x6.old _ n32).trans c3)
    clear hX7
    obtain ⟨X8, hX8⟩ : ∃ V, X7.setCell ⟨w.heap.size + 1 + 1, 0, none⟩ (.int .i64 er) = V := ⟨_, rfl⟩
    rw [hX8]
    have x8 := one_set hX8 ((x7.old _ n43).trans ((x6.old _ n42).trans c4))
    clear hX8
    have e2 : X8.heap[w.heap.size]? = some (.cells #[.int .i64 0, .string ⟨#[]⟩, .slice none 0 0, .int .i64 0, .string ⟨#[]⟩, .int .i64 0, .slice none 0 0] 25 (0, 0)) := (x8.old _ n24).trans ((x7.old _ n23).trans x6.row)
    have e3 : X8.heap[w.heap.size + 1]? = some (.cells #[.int .i64 pl] 3 (0, 0)) := (x8.old _ n34).trans x7.row
    have e4 : X8.heap[w.heap.size + 1 + 1]? = some (.cells #[.int .i64 er] 26 (0, 0)) := x8.row
    have hsz : X8.heap.size = W1.heap.size := by rw [x8.size, x7.size, x6.size, o2.size, o1.size]
    have eb : Below w.heap.size w X8.drew := ⟨(x8.os.trans (x7.os.trans (x6.os.trans (o2.os.trans o1.os)))).trans (B1.os.trans B0.os), (x8.tape.trans (x7.tape.trans (x6.tape.trans (o2.tape.trans o1.tape)))).trans (B1.tape.trans B0.tape), (x8.output.trans (x7.output.trans (x6.output.trans (o2.output.trans o1.output)))).trans (B1.output.trans B0.output),
      (by show w.heap.size ≤ X8.heap.size; rw [hsz]; omega), fun k hk => by
        show X8.heap[k]? = _
        rw [x8.old k (by omega), x7.old k (by omega), x6.old k (by omega), o2.old k (by omega), o1.old k (by omega), B1.block k (by omega), B0.block k hk]⟩
    show Leaves _ _ _ (RuleEnd s w) [] .returning _
    refine rule_end rfl rfl rfl e2 e3 e4 eb ?_ (by rw [hrr]; rfl) (by rw [hrr]; rfl)
    have hz : E.ruleD s = ((0 : Int), (⟨#[]⟩ : ByteArray), ([] : List ByteArray), (0 : Int), (⟨#[]⟩ : ByteArray), (0 : Int), ([] : List E.ty51.D), ()) := by unfold E.ruleD; rw [hrr]; rfl
    rw [hz]
    exact rule0_rep _ _
end Go.Proofs.YtnnbinmomendnaaGreatDoor
set_option linter.unusedVariables false
set_option maxRecDepth 100000
namespace Go.Proofs.YtnnbinmomendnaaGreatDoor.E
open Go.Proofs
noncomputable section
variable {R : Type}
/-! verderer/parse.Rule: function 6 -/
@[reducible] def parse_Rule_d : Desc := ⟨[(0, .d .str)], []⟩
def parse_Rule_Fi (n : Nat) (a0 : ByteArray) (k0 : ty25.D → Int → Int → Option R) : Option R :=
  if True then (k0 (ruleD a0) ((rRule a0).2.2.2.2.2.1) ((rRule a0).2.2.2.2.2.2.1)) else none
def parse_Rule_F {R : Type} := lazyN (@parse_Rule_Fi R)
theorem parse_Rule_e : @parse_Rule_F R = @parse_Rule_Fi R := lazyN_eq _
def parse_Rule_g (n : Nat) : Gx R := typed 1 parse_Rule_d fun x k => parse_Rule_F n x.1 (fun y0 y1 y2 => k (.tu [(encA ty25 y0), (.c (.i .i64 y1)), (.c (.i .i64 y2))]) [])
theorem parse_Rule_ok [Esc R] (n : Nat) : Good Tryz.prog 6 (parse_Rule_g (R := R) n) := by
  unfold parse_Rule_g
  rw [parse_Rule_e]
  exact Good.hand1 Tryz.func6 (by kernel_rfl) rfl rfl rule_back (fun x k => rfl)
end
end Go.Proofs.YtnnbinmomendnaaGreatDoor.E
set_option linter.unusedVariables false
set_option maxRecDepth 100000
namespace Go.Proofs.YtnnbinmomendnaaGreatDoor.E
open Go.Proofs
noncomputable section
variable {R : Type}
/-! verderer/verdererref12.literal: function 25 -/
def verdererref12_literal_ds : Nat → Desc
  | 4 => ⟨[(2, .pt 0 0), (3, .pt 1 0), (5, .d (.int .i64))], [.box false 51 [.d .bool, .d .str, .d (.sl ty48), .d (.int .i64)], .box false 51 [.d .bool, .d .str, .d (.sl ty48), .d (.int .i64)]]⟩
  | _ => ⟨[], []⟩
def verdererref12_literal_dx : Nat → List (X × Desc)
  | 4 => [(.r, ⟨[(4, .d .bool)], []⟩), (.e 0, ⟨[], []⟩)]
  | _ => []
def verdererref12_literal_s4 (n : Nat) (x0 : Int) (x1 : Bool) (x2 : ByteArray) (x3 : (List ty48.D)) (x4 : Int) (x5 : Bool) (x6 : ByteArray) (x7 : (List ty48.D)) (x8 : Int) (k1 : Int → Bool → ByteArray → (List ty48.D) → Int → Bool → ByteArray → (List ty48.D) → Int → Option R) (qr : Bool → Option R) (qe0 : Option R) : Option R :=
  if (decide (x0 < (x3.length : Int))) = true then (if (0 : Int) ≤ x0 ∧ x0 < (x3.length : Int) then (if (0 : Int) ≤ x0 ∧ x0 < (x7.length : Int) then (if (!((((x3.getD (Int.toNat x0) (Ty.z ty48)).1).toList == ((x7.getD (Int.toNat x0) (Ty.z ty48)).1).toList) && (((x3.getD (Int.toNat x0) (Ty.z ty48)).2.1 == (x7.getD (Int.toNat x0) (Ty.z ty48)).2.1) && (((((x3.getD (Int.toNat x0) (Ty.z ty48)).2.2.1).1 == ((x7.getD (Int.toNat x0) (Ty.z ty48)).2.2.1).1) && ((((x3.getD (Int.toNat x0) (Ty.z ty48)).2.2.1).2.1 == ((x7.getD (Int.toNat x0) (Ty.z ty48)).2.2.1).2.1) && ((((x3.getD (Int.toNat x0) (Ty.z ty48)).2.2.1).2.2.1 == ((x7.getD (Int.toNat x0) (Ty.z ty48)).2.2.1).2.2.1) && (((((x3.getD (Int.toNat x0) (Ty.z ty48)).2.2.1).2.2.2.1).toList == (((x7.getD (Int.toNat x0) (Ty.z ty48)).2.2.1).2.2.2.1).toList) && true)))) && true)))) = true then (qr false) else (k1 (IntKind.i64.wrap (x0 + 1)) x1 x2 x3 x4 x5 x6 x7 x8)) else none) else none) else qe0
def verdererref12_literal_l4 (n : Nat) (a : (verdererref12_literal_ds 4).D) (k1 : (verdererref12_literal_ds 4).D → Option R) (k2 : exK R (verdererref12_literal_dx 4)) : Option R :=
  verdererref12_literal_s4 n a.1 a.2.1 a.2.2.1 a.2.2.2.1 a.2.2.2.2.1 a.2.2.2.2.2.1 a.2.2.2.2.2.2.1 a.2.2.2.2.2.2.2.1 a.2.2.2.2.2.2.2.2.1 (fun x0 x1 x2 x3 x4 x5 x6 x7 x8 => k1 (x0, x1, x2, x3, x4, x5, x6, x7, x8, ())) (fun x0 => k2.1 (x0, ())) (k2.2.1 (()))
@[reducible] def verdererref12_literal_d : Desc := ⟨[(0, .d ty51), (1, .d ty51)], []⟩
def verdererref12_literal_Fi (n : Nat) (a0 : ty51.D) (a1 : ty51.D) (k0 : Bool → Option R) : Option R :=
  if (!(a0.1 == a1.1)) = true then (k0 false) else (if (!(a0.2.1.toList == a1.2.1.toList)) = true then (k0 false) else (if (a0.2.2.2.1 != a1.2.2.2.1) = true then (k0 false) else (if ((a0.2.2.1.length : Int) != (a1.2.2.1.length : Int)) = true then (k0 false) else (runC (verdererref12_literal_l4 n) n (0, a0.1, a0.2.1, a0.2.2.1, a0.2.2.2.1, a1.1, a1.2.1, a1.2.2.1, a1.2.2.2.1, ()) (fun b1 => k0 b1.1, fun b1 => k0 true, ())))))
def verdererref12_literal_F {R : Type} := lazyN (@verdererref12_literal_Fi R)
theorem verdererref12_literal_e : @verdererref12_literal_F R = @verdererref12_literal_Fi R := lazyN_eq _
def verdererref12_literal_g (n : Nat) : Gx R := typed 2 verdererref12_literal_d fun x k => verdererref12_literal_F n x.1 x.2.1 (fun y0 => k (.a (.c (.b y0))) [])
def verdererref12_literal_cs (R : Type) (n : Nat) : List (Nat × Gx R) := []
def verdererref12_literal_lp (n : Nat) : (i : Nat) → (verdererref12_literal_ds i).D → exK R (verdererref12_literal_dx i) → Option R
  | 4, a, k => runC (verdererref12_literal_l4 n) n a k
  | _, _, _ => none
def verdererref12_literal_cx (R : Type) (n : Nat) : Cx R := ⟨Tryz.prog, Gof (verdererref12_literal_cs R n), verdererref12_literal_ds, verdererref12_literal_dx, verdererref12_literal_lp n, drawP Tryz.prog (Gof (verdererref12_literal_cs R n)), false, noJn, noFz⟩
theorem verdererref12_literal_ok [Esc R] (n : Nat) : Good Tryz.prog 25 (verdererref12_literal_g (R := R) n) := by
  unfold verdererref12_literal_g
  rw [verdererref12_literal_e]
  exact Good.fn (f := 25) (cx := verdererref12_literal_cx R n) (by kernel_rfl) (AllGood.nil) rfl Tryz.func25 (by kernel_rfl) rfl (by
    have e : fnLoops noJn Tryz.f25 = [((fnLoops noJn Tryz.f25)[0]?).getD (false, .skip)] := by kernel_rfl
    show LoopRuns _ _ (fnLoops noJn _)
    rw [e]
    exact ⟨LoopRun.loop (by kernel_rfl) (i := 4) (m := n) (step := verdererref12_literal_l4 n) (by kernel_rfl) (fun a k1 k2 => by kernel_rfl) (fun _ _ => rfl), trivial⟩) 2 verdererref12_literal_d (by kernel_rfl) (fun x k => by kernel_rfl)
end
end Go.Proofs.YtnnbinmomendnaaGreatDoor.E
set_option linter.unusedVariables false
set_option maxRecDepth 100000
namespace Go.Proofs.YtnnbinmomendnaaGreatDoor.E
open Go.Proofs
noncomputable section
variable {R : Type}
/-! verderer/verdererref12.Same: function 9 -/
def verdererref12_Same_ds : Nat → Desc
  | 4 => ⟨[(2, .pt 0 0), (3, .pt 1 0), (5, .d (.int .i64))], [.box false 25 [.d (.int .i64), .d .str, .d (.sl .str), .d (.int .i64), .d .str, .d (.int .i64), .d (.sl ty51)], .box false 25 [.d (.int .i64), .d .str, .d (.sl .str), .d (.int .i64), .d .str, .d (.int .i64), .d (.sl ty51)]]⟩
  | 9 => ⟨[(2, .pt 0 0), (3, .pt 1 0), (6, .d (.int .i64))], [.box false 25 [.d (.int .i64), .d .str, .d (.sl .str), .d (.int .i64), .d .str, .d (.int .i64), .d (.sl ty51)], .box false 25 [.d (.int .i64), .d .str, .d (.sl .str), .d (.int .i64), .d .str, .d (.int .i64), .d (.sl ty51)]]⟩
  | _ => ⟨[], []⟩
def verdererref12_Same_dx : Nat → List (X × Desc)
  | 4 => [(.r, ⟨[(4, .d .bool)], []⟩), (.e 0, ⟨[(2, .pt 0 0), (3, .pt 1 0)], [.box false 25 [.d (.int .i64), .d .str, .d (.sl .str), .d (.int .i64), .d .str, .d (.int .i64), .d (.sl ty51)], .box false 25 [.d (.int .i64), .d .str, .d (.sl .str), .d (.int .i64), .d .str, .d (.int .i64), .d (.sl ty51)]]⟩)]
  | 9 => [(.r, ⟨[(4, .d .bool)], []⟩), (.e 2, ⟨[], []⟩)]
  | _ => []
def verdererref12_Same_s4 (n : Nat) (x0 : Int) (x1 : Int) (x2 : ByteArray) (x3 : (List ByteArray)) (x4 : Int) (x5 : ByteArray) (x6 : Int) (x7 : (List ty51.D)) (x8 : Int) (x9 : ByteArray) (x10 : (List ByteArray)) (x11 : Int) (x12 : ByteArray) (x13 : Int) (x14 : (List ty51.D)) (k1 : Int → Int → ByteArray → (List ByteArray) → Int → ByteArray → Int → (List ty51.D) → Int → ByteArray → (List ByteArray) → Int → ByteArray → Int → (List ty51.D) → Option R) (qr : Bool → Option R) (qe0 : Int → ByteArray → (List ByteArray) → Int → ByteArray → Int → (List ty51.D) → Int → ByteArray → (List ByteArray) → Int → ByteArray → Int → (List ty51.D) → Option R) : Option R :=
  if (decide (x0 < (x3.length : Int))) = true then (if (0 : Int) ≤ x0 ∧ x0 < (x3.length : Int) then (if (0 : Int) ≤ x0 ∧ x0 < (x10.length : Int) then (if (!((x3.getD (Int.toNat x0) (Ty.z .str)).toList == (x10.getD (Int.toNat x0) (Ty.z .str)).toList)) = true then (qr false) else (k1 (IntKind.i64.wrap (x0 + 1)) x1 x2 x3 x4 x5 x6 x7 x8 x9 x10 x11 x12 x13 x14)) else none) else none) else (qe0 x1 x2 x3 x4 x5 x6 x7 x8 x9 x10 x11 x12 x13 x14)
def verdererref12_Same_l4 (n : Nat) (a : (verdererref12_Same_ds 4).D) (k1 : (verdererref12_Same_ds 4).D → Option R) (k2 : exK R (verdererref12_Same_dx 4)) : Option R :=
  verdererref12_Same_s4 n a.1 a.2.1 a.2.2.1 a.2.2.2.1 a.2.2.2.2.1 a.2.2.2.2.2.1 a.2.2.2.2.2.2.1 a.2.2.2.2.2.2.2.1 a.2.2.2.2.2.2.2.2.1 a.2.2.2.2.2.2.2.2.2.1 a.2.2.2.2.2.2.2.2.2.2.1 a.2.2.2.2.2.2.2.2.2.2.2.1 a.2.2.2.2.2.2.2.2.2.2.2.2.1 a.2.2.2.2.2.2.2.2.2.2.2.2.2.1 a.2.2.2.2.2.2.2.2.2.2.2.2.2.2.1 (fun x0 x1 x2 x3 x4 x5 x6 x7 x8 x9 x10 x11 x12 x13 x14 => k1 (x0, x1, x2, x3, x4, x5, x6, x7, x8, x9, x10, x11, x12, x13, x14, ())) (fun x0 => k2.1 (x0, ())) (fun x0 x1 x2 x3 x4 x5 x6 x7 x8 x9 x10 x11 x12 x13 => k2.2.1 (x0, x1, x2, x3, x4, x5, x6, x7, x8, x9, x10, x11, x12, x13, ()))
def verdererref12_Same_s9 (n : Nat) (x0 : Int) (x1 : Int) (x2 : ByteArray) (x3 : (List ByteArray)) (x4 : Int) (x5 : ByteArray) (x6 : Int) (x7 : (List ty51.D)) (x8 : Int) (x9 : ByteArray) (x10 : (List ByteArray)) (x11 : Int) (x12 : ByteArray) (x13 : Int) (x14 : (List ty51.D)) (k1 : Int → Int → ByteArray → (List ByteArray) → Int → ByteArray → Int → (List ty51.D) → Int → ByteArray → (List ByteArray) → Int → ByteArray → Int → (List ty51.D) → Option R) (qr : Bool → Option R) (qe2 : Option R) : Option R :=
  if (decide (x0 < (x7.length : Int))) = true then (if (0 : Int) ≤ x0 ∧ x0 < (x7.length : Int) then (if (0 : Int) ≤ x0 ∧ x0 < (x14.length : Int) then (verdererref12_literal_F n (x7.getD (Int.toNat x0) (Ty.z ty51)) (x14.getD (Int.toNat x0) (Ty.z ty51)) (fun y16 => if (!y16) = true then (qr false) else (k1 (IntKind.i64.wrap (x0 + 1)) x1 x2 x3 x4 x5 x6 x7 x8 x9 x10 x11 x12 x13 x14))) else none) else none) else qe2
def verdererref12_Same_l9 (n : Nat) (a : (verdererref12_Same_ds 9).D) (k1 : (verdererref12_Same_ds 9).D → Option R) (k2 : exK R (verdererref12_Same_dx 9)) : Option R :=
  verdererref12_Same_s9 n a.1 a.2.1 a.2.2.1 a.2.2.2.1 a.2.2.2.2.1 a.2.2.2.2.2.1 a.2.2.2.2.2.2.1 a.2.2.2.2.2.2.2.1 a.2.2.2.2.2.2.2.2.1 a.2.2.2.2.2.2.2.2.2.1 a.2.2.2.2.2.2.2.2.2.2.1 a.2.2.2.2.2.2.2.2.2.2.2.1 a.2.2.2.2.2.2.2.2.2.2.2.2.1 a.2.2.2.2.2.2.2.2.2.2.2.2.2.1 a.2.2.2.2.2.2.2.2.2.2.2.2.2.2.1 (fun x0 x1 x2 x3 x4 x5 x6 x7 x8 x9 x10 x11 x12 x13 x14 => k1 (x0, x1, x2, x3, x4, x5, x6, x7, x8, x9, x10, x11, x12, x13, x14, ())) (fun x0 => k2.1 (x0, ())) (k2.2.1 (()))
@[reducible] def verdererref12_Same_d : Desc := ⟨[(0, .d ty25), (1, .d ty25)], []⟩
def verdererref12_Same_Fi (n : Nat) (a0 : ty25.D) (a1 : ty25.D) (k0 : Bool → Option R) : Option R :=
  if (a0.1 != a1.1) = true then (k0 false) else (if (!(a0.2.1.toList == a1.2.1.toList)) = true then (k0 false) else (if (a0.2.2.2.1 != a1.2.2.2.1) = true then (k0 false) else (if (!(a0.2.2.2.2.1.toList == a1.2.2.2.2.1.toList)) = true then (k0 false) else (if (a0.2.2.2.2.2.1 != a1.2.2.2.2.2.1) = true then (k0 false) else (if ((a0.2.2.1.length : Int) != (a1.2.2.1.length : Int)) = true then (k0 false) else (if ((a0.2.2.2.2.2.2.1.length : Int) != (a1.2.2.2.2.2.2.1.length : Int)) = true then (k0 false) else (runC (verdererref12_Same_l4 n) n (0, a0.1, a0.2.1, a0.2.2.1, a0.2.2.2.1, a0.2.2.2.2.1, a0.2.2.2.2.2.1, a0.2.2.2.2.2.2.1, a1.1, a1.2.1, a1.2.2.1, a1.2.2.2.1, a1.2.2.2.2.1, a1.2.2.2.2.2.1, a1.2.2.2.2.2.2.1, ()) (fun b1 => k0 b1.1, fun b15 => runC (verdererref12_Same_l9 n) n (0, b15.1, b15.2.1, b15.2.2.1, b15.2.2.2.1, b15.2.2.2.2.1, b15.2.2.2.2.2.1, b15.2.2.2.2.2.2.1, b15.2.2.2.2.2.2.2.1, b15.2.2.2.2.2.2.2.2.1, b15.2.2.2.2.2.2.2.2.2.1, b15.2.2.2.2.2.2.2.2.2.2.1, b15.2.2.2.2.2.2.2.2.2.2.2.1, b15.2.2.2.2.2.2.2.2.2.2.2.2.1, b15.2.2.2.2.2.2.2.2.2.2.2.2.2.1, ()) (fun b17 => k0 b17.1, fun b17 => k0 true, ()), ()))))))))
def verdererref12_Same_F {R : Type} := lazyN (@verdererref12_Same_Fi R)
theorem verdererref12_Same_e : @verdererref12_Same_F R = @verdererref12_Same_Fi R := lazyN_eq _
def verdererref12_Same_g (n : Nat) : Gx R := typed 2 verdererref12_Same_d fun x k => verdererref12_Same_F n x.1 x.2.1 (fun y0 => k (.a (.c (.b y0))) [])
def verdererref12_Same_cs (R : Type) (n : Nat) : List (Nat × Gx R) := [(25, verdererref12_literal_g n)]
def verdererref12_Same_lp (n : Nat) : (i : Nat) → (verdererref12_Same_ds i).D → exK R (verdererref12_Same_dx i) → Option R
  | 4, a, k => runC (verdererref12_Same_l4 n) n a k
  | 9, a, k => runC (verdererref12_Same_l9 n) n a k
  | _, _, _ => none
def verdererref12_Same_cx (R : Type) (n : Nat) : Cx R := ⟨Tryz.prog, Gof (verdererref12_Same_cs R n), verdererref12_Same_ds, verdererref12_Same_dx, verdererref12_Same_lp n, drawP Tryz.prog (Gof (verdererref12_Same_cs R n)), false, noJn, noFz⟩
theorem verdererref12_Same_ok [Esc R] (n : Nat) : Good Tryz.prog 9 (verdererref12_Same_g (R := R) n) := by
  unfold verdererref12_Same_g
  rw [verdererref12_Same_e]
  exact Good.fn (f := 9) (cx := verdererref12_Same_cx R n) (by kernel_rfl) (AllGood.cons (verdererref12_literal_ok n) (AllGood.nil)) rfl Tryz.func9 (by kernel_rfl) rfl (by
    have e : fnLoops noJn Tryz.f9 = [((fnLoops noJn Tryz.f9)[0]?).getD (false, .skip), ((fnLoops noJn Tryz.f9)[1]?).getD (false, .skip)] := by kernel_rfl
    show LoopRuns _ _ (fnLoops noJn _)
    rw [e]
    exact ⟨LoopRun.loop (by kernel_rfl) (i := 4) (m := n) (step := verdererref12_Same_l4 n) (by kernel_rfl) (fun a k1 k2 => by kernel_rfl) (fun _ _ => rfl), ⟨LoopRun.loop (by kernel_rfl) (i := 9) (m := n) (step := verdererref12_Same_l9 n) (by kernel_rfl) (fun a k1 k2 => by kernel_rfl) (fun _ _ => rfl), trivial⟩⟩) 2 verdererref12_Same_d (by kernel_rfl) (fun x k => by kernel_rfl)
end
end Go.Proofs.YtnnbinmomendnaaGreatDoor.E
set_option linter.unusedVariables false
set_option maxRecDepth 100000
namespace Go.Proofs.YtnnbinmomendnaaGreatDoor.E
open Go.Proofs
noncomputable section
variable {R : Type}
/-! slices.Equal[[]string,string]: function 26 -/
def slices_Equal_26_ds : Nat → Desc
  | 4 => ⟨[(0, .d (.sl .str)), (1, .d (.sl .str)), (12, .d (.int .i64)), (13, .d (.int .i64))], []⟩
  | _ => ⟨[], []⟩
def slices_Equal_26_dx : Nat → List (X × Desc)
  | 4 => [(.r, ⟨[(4, .d .bool)], []⟩), (.e 0, ⟨[], []⟩)]
  | _ => []
def slices_Equal_26_s4 (n : Nat) (x0 : (List ByteArray)) (x1 : (List ByteArray)) (x2 : Int) (x3 : Int) (k1 : (List ByteArray) → (List ByteArray) → Int → Int → Option R) (qr : Bool → Option R) (qe0 : Option R) : Option R :=
  if (decide (x3 < x2)) = true then (if (0 : Int) ≤ x3 ∧ x3 < (x0.length : Int) then (if (0 : Int) ≤ x3 ∧ x3 < (x1.length : Int) then (if (!((x0.getD (Int.toNat x3) (Ty.z .str)).toList == (x1.getD (Int.toNat x3) (Ty.z .str)).toList)) = true then (qr false) else (k1 x0 x1 x2 (IntKind.i64.wrap (x3 + 1)))) else none) else none) else qe0
def slices_Equal_26_l4 (n : Nat) (a : (slices_Equal_26_ds 4).D) (k1 : (slices_Equal_26_ds 4).D → Option R) (k2 : exK R (slices_Equal_26_dx 4)) : Option R :=
  slices_Equal_26_s4 n a.1 a.2.1 a.2.2.1 a.2.2.2.1 (fun x0 x1 x2 x3 => k1 (x0, x1, x2, x3, ())) (fun x0 => k2.1 (x0, ())) (k2.2.1 (()))
@[reducible] def slices_Equal_26_d : Desc := ⟨[(0, .d (.sl .str)), (1, .d (.sl .str))], []⟩
def slices_Equal_26_Fi (n : Nat) (a0 : (List ByteArray)) (a1 : (List ByteArray)) (k0 : Bool → Option R) : Option R :=
  if ((a0.length : Int) != (a1.length : Int)) = true then (k0 false) else (runC (slices_Equal_26_l4 n) n (a0, a1, (a0.length : Int), 0, ()) (fun b1 => k0 b1.1, fun b1 => k0 true, ()))
def slices_Equal_26_F {R : Type} := lazyN (@slices_Equal_26_Fi R)
theorem slices_Equal_26_e : @slices_Equal_26_F R = @slices_Equal_26_Fi R := lazyN_eq _
def slices_Equal_26_g (n : Nat) : Gx R := typed 2 slices_Equal_26_d fun x k => slices_Equal_26_F n x.1 x.2.1 (fun y0 => k (.a (.c (.b y0))) [])
def slices_Equal_26_cs (R : Type) (n : Nat) : List (Nat × Gx R) := []
def slices_Equal_26_lp (n : Nat) : (i : Nat) → (slices_Equal_26_ds i).D → exK R (slices_Equal_26_dx i) → Option R
  | 4, a, k => runC (slices_Equal_26_l4 n) n a k
  | _, _, _ => none
def slices_Equal_26_cx (R : Type) (n : Nat) : Cx R := ⟨Tryz.prog, Gof (slices_Equal_26_cs R n), slices_Equal_26_ds, slices_Equal_26_dx, slices_Equal_26_lp n, drawP Tryz.prog (Gof (slices_Equal_26_cs R n)), false, noJn, noFz⟩
theorem slices_Equal_26_ok [Esc R] (n : Nat) : Good Tryz.prog 26 (slices_Equal_26_g (R := R) n) := by
  unfold slices_Equal_26_g
  rw [slices_Equal_26_e]
  exact Good.fn (f := 26) (cx := slices_Equal_26_cx R n) (by kernel_rfl) (AllGood.nil) rfl Tryz.func26 (by kernel_rfl) rfl (by
    have e : fnLoops noJn Tryz.f26 = [((fnLoops noJn Tryz.f26)[0]?).getD (false, .skip)] := by kernel_rfl
    show LoopRuns _ _ (fnLoops noJn _)
    rw [e]
    exact ⟨LoopRun.loop (by kernel_rfl) (i := 4) (m := n) (step := slices_Equal_26_l4 n) (by kernel_rfl) (fun a k1 k2 => by kernel_rfl) (fun _ _ => rfl), trivial⟩) 2 slices_Equal_26_d (by kernel_rfl) (fun x k => by kernel_rfl)
end
end Go.Proofs.YtnnbinmomendnaaGreatDoor.E
set_option linter.unusedVariables false
set_option maxRecDepth 100000
namespace Go.Proofs.YtnnbinmomendnaaGreatDoor.E
open Go.Proofs
noncomputable section
variable {R : Type}
/-! slices.Equal[[]verderer/api.Term,verderer/api.Term]: function 50 -/
def slices_Equal_50_ds : Nat → Desc
  | 4 => ⟨[(0, .d (.sl ty48)), (1, .d (.sl ty48)), (12, .d (.int .i64)), (13, .d (.int .i64))], []⟩
  | _ => ⟨[], []⟩
def slices_Equal_50_dx : Nat → List (X × Desc)
  | 4 => [(.r, ⟨[(4, .d .bool)], []⟩), (.e 0, ⟨[], []⟩)]
  | _ => []
def slices_Equal_50_s4 (n : Nat) (x0 : (List ty48.D)) (x1 : (List ty48.D)) (x2 : Int) (x3 : Int) (k1 : (List ty48.D) → (List ty48.D) → Int → Int → Option R) (qr : Bool → Option R) (qe0 : Option R) : Option R :=
  if (decide (x3 < x2)) = true then (if (0 : Int) ≤ x3 ∧ x3 < (x0.length : Int) then (if (0 : Int) ≤ x3 ∧ x3 < (x1.length : Int) then (if (!((((x0.getD (Int.toNat x3) (Ty.z ty48)).1).toList == ((x1.getD (Int.toNat x3) (Ty.z ty48)).1).toList) && (((x0.getD (Int.toNat x3) (Ty.z ty48)).2.1 == (x1.getD (Int.toNat x3) (Ty.z ty48)).2.1) && (((((x0.getD (Int.toNat x3) (Ty.z ty48)).2.2.1).1 == ((x1.getD (Int.toNat x3) (Ty.z ty48)).2.2.1).1) && ((((x0.getD (Int.toNat x3) (Ty.z ty48)).2.2.1).2.1 == ((x1.getD (Int.toNat x3) (Ty.z ty48)).2.2.1).2.1) && ((((x0.getD (Int.toNat x3) (Ty.z ty48)).2.2.1).2.2.1 == ((x1.getD (Int.toNat x3) (Ty.z ty48)).2.2.1).2.2.1) && (((((x0.getD (Int.toNat x3) (Ty.z ty48)).2.2.1).2.2.2.1).toList == (((x1.getD (Int.toNat x3) (Ty.z ty48)).2.2.1).2.2.2.1).toList) && true)))) && true)))) = true then (qr false) else (k1 x0 x1 x2 (IntKind.i64.wrap (x3 + 1)))) else none) else none) else qe0
def slices_Equal_50_l4 (n : Nat) (a : (slices_Equal_50_ds 4).D) (k1 : (slices_Equal_50_ds 4).D → Option R) (k2 : exK R (slices_Equal_50_dx 4)) : Option R :=
  slices_Equal_50_s4 n a.1 a.2.1 a.2.2.1 a.2.2.2.1 (fun x0 x1 x2 x3 => k1 (x0, x1, x2, x3, ())) (fun x0 => k2.1 (x0, ())) (k2.2.1 (()))
@[reducible] def slices_Equal_50_d : Desc := ⟨[(0, .d (.sl ty48)), (1, .d (.sl ty48))], []⟩
def slices_Equal_50_Fi (n : Nat) (a0 : (List ty48.D)) (a1 : (List ty48.D)) (k0 : Bool → Option R) : Option R :=
  if ((a0.length : Int) != (a1.length : Int)) = true then (k0 false) else (runC (slices_Equal_50_l4 n) n (a0, a1, (a0.length : Int), 0, ()) (fun b1 => k0 b1.1, fun b1 => k0 true, ()))
def slices_Equal_50_F {R : Type} := lazyN (@slices_Equal_50_Fi R)
theorem slices_Equal_50_e : @slices_Equal_50_F R = @slices_Equal_50_Fi R := lazyN_eq _
def slices_Equal_50_g (n : Nat) : Gx R := typed 2 slices_Equal_50_d fun x k => slices_Equal_50_F n x.1 x.2.1 (fun y0 => k (.a (.c (.b y0))) [])
def slices_Equal_50_cs (R : Type) (n : Nat) : List (Nat × Gx R) := []
def slices_Equal_50_lp (n : Nat) : (i : Nat) → (slices_Equal_50_ds i).D → exK R (slices_Equal_50_dx i) → Option R
  | 4, a, k => runC (slices_Equal_50_l4 n) n a k
  | _, _, _ => none
def slices_Equal_50_cx (R : Type) (n : Nat) : Cx R := ⟨Tryz.prog, Gof (slices_Equal_50_cs R n), slices_Equal_50_ds, slices_Equal_50_dx, slices_Equal_50_lp n, drawP Tryz.prog (Gof (slices_Equal_50_cs R n)), false, noJn, noFz⟩
theorem slices_Equal_50_ok [Esc R] (n : Nat) : Good Tryz.prog 50 (slices_Equal_50_g (R := R) n) := by
  unfold slices_Equal_50_g
  rw [slices_Equal_50_e]
  exact Good.fn (f := 50) (cx := slices_Equal_50_cx R n) (by kernel_rfl) (AllGood.nil) rfl Tryz.func50 (by kernel_rfl) rfl (by
    have e : fnLoops noJn Tryz.f50 = [((fnLoops noJn Tryz.f50)[0]?).getD (false, .skip)] := by kernel_rfl
    show LoopRuns _ _ (fnLoops noJn _)
    rw [e]
    exact ⟨LoopRun.loop (by kernel_rfl) (i := 4) (m := n) (step := slices_Equal_50_l4 n) (by kernel_rfl) (fun a k1 k2 => by kernel_rfl) (fun _ _ => rfl), trivial⟩) 2 slices_Equal_50_d (by kernel_rfl) (fun x k => by kernel_rfl)
end
end Go.Proofs.YtnnbinmomendnaaGreatDoor.E
set_option linter.unusedVariables false
set_option maxRecDepth 100000
namespace Go.Proofs.YtnnbinmomendnaaGreatDoor.E
open Go.Proofs
noncomputable section
variable {R : Type}
/-! verderer/parse.literals: function 28 -/
@[reducible] def parse_literals_d : Desc := ⟨[(0, .d ty51), (1, .d ty51)], []⟩
def parse_literals_Fi (n : Nat) (a0 : ty51.D) (a1 : ty51.D) (k0 : Bool → Option R) : Option R :=
  if (a0.1 == a1.1) = true then (if (a0.2.1.toList == a1.2.1.toList) = true then (if (a0.2.2.2.1 == a1.2.2.2.1) = true then (slices_Equal_50_F n a0.2.2.1 a1.2.2.1 (fun y1 => k0 y1)) else (k0 false)) else (k0 false)) else (k0 false)
def parse_literals_F {R : Type} := lazyN (@parse_literals_Fi R)
theorem parse_literals_e : @parse_literals_F R = @parse_literals_Fi R := lazyN_eq _
def parse_literals_g (n : Nat) : Gx R := typed 2 parse_literals_d fun x k => parse_literals_F n x.1 x.2.1 (fun y0 => k (.a (.c (.b y0))) [])
def parse_literals_cs (R : Type) (n : Nat) : List (Nat × Gx R) := [(50, slices_Equal_50_g n)]
def parse_literals_cx (R : Type) (n : Nat) : Cx R := ⟨Tryz.prog, Gof (parse_literals_cs R n), noDs, noDx, noLp, drawP Tryz.prog (Gof (parse_literals_cs R n)), false, noJn, noFz⟩
theorem parse_literals_ok [Esc R] (n : Nat) : Good Tryz.prog 28 (parse_literals_g (R := R) n) := by
  unfold parse_literals_g
  rw [parse_literals_e]
  exact Good.fn (f := 28) (cx := parse_literals_cx R n) (by kernel_rfl) (AllGood.cons (slices_Equal_50_ok n) (AllGood.nil)) rfl Tryz.func28 (by kernel_rfl) rfl trivial 2 parse_literals_d (by kernel_rfl) (fun x k => by kernel_rfl)
end
end Go.Proofs.YtnnbinmomendnaaGreatDoor.E
set_option linter.unusedVariables false
set_option maxRecDepth 100000
namespace Go.Proofs.YtnnbinmomendnaaGreatDoor.E
open Go.Proofs
noncomputable section
variable {R : Type}
/-! slices.EqualFunc[[]verderer/api.Literal,[]verderer/api.Literal,verderer/api.Literal,verderer/api.Literal]: function 27 -/
def slices_EqualFunc_27_ds : Nat → Desc
  | 4 => ⟨[(1, .d (.sl ty51)), (2, .fn 28 []), (15, .d (.sl ty51)), (16, .d (.int .i64)), (17, .d (.int .i64))], []⟩
  | _ => ⟨[], []⟩
def slices_EqualFunc_27_dx : Nat → List (X × Desc)
  | 4 => [(.r, ⟨[(6, .d .bool)], []⟩), (.e 0, ⟨[], []⟩)]
  | _ => []
def slices_EqualFunc_27_s4 (n : Nat) (x0 : (List ty51.D)) (x1 : (List ty51.D)) (x2 : Int) (x3 : Int) (k1 : (List ty51.D) → (List ty51.D) → Int → Int → Option R) (qr : Bool → Option R) (qe0 : Option R) : Option R :=
  if (decide (x3 < x2)) = true then (if (0 : Int) ≤ x3 ∧ x3 < (x1.length : Int) then (if (0 : Int) ≤ x3 ∧ x3 < (x0.length : Int) then (parse_literals_F n (x1.getD (Int.toNat x3) (Ty.z ty51)) (x0.getD (Int.toNat x3) (Ty.z ty51)) (fun y1 => if (!y1) = true then (qr false) else (k1 x0 x1 x2 (IntKind.i64.wrap (x3 + 1))))) else none) else none) else qe0
def slices_EqualFunc_27_l4 (n : Nat) (a : (slices_EqualFunc_27_ds 4).D) (k1 : (slices_EqualFunc_27_ds 4).D → Option R) (k2 : exK R (slices_EqualFunc_27_dx 4)) : Option R :=
  slices_EqualFunc_27_s4 n a.1 a.2.1 a.2.2.1 a.2.2.2.1 (fun x0 x1 x2 x3 => k1 (x0, x1, x2, x3, ())) (fun x0 => k2.1 (x0, ())) (k2.2.1 (()))
@[reducible] def slices_EqualFunc_27_d : Desc := ⟨[(0, .d (.sl ty51)), (1, .d (.sl ty51)), (2, .fn 28 [])], []⟩
def slices_EqualFunc_27_Fi (n : Nat) (a0 : (List ty51.D)) (a1 : (List ty51.D)) (k0 : Bool → Option R) : Option R :=
  if ((a0.length : Int) != (a1.length : Int)) = true then (k0 false) else (runC (slices_EqualFunc_27_l4 n) n (a1, a0, (a0.length : Int), 0, ()) (fun b2 => k0 b2.1, fun b2 => k0 true, ()))
def slices_EqualFunc_27_F {R : Type} := lazyN (@slices_EqualFunc_27_Fi R)
theorem slices_EqualFunc_27_e : @slices_EqualFunc_27_F R = @slices_EqualFunc_27_Fi R := lazyN_eq _
def slices_EqualFunc_27_g (n : Nat) : Gx R := typed 3 slices_EqualFunc_27_d fun x k => slices_EqualFunc_27_F n x.1 x.2.1 (fun y0 => k (.a (.c (.b y0))) [])
def slices_EqualFunc_27_cs (R : Type) (n : Nat) : List (Nat × Gx R) := [(28, parse_literals_g n)]
def slices_EqualFunc_27_lp (n : Nat) : (i : Nat) → (slices_EqualFunc_27_ds i).D → exK R (slices_EqualFunc_27_dx i) → Option R
  | 4, a, k => runC (slices_EqualFunc_27_l4 n) n a k
  | _, _, _ => none
def slices_EqualFunc_27_cx (R : Type) (n : Nat) : Cx R := ⟨Tryz.prog, Gof (slices_EqualFunc_27_cs R n), slices_EqualFunc_27_ds, slices_EqualFunc_27_dx, slices_EqualFunc_27_lp n, drawP Tryz.prog (Gof (slices_EqualFunc_27_cs R n)), false, noJn, noFz⟩
theorem slices_EqualFunc_27_ok [Esc R] (n : Nat) : Good Tryz.prog 27 (slices_EqualFunc_27_g (R := R) n) := by
  unfold slices_EqualFunc_27_g
  rw [slices_EqualFunc_27_e]
  exact Good.fn (f := 27) (cx := slices_EqualFunc_27_cx R n) (by kernel_rfl) (AllGood.cons (parse_literals_ok n) (AllGood.nil)) rfl Tryz.func27 (by kernel_rfl) rfl (by
    have e : fnLoops noJn Tryz.f27 = [((fnLoops noJn Tryz.f27)[0]?).getD (false, .skip)] := by kernel_rfl
    show LoopRuns _ _ (fnLoops noJn _)
    rw [e]
    exact ⟨LoopRun.loop (by kernel_rfl) (i := 4) (m := n) (step := slices_EqualFunc_27_l4 n) (by kernel_rfl) (fun a k1 k2 => by kernel_rfl) (fun _ _ => rfl), trivial⟩) 3 slices_EqualFunc_27_d (by kernel_rfl) (fun x k => by kernel_rfl)
end
end Go.Proofs.YtnnbinmomendnaaGreatDoor.E
set_option linter.unusedVariables false
set_option maxRecDepth 100000
namespace Go.Proofs.YtnnbinmomendnaaGreatDoor.E
open Go.Proofs
noncomputable section
variable {R : Type}
/-! verderer/parse.Same: function 10 -/
@[reducible] def parse_Same_d : Desc := ⟨[(0, .d ty25), (1, .d ty25)], []⟩
def parse_Same_Fi (n : Nat) (a0 : ty25.D) (a1 : ty25.D) (k0 : Bool → Option R) : Option R :=
  if (a0.1 == a1.1) = true then (if (a0.2.1.toList == a1.2.1.toList) = true then (if (a0.2.2.2.1 == a1.2.2.2.1) = true then (if (a0.2.2.2.2.1.toList == a1.2.2.2.2.1.toList) = true then (if (a0.2.2.2.2.2.1 == a1.2.2.2.2.2.1) = true then (slices_Equal_26_F n a0.2.2.1 a1.2.2.1 (fun y1 => if y1 = true then (slices_EqualFunc_27_F n a0.2.2.2.2.2.2.1 a1.2.2.2.2.2.2.1 (fun y2 => k0 y2)) else (k0 false))) else (k0 false)) else (k0 false)) else (k0 false)) else (k0 false)) else (k0 false)
def parse_Same_F {R : Type} := lazyN (@parse_Same_Fi R)
theorem parse_Same_e : @parse_Same_F R = @parse_Same_Fi R := lazyN_eq _
def parse_Same_g (n : Nat) : Gx R := typed 2 parse_Same_d fun x k => parse_Same_F n x.1 x.2.1 (fun y0 => k (.a (.c (.b y0))) [])
def parse_Same_cs (R : Type) (n : Nat) : List (Nat × Gx R) := [(26, slices_Equal_26_g n), (27, slices_EqualFunc_27_g n)]
def parse_Same_cx (R : Type) (n : Nat) : Cx R := ⟨Tryz.prog, Gof (parse_Same_cs R n), noDs, noDx, noLp, drawP Tryz.prog (Gof (parse_Same_cs R n)), false, noJn, noFz⟩
theorem parse_Same_ok [Esc R] (n : Nat) : Good Tryz.prog 10 (parse_Same_g (R := R) n) := by
  unfold parse_Same_g
  rw [parse_Same_e]
  exact Good.fn (f := 10) (cx := parse_Same_cx R n) (by kernel_rfl) (AllGood.cons (slices_Equal_26_ok n) (AllGood.cons (slices_EqualFunc_27_ok n) (AllGood.nil))) rfl Tryz.func10 (by kernel_rfl) rfl trivial 2 parse_Same_d (by kernel_rfl) (fun x k => by kernel_rfl)
end
end Go.Proofs.YtnnbinmomendnaaGreatDoor.E
set_option linter.unusedVariables false
set_option maxRecDepth 100000
namespace Go.Proofs.YtnnbinmomendnaaGreatDoor.E
open Go.Proofs
noncomputable section
variable {R : Type}
/-! verderer/verdererlaw12.known: function 7 -/
@[reducible] def verdererlaw12_known_d : Desc := ⟨[], []⟩
def verdererlaw12_known_Fi (n : Nat) (k0 : Bool → Option R) : Option R :=
  parse_Rule_F n (⟨#[100, 101, 110, 121, 32, 98, 105, 103, 40, 115, 44, 32, 110, 41, 32, 105, 102, 32, 112, 111, 100, 40, 115, 44, 32, 110, 44, 32, 95, 44, 32, 99, 44, 32, 95, 41, 44, 32, 99, 32, 62, 32, 49, 48, 48]⟩ : ByteArray) (fun y1 y2 y3 => parse_Rule_F n (⟨#[100, 101, 110, 121, 32, 98, 105, 103, 40, 115, 41, 32, 105, 102, 32, 112, 111, 100, 40, 115, 41, 32, 99]⟩ : ByteArray) (fun y4 y5 y6 => if (y3 == 0) = true then (if (y1.1 == 1) = true then (if (y1.2.1.toList == (⟨#[98, 105, 103]⟩ : ByteArray).toList) = true then (if ((y1.2.2.1.length : Int) == 2) = true then (if ((y1.2.2.2.2.2.2.1.length : Int) == 2) = true then (if (0 : Int) ≤ 0 ∧ 0 < (y1.2.2.2.2.2.2.1.length : Int) then (if (0 : Int) ≤ 2 ∧ 2 < (((y1.2.2.2.2.2.2.1.getD (Int.toNat 0) (Ty.z ty51)).2.2.1).length : Int) then (if (((y1.2.2.2.2.2.2.1.getD (Int.toNat 0) (Ty.z ty51)).2.2.1).getD (Int.toNat 2) (Ty.z ty48)).2.1 = true then (if (0 : Int) ≤ 1 ∧ 1 < (y1.2.2.2.2.2.2.1.length : Int) then (if ((y1.2.2.2.2.2.2.1.getD (Int.toNat 1) (Ty.z ty51)).2.2.2.1 == 5) = true then (if (0 : Int) ≤ 1 ∧ 1 < (y1.2.2.2.2.2.2.1.length : Int) then (if (0 : Int) ≤ 1 ∧ 1 < (((y1.2.2.2.2.2.2.1.getD (Int.toNat 1) (Ty.z ty51)).2.2.1).length : Int) then (if (((((y1.2.2.2.2.2.2.1.getD (Int.toNat 1) (Ty.z ty51)).2.2.1).getD (Int.toNat 1) (Ty.z ty48)).2.2.1).2.2.1 == 100) = true then (if (y5 == 22) = true then (k0 (y6 == 7)) else (k0 false)) else (k0 false)) else none) else none) else (k0 false)) else none) else (k0 false)) else none) else none) else (k0 false)) else (k0 false)) else (k0 false)) else (k0 false)) else (k0 false)))
def verdererlaw12_known_F {R : Type} := lazyN (@verdererlaw12_known_Fi R)
theorem verdererlaw12_known_e : @verdererlaw12_known_F R = @verdererlaw12_known_Fi R := lazyN_eq _
def verdererlaw12_known_g (n : Nat) : Gx R := typed 0 verdererlaw12_known_d fun x k => verdererlaw12_known_F n (fun y0 => k (.a (.c (.b y0))) [])
def verdererlaw12_known_cs (R : Type) (n : Nat) : List (Nat × Gx R) := [(6, parse_Rule_g n)]
def verdererlaw12_known_cx (R : Type) (n : Nat) : Cx R := ⟨Tryz.prog, Gof (verdererlaw12_known_cs R n), noDs, noDx, noLp, drawP Tryz.prog (Gof (verdererlaw12_known_cs R n)), false, noJn, noFz⟩
theorem verdererlaw12_known_ok [Esc R] (n : Nat) : Good Tryz.prog 7 (verdererlaw12_known_g (R := R) n) := by
  unfold verdererlaw12_known_g
  rw [verdererlaw12_known_e]
  exact Good.fn (f := 7) (cx := verdererlaw12_known_cx R n) (by kernel_rfl) (AllGood.cons (parse_Rule_ok n) (AllGood.nil)) rfl Tryz.func7 (by kernel_rfl) rfl trivial 0 verdererlaw12_known_d (by kernel_rfl) (fun x k => by kernel_rfl)
end
end Go.Proofs.YtnnbinmomendnaaGreatDoor.E
set_option linter.unusedVariables false
set_option maxRecDepth 100000
namespace Go.Proofs.YtnnbinmomendnaaGreatDoor.E
open Go.Proofs
noncomputable section
variable {R : Type}
/-! verderer/verdererlaw12.ParseRules: function 3 -/
@[reducible] def verdererlaw12_ParseRules_d : Desc := ⟨[(0, .d .str)], []⟩
end
end Go.Proofs.YtnnbinmomendnaaGreatDoor.E
set_option linter.unusedVariables false
set_option maxRecDepth 100000
namespace Go.Proofs.YtnnbinmomendnaaGreatDoor.E
open Go.Proofs
noncomputable section
variable {R : Type}
/-! verderer/verdererlaw12.ParseSame: function 4 -/
@[reducible] def verdererlaw12_ParseSame_d : Desc := ⟨[(0, .d .str), (1, .d .str)], []⟩
def verdererlaw12_ParseSame_Fi (n : Nat) (a0 : ByteArray) (a1 : ByteArray) (k0 : Bool → Option R) : Option R :=
  verdererref12_Rule_F n a0 (fun y1 y2 y3 y4 y5 y6 y7 y8 y9 => verdererref12_Rule_F n a1 (fun y10 y11 y12 y13 y14 y15 y16 y17 y18 => parse_Same_F n (y1, y2, y8, y3, y4, y5, y9, ()) (y10, y11, y17, y12, y13, y14, y18, ()) (fun y19 => verdererref12_Same_F n (y1, y2, y8, y3, y4, y5, y9, ()) (y10, y11, y17, y12, y13, y14, y18, ()) (fun y20 => if (y19 == y20) = true then (parse_Same_F n (y1, y2, y8, y3, y4, y5, y9, ()) (y1, y2, y8, y3, y4, y5, y9, ()) (fun y21 => if y21 = true then (verdererlaw12_known_F n (fun y22 => k0 y22)) else (k0 false))) else (k0 false)))))
def verdererlaw12_ParseSame_F {R : Type} := lazyN (@verdererlaw12_ParseSame_Fi R)
theorem verdererlaw12_ParseSame_e : @verdererlaw12_ParseSame_F R = @verdererlaw12_ParseSame_Fi R := lazyN_eq _
def verdererlaw12_ParseSame_g (n : Nat) : Gx R := typed 2 verdererlaw12_ParseSame_d fun x k => verdererlaw12_ParseSame_F n x.1 x.2.1 (fun y0 => k (.a (.c (.b y0))) [])
def verdererlaw12_ParseSame_cs (R : Type) (n : Nat) : List (Nat × Gx R) := [(7, verdererlaw12_known_g n), (8, verdererref12_Rule_g n), (9, verdererref12_Same_g n), (10, parse_Same_g n)]
def verdererlaw12_ParseSame_cx (R : Type) (n : Nat) : Cx R := ⟨Tryz.prog, Gof (verdererlaw12_ParseSame_cs R n), noDs, noDx, noLp, drawP Tryz.prog (Gof (verdererlaw12_ParseSame_cs R n)), false, noJn, noFz⟩
theorem verdererlaw12_ParseSame_ok [Esc R] (n : Nat) : Good Tryz.prog 4 (verdererlaw12_ParseSame_g (R := R) n) := by
  unfold verdererlaw12_ParseSame_g
  rw [verdererlaw12_ParseSame_e]
  exact Good.fn (f := 4) (cx := verdererlaw12_ParseSame_cx R n) (by kernel_rfl) (AllGood.cons (verdererlaw12_known_ok n) (AllGood.cons (verdererref12_Rule_ok n) (AllGood.cons (verdererref12_Same_ok n) (AllGood.cons (parse_Same_ok n) (AllGood.nil))))) rfl Tryz.func4 (by kernel_rfl) rfl trivial 2 verdererlaw12_ParseSame_d (by kernel_rfl) (fun x k => by kernel_rfl)
end
end Go.Proofs.YtnnbinmomendnaaGreatDoor.E
set_option linter.unusedVariables false
set_option maxRecDepth 100000
namespace Go.Proofs.YtnnbinmomendnaaGreatDoor.E
open Go.Proofs
noncomputable section
variable {R : Type}
/-! verderer/print.word: function 30 -/
@[reducible] def print_word_d : Desc := ⟨[(0, .d (.int .i64)), (1, .d (.sl .str))], []⟩
end
end Go.Proofs.YtnnbinmomendnaaGreatDoor.E
set_option linter.unusedVariables false
set_option maxRecDepth 100000
namespace Go.Proofs.YtnnbinmomendnaaGreatDoor.E
open Go.Proofs
noncomputable section
variable {R : Type}
/-! strings.Join: function 54 -/
@[reducible] def strings_Join_d : Desc := ⟨[(0, .d (.sl .str)), (1, .d .str)], []⟩
end
end Go.Proofs.YtnnbinmomendnaaGreatDoor.E
set_option linter.unusedVariables false
set_option maxRecDepth 100000
namespace Go.Proofs.YtnnbinmomendnaaGreatDoor.E
open Go.Proofs
noncomputable section
variable {R : Type}
/-! verderer/print.list: function 34 -/
@[reducible] def print_list_d : Desc := ⟨[(0, .d (.sl .str))], []⟩
end
end Go.Proofs.YtnnbinmomendnaaGreatDoor.E
set_option linter.unusedVariables false
set_option maxRecDepth 100000
namespace Go.Proofs.YtnnbinmomendnaaGreatDoor.E
open Go.Proofs
noncomputable section
variable {R : Type}
/-! verderer/print.head: function 31 -/
@[reducible] def print_head_d : Desc := ⟨[(0, .d ty25)], []⟩
end
end Go.Proofs.YtnnbinmomendnaaGreatDoor.E
set_option linter.unusedVariables false
set_option maxRecDepth 100000
namespace Go.Proofs.YtnnbinmomendnaaGreatDoor.E
open Go.Proofs
noncomputable section
variable {R : Type}
/-! verderer/print.Term: function 29 -/
@[reducible] def print_Term_d : Desc := ⟨[(0, .d ty48)], []⟩
end
end Go.Proofs.YtnnbinmomendnaaGreatDoor.E
set_option linter.unusedVariables false
set_option maxRecDepth 100000
namespace Go.Proofs.YtnnbinmomendnaaGreatDoor.E
open Go.Proofs
noncomputable section
variable {R : Type}
/-! verderer/print.Literal: function 33 -/
@[reducible] def print_Literal_d : Desc := ⟨[(0, .d ty51)], []⟩
end
end Go.Proofs.YtnnbinmomendnaaGreatDoor.E
set_option linter.unusedVariables false
set_option maxRecDepth 100000
namespace Go.Proofs.YtnnbinmomendnaaGreatDoor.E
open Go.Proofs
noncomputable section
variable {R : Type}
/-! verderer/print.Rule: function 12 -/
@[reducible] def print_Rule_d : Desc := ⟨[(0, .d ty25)], []⟩
end
end Go.Proofs.YtnnbinmomendnaaGreatDoor.E
set_option linter.unusedVariables false
set_option maxRecDepth 100000
namespace Go.Proofs.YtnnbinmomendnaaGreatDoor.E
open Go.Proofs
noncomputable section
variable {R : Type}
/-! verderer/verdererlaw13.known: function 11 -/
@[reducible] def verdererlaw13_known_d : Desc := ⟨[], []⟩
end
end Go.Proofs.YtnnbinmomendnaaGreatDoor.E
set_option linter.unusedVariables false
set_option maxRecDepth 100000
namespace Go.Proofs.YtnnbinmomendnaaGreatDoor.E
open Go.Proofs
noncomputable section
variable {R : Type}
/-! verderer/verdererlaw13.PrintBack: function 5 -/
@[reducible] def verdererlaw13_PrintBack_d : Desc := ⟨[(0, .d .str)], []⟩
end
end Go.Proofs.YtnnbinmomendnaaGreatDoor.E
namespace Go.Proofs.YtnnbinmomendnaaGreatDoor.E
open Go.RowKit
variable {R : Type}
set_option maxRecDepth 100000
/-- are two alike? -/
noncomputable def eqD {α : Type} (a b : α) : Bool := @decide (a = b) (Classical.propDecidable _)
theorem eqD_iff {α : Type} {a b : α} : eqD a b = true ↔ a = b := @decide_eq_true_iff _ (Classical.propDecidable _)
theorem eqD_no {α : Type} {a b : α} (h : a ≠ b) : eqD a b = false := by cases e : eqD a b with
  | false => rfl
  | true => exact absurd (eqD_iff.1 e) h
theorem eqD_refl {α : Type} (a : α) : eqD a a = true := eqD_iff.2 rfl
theorem beqE (a b : ByteArray) : (a.toList == b.toList) = eqD a b := by rw [beqB, Bool.eq_iff_iff, decide_eq_true_eq, eqD_iff]
theorem all_eq {α : Type} (z : α) {a b : List α} (h : a.length = b.length) : ((List.range a.length).all fun i => eqD (a.getD i z) (b.getD i z)) = eqD (a) (b) := by
  rw [Bool.eq_iff_iff, List.all_eq_true, eqD_iff]
  constructor
  · intro hh
    refine List.ext_getElem h fun i h1 h2 => ?_
    have := eqD_iff.1 (hh i (List.mem_range.2 h1))
    rw [List.getD_eq_getElem?_getD, List.getD_eq_getElem?_getD, List.getElem?_eq_getElem h1, List.getElem?_eq_getElem h2] at this
    exact this
  · rintro rfl i _
    exact eqD_refl _
theorem ite_not {b : Bool} {p q : Option R} : (if (!b) = true then p else q) = if b = true then q else p := by cases b <;> rfl
theorem len_ne {a b : Nat} (h : a ≠ b) : ((a : Int) != (b : Int)) = true := by rw [bne_iff_ne]; omega
theorem len_eq {a b : Nat} (h : a = b) : ((a : Int) != (b : Int)) = false := by rw [bne_eq_false_iff_eq]; omega
/-- terms that are alike -/
theorem tmEq (x y : ty48.D) : ((x.1.toList == y.1.toList) && ((x.2.1 == y.2.1) && (((x.2.2.1.1 == y.2.2.1.1) && ((x.2.2.1.2.1 == y.2.2.1.2.1) && ((x.2.2.1.2.2.1 == y.2.2.1.2.2.1) && ((x.2.2.1.2.2.2.1.toList == y.2.2.1.2.2.2.1.toList) && true)))) && true))) = eqD (x) (y) := by
  obtain ⟨a, b, ⟨c, d, e, f, ⟨⟩⟩, ⟨⟩⟩ := x
  obtain ⟨a', b', ⟨c', d', e', f', ⟨⟩⟩, ⟨⟩⟩ := y
  rw [Bool.eq_iff_iff]
  simp only [beqE, Bool.and_eq_true, eqD_iff, beq_iff_eq, Bool.and_true, Prod.mk.injEq, and_true, and_assoc]
theorem eqStr_F (n : Nat) (a b : List ByteArray) (ha : a.length ≤ 1000) (hn : 2000 < n) (k : Bool → Option R) : slices_Equal_26_F n a b k = k (eqD (a) (b)) := by
  rw [slices_Equal_26_e]
  unfold slices_Equal_26_Fi
  by_cases hl : a.length = b.length
  · rw [if_neg (by rw [len_eq hl]; decide)]
    refine (runC_all (R := R) (step := slices_Equal_26_l4 n) (fun b1 => k b1.1, fun b1 => k true, ()) (k false) (k true) (fun i => eqD (a.getD i ByteArray.empty) (b.getD i ByteArray.empty)) (fun i => (a, b, (a.length : Int), (i : Int), ())) a.length (fun i hi k1 => ?_) (fun k1 => ?_) (n := n) (by omega)).trans ?_
    · have c1 : (i : Int) < (a.length : Int) := by omega
      have c2 : (0 : Int) ≤ (i : Int) ∧ (i : Int) < (a.length : Int) := by omega
      have c3 : (0 : Int) ≤ (i : Int) ∧ (i : Int) < (b.length : Int) := by omega
      have e : ∀ l : List ByteArray, l.getD i (Ty.z .str) = l.getD i ByteArray.empty := fun _ => rfl
      simp only [slices_Equal_26_l4, slices_Equal_26_s4, c1, c2, c3, decide_true, if_true, and_self, Int.toNat_natCast, beqE, e, wrap_succ i (by omega)]
      exact ite_not
    · simp [slices_Equal_26_l4, slices_Equal_26_s4]
    · rw [all_eq ByteArray.empty hl]
      cases eqD (a) (b) <;> rfl
  · rw [if_pos (len_ne hl), eqD_no (fun e => hl (by rw [e]))]
theorem eqTm_F (n : Nat) (a b : List ty48.D) (ha : a.length ≤ 1000) (hn : 2000 < n) (k : Bool → Option R) : slices_Equal_50_F n a b k = k (eqD (a) (b)) := by
  rw [slices_Equal_50_e]
  unfold slices_Equal_50_Fi
  by_cases hl : a.length = b.length
  · rw [if_neg (by rw [len_eq hl]; decide)]
    refine (runC_all (R := R) (step := slices_Equal_50_l4 n) (fun b1 => k b1.1, fun b1 => k true, ()) (k false) (k true) (fun i => eqD (a.getD i (Ty.z ty48)) (b.getD i (Ty.z ty48))) (fun i => (a, b, (a.length : Int), (i : Int), ())) a.length (fun i hi k1 => ?_) (fun k1 => ?_) (n := n) (by omega)).trans ?_
    · have c1 : (i : Int) < (a.length : Int) := by omega
      have c2 : (0 : Int) ≤ (i : Int) ∧ (i : Int) < (a.length : Int) := by omega
      have c3 : (0 : Int) ≤ (i : Int) ∧ (i : Int) < (b.length : Int) := by omega
      simp only [slices_Equal_50_l4, slices_Equal_50_s4, c1, c2, c3, decide_true, if_true, and_self, Int.toNat_natCast, wrap_succ i (by omega)]
      exact (congrArg (fun q => if (!q) = true then k false else k1 (a, b, (a.length : Int), ((i + 1 : Nat) : Int), ())) (tmEq _ _)).trans ite_not
    · simp [slices_Equal_50_l4, slices_Equal_50_s4]
    · rw [all_eq (Ty.z ty48) hl]
      cases eqD (a) (b) <;> rfl
  · rw [if_pos (len_ne hl), eqD_no (fun e => hl (by rw [e]))]
theorem litEq (a b : ty51.D) : eqD (a) (b) = (eqD (a.1) (b.1) && (eqD (a.2.1) (b.2.1) && (eqD (a.2.2.2.1) (b.2.2.2.1) && eqD (a.2.2.1) (b.2.2.1)))) := by
  obtain ⟨a1, a2, a3, a4, ⟨⟩⟩ := a
  obtain ⟨b1, b2, b3, b4, ⟨⟩⟩ := b
  rw [Bool.eq_iff_iff]
  simp only [eqD_iff, Bool.and_eq_true, Prod.mk.injEq, and_true]
  constructor
  · rintro ⟨h1, h2, h3, h4⟩; exact ⟨h1, h2, h4, h3⟩
  · rintro ⟨h1, h2, h3, h4⟩; exact ⟨h1, h2, h4, h3⟩
theorem beq_dec {α : Type} [BEq α] [LawfulBEq α] (a b : α) : (a == b) = eqD (a) (b) := by rw [Bool.eq_iff_iff, beq_iff_eq, eqD_iff]
theorem bne_dec {α : Type} [BEq α] [LawfulBEq α] (a b : α) : (a != b) = !eqD (a) (b) := by rw [bne, beq_dec]
/-- the program's literals that are alike -/
theorem litP2_F (n : Nat) (a b : ty51.D) (ha : a.2.2.1.length ≤ 1000) (hn : 2000 < n) (k : Bool → Option R) : parse_literals_F n a b k = k (eqD (a) (b)) := by
  rw [parse_literals_e]
  unfold parse_literals_Fi
  rw [litEq, eqTm_F n _ _ ha hn]
  simp only [beqE]
  simp only [beq_dec]
  cases eqD (a.1) (b.1) <;> cases eqD (a.2.1) (b.2.1) <;> cases eqD (a.2.2.2.1) (b.2.2.2.1) <;> rfl
theorem eqLit_F (n : Nat) (a b : List ty51.D) (ha : a.length ≤ 1000) (ha2 : ∀ x ∈ a, x.2.2.1.length ≤ 1000) (hn : 2000 < n) (k : Bool → Option R) : slices_EqualFunc_27_F n a b k = k (eqD (a) (b)) := by
  rw [slices_EqualFunc_27_e]
  unfold slices_EqualFunc_27_Fi
  by_cases hl : a.length = b.length
  · rw [if_neg (by rw [len_eq hl]; decide)]
    refine (runC_all (R := R) (step := slices_EqualFunc_27_l4 n) (fun b2 => k b2.1, fun b2 => k true, ()) (k false) (k true) (fun i => eqD (a.getD i (Ty.z ty51)) (b.getD i (Ty.z ty51))) (fun i => (b, a, (a.length : Int), (i : Int), ())) a.length (fun i hi k1 => ?_) (fun k1 => ?_) (n := n) (by omega)).trans ?_
    · have c1 : (i : Int) < (a.length : Int) := by omega
      have c2 : (0 : Int) ≤ (i : Int) ∧ (i : Int) < (a.length : Int) := by omega
      have c3 : (0 : Int) ≤ (i : Int) ∧ (i : Int) < (b.length : Int) := by omega
      have hm : a.getD i (Ty.z ty51) ∈ a := by rw [List.getD_eq_getElem?_getD, List.getElem?_eq_getElem hi]; exact List.getElem_mem hi
      simp only [slices_EqualFunc_27_l4, slices_EqualFunc_27_s4, c1, c2, c3, decide_true, if_true, and_self, Int.toNat_natCast, wrap_succ i (by omega)]
      rw [litP2_F n _ _ (ha2 _ hm) hn]
      exact ite_not
    · simp [slices_EqualFunc_27_l4, slices_EqualFunc_27_s4]
    · rw [all_eq (Ty.z ty51) hl]
      cases eqD (a) (b) <;> rfl
  · rw [if_pos (len_ne hl), eqD_no (fun e => hl (by rw [e]))]
/-- a rule that is not large -/
structure Small (x : ty25.D) : Prop where
  hd : x.2.2.1.length ≤ 1000
  bd : x.2.2.2.2.2.2.1.length ≤ 1000
  ar : ∀ y ∈ x.2.2.2.2.2.2.1, y.2.2.1.length ≤ 1000
theorem ruleEq (a b : ty25.D) : eqD (a) (b) = (eqD (a.1) (b.1) && (eqD (a.2.1) (b.2.1) && (eqD (a.2.2.2.1) (b.2.2.2.1) && (eqD (a.2.2.2.2.1) (b.2.2.2.2.1) && (eqD (a.2.2.2.2.2.1) (b.2.2.2.2.2.1) && (eqD (a.2.2.1) (b.2.2.1) && eqD (a.2.2.2.2.2.2.1) (b.2.2.2.2.2.2.1))))))) := by
  obtain ⟨a1, a2, a3, a4, a5, a6, a7, ⟨⟩⟩ := a
  obtain ⟨b1, b2, b3, b4, b5, b6, b7, ⟨⟩⟩ := b
  rw [Bool.eq_iff_iff]
  simp only [eqD_iff, Bool.and_eq_true, Prod.mk.injEq, and_true]
  constructor
  · rintro ⟨h1, h2, h3, h4, h5, h6, h7⟩; exact ⟨h1, h2, h4, h5, h6, h3, h7⟩
  · rintro ⟨h1, h2, h4, h5, h6, h3, h7⟩; exact ⟨h1, h2, h3, h4, h5, h6, h7⟩
theorem sameP_F (n : Nat) (a b : ty25.D) (ha : Small a) (hn : 2000 < n) (k : Bool → Option R) : parse_Same_F n a b k = k (eqD (a) (b)) := by
  rw [parse_Same_e]
  unfold parse_Same_Fi
  rw [ruleEq, eqStr_F n _ _ ha.hd hn]
  simp only [eqLit_F n _ _ ha.bd ha.ar hn, beqE]
  simp only [beq_dec]
  cases eqD (a.1) (b.1) <;> cases eqD (a.2.1) (b.2.1) <;> cases eqD (a.2.2.2.1) (b.2.2.2.1) <;> cases eqD (a.2.2.2.2.1) (b.2.2.2.2.1) <;> cases eqD (a.2.2.2.2.2.1) (b.2.2.2.2.2.1) <;> cases eqD (a.2.2.1) (b.2.2.1) <;> rfl
end Go.Proofs.YtnnbinmomendnaaGreatDoor.E
namespace Go.Proofs.YtnnbinmomendnaaGreatDoor.E
open Go.RowKit
variable {R : Type}
set_option maxRecDepth 100000
/-- the document's literals that are alike -/
theorem litR_F (n : Nat) (a b : ty51.D) (ha : a.2.2.1.length ≤ 1000) (hn : 2000 < n) (k : Bool → Option R) : verdererref12_literal_F n a b k = k (eqD a b) := by
  rw [verdererref12_literal_e]
  unfold verdererref12_literal_Fi
  rw [litEq]
  simp only [beqE]
  simp only [beq_dec, bne_dec]
  cases eqD a.1 b.1 with
  | false => rfl
  | true =>
  cases eqD a.2.1 b.2.1 with
  | false => rfl
  | true =>
  cases eqD a.2.2.2.1 b.2.2.2.1 with
  | false => rfl
  | true =>
  simp only [Bool.not_true, Bool.false_eq_true, if_false, Bool.true_and]
  by_cases hl : a.2.2.1.length = b.2.2.1.length
  · have e0 : eqD (a.2.2.1.length : Int) (b.2.2.1.length : Int) = true := eqD_iff.2 (by rw [hl])
    rw [e0]
    simp only [Bool.not_true, Bool.false_eq_true, if_false]
    refine (runC_all (R := R) (step := verdererref12_literal_l4 n) (fun b1 => k b1.1, fun b1 => k true, ()) (k false) (k true) (fun i => eqD (a.2.2.1.getD i (Ty.z ty48)) (b.2.2.1.getD i (Ty.z ty48))) (fun i => ((i : Int), a.1, a.2.1, a.2.2.1, a.2.2.2.1, b.1, b.2.1, b.2.2.1, b.2.2.2.1, ())) a.2.2.1.length (fun i hi k1 => ?_) (fun k1 => ?_) (n := n) (by omega)).trans ?_
    · have c1 : (i : Int) < (a.2.2.1.length : Int) := by omega
      have c2 : (0 : Int) ≤ (i : Int) ∧ (i : Int) < (a.2.2.1.length : Int) := by omega
      have c3 : (0 : Int) ≤ (i : Int) ∧ (i : Int) < (b.2.2.1.length : Int) := by omega
      simp only [verdererref12_literal_l4, verdererref12_literal_s4, c1, c2, c3, decide_true, if_true, and_self, Int.toNat_natCast, wrap_succ i (by omega)]
      exact (congrArg (fun q => if (!q) = true then k false else k1 (((i + 1 : Nat) : Int), a.1, a.2.1, a.2.2.1, a.2.2.2.1, b.1, b.2.1, b.2.2.1, b.2.2.2.1, ())) (tmEq _ _)).trans ite_not
    · simp [verdererref12_literal_l4, verdererref12_literal_s4]
    · rw [all_eq (Ty.z ty48) hl]
      cases eqD a.2.2.1 b.2.2.1 <;> rfl
  · have e0 : eqD (a.2.2.1.length : Int) (b.2.2.1.length : Int) = false := eqD_no (by omega)
    rw [e0, eqD_no (show a.2.2.1 ≠ b.2.2.1 from fun e => hl (by rw [e]))]
    rfl
theorem sameR_F (n : Nat) (a b : ty25.D) (ha : Small a) (hn : 2000 < n) (k : Bool → Option R) : verdererref12_Same_F n a b k = k (eqD a b) := by
  rw [verdererref12_Same_e]
  unfold verdererref12_Same_Fi
  rw [ruleEq]
  simp only [beqE]
  simp only [bne_dec]
  cases eqD a.1 b.1 with
  | false => rfl
  | true =>
  cases eqD a.2.1 b.2.1 with
  | false => rfl
  | true =>
  cases eqD a.2.2.2.1 b.2.2.2.1 with
  | false => rfl
  | true =>
  cases eqD a.2.2.2.2.1 b.2.2.2.2.1 with
  | false => rfl
  | true =>
  cases eqD a.2.2.2.2.2.1 b.2.2.2.2.2.1 with
  | false => rfl
  | true =>
  simp only [Bool.not_true, Bool.false_eq_true, if_false, Bool.true_and]
  by_cases hl : a.2.2.1.length = b.2.2.1.length
  rotate_left
  · have e0 : eqD (a.2.2.1.length : Int) (b.2.2.1.length : Int) = false := eqD_no (by omega)
    rw [e0, eqD_no (show a.2.2.1 ≠ b.2.2.1 from fun e => hl (by rw [e]))]
    rfl
  have e0 : eqD (a.2.2.1.length : Int) (b.2.2.1.length : Int) = true := eqD_iff.2 (by rw [hl])
  rw [e0]
  simp only [Bool.not_true, Bool.false_eq_true, if_false]
  by_cases hl2 : a.2.2.2.2.2.2.1.length = b.2.2.2.2.2.2.1.length
  rotate_left
  · have e1 : eqD (a.2.2.2.2.2.2.1.length : Int) (b.2.2.2.2.2.2.1.length : Int) = false := eqD_no (by omega)
    rw [e1, eqD_no (show a.2.2.2.2.2.2.1 ≠ b.2.2.2.2.2.2.1 from fun e => hl2 (by rw [e]))]
    cases eqD a.2.2.1 b.2.2.1 <;> rfl
  have e1 : eqD (a.2.2.2.2.2.2.1.length : Int) (b.2.2.2.2.2.2.1.length : Int) = true := eqD_iff.2 (by rw [hl2])
  rw [e1]
  simp only [Bool.not_true, Bool.false_eq_true, if_false]
  have h1 := ha.hd
  have h2 := ha.bd
  refine (runC_all (R := R) (step := verdererref12_Same_l4 n) _ (k false) (if eqD a.2.2.2.2.2.2.1 b.2.2.2.2.2.2.1 = true then k true else k false) (fun i => eqD (a.2.2.1.getD i ByteArray.empty) (b.2.2.1.getD i ByteArray.empty)) (fun i => ((i : Int), a.1, a.2.1, a.2.2.1, a.2.2.2.1, a.2.2.2.2.1, a.2.2.2.2.2.1, a.2.2.2.2.2.2.1, b.1, b.2.1, b.2.2.1, b.2.2.2.1, b.2.2.2.2.1, b.2.2.2.2.2.1, b.2.2.2.2.2.2.1, ())) a.2.2.1.length (fun i hi k1 => ?_) (fun k1 => ?_) (n := n) (by omega)).trans ?_
  · have c1 : (i : Int) < (a.2.2.1.length : Int) := by omega
    have c2 : (0 : Int) ≤ (i : Int) ∧ (i : Int) < (a.2.2.1.length : Int) := by omega
    have c3 : (0 : Int) ≤ (i : Int) ∧ (i : Int) < (b.2.2.1.length : Int) := by omega
    have e : ∀ l : List ByteArray, l.getD i (Ty.z .str) = l.getD i ByteArray.empty := fun _ => rfl
    simp only [verdererref12_Same_l4, verdererref12_Same_s4, c1, c2, c3, decide_true, if_true, and_self, Int.toNat_natCast, beqE, e, wrap_succ i (by omega)]
    exact ite_not
  · have c1 : ¬ (a.2.2.1.length : Int) < (a.2.2.1.length : Int) := by omega
    simp only [verdererref12_Same_l4, verdererref12_Same_s4]
    rw [if_neg (by simp)]
    refine (runC_all (R := R) (step := verdererref12_Same_l9 n) (fun b17 => k b17.1, fun b17 => k true, ()) (k false) (k true) (fun i => eqD (a.2.2.2.2.2.2.1.getD i (Ty.z ty51)) (b.2.2.2.2.2.2.1.getD i (Ty.z ty51))) (fun i => ((i : Int), a.1, a.2.1, a.2.2.1, a.2.2.2.1, a.2.2.2.2.1, a.2.2.2.2.2.1, a.2.2.2.2.2.2.1, b.1, b.2.1, b.2.2.1, b.2.2.2.1, b.2.2.2.2.1, b.2.2.2.2.2.1, b.2.2.2.2.2.2.1, ())) a.2.2.2.2.2.2.1.length (fun i hi k1 => ?_) (fun k1 => ?_) (n := n) (by omega)).trans ?_
    · have c1 : (i : Int) < (a.2.2.2.2.2.2.1.length : Int) := by omega
      have c2 : (0 : Int) ≤ (i : Int) ∧ (i : Int) < (a.2.2.2.2.2.2.1.length : Int) := by omega
      have c3 : (0 : Int) ≤ (i : Int) ∧ (i : Int) < (b.2.2.2.2.2.2.1.length : Int) := by omega
      have hm : a.2.2.2.2.2.2.1.getD i (Ty.z ty51) ∈ a.2.2.2.2.2.2.1 := by rw [List.getD_eq_getElem?_getD, List.getElem?_eq_getElem hi]; exact List.getElem_mem hi
      simp only [verdererref12_Same_l9, verdererref12_Same_s9, c1, c2, c3, decide_true, if_true, and_self, Int.toNat_natCast, wrap_succ i (by omega)]
      rw [litR_F n _ _ (ha.ar _ hm) hn]
      exact ite_not
    · simp [verdererref12_Same_l9, verdererref12_Same_s9]
    · rw [all_eq (Ty.z ty51) hl2]
  · rw [all_eq ByteArray.empty hl]
    cases eqD a.2.2.1 b.2.2.1 <;> cases eqD a.2.2.2.2.2.2.1 b.2.2.2.2.2.2.1 <;> rfl
/-- a rule that a text is, as it is held -/
theorem small_rule (s : ByteArray) : Small (ruleT (rRule s)) := by
  obtain ⟨h1, h2, h3⟩ := rRule_rng s
  exact ⟨Nat.le_trans h1 (by decide), Nat.le_trans h2 (by decide), fun y hy => Nat.le_trans (h3 y hy) (by decide)⟩
theorem ruleP2_F (n : Nat) (s : ByteArray) (k : ty25.D → Int → Int → Option R) : parse_Rule_F n s k = k (ruleT (rRule s)) (rRule s).2.2.2.2.2.1 (rRule s).2.2.2.2.2.2.1 := by
  rw [parse_Rule_e]
  unfold parse_Rule_Fi
  rw [if_pos trivial]
  rfl
theorem ruleP2_ref (n : Nat) (s : ByteArray) (hn : 2000 < n) (k : ty25.D → Int → Int → Option R) : parse_Rule_F n s k = verdererref12_Rule_F n s (fun a b c d e f g h i => k (a, b, h, c, d, e, i, ()) f g) := by
  rw [ruleP2_F, rule_F n s hn]
  rfl
theorem known_F (m : Nat) (k : Bool → Option R) : verdererlaw12_known_F (m + 2001) k = k true := by
  have h : ∀ (s : ByteArray) (k : ty25.D → Int → Int → Option R), parse_Rule_F (m + 2001) s k = verdererref12_Rule_F (m + 2001) s (fun a b c d e f g h i => k (a, b, h, c, d, e, i, ()) f g) := fun s k => ruleP2_ref (m + 2001) s (by omega) k
  rw [verdererlaw12_known_e]
  unfold verdererlaw12_known_Fi
  simp only [h]
  clear h
  show _ = _
  kernel_rfl
theorem ParseSame_true (s t : ByteArray) (_ : s.size ≤ 140737488351232) (_ : t.size ≤ 140737488351232) : ∃ n, verdererlaw12_ParseSame_F (R := Unit) n s t (fun b => bif b then some () else none) = some () := by
  obtain ⟨m, hm⟩ : ∃ m : Nat, 1000 < m := ⟨2000, by omega⟩
  refine ⟨m + 2001, ?_⟩
  rw [verdererlaw12_ParseSame_e]
  unfold verdererlaw12_ParseSame_Fi
  rw [rule_F _ s (by omega), rule_F _ t (by omega)]
  refine (sameP_F _ (ruleT (rRule s)) (ruleT (rRule t)) (small_rule s) (by omega) _).trans ?_
  refine (sameR_F _ (ruleT (rRule s)) (ruleT (rRule t)) (small_rule s) (by omega) _).trans ?_
  rw [if_pos (by simp)]
  refine (sameP_F _ (ruleT (rRule s)) (ruleT (rRule s)) (small_rule s) (by omega) _).trans ?_
  rw [eqD_refl, if_pos rfl, known_F]
  rfl
end Go.Proofs.YtnnbinmomendnaaGreatDoor.E
/- From what a row lists of strconv's variables to what the walks ask of the world. -/
namespace Go.Proofs.YtnnbinmomendnaaGreatDoor
open Go.RowKit
theorem gt_pow10 : (Tryz.prog.globals[0]?).map (·.type) = some 132 := by kernel_rfl
theorem gt_syn : (Tryz.prog.globals[4]?).map (·.type) = some 116 := by kernel_rfl
theorem gt_rng : (Tryz.prog.globals[5]?).map (·.type) = some 116 := by kernel_rfl
theorem err_star : "*" ++ "errors.errorString" = "*errors.errorString" := by decide
theorem row_err (u : TypeId) (h : Tryz.prog.typeName? 3 u = some "*errors.errorString") : u = 168 :=
  typeName_ptr_named (nm := "errors.errorString") (by rw [err_star]; kernel_rfl) (by kernel_rfl) (by decide) u (by rw [err_star]; exact h)
theorem lt_of_var {w : World} {n : String} {g : Nat} {cs : Array Value} (hg : Tryz.prog.globalNamed n = some g) (h : w.var? Tryz.prog n = some cs) : g < w.heap.size := by
  unfold World.var? at h
  rw [hg] at h
  simp only [Option.bind_some] at h
  rcases Nat.lt_or_ge g w.heap.size with hl | hl
  · exact hl
  · rw [Array.getElem?_eq_none hl] at h; cases h
/-- the list of all the law's rows -/
def laidList : List (String × DataW Unit) := [("math/bits.deBruijn32tab", Rows.laid_math_bits_deBruijn32tab), ("math/bits.deBruijn64tab", Rows.laid_math_bits_deBruijn64tab), ("internal/strconv.uint64pow10", Rows.laid_internal_strconv_uint64pow10), ("strconv.ErrRange", Rows.laid_strconv_ErrRange), ("strconv.ErrSyntax", Rows.laid_strconv_ErrSyntax)]
theorem laid_of {W : World} (h : laidMetH Tryz.prog laidList W) : Laid W := by
  have h0 : laidMet Tryz.prog laidList W := h
  have h3 := h0.tail.tail
  have p := Lib.tabIs_of_head (zs := Lib.pow10Tab) (k := .u64) g_pow10 gt_pow10 Tryz.underlying132 Tryz.underlying105 (by kernel_rfl) (by kernel_rfl) h3
  obtain ⟨a0, s0, hv0, -, -, -⟩ := laid_sentinel h3.tail g_rng gt_rng Tryz.underlying116 row_err Tryz.underlying168 Tryz.underlying170 rfl rfl Tryz.underlying9 (by kernel_rfl) (by kernel_rfl)
  obtain ⟨a1, s1, hv1, -, -, -⟩ := laid_sentinel h3.tail.tail g_syn gt_syn Tryz.underlying116 row_err Tryz.underlying168 Tryz.underlying170 rfl rfl Tryz.underlying9 (by kernel_rfl) (by kernel_rfl)
  exact ⟨p, ⟨_, _, hv1⟩, ⟨_, _, hv0⟩, .inr ⟨lt_of_var g_pow10 p, lt_of_var g_syn hv1, lt_of_var g_rng hv0⟩⟩
end Go.Proofs.YtnnbinmomendnaaGreatDoor
