/- A text of the proof that the law ParseTokens returns true: nothing is assumed in it. -/
import Derived.Test.YtnnbinmomendnaaDoorMParseTokens6
import Derived.Recover
import Derived.Test.YtnnbinmomendnaaDoorMParseTokens3
import Derived.WalkMore
import Derived.Test.YtnnbinmomendnaaDoorProg
import Derived.KernelRfl
import Derived.Test.YtnnbinmomendnaaDoorRows
import Derived.Test.YtnnbinmomendnaaDoorMParseTokens1
import Derived.Stop.LaidErr
import Derived.Lib.LaidTab
import Derived.LaidLaws
set_option linter.unusedVariables false
set_option linter.unusedSimpArgs false
set_option linter.unusedSectionVars false
namespace Go.Proofs.YtnnbinmomendnaaDoor.E
open Go.RowKit
variable {R : Type}
set_option maxRecDepth 100000
theorem rMust_ge (l : Toks) (w : ByteArray) (s : RS) : s.1 ≤ (rMust l w s).1 := by unfold rMust; split; exact rTake_ge l w s; rw [rFail_at]; exact Nat.le_refl _
theorem rName_ge (l : Toks) (s : RS) : s.1 ≤ (rName l s).2.1 := by unfold rName; split; exact rStep_ge l s; rw [rFail_at]; exact Nat.le_refl _
theorem rTerm_ge (l : Toks) (s : RS) : s.1 ≤ (rTerm l s).2.1 := by unfold rTerm; split; exact rStep_ge l s; exact rName_ge l s
theorem rArg_ge (l : Toks) (s : RS) : s.1 ≤ (rArg l s).2.1 := by unfold rArg; split; exact rStep_ge l s; exact rTerm_ge l s
theorem rArgsL_ge (l : Toks) : ∀ (f : Nat) (s : RS) (acc : List ty58.D), s.1 ≤ (rArgsL l f s acc).1.1
  | 0, s, acc => Nat.le_refl _
  | f + 1, s, acc => by
    unfold rArgsL
    split
    · have h1 : s.1 ≤ (if 40 < acc.length + 1 then rFail 9 (atT l s) (rArg l s).2 else (rArg l s).2).1 := by split; rw [rFail_at]; exact rArg_ge l s; exact rArg_ge l s
      have h2 := rTake_ge l commaB (if 40 < acc.length + 1 then rFail 9 (atT l s) (rArg l s).2 else (rArg l s).2)
      generalize (if 40 < acc.length + 1 then rFail 9 (atT l s) (rArg l s).2 else (rArg l s).2) = x at h1 h2 ⊢
      split
      · exact Nat.le_trans (Nat.le_trans h1 h2) (rArgsL_ge l f _ _)
      · exact Nat.le_trans (Nat.le_trans h1 h2) (rMust_ge l rparB _)
    · exact Nat.le_refl _
theorem rArgs_ge (l : Toks) (s : RS) : s.1 ≤ (rArgs l s).1.1 := by
  unfold rArgs
  split
  · exact rTake_ge l rparB s
  · exact Nat.le_trans (rTake_ge l rparB s) (rArgsL_ge l 400 _ _)
theorem rAtom_ge (l : Toks) (atoms : Int) (b : Bool) (at_ : Int) (s : RS) : s.1 ≤ (rAtom l atoms b at_ s).2.1 := by
  unfold rAtom rAtomS
  refine Nat.le_trans ?_ (rArgs_ge l _)
  have h := Nat.le_trans (rName_ge l s) (rMust_ge l lparB (rName l s).2)
  split
  · rw [rFail_at]; exact h
  · exact h
theorem rCmpS_at (l : Toks) (s : RS) : (rCmpS l s).1 = s.1 := by unfold rCmpS; split; exact rFail_at _ _ _; rfl
theorem rCmp_ge (l : Toks) (b : Bool) (s : RS) : s.1 ≤ (rCmp l b s).2.1 := by
  unfold rCmp
  refine Nat.le_trans ?_ (rTerm_ge l _)
  refine Nat.le_trans ?_ (rStep_ge l _)
  rw [rCmpS_at]
  exact rTerm_ge l s
theorem rLit_ge (l : Toks) (atoms : Int) (s : RS) : s.1 ≤ (rLit l atoms s).2.1 := by
  unfold rLit
  have h := rTake_ge l notB s
  split
  · exact Nat.le_trans h (rAtom_ge l _ _ _ _)
  · refine Nat.le_trans h (Nat.le_trans ?_ (rCmp_ge l _ _))
    split
    · rw [rFail_at]; exact Nat.le_refl _
    · exact Nat.le_refl _
theorem rCmpS_st {l : Toks} {s : RS} (h : s.2.1 ≠ 0) : rCmpS l s = s := by unfold rCmpS; rw [rFail_st h]; split <;> rfl
theorem rCmp_st {l : Toks} {b : Bool} {s : RS} (h : s.2.1 ≠ 0) : (rCmp l b s).2.2 = s.2 := by
  unfold rCmp
  simp only [rTerm_st h, rCmpS_st h]
  have : (rStep l s).2.1 ≠ 0 := by rw [rStep_2]; exact h
  rw [rTerm_st this]
  rfl
theorem rLit_st {l : Toks} {atoms : Int} {s : RS} (h : s.2.1 ≠ 0) : (rLit l atoms s).2.2 = s.2 := by
  unfold rLit
  rw [rTake_st h]
  simp only [rNamed_st h, Bool.false_eq_true, false_and, if_false]
  exact rCmp_st h
theorem opL_F (n : Nat) (w : ByteArray) (hn : 20 < n) (k : Int → Option R) : lex_Op_F n w k = k (opS w) := by
  rw [lex_Op_e]
  unfold lex_Op_Fi
  refine (runC_scan (R := R) (ρ := Nat) (step := lex_Op_l2 n) (fun b2 => k b2.1, fun b2 => k 0, ()) (fun i => k ((i + 1 : Nat) : Int)) (k 0) (fun i => if sgnW.getD (i + 1) ByteArray.empty = w then some i else none) (fun i => (w, ((i + 1 : Nat) : Int), ())) 6 (fun i hi k1 => ?_) (fun k1 => ?_) (n := n) (by omega)).trans ?_
  · have c : ((i + 1 : Nat) : Int) ≤ 6 := by omega
    have hs : sgnP ((i + 1 : Nat) : Int) = sgnW.getD (i + 1) ByteArray.empty := by
      unfold sgnP
      rw [if_pos (by omega), Int.toNat_natCast]
      rfl
    have hF : ∀ k : ByteArray → Option R, lex_Sgn_F n ((i + 1 : Nat) : Int) k = k (sgnP ((i + 1 : Nat) : Int)) := fun k => by
      rw [lex_Sgn_e]
      unfold lex_Sgn_Fi
      rw [if_pos trivial]
    simp only [lex_Op_l2, lex_Op_s2, c, decide_true, if_true, hF, beqB, hs, wrap_succ (i + 1) (by omega)]
    by_cases h : sgnW.getD (i + 1) ByteArray.empty = w
    · rw [if_pos (decide_eq_true h), if_pos h]
    · rw [if_neg (by simpa using h), if_neg h]
  · simp [lex_Op_l2, lex_Op_s2]
  · unfold opS
    cases (List.range 6).findSome? (fun i => if sgnW.getD (i + 1) ByteArray.empty = w then some i else none) <;> rfl
theorem opS_ge (w : ByteArray) : 0 ≤ opS w := by unfold opS; split <;> omega
theorem cmpP_F [Esc R] (n : Nat) (l : Toks) (ho : TOk l) (s : RS) (h0 : s.2.1 = 0) (h : s.1 < l.length) (hn : 500 < n) (k : ty61.D → Toks → Int → Option R) :
    (parse_reader_term_F n l (s.1 : Int) (fun y13 y14 y15 => parse_reader_now_F n y14 y15 (fun y16 y17 y18 => lex_Op_F n y16.2.1 (fun y19 => parse_reader_now_F n y17 y18 (fun y20 y21 y22 => if (y20.1 == 3) = true then (parse_reader_must_F n (decide (y19 > 0)) 7 y21 y22 (fun y23 y24 => parse_reader_step_F n y23 y24 (fun y25 y26 y27 => parse_reader_term_F n y26 y27 (fun y28 y29 y30 => k (false, (⟨#[]⟩ : ByteArray), [y13, y28], y19, ()) y29 y30)))) else (parse_reader_must_F n false 7 y21 y22 (fun y31 y32 => parse_reader_step_F n y31 y32 (fun y33 y34 y35 => parse_reader_term_F n y34 y35 (fun y36 y37 y38 => k (false, (⟨#[]⟩ : ByteArray), [y13, y36], y19, ()) y37 y38))))))))) =
      endS (rCmp l false s).2 (k (rCmp l false s).1 l ((rCmp l false s).2.1 : Int)) := by
  refine (termP_F n l ho s h0 h hn _).trans ?_
  have hC : rCmp l false s = ((false, (⟨#[]⟩ : ByteArray), [(rTerm l s).1, (rTerm l (rStep l (rCmpS l (rTerm l s).2))).1], opS (tk l (rTerm l s).2.1).2.1, ()), (rTerm l (rStep l (rCmpS l (rTerm l s).2))).2) := rfl
  rw [hC]
  have h1 := rTerm_lt (l := l) h
  generalize rTerm l s = a1 at h1 ⊢
  obtain ⟨x1, s1⟩ := a1
  simp only at h1 ⊢
  have hsplit : ∀ g1 : s1.2.1 = 0, (parse_reader_now_F n l (s1.1 : Int) (fun y16 y17 y18 => lex_Op_F n y16.2.1 (fun y19 => parse_reader_now_F n y17 y18 (fun y20 y21 y22 => if (y20.1 == 3) = true then (parse_reader_must_F n (decide (y19 > 0)) 7 y21 y22 (fun y23 y24 => parse_reader_step_F n y23 y24 (fun y25 y26 y27 => parse_reader_term_F n y26 y27 (fun y28 y29 y30 => k (false, (⟨#[]⟩ : ByteArray), [x1, y28], y19, ()) y29 y30)))) else (parse_reader_must_F n false 7 y21 y22 (fun y31 y32 => parse_reader_step_F n y31 y32 (fun y33 y34 y35 => parse_reader_term_F n y34 y35 (fun y36 y37 y38 => k (false, (⟨#[]⟩ : ByteArray), [x1, y36], y19, ()) y37 y38)))))))) = endS (rCmpS l s1) (parse_reader_step_F n l (s1.1 : Int) (fun y25 y26 y27 => parse_reader_term_F n y26 y27 (fun y28 y29 y30 => k (false, (⟨#[]⟩ : ByteArray), [x1, y28], opS (tk l s1.1).2.1, ()) y29 y30))) := by
    intro g1
    rw [nowP_F n l s1.1 h1, opL_F n _ (by omega), nowP_F n l s1.1 h1]
    have hge := opS_ge (tk l s1.1).2.1
    unfold rCmpS
    by_cases h3 : (tk l s1.1).1 = 3
    · rw [if_pos (by rw [h3]; rfl)]
      refine (mustP_F n _ 7 (by decide) l s1 g1 h1 _).trans ?_
      by_cases ho0 : opS (tk l s1.1).2.1 = 0
      · rw [if_pos (Or.inr ho0), decide_eq_false (show ¬ opS (tk l s1.1).2.1 > 0 by omega)]
        rfl
      · rw [if_neg (fun g => g.elim (fun g => g h3) ho0), decide_eq_true (show opS (tk l s1.1).2.1 > 0 by omega)]
        rfl
    · rw [if_neg (by simpa using h3), if_pos (Or.inl h3)]
      exact mustP_F n false 7 (by decide) l s1 g1 h1 _
  refine (endS_congr hsplit).trans ?_
  rw [endS_then (fun g => by rw [rCmpS_st g])]
  have hat := rCmpS_at l s1
  have h2 : (rCmpS l s1).1 < l.length := by rw [hat]; exact h1
  rw [← hat]
  generalize rCmpS l s1 = s2 at h2 ⊢
  refine Eq.trans (endS_congr (k' := endS (rTerm l (rStep l s2)).2 (k (false, (⟨#[]⟩ : ByteArray), [x1, (rTerm l (rStep l s2)).1], opS (tk l s2.1).2.1, ()) l ((rTerm l (rStep l s2)).2.1 : Int))) fun g2 => ?_) (endS_then fun g => ?_)
  · rw [stepP_F n l ho s2 h2]
    exact termP_F n l ho (rStep l s2) (by rw [rStep_2]; exact g2) (rStep_lt h2) hn _
  · have : (rStep l s2).2.1 ≠ 0 := by rw [rStep_2]; exact g
    rw [rTerm_st this]
    rfl
theorem minI_ix {l : Toks} (ho : TOk l) {i : Nat} (h : i < l.length) : minI (IntKind.i64.wrap ((i : Int) + 1)) (IntKind.i64.wrap ((l.length : Int) - 1)) = ((if i + 1 < l.length then i + 1 else i : Nat) : Int) := by
  have hl := ho.len
  rw [wrap_succ i (by omega), wrap_i64 (by omega) (by omega)]
  unfold minI
  split
  · split <;> omega
  · split <;> omega
theorem litP_F [Esc R] (n : Nat) (atoms : Int) (l : Toks) (ho : TOk l) (s : RS) (h0 : s.2.1 = 0) (h : s.1 < l.length) (hn : 500 < n) (k : ty61.D → Toks → Int → Option R) : parse_reader_literal_F n atoms l (s.1 : Int) k = endS (rLit l atoms s).2 (k (rLit l atoms s).1 l ((rLit l atoms s).2.1 : Int)) := by
  rw [parse_reader_literal_e]
  unfold parse_reader_literal_Fi
  refine (takeP_F n notB l ho s h0 h _).trans ?_
  have ht2 : (rTake l notB s).2.2.1 = 0 := by rw [rTake_2]; exact h0
  have htl := rTake_lt (l := l) notB h
  have hL : rLit l atoms s = if rNamed l (rTake l notB s).2 = true ∧ ((rTake l notB s).1 = true ∨ rPar l (rTake l notB s).2 = true) then rAtom l atoms (rTake l notB s).1 (atT l (rTake l notB s).2) (rTake l notB s).2
    else rCmp l (rTake l notB s).1 (if (rTake l notB s).1 = true then rFail 7 (atT l (rTake l notB s).2) (rTake l notB s).2 else (rTake l notB s).2) := rfl
  rw [hL]
  generalize rTake l notB s = q at ht2 htl ⊢
  obtain ⟨b, t⟩ := q
  simp only at ht2 htl ⊢
  cases b with
  | true =>
    simp only [if_true, true_or, and_true]
    refine (atomP_F n true atoms l ho t ht2 htl hn _).trans ?_
    by_cases hnm : rNamed l t = true
    · rw [if_pos hnm]
    · rw [if_neg hnm]
      have hN : rName l t = ((⟨#[]⟩ : ByteArray), rFail 7 (atT l t) t) := by unfold rName; rw [if_neg hnm]; rfl
      have hb : (rFail 7 (atT l t) t).2.1 ≠ 0 := by rw [rFail_0 ht2]; show (7 : Int) ≠ 0; decide
      have hA : (rAtom l atoms true (atT l t) t).2 = rFail 7 (atT l t) t := by
        unfold rAtom rAtomS
        rw [hN]
        simp only [Bool.true_eq_false, false_and, if_false]
        rw [rMust_st hb]
        exact rArgs_st hb
      have hc := rCmp_st (l := l) (b := true) hb
      rw [hA, endS_bad hb]
      have hb2 : (rCmp l true (rFail 7 (atT l t) t)).2.2.1 ≠ 0 := by rw [hc]; exact hb
      rw [endS_bad hb2, hc]
  | false =>
    have hm := minI_ix ho htl
    have hP : rPar l t = (decide ((tk l (if t.1 + 1 < l.length then t.1 + 1 else t.1)).1 = 3) && decide ((tk l (if t.1 + 1 < l.length then t.1 + 1 else t.1)).2.1 = lparB)) := by
      unfold rPar
      by_cases hlt : t.1 + 1 < l.length
      · rw [decide_eq_true hlt, if_pos hlt, Bool.true_and]
      · have h4 := (ho.last t.1 htl).2 (by omega)
        rw [decide_eq_false hlt, if_neg hlt, Bool.false_and, h4]
        rfl
    have hr : (0 : Int) ≤ ((if t.1 + 1 < l.length then t.1 + 1 else t.1 : Nat) : Int) ∧ ((if t.1 + 1 < l.length then t.1 + 1 else t.1 : Nat) : Int) < (l.length : Int) := by split <;> omega
    simp only [Bool.false_eq_true, if_false, false_or, hm, Int.toNat_natCast]
    rw [if_pos hr, namedP_F n l t ht2 htl hn, hP]
    have tkE : ∀ j : Nat, l.getD j (Ty.z ty36) = tk l j := fun j => rfl
    simp only [tkE]
    generalize (if t.1 + 1 < l.length then t.1 + 1 else t.1) = j
    cases hnm : rNamed l t with
    | false =>
      simp only [Bool.false_eq_true, if_false, false_and]
      exact cmpP_F n l ho t ht2 htl hn k
    | true =>
      simp only [if_true, true_and]
      by_cases h3 : (tk l j).1 = 3
      · rw [if_pos (by rw [h3]; rfl), beqB, decide_eq_true h3, Bool.true_and]
        by_cases hw : (tk l j).2.1 = lparB
        · rw [if_pos (decide_eq_true (show (tk l j).2.1 = (⟨#[40]⟩ : ByteArray) from hw)), if_pos (decide_eq_true hw)]
          exact atomP_F n false atoms l ho t ht2 htl hn _
        · rw [if_neg (show ¬ decide ((tk l j).2.1 = (⟨#[40]⟩ : ByteArray)) = true from fun g => hw (of_decide_eq_true g)), if_neg (fun g => hw (of_decide_eq_true g))]
          exact cmpP_F n l ho t ht2 htl hn k
      · rw [if_neg (by simpa using h3), decide_eq_false h3, Bool.false_and, if_neg (by decide)]
        exact cmpP_F n l ho t ht2 htl hn k
end Go.Proofs.YtnnbinmomendnaaDoor.E
namespace Go.Proofs.YtnnbinmomendnaaDoor.E
open Go.RowKit
variable {R : Type}
set_option maxRecDepth 100000
theorem beginsP_F (n : Nat) (l : Toks) (s : RS) (h0 : s.2.1 = 0) (h : s.1 < l.length) (hn : 500 < n) (k : Bool → Toks → Int → Option R) : parse_reader_begins_F n l (s.1 : Int) k = k (rIs l notB s || (rNamed l s || decide ((tk l s.1).1 = 2))) l (s.1 : Int) := by
  rw [parse_reader_begins_e]
  unfold parse_reader_begins_Fi
  refine (isP_F n notB l s h0 h _).trans ?_
  cases rIs l notB s with
  | true => rfl
  | false =>
    simp only [Bool.false_eq_true, if_false, Bool.false_or]
    rw [namedP_F n l s h0 h hn]
    cases rNamed l s with
    | true => rfl
    | false =>
      simp only [Bool.false_eq_true, if_false, Bool.false_or]
      rw [nowP_F n l s.1 h]
      rfl
theorem rLone_0 {l : Toks} {s : RS} (h0 : s.2.1 = 0) (p : Int) : rLone l p s = (s.1, (if (rIs l notB s || (rNamed l s || decide ((tk l s.1).1 = 2))) = true then 9 else 7 : Int), p) := by
  unfold rLone
  have e9 : rFail 9 p s = (s.1, 9, p) := rFail_0 h0
  have e : (rIs l notB s = true ∨ rNamed l s = true ∨ (tk l s.1).1 = 2) ↔ (rIs l notB s || (rNamed l s || decide ((tk l s.1).1 = 2))) = true := by simp
  by_cases hc : rIs l notB s = true ∨ rNamed l s = true ∨ (tk l s.1).1 = 2
  · rw [if_pos hc, if_pos (e.1 hc), e9]
    exact rFail_st (by show (9 : Int) ≠ 0; decide)
  · rw [if_neg hc, if_neg (fun g => hc (e.2 g))]
    exact rFail_0 h0
theorem body_loopP [Esc R] (n : Nat) (l : Toks) (ho : TOk l) (hn : 500 < n) (kind : Int) (nm : ByteArray) (ag : Int) (of_ : ByteArray) (lim : Int) (hd : List ByteArray) (K : exK R (parse_reader_body_dx 2)) (ret : Toks → Int → Int → ByteArray → Int → ByteArray → Int → List ByteArray → List ty61.D → Option R)
    (hK : ∀ a b c d e f g h i, K.1 (a, b, c, d, e, f, g, h, i, ()) = ret a b c d e f g h i) : ∀ (f m : Nat) (s : RS) (a : Nat) (bd : List ty61.D), s.2.1 = 0 → s.1 < l.length → l.length ≤ s.1 + f → bd.length + f ≤ 2000 → a + f ≤ 2000 → f + 1 < m →
    runC (parse_reader_body_l2 n) m ((a : Int), true, l, (s.1 : Int), kind, nm, ag, of_, lim, hd, bd, ()) K = endS (rBodyL l f (a : Int) s bd).1 (ret l ((rBodyL l f (a : Int) s bd).1.1 : Int) kind nm ag of_ lim hd (rBodyL l f (a : Int) s bd).2)
  | 0, m, s, a, bd, h0, h, hf, hh, ha, hm => by omega
  | f + 1, m, s, a, bd, h0, h, hf, hh, ha, hm => by
    obtain ⟨m, rfl⟩ : ∃ q, m = q + 1 := ⟨m - 1, by omega⟩
    refine (runC_s _ _ _ _).trans ?_
    have wa : IntKind.i64.wrap ((a : Int) + 1) = ((a + 1 : Nat) : Int) := wrap_succ _ (by omega)
    simp only [parse_reader_body_l2, parse_reader_body_s2, if_true, wa]
    rw [rBodyL, if_pos h0]
    by_cases hg : 10 ≤ bd.length
    · rw [if_pos (decide_eq_true (show (bd.length : Int) ≥ 10 by omega))]
      have hS : bodySt l s bd = rLone l (atT l s) s := by unfold bodySt; rw [if_pos hg]
      rw [hS, rLone_0 h0]
      rw [beginsP_F n l s h0 h hn]
      generalize (rIs l notB s || (rNamed l s || decide ((tk l s.1).1 = 2))) = b
      have hb : ((s.1, (if b = true then 9 else 7 : Int), atT l s) : RS).2.1 ≠ 0 := by show (if b = true then 9 else 7 : Int) ≠ 0; split <;> decide
      have hL := rLit_st (l := l) (atoms := (a : Int)) hb
      generalize rLit l (a : Int) (s.1, (if b = true then 9 else 7 : Int), atT l s) = x at hL ⊢
      have hx : x.2.2.1 ≠ 0 := by rw [hL]; exact hb
      rw [rTake_st hx]
      simp only [Bool.false_eq_true, if_false]
      rw [endS_bad hx, hL]
      refine (mustP_F n _ 9 (by decide) l s h0 h _).trans ?_
      cases b with
      | true =>
        have e9 : rIf (!true) 9 (atT l s) s = (s.1, 9, atT l s) := rFail_0 h0
        rw [e9, endS_bad (by show (9 : Int) ≠ 0; decide)]
        rfl
      | false =>
        have e9 : rIf (!false) 9 (atT l s) s = s := rfl
        rw [e9, endS_ok h0]
        refine (mustP_F n false 7 (by decide) l s h0 h _).trans ?_
        have e7 : rIf false 7 (atT l s) s = (s.1, 7, atT l s) := rFail_0 h0
        rw [e7, endS_bad (by show (7 : Int) ≠ 0; decide)]
        rfl
    · rw [if_neg (show ¬ decide ((bd.length : Int) ≥ 10) = true by simp; omega)]
      have hS : bodySt l s bd = s := by unfold bodySt; rw [if_neg hg]
      rw [hS]
      refine (litP_F n (a : Int) l ho s h0 h hn _).trans ?_
      have h2 := (rLit_rng (l := l) (a : Int) h).1
      have hge := rLit_ge l (a : Int) s
      generalize rLit l (a : Int) s = x at h2 hge ⊢
      obtain ⟨x, s2⟩ := x
      simp only at h2 hge ⊢
      by_cases g2 : s2.2.1 = 0
      · rw [endS_ok g2]
        have gd : (List.length bd + List.length [x]) * 56 ≤ 140737488355328 := by simp only [List.length_cons, List.length_nil]; omega
        simp only [gd, if_true]
        have ht2 : (rTake l commaB s2).2.2.1 = 0 := by rw [rTake_2]; exact g2
        have htl := rTake_lt (l := l) commaB h2
        have step : ∀ a2 : Nat, a2 + f ≤ 2000 → parse_reader_take_F n (⟨#[44]⟩ : ByteArray) l (s2.1 : Int) (fun y11 y12 y13 => runC (parse_reader_body_l2 n) m ((a2 : Int), y11, y12, y13, kind, nm, ag, of_, lim, hd, (bd ++ [x]), ()) K)
            = endS (if (rTake l commaB s2).1 = true then rBodyL l f (a2 : Int) (rTake l commaB s2).2 (bd ++ [x]) else ((rTake l commaB s2).2, bd ++ [x])).1 (ret l ((if (rTake l commaB s2).1 = true then rBodyL l f (a2 : Int) (rTake l commaB s2).2 (bd ++ [x]) else ((rTake l commaB s2).2, bd ++ [x])).1.1 : Int) kind nm ag of_ lim hd (if (rTake l commaB s2).1 = true then rBodyL l f (a2 : Int) (rTake l commaB s2).2 (bd ++ [x]) else ((rTake l commaB s2).2, bd ++ [x])).2) := by
          intro a2 ha2
          refine (takeP_F n commaB l ho s2 g2 h2 _).trans ?_
          cases ht : (rTake l commaB s2).1 with
          | false =>
            simp only [Bool.false_eq_true, if_false]
            rw [endS_ok ht2]
            obtain ⟨m, rfl⟩ : ∃ q, m = q + 1 := ⟨m - 1, by omega⟩
            refine (runC_s _ _ _ _).trans ?_
            simp only [parse_reader_body_l2, parse_reader_body_s2, Bool.false_eq_true, if_false]
            exact hK _ _ _ _ _ _ _ _ _
          | true =>
            simp only [if_true]
            have hon := rTake_on ho h2 ht
            exact body_loopP n l ho hn kind nm ag of_ lim hd K ret hK f m (rTake l commaB s2).2 a2 _ ht2 htl (by omega) (by simp; omega) (by omega) (by omega)
        have ea : ((a : Int) + 1) = ((a + 1 : Nat) : Int) := rfl
        by_cases hx : x.2.2.2.1 = 0
        · rw [if_pos (by rw [hx]; rfl)]
          cases hxn : x.1 with
          | true =>
            have hat : isAtom x = false := by unfold isAtom; rw [hxn]; simp
            simp only [hat, Bool.not_true, Bool.false_eq_true, if_false]
            exact step a (by omega)
          | false =>
            have hat : isAtom x = true := by unfold isAtom; rw [hxn, decide_eq_true hx]; rfl
            simp only [hat, Bool.not_false, if_true, ea]
            exact step (a + 1) (by omega)
        · have hat : isAtom x = false := by unfold isAtom; rw [decide_eq_false hx]; rfl
          rw [if_neg (by simpa using hx)]
          simp only [hat, Bool.false_eq_true, if_false]
          exact step a (by omega)
      · rw [endS_bad g2, rTake_st g2]
        simp only [Bool.false_eq_true, if_false]
        exact (endS_bad g2 _).symm
theorem rBodyL_st {l : Toks} {s : RS} {a : Int} {bd : List ty61.D} (f : Nat) (h : s.2.1 ≠ 0) : rBodyL l f a s bd = (s, bd) := by
  cases f with
  | zero => rfl
  | succ f => rw [rBodyL, if_neg h]
theorem bodyP_F [Esc R] (n : Nat) (l : Toks) (ho : TOk l) (s : RS) (h0 : s.2.1 = 0) (h : s.1 < l.length) (hn : 500 < n) (kind : Int) (nm : ByteArray) (ag : Int) (of_ : ByteArray) (lim : Int) (hd : List ByteArray) (k : Toks → Int → Int → ByteArray → Int → ByteArray → Int → List ByteArray → List ty61.D → Option R) :
    parse_reader_body_F n l (s.1 : Int) kind nm ag of_ lim hd [] k = endS (rBody l s).1 (k l ((rBody l s).1.1 : Int) kind nm ag of_ lim hd (rBody l s).2) := by
  rw [parse_reader_body_e]
  unfold parse_reader_body_Fi rBody
  have := ho.len
  exact body_loopP n l ho hn kind nm ag of_ lim hd _ k (fun _ _ _ _ _ _ _ _ _ => rfl) 400 n s 0 [] h0 h (by omega) (by simp) (by omega) (by omega)
theorem kindP_F [Esc R] (n : Nat) (l : Toks) (ho : TOk l) (s : RS) (h0 : s.2.1 = 0) (h : s.1 < l.length) (hn : 500 < n) (k : Int → Toks → Int → Option R) : parse_reader_kind_F n l (s.1 : Int) k = endS (rKind l s).2 (k (rKind l s).1 l ((rKind l s).2.1 : Int)) := by
  rw [parse_reader_kind_e]
  unfold parse_reader_kind_Fi
  have hK : rKind l s = if (rTake l denyB s).1 = true then (1, (rTake l denyB s).2) else if (rTake l viewB (rTake l denyB s).2).1 = true then (2, (rTake l viewB (rTake l denyB s).2).2)
      else if (rTake l quotaB (rTake l viewB (rTake l denyB s).2).2).1 = true then (3, (rTake l quotaB (rTake l viewB (rTake l denyB s).2).2).2) else (0, rFail 7 (atT l (rTake l quotaB (rTake l viewB (rTake l denyB s).2).2).2) (rTake l quotaB (rTake l viewB (rTake l denyB s).2).2).2) := rfl
  rw [hK]
  have roundL : ∀ (i : Nat) (hi : i < 3) (t : RS) (g0 : t.2.1 = 0) (ht : t.1 < l.length) (k1 : (parse_reader_kind_ds 2).D → Option R) (K : exK R (parse_reader_kind_dx 2)),
      parse_reader_kind_l2 n ((3 : Int), (i : Int), l, (t.1 : Int), [denyB, viewB, quotaB], ()) k1 K = if (rTake l ([denyB, viewB, quotaB].getD i ByteArray.empty) t).1 = true then K.1 (((i + 1 : Nat) : Int), l, ((rTake l ([denyB, viewB, quotaB].getD i ByteArray.empty) t).2.1 : Int), ()) else k1 ((3 : Int), ((i + 1 : Nat) : Int), l, ((rTake l ([denyB, viewB, quotaB].getD i ByteArray.empty) t).2.1 : Int), [denyB, viewB, quotaB], ()) := by
    intro i hi t g0 ht k1 K
    have c1 : (i : Int) < 3 := by omega
    have c2 : (0 : Int) ≤ (i : Int) ∧ (i : Int) < (([denyB, viewB, quotaB] : List ByteArray).length : Int) := ⟨by omega, c1⟩
    have c3 : i < ([denyB, viewB, quotaB] : List ByteArray).length := hi
    have w1 : IntKind.i64.wrap ((i : Int) + 1) = ((i + 1 : Nat) : Int) := wrap_succ _ (by omega)
    have w2 : IntKind.i64.wrap (1 + (i : Int)) = ((i + 1 : Nat) : Int) := by rw [Int.add_comm]; exact w1
    have e : ([denyB, viewB, quotaB] : List ByteArray).getD i (Ty.z .str) = [denyB, viewB, quotaB].getD i ByteArray.empty := rfl
    simp only [parse_reader_kind_l2, parse_reader_kind_s2, c1, c2, c3, decide_true, if_true, and_self, Int.toNat_natCast, w1, w2, e]
    rw [takeP_F n _ l ho t g0 ht]
  obtain ⟨m, hm⟩ : ∃ m, n = m + 4 := ⟨n - 4, by omega⟩
  have h1 := rTake_lt (l := l) denyB h
  have g1 : (rTake l denyB s).2.2.1 = 0 := by rw [rTake_2]; exact h0
  have r0 := fun k1 K => roundL 0 (by omega) s h0 h k1 K
  have d0 : ([denyB, viewB, quotaB] : List ByteArray).getD 0 ByteArray.empty = denyB := rfl
  have d1 : ([denyB, viewB, quotaB] : List ByteArray).getD 1 ByteArray.empty = viewB := rfl
  have d2 : ([denyB, viewB, quotaB] : List ByteArray).getD 2 ByteArray.empty = quotaB := rfl
  rw [d0] at r0
  generalize rTake l denyB s = t1 at h1 g1 r0 ⊢
  have h2 := rTake_lt (l := l) viewB h1
  have g2 : (rTake l viewB t1.2).2.2.1 = 0 := by rw [rTake_2]; exact g1
  have r1 := fun k1 K => roundL 1 (by omega) t1.2 g1 h1 k1 K
  rw [d1] at r1
  generalize rTake l viewB t1.2 = t2 at h2 g2 r1 ⊢
  have h3 := rTake_lt (l := l) quotaB h2
  have g3 : (rTake l quotaB t2.2).2.2.1 = 0 := by rw [rTake_2]; exact g2
  have r2 := fun k1 K => roundL 2 (by omega) t2.2 g2 h2 k1 K
  rw [d2] at r2
  generalize rTake l quotaB t2.2 = t3 at h3 g3 r2 ⊢
  have run4 : ∀ (a : (parse_reader_kind_ds 2).D) (K : exK R (parse_reader_kind_dx 2)), runC (parse_reader_kind_l2 n) (m + 4) a K = parse_reader_kind_l2 n a (fun b => parse_reader_kind_l2 n b (fun c => parse_reader_kind_l2 n c (fun d => parse_reader_kind_l2 n d (fun e => runC (parse_reader_kind_l2 n) m e K) K) K) K) K := fun a K => rfl
  refine Eq.trans (congrArg (fun q => runC (parse_reader_kind_l2 n) q _ _) hm) ?_
  refine (run4 _ _).trans ?_
  refine (r0 _ _).trans ?_
  by_cases c1 : t1.1 = true
  · rw [if_pos c1, if_pos c1, endS_ok g1]
    rfl
  · rw [if_neg c1, if_neg c1]
    refine (r1 _ _).trans ?_
    by_cases c2 : t2.1 = true
    · rw [if_pos c2, if_pos c2, endS_ok g2]
      rfl
    · rw [if_neg c2, if_neg c2]
      refine (r2 _ _).trans ?_
      by_cases c3 : t3.1 = true
      · rw [if_pos c3, if_pos c3, endS_ok g3]
        rfl
      · rw [if_neg c3, if_neg c3]
        have last : ∀ (k1 : (parse_reader_kind_ds 2).D → Option R) (K : exK R (parse_reader_kind_dx 2)), parse_reader_kind_l2 n ((3 : Int), ((2 + 1 : Nat) : Int), l, (t3.2.1 : Int), [denyB, viewB, quotaB], ()) k1 K = K.2.1 (l, (t3.2.1 : Int), ()) := by
          intro k1 K
          simp only [parse_reader_kind_l2, parse_reader_kind_s2]
          rw [if_neg (show ¬ decide (((2 + 1 : Nat) : Int) < 3) = true from by simp)]
        refine (last _ _).trans ?_
        refine (mustP_F n false 7 (by decide) l t3.2 g3 h3 _).trans ?_
        show endS (rFail 7 (atT l t3.2) t3.2) _ = endS (rFail 7 (atT l t3.2) t3.2) _
        have hb : (rFail 7 (atT l t3.2) t3.2).2.1 ≠ 0 := by rw [rFail_0 g3]; show (7 : Int) ≠ 0; decide
        rw [endS_bad hb, endS_bad hb]
theorem rKind_ok {l : Toks} {s : RS} (h0 : s.2.1 = 0) (h : (rKind l s).2.2.1 = 0) : (rKind l s).1 = 1 ∨ (rKind l s).1 = 2 ∨ (rKind l s).1 = 3 := by
  unfold rKind at h ⊢
  split
  · exact .inl rfl
  · split
    · exact .inr (.inl rfl)
    · split
      · exact .inr (.inr rfl)
      · rename_i c1 c2 c3
        rw [if_neg c1, if_neg c2, if_neg c3] at h
        simp only at h
        have g : (rTake l quotaB (rTake l viewB (rTake l denyB s).2).2).2.2.1 = 0 := by rw [rTake_2, rTake_2, rTake_2]; exact h0
        rw [rFail_0 g] at h
        exact absurd (show (7 : Int) = 0 from h) (by decide)
end Go.Proofs.YtnnbinmomendnaaDoor.E
namespace Go.Proofs.YtnnbinmomendnaaDoor.E
open Go.RowKit
variable {R : Type}
set_option maxRecDepth 100000
/-- a rule as the program holds it -/
def ruleT (r : RR) : ty44.D := (r.1, r.2.1, r.2.2.2.2.2.2.2.1, r.2.2.1, r.2.2.2.1, r.2.2.2.2.1, r.2.2.2.2.2.2.2.2, ())
theorem rEndS_st {l : Toks} {s : RS} (h : s.2.1 ≠ 0) : rEndS l s = s := by unfold rEndS; rw [rFail_st h]; split <;> rfl
theorem rBody_st {l : Toks} {s : RS} (h : s.2.1 ≠ 0) : (rBody l s).1 = s := by unfold rBody; rw [rBodyL_st 400 h]
theorem rLimS_st {l : Toks} {s : RS} (h : s.2.1 ≠ 0) : rLimS l s = s := by unfold rLimS; rw [if_neg (fun g => h g.1)]
/-- the state behind a rule's text -/
def endZ (l : Toks) (s : RS) : RS := rEndS l (rBody l (rMust l ifB s)).1
theorem endZ_st {l : Toks} {s : RS} (h : s.2.1 ≠ 0) : endZ l s = s := by unfold endZ; rw [rMust_st h, rBody_st h, rEndS_st h]
theorem endP_F [Esc R] (n : Nat) (l : Toks) (ho : TOk l) (s : RS) (h0 : s.2.1 = 0) (h : s.1 < l.length) (hn : 500 < n) (kind : Int) (nm : ByteArray) (ag : Int) (of_ : ByteArray) (lim : Int) (hd : List ByteArray) (k : ty44.D → Toks → Int → Option R) :
    (parse_reader_want_F n (⟨#[105, 102]⟩ : ByteArray) l (s.1 : Int) (fun y70 y71 => parse_reader_body_F n y70 y71 kind nm ag of_ lim hd [] (fun y72 y73 y74 y75 y76 y77 y78 y79 y80 => parse_reader_now_F n y72 y73 (fun y81 y82 y83 => parse_reader_must_F n (y81.1 == 4) 7 y82 y83 (fun y84 y85 => k (y74, y75, y79, y76, y77, y78, y80, ()) y84 y85))))) =
      endS (endZ l s) (k (kind, nm, hd, ag, of_, lim, (rBody l (rMust l ifB s)).2, ()) l ((endZ l s).1 : Int)) := by
  refine (wantP_F n ifB l ho s h0 h _).trans ?_
  unfold endZ
  have h1 := rMust_lt (l := l) ifB h
  generalize rMust l ifB s = s1 at h1 ⊢
  refine (endS_congr fun g1 => bodyP_F n l ho s1 g1 h1 hn kind nm ag of_ lim hd _).trans ?_
  rw [endS_then (fun g => by rw [rBody_st g])]
  have h2 : (rBody l s1).1.1 < l.length := (rBodyL_rng (l := l) 400 0 s1 [] h1 (by simp)).1
  generalize rBody l s1 = b at h2 ⊢
  obtain ⟨s2, bd⟩ := b
  simp only at h2 ⊢
  refine Eq.trans (endS_congr (k' := endS (rEndS l s2) (k (kind, nm, hd, ag, of_, lim, bd, ()) l ((rEndS l s2).1 : Int))) fun g2 => ?_) (endS_then fun g => by rw [rEndS_st g])
  rw [nowP_F n l s2.1 h2]
  refine (mustP_F n _ 7 (by decide) l s2 g2 h2 _).trans ?_
  unfold rEndS
  by_cases h4 : (tk l s2.1).1 = 4
  · have e : ((tk l s2.1).1 == 4) = true := beq_iff_eq.2 h4
    rw [e, if_neg (fun g => g h4)]
    rfl
  · have e : ((tk l s2.1).1 == 4) = false := beq_eq_false_iff_ne.2 h4
    rw [e, if_pos h4, rFail_at]
    rfl
/-- the state ahead of a rule's 'if' -/
def limZ (l : Toks) (kind : Int) (s : RS) : RS := (rLim l kind s).2
theorem limZ_st {l : Toks} {kind : Int} {s : RS} (h : s.2.1 ≠ 0) : (limZ l kind s).2 = s.2 := by
  unfold limZ rLim
  split
  · simp only [rMust_st h, rLimS_st h]
    rfl
  · rfl
theorem limP_F [Esc R] (n : Nat) (l : Toks) (ho : TOk l) (s : RS) (h0 : s.2.1 = 0) (h : s.1 < l.length) (hn : 500 < n) (kind : Int) (k : Int → Toks → Int → Option R) :
    (if (kind == 3) = true then (parse_reader_want_F n (⟨#[108, 105, 109, 105, 116]⟩ : ByteArray) l (s.1 : Int) (fun y20 y21 => parse_reader_now_F n y20 y21 (fun y22 y23 y24 => if (y22.1 == 2) = true then (parse_reader_now_F n y23 y24 (fun y25 y26 y27 => parse_reader_must_F n (y25.2.2.1.1 == 2) 7 y26 y27 (fun y28 y29 => parse_reader_step_F n y28 y29 (fun y30 y31 y32 => k y30.2.2.1.2.2.1 y31 y32)))) else (parse_reader_must_F n false 7 y23 y24 (fun y49 y50 => parse_reader_step_F n y49 y50 (fun y51 y52 y53 => k y51.2.2.1.2.2.1 y52 y53)))))) else k 0 l (s.1 : Int)) =
      endS (limZ l kind s) (k (rLim l kind s).1 l ((limZ l kind s).1 : Int)) := by
  unfold limZ
  by_cases hk : kind = 3
  · have b : (kind == 3) = true := by simp [hk]
    have hL : rLim l kind s = ((tk l (rLimS l (rMust l limitB s)).1).2.2.1.2.2.1, rStep l (rLimS l (rMust l limitB s))) := by unfold rLim; rw [if_pos hk]
    rw [if_pos b, hL]
    refine (wantP_F n limitB l ho s h0 h _).trans ?_
    have h1 := rMust_lt (l := l) limitB h
    generalize rMust l limitB s = g at h1 ⊢
    refine Eq.trans (endS_congr (k' := endS (rStep l (rLimS l g)) (k (tk l (rLimS l g).1).2.2.1.2.2.1 l ((rStep l (rLimS l g)).1 : Int))) fun g1 => ?_) (endS_then fun g2 => by rw [rLimS_st g2]; rfl)
    rw [nowP_F n l g.1 h1]
    have bad : rLimS l g = rFail 7 (atT l g) g → ∀ (K : Toks → Int → Option R), parse_reader_must_F n false 7 l (g.1 : Int) K = endS (rStep l (rLimS l g)) (k (tk l (rLimS l g).1).2.2.1.2.2.1 l ((rStep l (rLimS l g)).1 : Int)) := by
      intro e K
      refine (mustP_F n false 7 (by decide) l g g1 h1 _).trans ?_
      show endS (rFail 7 (atT l g) g) _ = _
      have e7 : rFail 7 (atT l g) g = (g.1, 7, atT l g) := rFail_0 g1
      have hb : (rFail 7 (atT l g) g).2.1 ≠ 0 := by rw [e7]; show (7 : Int) ≠ 0; decide
      have hb2 : (rStep l (rLimS l g)).2.1 ≠ 0 := by rw [e, rStep_2]; exact hb
      rw [endS_bad hb, endS_bad hb2, rStep_2, e]
    by_cases hk2 : (tk l g.1).1 = 2
    · have e2 : ((tk l g.1).1 == 2) = true := beq_iff_eq.2 hk2
      rw [if_pos e2, nowP_F n l g.1 h1]
      by_cases hv : (tk l g.1).2.2.1.1 = 2
      · have e3 : ((tk l g.1).2.2.1.1 == 2) = true := beq_iff_eq.2 hv
        have e : rLimS l g = g := by unfold rLimS; rw [if_neg (by rintro ⟨_, h | h⟩; exact h hk2; exact h hv)]
        rw [e3, e]
        refine (mustP_F n true 7 (by decide) l g g1 h1 _).trans ?_
        rw [show rIf true 7 (atT l g) g = g from rfl, endS_ok g1, stepP_F n l ho g h1, endS_ok (by rw [rStep_2]; exact g1)]
      · have e3 : ((tk l g.1).2.2.1.1 == 2) = false := beq_eq_false_iff_ne.2 hv
        rw [e3]
        exact bad (by unfold rLimS; rw [if_pos ⟨g1, Or.inr hv⟩]) _
    · have e2 : ((tk l g.1).1 == 2) = false := beq_eq_false_iff_ne.2 hk2
      rw [if_neg (by rw [e2]; decide)]
      exact bad (by unfold rLimS; rw [if_pos ⟨g1, Or.inl hk2⟩]) _
  · have b : (kind == 3) = false := by simp [hk]
    have hL : rLim l kind s = (0, s) := by unfold rLim; rw [if_neg hk]
    rw [if_neg (by rw [b]; decide), hL, endS_ok h0]
theorem rest_why (l : Toks) (kind : Int) (s : RS) : (rRest l kind s).2.2.2.2.2.2.1 = (endZ l (limZ l kind (rMust l rparB (rHd l kind s).1))).2.1 ∧ ((endZ l (limZ l kind (rMust l rparB (rHd l kind s).1))).2.1 ≠ 0 → (rRest l kind s).2.2.2.2.2.1 = (endZ l (limZ l kind (rMust l rparB (rHd l kind s).1))).2.2) ∧
    ((endZ l (limZ l kind (rMust l rparB (rHd l kind s).1))).2.1 = 0 → ruleT (rRest l kind s) = (kind, (rName l s).1, (rHd l kind s).2.2.2, (rHd l kind s).2.1, (rHd l kind s).2.2.1, (rLim l kind (rMust l rparB (rHd l kind s).1)).1, (rBody l (rMust l ifB (limZ l kind (rMust l rparB (rHd l kind s).1)))).2, ())) := by
  unfold rRest rEnd
  show (if (endZ l (limZ l kind (rMust l rparB (rHd l kind s).1))).2.1 ≠ 0 then _ else _ : RR).2.2.2.2.2.2.1 = _ ∧ _
  by_cases h : (endZ l (limZ l kind (rMust l rparB (rHd l kind s).1))).2.1 = 0
  · rw [if_neg (fun g => g h)]
    refine ⟨h.symm, fun g => absurd h g, fun _ => ?_⟩
    rw [if_neg (show ¬ (rEndS l (rBody l (rMust l ifB (rLim l kind (rMust l rparB (rHd l kind s).1)).2)).1).2.1 ≠ 0 from fun g => g h)]
    rfl
  · rw [if_pos h]
    refine ⟨rfl, fun _ => ?_, fun g => absurd g h⟩
    rw [if_pos (show (rEndS l (rBody l (rMust l ifB (rLim l kind (rMust l rparB (rHd l kind s).1)).2)).1).2.1 ≠ 0 from h)]
    rfl
theorem ruleP_F [Esc R] (n : Nat) (l : Toks) (ho : TOk l) (hl : 0 < l.length) (hn : 500 < n) (k : ty44.D → Toks → Int → Option R) : ∃ p : Nat,
    parse_reader_rule_F n l 0 k = if (rTok l).2.2.2.2.2.2.1 = 0 then k (ruleT (rTok l)) l (p : Int) else escW (rTok l).2.2.2.2.2.2.1 (rTok l).2.2.2.2.2.1 := by
  refine ⟨(endZ l (limZ l (rKind l (0, 0, 0)).1 (rMust l rparB (rHd l (rKind l (0, 0, 0)).1 (rKind l (0, 0, 0)).2).1))).1, ?_⟩
  rw [parse_reader_rule_e]
  unfold parse_reader_rule_Fi
  refine (kindP_F n l ho (0, 0, 0) rfl hl hn _).trans ?_
  have hT : rTok l = rRest l (rKind l (0, 0, 0)).1 (rKind l (0, 0, 0)).2 := rfl
  have hko := rKind_ok (l := l) (s := (0, 0, 0)) rfl
  rw [hT]
  have h1 := rKind_lt (l := l) (s := (0, 0, 0)) hl
  generalize rKind l (0, 0, 0) = kq at hko h1 ⊢
  obtain ⟨kind, s1⟩ := kq
  simp only at hko h1 ⊢
  obtain ⟨w1, w2, w3⟩ := rest_why l kind s1
  have hd : rHd l kind s1 = rHead l kind (rMust l lparB (rName l s1).2) 0 (⟨#[]⟩ : ByteArray) [] := rfl
  have key : endS s1 (parse_reader_name_F n l (s1.1 : Int) (fun y4 y5 y6 => parse_reader_want_F n (⟨#[40]⟩ : ByteArray) y5 y6 (fun y7 y8 => parse_reader_head_F n y7 y8 kind y4 0 (⟨#[]⟩ : ByteArray) 0 ([] : List ByteArray) ([] : List ty61.D) (fun y9 y10 y11 y12 y13 y14 y15 y16 y17 => parse_reader_want_F n (⟨#[41]⟩ : ByteArray) y9 y10 (fun y18 y19 => if (y11 == 3) = true then (parse_reader_want_F n (⟨#[108, 105, 109, 105, 116]⟩ : ByteArray) y18 y19 (fun y20 y21 => parse_reader_now_F n y20 y21 (fun y22 y23 y24 => if (y22.1 == 2) = true then (parse_reader_now_F n y23 y24 (fun y25 y26 y27 => parse_reader_must_F n (y25.2.2.1.1 == 2) 7 y26 y27 (fun y28 y29 => parse_reader_step_F n y28 y29 (fun y30 y31 y32 => parse_reader_want_F n (⟨#[105, 102]⟩ : ByteArray) y31 y32 (fun y33 y34 => parse_reader_body_F n y33 y34 y11 y12 y13 y14 y30.2.2.1.2.2.1 y16 y17 (fun y35 y36 y37 y38 y39 y40 y41 y42 y43 => parse_reader_now_F n y35 y36 (fun y44 y45 y46 => parse_reader_must_F n (y44.1 == 4) 7 y45 y46 (fun y47 y48 => k (y37, y38, y42, y39, y40, y41, y43, ()) y47 y48)))))))) else (parse_reader_must_F n false 7 y23 y24 (fun y49 y50 => parse_reader_step_F n y49 y50 (fun y51 y52 y53 => parse_reader_want_F n (⟨#[105, 102]⟩ : ByteArray) y52 y53 (fun y54 y55 => parse_reader_body_F n y54 y55 y11 y12 y13 y14 y51.2.2.1.2.2.1 y16 y17 (fun y56 y57 y58 y59 y60 y61 y62 y63 y64 => parse_reader_now_F n y56 y57 (fun y65 y66 y67 => parse_reader_must_F n (y65.1 == 4) 7 y66 y67 (fun y68 y69 => k (y58, y59, y63, y60, y61, y62, y64, ()) y68 y69)))))))))) else (parse_reader_want_F n (⟨#[105, 102]⟩ : ByteArray) y18 y19 (fun y70 y71 => parse_reader_body_F n y70 y71 y11 y12 y13 y14 y15 y16 y17 (fun y72 y73 y74 y75 y76 y77 y78 y79 y80 => parse_reader_now_F n y72 y73 (fun y81 y82 y83 => parse_reader_must_F n (y81.1 == 4) 7 y82 y83 (fun y84 y85 => k (y74, y75, y79, y76, y77, y78, y80, ()) y84 y85)))))))))) =
      endS (endZ l (limZ l kind (rMust l rparB (rHd l kind s1).1))) (k (kind, (rName l s1).1, (rHd l kind s1).2.2.2, (rHd l kind s1).2.1, (rHd l kind s1).2.2.1, (rLim l kind (rMust l rparB (rHd l kind s1).1)).1, (rBody l (rMust l ifB (limZ l kind (rMust l rparB (rHd l kind s1).1)))).2, ()) l ((endZ l (limZ l kind (rMust l rparB (rHd l kind s1).1))).1 : Int)) := by
    have stay1 : s1.2.1 ≠ 0 → (rName l s1).2.2 = s1.2 := fun g => by rw [rName_st g]
    by_cases g1 : s1.2.1 = 0
    · have hkk := hko g1
      rw [endS_ok g1]
      refine (nameP_F n l ho s1 g1 h1 hn _).trans ?_
      rw [hd]
      have h2 := rName_lt (l := l) h1
      generalize rName l s1 = a at h2 ⊢
      obtain ⟨nm, s2⟩ := a
      simp only at h2 ⊢
      refine (endS_congr fun g2 => wantP_F n lparB l ho s2 g2 h2 _).trans ?_
      rw [endS_then (fun g => by rw [rMust_st g])]
      have h3 := rMust_lt (l := l) lparB h2
      generalize rMust l lparB s2 = s3 at h3 ⊢
      refine (endS_congr fun g3 => headP_F n l ho s3 g3 h3 hn kind hkk nm 0 (⟨#[]⟩ : ByteArray) 0 [] (by simp) [] _).trans ?_
      rw [endS_then (fun g => by rw [rHead_st g])]
      have h4 := (rHead_rng (l := l) kind s3 0 (⟨#[]⟩ : ByteArray) [] h3).1
      generalize rHead l kind s3 0 (⟨#[]⟩ : ByteArray) [] = H at h4 ⊢
      obtain ⟨s4, ag, of_, hdl⟩ := H
      simp only at h4 ⊢
      refine (endS_congr fun g4 => wantP_F n rparB l ho s4 g4 h4 _).trans ?_
      rw [endS_then (fun g => by rw [rMust_st g])]
      have h5 := rMust_lt (l := l) rparB h4
      generalize rMust l rparB s4 = s5 at h5 ⊢
      have h6 : (limZ l kind s5).1 < l.length := rLim_lt kind h5
      refine (endS_congr fun g5 => limP_F n l ho s5 g5 h5 hn kind (fun lim y31 y32 => parse_reader_want_F n (⟨#[105, 102]⟩ : ByteArray) y31 y32 (fun y70 y71 => parse_reader_body_F n y70 y71 kind nm ag of_ lim hdl [] (fun y72 y73 y74 y75 y76 y77 y78 y79 y80 => parse_reader_now_F n y72 y73 (fun y81 y82 y83 => parse_reader_must_F n (y81.1 == 4) 7 y82 y83 (fun y84 y85 => k (y74, y75, y79, y76, y77, y78, y80, ()) y84 y85)))))).trans ?_
      rw [endS_then (fun g => limZ_st g)]
      generalize limZ l kind s5 = s6 at h6 ⊢
      refine (endS_congr fun g6 => endP_F n l ho s6 g6 h6 hn kind nm ag of_ _ hdl k).trans ?_
      rw [endS_then (fun g => by rw [endZ_st g])]
    · have e1 : (rName l s1).2 = s1 := by rw [rName_st g1]
      have e2 : (rHd l kind s1).1 = s1 := by rw [hd, e1, rMust_st g1, rHead_st g1]
      have e3 : rMust l rparB (rHd l kind s1).1 = s1 := by rw [e2, rMust_st g1]
      rw [e3]
      have e4 : (limZ l kind s1).2 = s1.2 := limZ_st g1
      have g4 : (limZ l kind s1).2.1 ≠ 0 := by rw [e4]; exact g1
      rw [endZ_st g4, endS_bad g1, endS_bad g4, e4]
  refine key.trans ?_
  unfold endS
  rw [w1]
  by_cases hz : (endZ l (limZ l kind (rMust l rparB (rHd l kind s1).1))).2.1 = 0
  · rw [if_pos hz, if_pos hz, w3 hz]
  · rw [if_neg hz, if_neg hz, w2 hz]
end Go.Proofs.YtnnbinmomendnaaDoor.E
namespace Go.Proofs.YtnnbinmomendnaaDoor.E
open Go.RowKit
/-- a token that is not the end, and whose sign is none of letters -/
def TokG (t : ty52.D) : Prop := t.1 ≠ 4 ∧ (t.1 = 3 → letN (bt t.2.1 0) = false)
theorem bt_ext0 {s : ByteArray} {n : Nat} (hn : 0 < n) : bt (s.extract 0 n) 0 = bt s 0 := by
  unfold bt
  rw [ByteArray.data_extract, Array.toList_extract, List.getD_eq_getElem?_getD, List.getD_eq_getElem?_getD]
  simp [List.extract, List.getElem?_take, hn]
theorem oneS_tok {u : ByteArray} {t : ty52.D} (h : oneS u = some t) : TokG t := by
  unfold oneS at h
  have cs : ∀ n, constS u n = some t → TokG t := by
    intro n h
    unfold constS at h
    split at h
    · injection h with h; rw [← h]; exact ⟨by show (2 : Int) ≠ 4; decide, fun g => absurd (show (2 : Int) = 3 from g) (by decide)⟩
    · cases h
  split at h
  · split at h
    · injection h with h; rw [← h]; exact ⟨by show (2 : Int) ≠ 4; decide, fun g => absurd (show (2 : Int) = 3 from g) (by decide)⟩
    · injection h with h; rw [← h]; exact ⟨by show (1 : Int) ≠ 4; decide, fun g => absurd (show (1 : Int) = 3 from g) (by decide)⟩
  · rename_i hl
    split at h
    · split at h
      · cases h
      · exact cs _ h
    · split at h
      · split at h
        · exact cs _ h
        · cases h
      · split at h
        · rename_i hs
          injection h with h
          rw [← h]
          refine ⟨by show (3 : Int) ≠ 4; decide, fun _ => ?_⟩
          show letN (bt (u.extract 0 (signN u)) 0) = false
          rw [bt_ext0 hs]
          simpa using hl
        · cases h
theorem lexL_tok (s : ByteArray) : ∀ (f i : Nat) (l l' : Toks), (∀ t ∈ l, TokG t) → lexL s f i l = .inr l' → ∀ t ∈ l', TokG t
  | 0, i, l, l', hl, h => by injection h with h; rw [← h]; exact hl
  | f + 1, i, l, l', hl, h => by
    unfold lexL at h
    split at h
    · split at h
      · exact lexL_tok s f (i + 1) l l' hl h
      · split at h
        · cases h
        · rename_i t he
          refine lexL_tok s f (i + t.2.1.size) _ l' (fun u hu => ?_) h
          rcases List.mem_append.1 hu with hu | hu
          · exact hl u hu
          · rw [List.mem_singleton] at hu
            rw [hu]
            have g := oneS_tok he
            exact ⟨g.1, g.2⟩
    · injection h with h; rw [← h]; exact hl
theorem lexS_tok (s : ByteArray) (h : (lexS s).2.1 = 0) : TOk (lexS s).2.2 ∧ 0 < (lexS s).2.2.length := by
  obtain ⟨l, hl, hlen⟩ := lexS_rng s h
  have hg : ∀ t ∈ l, TokG t := by
    unfold lexS at hl h
    split at hl
    · rename_i h1
      rw [if_pos h1] at h
      exact absurd (show (9 : Int) = 0 from h) (by decide)
    · rename_i h1
      cases he : lexL s (s.size + 1) 0 [] with
      | inl j => rw [he] at hl; exact absurd (congrArg List.length (show ([] : Toks) = l ++ [endT s] from hl)) (by simp)
      | inr l2 =>
        rw [he] at hl
        have e : l2 = l := by
          have : l2 ++ [endT s] = l ++ [endT s] := hl
          exact (List.append_left_inj [endT s]).1 this
        rw [← e]
        exact lexL_tok s _ _ _ _ (fun t ht => by cases ht) he
  rw [hl]
  have hin : ∀ i, i < l.length → ∃ t ∈ l, tk (l ++ [endT s]) i = t := fun i hi => ⟨l[i], List.getElem_mem hi, by
    unfold tk
    rw [List.getD_eq_getElem?_getD, List.getElem?_append_left hi, List.getElem?_eq_getElem hi]
    rfl⟩
  have hend : tk (l ++ [endT s]) l.length = endT s := by
    unfold tk
    rw [List.getD_eq_getElem?_getD, List.getElem?_append_right (Nat.le_refl _)]
    simp
  refine ⟨⟨by simp; omega, fun i hi => ?_, fun i hi h3 => ?_⟩, by simp⟩
  · have hi2 : i < l.length + 1 := by simpa using hi
    by_cases he : i = l.length
    · rw [he, hend]
      exact ⟨fun _ => by simp, fun _ => rfl⟩
    · obtain ⟨t, ht, e⟩ := hin i (by omega)
      rw [e]
      exact ⟨fun g => absurd g (hg t ht).1, fun g => absurd g (by simp; omega)⟩
  · have hi2 : i < l.length + 1 := by simpa using hi
    by_cases he : i = l.length
    · rw [he, hend] at h3
      exact absurd (show (4 : Int) = 3 from h3) (by decide)
    · obtain ⟨t, ht, e⟩ := hin i (by omega)
      rw [e] at h3 ⊢
      exact (hg t ht).2 h3
end Go.Proofs.YtnnbinmomendnaaDoor.E
/-! parse.Rule: its deferred closure -/
namespace Go.Proofs.YtnnbinmomendnaaDoor
open Go.RowKit Go.Shelf
def wrongV (why at_ : Int) : Value := .iface 63 (.agg #[.int .i64 why, .int .i64 at_])
def rule0 : Array Value := #[.int .i64 0, .string ⟨#[]⟩, .slice none 0 0, .int .i64 0, .string ⟨#[]⟩, .int .i64 0, .slice none 0 0]
/-- what a walk leaves: but for three blocks all is as it was -/
structure But3 (W W' : World) (a b c : Nat) : Prop where
  os : W'.os = W.os
  tape : W'.tape = W.tape
  output : W'.output = W.output
  size : W.heap.size ≤ W'.heap.size
  old : ∀ k, k < W.heap.size → k ≠ a → k ≠ b → k ≠ c → W'.heap[k]? = W.heap[k]?
theorem blk_set {W : World} {B : Nat} {cs : Array Value} {t : TypeId} (i : Nat) (v : Value) (h : W.heap[B]? = some (.cells cs t (0, 0))) : (W.setCell ⟨B, i, none⟩ v).heap[B]? = some (.cells (cs.setIfInBounds i v) t (0, 0)) := by
  obtain ⟨hlt, hk⟩ := Array.getElem?_eq_some_iff.1 h
  show (W.heap.modify B _)[B]? = _
  rw [Array.getElem?_eq_getElem (by rw [Array.size_modify]; exact hlt), Array.getElem_modify_self, hk]
  rfl
/-- one cell that is written -/
structure OneSet (W W1 : World) (p : Nat) (cs : Array Value) (t : TypeId) : Prop where
  row : W1.heap[p]? = some (.cells cs t (0, 0))
  os : W1.os = W.os
  tape : W1.tape = W.tape
  output : W1.output = W.output
  size : W1.heap.size = W.heap.size
  old : ∀ k, k ≠ p → W1.heap[k]? = W.heap[k]?
theorem one_set {W W1 : World} {p : Nat} {i : Nat} {v : Value} {cs : Array Value} {t : TypeId} (e : W.setCell ⟨p, i, none⟩ v = W1) (h : W.heap[p]? = some (.cells cs t (0, 0))) : OneSet W W1 p (cs.setIfInBounds i v) t := by
  subst e
  exact ⟨blk_set i v h, rfl, rfl, rfl, by simp, fun k hk => Below.heap_setCell _ _ _ k hk⟩
theorem OneSet.trans {W W1 W2 : World} {p : Nat} {cs cs' : Array Value} {t t' : TypeId} (a : OneSet W W1 p cs t) (b : OneSet W1 W2 p cs' t') : OneSet W W2 p cs' t' :=
  ⟨b.row, b.os.trans a.os, b.tape.trans a.tape, b.output.trans a.output, b.size.trans a.size, fun k hk => (b.old k hk).trans (a.old k hk)⟩
set_option maxRecDepth 100000 in
set_option maxHeartbeats 2000000 in
theorem catch_panic (p2 p3 p4 : Nat) (x0 : Int) (x1 : ByteArray) (x2 : Value) (x3 : Int) (x4 : ByteArray) (x5 : Int) (x6 : Value) (v3 v4 why at_ : Int) (w : World) (h2 : w.heap[p2]? = some (.cells rule0 44 (0, 0))) (h3 : Boxed w p3 3 (.int .i64 v3)) (h4 : Boxed w p4 23 (.int .i64 v4)) (n23 : p2 ≠ p3) (n24 : p2 ≠ p4) (n34 : p3 ≠ p4) :
    CallsD Tryd.prog 24 #[.pointer (some ⟨p2, 0, none⟩), .pointer (some ⟨p3, 0, none⟩), .pointer (some ⟨p4, 0, none⟩)] (.panicking (E.pan1 (wrongV why at_))) w fun e u' w' =>
      e = .returned (.tuple #[]) ∧ u' = .panicking [{ v := wrongV why at_, recovered := true }] ∧ w'.heap[p2]? = some (.cells rule0 44 (0, 0)) ∧ Boxed w' p3 3 (.int .i64 at_) ∧ Boxed w' p4 23 (.int .i64 why) ∧ But3 w w' p2 p3 p4 := by
  have hta : ∀ (a b : Int) (w : World), (Instr.typeAssert (.iface 63 (.agg #[.int .i64 a, .int .i64 b])) 20 63 true).run Tryd.prog w = .ok (.tuple #[.agg #[.int .i64 a, .int .i64 b], .bool true]) w := by intros; kernel_rfl
  refine callsD_of_wpS Tryd.func24 rfl fun c₀ cs hu => ?_
  apply wpS_seq
  apply wpS_region
  simp [wpOpsS, go_sem, recoverD, hu, hta, E.pan1, wrongV, Tryd.ntmps24, Exit.thenS]
  apply wpS_seq
  apply wpS_region
  simp [wpOpsS, go_sem, Exit.thenS]
  refine wpS_cond (t := true) (by simp [Act.eval, Array.replicate]) ?_
  simp only [if_true]
  refine wpS_of_wp ?_
  simp only [Array.replicate_succ, Array.replicate_zero, List.push_toArray, List.append_toArray, List.nil_append, List.cons_append, List.setIfInBounds_toArray, List.set_cons_zero, List.set_cons_succ]
  have hlt2 := (Array.getElem?_eq_some_iff.1 h2).1
  have hlt3 := h3.lt
  have hlt4 := h4.lt
  obtain ⟨WA, hWA⟩ : ∃ WA, w.alloc (.cells #[.int .i64 why, .int .i64 at_] 63) = WA := ⟨_, rfl⟩
  have WS : WA.heap.size = w.heap.size + 1 := by rw [← hWA]; simp
  have WO : ∀ k, k < w.heap.size → WA.heap[k]? = w.heap[k]? := fun k hk => by rw [← hWA]; exact Below.heap_alloc _ _ _ hk
  have WM : WA.os = w.os ∧ WA.tape = w.tape ∧ WA.output = w.output := by rw [← hWA]; exact ⟨rfl, rfl, rfl⟩
  have W1 : WA.heap[p2]? = some (.cells rule0 44 (0, 0)) := (WO p2 hlt2).trans h2
  have W3 : Boxed WA p3 3 (.int .i64 v3) := (WO p3 hlt3).trans h3
  have W4 : Boxed WA p4 23 (.int .i64 v4) := (WO p4 hlt4).trans h4
  have W5 : WA.heap[w.heap.size]? = some (.cells #[.int .i64 why, .int .i64 at_] 63 (0, 0)) := by rw [← hWA]; exact World.alloc_heap_new w _
  have z0 : WA.cell? ⟨p2, 0, none⟩ = some (.int .i64 0) := by simp [World.cell?, W1, rule0]
  have y0 : WA.frozen? ⟨p2, 0, none⟩ = false := by simp [World.frozen?, W1]
  have z1 : WA.cell? ⟨p2, 1, none⟩ = some (.string ⟨#[]⟩) := by simp [World.cell?, W1, rule0]
  have y1 : WA.frozen? ⟨p2, 1, none⟩ = false := by simp [World.frozen?, W1]
  have z2 : WA.cell? ⟨p2, 2, none⟩ = some (.slice none 0 0) := by simp [World.cell?, W1, rule0]
  have y2 : WA.frozen? ⟨p2, 2, none⟩ = false := by simp [World.frozen?, W1]
  have z3 : WA.cell? ⟨p2, 3, none⟩ = some (.int .i64 0) := by simp [World.cell?, W1, rule0]
  have y3 : WA.frozen? ⟨p2, 3, none⟩ = false := by simp [World.frozen?, W1]
  have z4 : WA.cell? ⟨p2, 4, none⟩ = some (.string ⟨#[]⟩) := by simp [World.cell?, W1, rule0]
  have y4 : WA.frozen? ⟨p2, 4, none⟩ = false := by simp [World.frozen?, W1]
  have z5 : WA.cell? ⟨p2, 5, none⟩ = some (.int .i64 0) := by simp [World.cell?, W1, rule0]
  have y5 : WA.frozen? ⟨p2, 5, none⟩ = false := by simp [World.frozen?, W1]
  have z6 : WA.cell? ⟨p2, 6, none⟩ = some (.slice none 0 0) := by simp [World.cell?, W1, rule0]
  have y6 : WA.frozen? ⟨p2, 6, none⟩ = false := by simp [World.frozen?, W1]
  have q3 := W3.cell
  have f3 := W3.frozen
  have q4 := W4.cell
  have f4 := W4.frozen
  have u0 : WA.cell? ⟨w.heap.size, 0, none⟩ = some (.int .i64 why) := by simp [World.cell?, W5]
  have u1 : WA.cell? ⟨w.heap.size, 1, none⟩ = some (.int .i64 at_) := by simp [World.cell?, W5]
  have m2 : ¬ p2 = w.heap.size := by omega
  have m3 : ¬ p3 = w.heap.size := by omega
  have m4 : ¬ p4 = w.heap.size := by omega
  have n32 : ¬ p3 = p2 := fun e => n23 e.symm
  have n42 : ¬ p4 = p2 := fun e => n24 e.symm
  have n43 : ¬ p4 = p3 := fun e => n34 e.symm
  have m2' : ¬ w.heap.size = p2 := fun e => m2 e.symm
  have m3' : ¬ w.heap.size = p3 := fun e => m3 e.symm
  have m4' : ¬ w.heap.size = p4 := fun e => m4 e.symm
  rw [hWA]
  go_region
  obtain ⟨V0, hV0⟩ : ∃ V, WA.setCell ⟨p2, 0, none⟩ (.int .i64 0) = V := ⟨_, rfl⟩
  rw [hV0]
  have o0 := one_set hV0 W1
  clear hV0
  obtain ⟨V1, hV1⟩ : ∃ V, V0.setCell ⟨p2, 1, none⟩ (.string ⟨#[]⟩) = V := ⟨_, rfl⟩
  rw [hV1]
  have o1 := o0.trans (one_set hV1 o0.row)
  clear hV1
  obtain ⟨V2, hV2⟩ : ∃ V, V1.setCell ⟨p2, 2, none⟩ (.slice none 0 0) = V := ⟨_, rfl⟩
  rw [hV2]
  have o2 := o1.trans (one_set hV2 o1.row)
  clear hV2
  obtain ⟨V3, hV3⟩ : ∃ V, V2.setCell ⟨p2, 3, none⟩ (.int .i64 0) = V := ⟨_, rfl⟩
  rw [hV3]
  have o3 := o2.trans (one_set hV3 o2.row)
  clear hV3
  obtain ⟨V4, hV4⟩ : ∃ V, V3.setCell ⟨p2, 4, none⟩ (.string ⟨#[]⟩) = V := ⟨_, rfl⟩
  rw [hV4]
  have o4 := o3.trans (one_set hV4 o3.row)
  clear hV4
  obtain ⟨V5, hV5⟩ : ∃ V, V4.setCell ⟨p2, 5, none⟩ (.int .i64 0) = V := ⟨_, rfl⟩
  rw [hV5]
  have o5 := o4.trans (one_set hV5 o4.row)
  clear hV5
  obtain ⟨V6, hV6⟩ : ∃ V, V5.setCell ⟨p2, 6, none⟩ (.slice none 0 0) = V := ⟨_, rfl⟩
  rw [hV6]
  have o6 := o5.trans (one_set hV6 o5.row)
  clear hV6
  have o6r : V6.heap[p2]? = some (.cells rule0 44 (0, 0)) := o6.row
  have b3 : V6.heap[p3]? = some (.cells #[.int .i64 v3] 3 (0, 0)) := (o6.old p3 n32).trans W3
  have b4 : V6.heap[p4]? = some (.cells #[.int .i64 v4] 23 (0, 0)) := (o6.old p4 n42).trans W4
  obtain ⟨V7, hV7⟩ : ∃ V, V6.setCell ⟨p3, 0, none⟩ (.int .i64 at_) = V := ⟨_, rfl⟩
  rw [hV7]
  have o7 := one_set hV7 b3
  clear hV7
  obtain ⟨V8, hV8⟩ : ∃ V, V7.setCell ⟨p4, 0, none⟩ (.int .i64 why) = V := ⟨_, rfl⟩
  rw [hV8]
  have o8 := one_set hV8 ((o7.old p4 n43).trans b4)
  clear hV8
  have e2 : V8.heap[p2]? = some (.cells rule0 44 (0, 0)) := (o8.old p2 n24).trans ((o7.old p2 n23).trans o6r)
  have e3 : V8.heap[p3]? = some (.cells #[.int .i64 at_] 3 (0, 0)) := (o8.old p3 n34).trans o7.row
  have e4 : V8.heap[p4]? = some (.cells #[.int .i64 why] 23 (0, 0)) := o8.row
  have eb : But3 w V8.drew p2 p3 p4 := ⟨(o8.os.trans (o7.os.trans o6.os)).trans WM.1, (o8.tape.trans (o7.tape.trans o6.tape)).trans WM.2.1, (o8.output.trans (o7.output.trans o6.output)).trans WM.2.2,
    (by show w.heap.size ≤ V8.heap.size; rw [o8.size, o7.size, o6.size]; omega), fun k hk k2 k3 k4 => ((o8.old k k4).trans ((o7.old k k3).trans (o6.old k k2))).trans (WO k hk)⟩
  exact ⟨rfl, _, rfl, _, results_none rfl _ _ _, rfl, rfl, e2, e3, e4, eb⟩
set_option maxRecDepth 100000 in
set_option maxHeartbeats 2000000 in
theorem catch_idle (p2 p3 p4 : Nat) (w : World) :
    CallsD Tryd.prog 24 #[.pointer (some ⟨p2, 0, none⟩), .pointer (some ⟨p3, 0, none⟩), .pointer (some ⟨p4, 0, none⟩)] .returning w fun e u' w' =>
      e = .returned (.tuple #[]) ∧ u' = .returning ∧ w'.os = w.os ∧ w'.tape = w.tape ∧ w'.output = w.output ∧ w.heap.size ≤ w'.heap.size ∧ ∀ k, k < w.heap.size → w'.heap[k]? = w.heap[k]? := by
  have hta : ∀ (w : World), (Instr.typeAssert .nilIface 20 63 true).run Tryd.prog w = .ok (.tuple #[.agg #[.int .i64 0, .int .i64 0], .bool false]) w := by intros; kernel_rfl
  refine callsD_of_wpS Tryd.func24 rfl fun c₀ cs hu => ?_
  apply wpS_seq
  apply wpS_region
  simp [wpOpsS, go_sem, recoverD, hu, hta, Tryd.ntmps24, Exit.thenS]
  apply wpS_seq
  apply wpS_region
  simp [wpOpsS, go_sem, Exit.thenS]
  refine wpS_cond (t := false) (by simp [Act.eval, Array.replicate]) ?_
  simp only [Bool.false_eq_true, if_false]
  refine wpS_of_wp (wp_skip ?_)
  refine ⟨rfl, .returning, ?_, _, results_none rfl _ _ _, rfl, rfl, rfl, rfl, rfl, by simp, fun k hk => Below.heap_alloc _ _ _ hk⟩
  cases c₀
  simp_all
end Go.Proofs.YtnnbinmomendnaaDoor
/-! parse.Rule -/
namespace Go.Proofs.YtnnbinmomendnaaDoor
open Go.RowKit Go.Shelf
noncomputable def E.ruleD (s : ByteArray) : E.ty44.D := E.ruleT (E.rRule s)
theorem lex_vals {W : World} {F : Nat → Prop} {v : Value} {l : E.Toks} {a e : Int} (h : E.RepT W F [] v (.tu [.c (.fz E.ty36 l), .c (.i .i64 a), .c (.i .i64 e)])) : ∃ vl, v = .tuple #[vl, .int .i64 a, .int .i64 e] ∧ E.DRep W F (.sl E.ty36) l [vl] := by
  obtain ⟨vs, rfl, h⟩ := h
  obtain ⟨cl, hcl⟩ : ∃ cl, vs.toList = cl := ⟨_, rfl⟩
  rw [hcl] at h
  match cl, h with
  | [v1, v2, v3], ⟨h1, h2, h3, _⟩ =>
    refine ⟨v1, ?_, h1⟩
    have e2 : v2 = .int .i64 a := h2
    have e3 : v3 = .int .i64 e := h3
    subst e2 e3
    congr 1
    rw [← Array.toList_inj, hcl]
theorem rule_results {W : World} {tmps : Array Value} {p2 p3 p4 : Nat} {c0 c1 c2 c3 c4 c5 c6 x y : Value} (t2 : tmps.getD 2 undef = .pointer (some ⟨p2, 0, none⟩)) (t3 : tmps.getD 3 undef = .pointer (some ⟨p3, 0, none⟩)) (t4 : tmps.getD 4 undef = .pointer (some ⟨p4, 0, none⟩))
    (h2 : W.heap[p2]? = some (.cells #[c0, c1, c2, c3, c4, c5, c6] 44 (0, 0))) (h3 : Boxed W p3 3 x) (h4 : Boxed W p4 23 y) : (results Tryd.f19 tmps).run Tryd.prog W = .ok (.tuple #[.agg #[c0, c1, c2, c3, c4, c5, c6], x, y]) W := by
  have k0 : W.cell? ⟨p2, 0, none⟩ = some c0 := by simp [World.cell?, h2]
  have k1 : W.cell? ⟨p2, 1, none⟩ = some c1 := by simp [World.cell?, h2]
  have k2 : W.cell? ⟨p2, 2, none⟩ = some c2 := by simp [World.cell?, h2]
  have k3 : W.cell? ⟨p2, 3, none⟩ = some c3 := by simp [World.cell?, h2]
  have k4 : W.cell? ⟨p2, 4, none⟩ = some c4 := by simp [World.cell?, h2]
  have k5 : W.cell? ⟨p2, 5, none⟩ = some c5 := by simp [World.cell?, h2]
  have k6 : W.cell? ⟨p2, 6, none⟩ = some c6 := by simp [World.cell?, h2]
  have hr : Tryd.f19.results = #[.cell 2 44, .cell 3 3, .cell 4 23] := rfl
  have q3 := h3.cell
  have q4 := h4.cell
  simp only [results, hr, Array.getD_eq_getD_getElem?] at *
  simp [go_sem, t2, t3, t4, k0, k1, k2, k3, k4, k5, k6, q3, q4]
/-- what the walk is asked for at its end -/
def RuleEnd (s : ByteArray) (w : World) : Ending → World → Prop := fun e w' => ∃ v, e = .returned v ∧ E.RepT w' (fun b => (w.heap.size ≤ b ∨ b ∈ E.layG) ∧ b < w'.heap.size) [] v (.tu [E.encA E.ty44 (E.ruleD s), .c (.i .i64 (E.rRule s).2.2.2.2.2.1), .c (.i .i64 (E.rRule s).2.2.2.2.2.2.1)]) ∧ Below w.heap.size w w'
theorem rule_end {s : ByteArray} {w W : World} {tmps : Array Value} {p2 p3 p4 : Nat} {c0 c1 c2 c3 c4 c5 c6 : Value} {x y : Int} (t2 : tmps.getD 2 undef = .pointer (some ⟨p2, 0, none⟩)) (t3 : tmps.getD 3 undef = .pointer (some ⟨p3, 0, none⟩)) (t4 : tmps.getD 4 undef = .pointer (some ⟨p4, 0, none⟩))
    (h2 : W.heap[p2]? = some (.cells #[c0, c1, c2, c3, c4, c5, c6] 44 (0, 0))) (h3 : Boxed W p3 3 (.int .i64 x)) (h4 : Boxed W p4 23 (.int .i64 y)) (hB : Below w.heap.size w W)
    (hr : E.RepT W (fun b => (w.heap.size ≤ b ∨ b ∈ E.layG) ∧ b < W.heap.size) [] (.agg #[c0, c1, c2, c3, c4, c5, c6]) (.a (E.encA E.ty44 (E.ruleD s)))) (hx : x = (E.rRule s).2.2.2.2.2.1) (hy : y = (E.rRule s).2.2.2.2.2.2.1) :
    Leaves Tryd.prog Tryd.f19 tmps (RuleEnd s w) [] .returning W :=
  ⟨_, rule_results t2 t3 t4 h2 h3 h4, _, rfl, ⟨_, rfl, hr, by rw [← hx]; rfl, by rw [← hy]; rfl, trivial⟩, hB⟩
/-- a rule as it comes back -/
theorem rule_vals {W : World} {F : Nat → Prop} {hv : List Value} {v : Value} {r : E.ty44.D} (h : E.RepT W F hv v (.a (E.encA E.ty44 r))) : ∃ a2 n2 k2 a6 n6 k6, v = .agg #[.int .i64 r.1, .string r.2.1, .slice a2 n2 k2, .int .i64 r.2.2.2.1, .string r.2.2.2.2.1, .int .i64 r.2.2.2.2.2.1, .slice a6 n6 k6] ∧
    E.DRep W F (.sl .str) r.2.2.1 [.slice a2 n2 k2] ∧ E.DRep W F (.sl E.ty61) r.2.2.2.2.2.2.1 [.slice a6 n6 k6] := by
  obtain ⟨cs, rfl, h⟩ := h
  obtain ⟨cl, hcl⟩ : ∃ cl, cs.toList = cl := ⟨_, rfl⟩
  rw [hcl] at h
  match cl, h with
  | [v0, v1, v2, v3, v4, v5, v6], ⟨h0, h1, h2, h3, h4, h5, h6, _⟩ =>
    obtain ⟨a2, k2, e2, _⟩ := id (show E.DRep W F (.sl .str) r.2.2.1 [v2] from h2)
    obtain ⟨a6, k6, e6, _⟩ := id (show E.DRep W F (.sl E.ty61) r.2.2.2.2.2.2.1 [v6] from h6)
    injection e2 with e2
    injection e6 with e6
    subst e2 e6
    refine ⟨a2, _, k2, a6, _, k6, ?_, h2, h6⟩
    have g0 : v0 = .int .i64 r.1 := h0
    have g1 : v1 = .string r.2.1 := h1
    have g3 : v3 = .int .i64 r.2.2.2.1 := h3
    have g4 : v4 = .string r.2.2.2.2.1 := h4
    have g5 : v5 = .int .i64 r.2.2.2.2.2.1 := h5
    subst g0 g1 g3 g4 g5
    congr 1
    rw [← Array.toList_inj, hcl]
theorem ruleG (n : Nat) (l : E.Toks) (k : E.T → List E.Blk → Option E.Fate) : E.parse_reader_rule_g n [.c (.pt 0 0)] [.box true 67 [.fz E.ty36 l, .i .i64 0]] k = E.parse_reader_rule_F n l 0 (fun y0 y1 y2 => k (.a (E.encA E.ty44 y0)) [.box true 67 [.fz E.ty36 y1, .i .i64 y2]]) := rfl
theorem ruleR (l : E.Toks) (ho : E.TOk l) (h0 : 0 < l.length) : ∃ p : Nat, E.parse_reader_rule_g 3000 [.c (.pt 0 0)] [.box true 67 [.fz E.ty36 l, .i .i64 0]] (fun x HN => some (E.Fate.ok x HN)) =
    some (if (E.rTok l).2.2.2.2.2.2.1 = 0 then E.Fate.ok (.a (E.encA E.ty44 (E.ruleT (E.rTok l)))) [.box true 67 [.fz E.ty36 l, .i .i64 (p : Int)]] else E.Fate.pan (wrongV (E.rTok l).2.2.2.2.2.2.1 (E.rTok l).2.2.2.2.2.1)) := by
  obtain ⟨n, hn, hn2⟩ : ∃ n : Nat, 500 < n ∧ n = 3000 := ⟨3000, by omega, rfl⟩
  rw [← hn2]
  obtain ⟨p, hp⟩ := E.ruleP_F (R := E.Fate) n l ho h0 hn (fun y0 y1 y2 => some (E.Fate.ok (.a (E.encA E.ty44 y0)) [.box true 67 [.fz E.ty36 y1, .i .i64 y2]]))
  refine ⟨p, (ruleG n l _).trans (hp.trans ?_)⟩
  split <;> rfl
theorem tok_bad {l : E.Toks} (h : (E.rTok l).2.2.2.2.2.2.1 ≠ 0) : E.rTok l = E.rErr (E.rTok l).2.2.2.2.2.1 (E.rTok l).2.2.2.2.2.2.1 := by
  unfold E.rTok E.rRest E.rEnd at h ⊢
  split at h
  · rename_i hc
    rw [if_pos hc]
    rfl
  · exact absurd rfl h
theorem tok_good {l : E.Toks} (h : (E.rTok l).2.2.2.2.2.2.1 = 0) : (E.rTok l).2.2.2.2.2.1 = 0 := by
  unfold E.rTok E.rRest E.rEnd at h ⊢
  split at h
  · rename_i hc
    exact absurd h hc
  · rename_i hc
    rw [if_neg hc]
/-- no rule -/
theorem rule0_rep (W : World) (F : Nat → Prop) : E.RepT W F [] (.agg #[.int .i64 0, .string ⟨#[]⟩, .slice none 0 0, .int .i64 0, .string ⟨#[]⟩, .int .i64 0, .slice none 0 0]) (.a (E.encA E.ty44 ((0 : Int), (⟨#[]⟩ : ByteArray), ([] : List ByteArray), (0 : Int), (⟨#[]⟩ : ByteArray), (0 : Int), ([] : List E.ty61.D), ()))) :=
  ⟨_, rfl, rfl, rfl, ⟨none, 0, rfl, ⟨Nat.le_refl _, fun _ => rfl⟩, fun i hi => by simp at hi⟩, rfl, rfl, rfl, ⟨none, 0, rfl, ⟨Nat.le_refl _, fun _ => rfl⟩, fun i hi => by simp at hi⟩, trivial⟩
set_option maxRecDepth 100000 in
set_option maxHeartbeats 4000000 in
theorem E.rule_back (s : ByteArray) (w : World) (hc : E.LayC w) (hl : ∀ g ∈ E.layG, g < w.heap.size) (_ : True) : E.Back Tryd.prog 19 #[E.valD .str s] w (.tu [E.encA E.ty44 (E.ruleD s), .c (.i .i64 (E.rRule s).2.2.2.2.2.1), .c (.i .i64 (E.rRule s).2.2.2.2.2.2.1)]) := by
  have hmf : ∀ (fn : Fn) (first cap : Array Value) (w : World), (Instr.makeFunc fn first cap).run Tryd.prog w = .ok (.func fn first cap) w := fun _ _ _ _ => rfl
  show Calls _ _ #[.string s] w (RuleEnd s w)
  go_enter_defers Tryd.func19, Tryd.ntmps19
  go_wp2_with fail
  obtain ⟨W0, hW0⟩ : ∃ W0, ((w.alloc (.cells #[.int .i64 0, .string ⟨#[]⟩, .slice none 0 0, .int .i64 0, .string ⟨#[]⟩, .int .i64 0, .slice none 0 0] 44)).alloc (.cells #[.int .i64 0] 3)).alloc (.cells #[.int .i64 0] 23) = W0 := ⟨_, rfl⟩
  have S0 : W0.heap.size = w.heap.size + 3 := by rw [← hW0]; simp
  have B0 : Below w.heap.size w W0 := by
    rw [← hW0]
    exact (((Below.refl _ w).alloc (Nat.le_refl _) _).alloc (by simp) _).alloc (by simp; omega) _
  have a2 : W0.heap[w.heap.size]? = some (.cells #[.int .i64 0, .string ⟨#[]⟩, .slice none 0 0, .int .i64 0, .string ⟨#[]⟩, .int .i64 0, .slice none 0 0] 44 (0, 0)) := by
    rw [← hW0]
    exact (Below.heap_alloc _ _ _ (by simp; omega)).trans ((Below.heap_alloc _ _ _ (by simp)).trans (World.alloc_heap_new w _))
  have a3 : Boxed W0 (w.heap.size + 1) 3 (.int .i64 0) := by
    rw [← hW0]
    have := Boxed.new (w.alloc (.cells #[.int .i64 0, .string ⟨#[]⟩, .slice none 0 0, .int .i64 0, .string ⟨#[]⟩, .int .i64 0, .slice none 0 0] 44)) 3 (.int .i64 0)
    rw [World.size_alloc] at this
    exact this.alloc _
  have a4 : Boxed W0 (w.heap.size + 1 + 1) 23 (.int .i64 0) := by
    rw [← hW0]
    have := Boxed.new ((w.alloc (.cells #[.int .i64 0, .string ⟨#[]⟩, .slice none 0 0, .int .i64 0, .string ⟨#[]⟩, .int .i64 0, .slice none 0 0] 44)).alloc (.cells #[.int .i64 0] 3)) 23 (.int .i64 0)
    rw [World.size_alloc, World.size_alloc] at this
    exact this
  rw [hW0]
  clear hW0
  have hc0 : E.LayC W0 := E.LayC.same (fun g hg => B0.block g (hl g hg)) hc
  have hl0 : ∀ g ∈ E.layG, g < W0.heap.size := fun g hg => by have := hl g hg; omega
  refine (E.lex_back s W0 hc0 hl0 trivial).mono ?_
  rintro e W1 ⟨v, rfl, hv, B1⟩
  obtain ⟨vl, rfl, hd⟩ := lex_vals hv
  obtain ⟨ad, cap, hvl, hle, hrows⟩ := id hd
  injection hvl with hvl
  subst hvl
  have S1 := B1.size
  have b2 : W1.heap[w.heap.size]? = some (.cells #[.int .i64 0, .string ⟨#[]⟩, .slice none 0 0, .int .i64 0, .string ⟨#[]⟩, .int .i64 0, .slice none 0 0] 44 (0, 0)) := (B1.block _ (by omega)).trans a2
  have b3 : Boxed W1 (w.heap.size + 1) 3 (.int .i64 0) := (B1.block _ (by omega)).trans a3
  have b4 : Boxed W1 (w.heap.size + 1 + 1) 23 (.int .i64 0) := (B1.block _ (by omega)).trans a4
  have b3c := b3.cell
  have b3f := b3.frozen
  have b4c := b4.cell
  have b4f := b4.frozen
  by_cases he : (E.lexS s).2.1 = 0
  · rw [he]
    obtain ⟨hto, hlen⟩ := E.lexS_tok s he
    have hrr : E.rRule s = E.rTok (E.lexS s).2.2 := by unfold E.rRule; rw [if_neg (fun g => g he)]
    generalize (E.lexS s).2.2 = toks at hd hle hrows hto hlen hrr ⊢
    generalize (E.lexS s).1 = pl at hv ⊢
    go_wp2_with fail
    obtain ⟨V1, hV1⟩ : ∃ V, W1.setCell ⟨w.heap.size + 1, 0, none⟩ (.int .i64 pl) = V := ⟨_, rfl⟩
    rw [hV1]
    have o1 := one_set hV1 b3
    obtain ⟨V2, hV2⟩ : ∃ V, V1.setCell ⟨w.heap.size + 1 + 1, 0, none⟩ (.int .i64 0) = V := ⟨_, rfl⟩
    rw [hV2]
    have n23 : ¬ w.heap.size = w.heap.size + 1 := by omega
    have n24 : ¬ w.heap.size = w.heap.size + 1 + 1 := by omega
    have n34 : ¬ w.heap.size + 1 = w.heap.size + 1 + 1 := by omega
    have n32 : ¬ w.heap.size + 1 = w.heap.size := by omega
    have n42 : ¬ w.heap.size + 1 + 1 = w.heap.size := by omega
    have n43 : ¬ w.heap.size + 1 + 1 = w.heap.size + 1 := by omega
    have o2 := one_set hV2 ((o1.old _ n43).trans b4)
    clear hV1 hV2
    have hsz2 : V2.heap.size = W1.heap.size := by rw [o2.size, o1.size]
    obtain ⟨W3, hW3⟩ : ∃ W3, V2.alloc (.cells #[.slice ad toks.length cap, .int .i64 0] 67) = W3 := ⟨_, rfl⟩
    rw [hW3]
    have S3 : W3.heap.size = W1.heap.size + 1 := by rw [← hW3]; simp [hsz2]
    have O3 : ∀ k, k < W1.heap.size → k ≠ w.heap.size + 1 → k ≠ w.heap.size + 1 + 1 → W3.heap[k]? = W1.heap[k]? := fun k hk k3 k4 => by
      rw [← hW3, Below.heap_alloc _ _ _ (by omega), o2.old k k4, o1.old k k3]
    have M3 : W3.os = w.os ∧ W3.tape = w.tape ∧ W3.output = w.output := by
      rw [← hW3]
      exact ⟨(o2.os.trans o1.os).trans (B1.os.trans B0.os), (o2.tape.trans o1.tape).trans (B1.tape.trans B0.tape), (o2.output.trans o1.output).trans (B1.output.trans B0.output)⟩
    have r5 : W3.heap[W1.heap.size]? = some (.cells #[.slice ad toks.length cap, .int .i64 0] 67 (0, 0)) := by
      have := World.alloc_heap_new V2 (.cells #[.slice ad toks.length cap, .int .i64 0] 67)
      rw [hsz2] at this
      rw [← hW3]
      exact this
    have d2 : W3.heap[w.heap.size]? = some (.cells #[.int .i64 0, .string ⟨#[]⟩, .slice none 0 0, .int .i64 0, .string ⟨#[]⟩, .int .i64 0, .slice none 0 0] 44 (0, 0)) := (O3 _ (by omega) n23 n24).trans b2
    have d3 : Boxed W3 (w.heap.size + 1) 3 (.int .i64 pl) := by
      show W3.heap[_]? = _
      rw [← hW3, Below.heap_alloc _ _ _ (by omega)]
      exact (o2.old _ n34).trans o1.row
    have d4 : Boxed W3 (w.heap.size + 1 + 1) 23 (.int .i64 0) := by
      show W3.heap[_]? = _
      rw [← hW3, Below.heap_alloc _ _ _ (by omega)]
      exact o2.row
    clear hW3
    have hF : ∀ k, ((W0.heap.size ≤ k ∨ k ∈ E.layG) ∧ k < W1.heap.size) → k < W1.heap.size ∧ k ≠ w.heap.size ∧ k ≠ w.heap.size + 1 ∧ k ≠ w.heap.size + 1 + 1 := fun k hk => by
      rcases hk.1 with h | h
      · exact ⟨hk.2, by omega, by omega, by omega⟩
      · have := hl k h; exact ⟨hk.2, by omega, by omega, by omega⟩
    have hold : E.Holds1 W3 (fun k => (W0.heap.size ≤ k ∨ k ∈ E.layG) ∧ k < W1.heap.size) W1.heap.size 67 [.fz E.ty36 toks, .i .i64 0] :=
      ⟨⟨_, r5, E.DRep.mono (t := .sl E.ty36) (fun _ h => h) (fun k hk => O3 k (hF k hk).1 (hF k hk).2.2.1 (hF k hk).2.2.2) hd, rfl, trivial⟩⟩
    have hlay3 : E.LayC W3 := E.LayC.same (fun g hg => by have := hl g hg; exact (O3 g (by omega) (by omega) (by omega)).trans ((B1.block g (by omega)).trans (B0.block g (by omega)))) hc
    obtain ⟨p, hp⟩ := ruleR toks hto hlen
    refine (E.Good.callsP (E.parse_reader_rule_ok 3000) Tryd.func25 (by kernel_rfl) rfl hold (fun k hk => by have := hk.2; omega) (fun h => Nat.lt_irrefl _ h.2) hlay3 (fun g hg => ⟨.inr hg, by have := hl g hg; omega⟩) (args := [.c (.pt 0 0)]) (vs := [.pointer (some ⟨W1.heap.size, 0, none⟩)]) ⟨⟨_, rfl, rfl⟩, trivial⟩ hp).mono ?_
    rintro e W4 (⟨x, HN, v, F', hvN, hr, rfl, iN, hx⟩ | ⟨pv, hr, rfl, hfr⟩)
    · by_cases hwhy : (E.rTok toks).2.2.2.2.2.2.1 = 0
      · rw [if_pos hwhy] at hr
        injection hr with hr1 hr2
        subst hr1 hr2
        obtain ⟨a2, m2, k2, a6, m6, k6, rfl, hd2, hd6⟩ := rule_vals hx
        have O4 : ∀ k, k < W3.heap.size → k ≠ W1.heap.size → W4.heap[k]? = W3.heap[k]? := fun k hk hne => iN.old k hk (fun hu => hne (E.only1 hu))
        have S4 := iN.size
        have g2 : W4.heap[w.heap.size]? = some (.cells #[.int .i64 0, .string ⟨#[]⟩, .slice none 0 0, .int .i64 0, .string ⟨#[]⟩, .int .i64 0, .slice none 0 0] 44 (0, 0)) := (O4 _ (by omega) (by omega)).trans d2
        have g3 : Boxed W4 (w.heap.size + 1) 3 (.int .i64 pl) := (O4 _ (by omega) (by omega)).trans d3
        have g4 : Boxed W4 (w.heap.size + 1 + 1) 23 (.int .i64 0) := (O4 _ (by omega) (by omega)).trans d4
        have g3c := g3.cell
        have g3f := g3.frozen
        have g4c := g4.cell
        have g4f := g4.frozen
        have hz0 : W4.cell? ⟨w.heap.size, 0, none⟩ = some (.int .i64 0) := by simp [World.cell?, g2]
        have hy0 : W4.frozen? ⟨w.heap.size, 0, none⟩ = false := by simp [World.frozen?, g2]
        have hz1 : W4.cell? ⟨w.heap.size, 1, none⟩ = some (.string ⟨#[]⟩) := by simp [World.cell?, g2]
        have hy1 : W4.frozen? ⟨w.heap.size, 1, none⟩ = false := by simp [World.frozen?, g2]
        have hz2 : W4.cell? ⟨w.heap.size, 2, none⟩ = some (.slice none 0 0) := by simp [World.cell?, g2]
        have hy2 : W4.frozen? ⟨w.heap.size, 2, none⟩ = false := by simp [World.frozen?, g2]
        have hz3 : W4.cell? ⟨w.heap.size, 3, none⟩ = some (.int .i64 0) := by simp [World.cell?, g2]
        have hy3 : W4.frozen? ⟨w.heap.size, 3, none⟩ = false := by simp [World.frozen?, g2]
        have hz4 : W4.cell? ⟨w.heap.size, 4, none⟩ = some (.string ⟨#[]⟩) := by simp [World.cell?, g2]
        have hy4 : W4.frozen? ⟨w.heap.size, 4, none⟩ = false := by simp [World.frozen?, g2]
        have hz5 : W4.cell? ⟨w.heap.size, 5, none⟩ = some (.int .i64 0) := by simp [World.cell?, g2]
        have hy5 : W4.frozen? ⟨w.heap.size, 5, none⟩ = false := by simp [World.frozen?, g2]
        have hz6 : W4.cell? ⟨w.heap.size, 6, none⟩ = some (.slice none 0 0) := by simp [World.cell?, g2]
        have hy6 : W4.frozen? ⟨w.heap.size, 6, none⟩ = false := by simp [World.frozen?, g2]
        go_wp2
        obtain ⟨X0, hX0⟩ : ∃ V, W4.setCell ⟨w.heap.size, 0, none⟩ (.int .i64 (E.ruleT (E.rTok toks)).1) = V := ⟨_, rfl⟩
        rw [hX0]
        have x0 := one_set hX0 g2
        clear hX0
        obtain ⟨X1, hX1⟩ : ∃ V, X0.setCell ⟨w.heap.size, 1, none⟩ (.string (E.ruleT (E.rTok toks)).2.1) = V := ⟨_, rfl⟩
        rw [hX1]
        have x1 := x0.trans (one_set hX1 x0.row)
        clear hX1
        obtain ⟨X2, hX2⟩ : ∃ V, X1.setCell ⟨w.heap.size, 2, none⟩ (.slice a2 m2 k2) = V := ⟨_, rfl⟩
        rw [hX2]
        have x2 := x1.trans (one_set hX2 x1.row)
        clear hX2
        obtain ⟨X3, hX3⟩ : ∃ V, X2.setCell ⟨w.heap.size, 3, none⟩ (.int .i64 (E.ruleT (E.rTok toks)).2.2.2.1) = V := ⟨_, rfl⟩
        rw [hX3]
        have x3 := x2.trans (one_set hX3 x2.row)
        clear hX3
        obtain ⟨X4, hX4⟩ : ∃ V, X3.setCell ⟨w.heap.size, 4, none⟩ (.string (E.ruleT (E.rTok toks)).2.2.2.2.1) = V := ⟨_, rfl⟩
        rw [hX4]
        have x4 := x3.trans (one_set hX4 x3.row)
        clear hX4
        obtain ⟨X5, hX5⟩ : ∃ V, X4.setCell ⟨w.heap.size, 5, none⟩ (.int .i64 (E.ruleT (E.rTok toks)).2.2.2.2.2.1) = V := ⟨_, rfl⟩
        rw [hX5]
        have x5 := x4.trans (one_set hX5 x4.row)
        clear hX5
        obtain ⟨X6, hX6⟩ : ∃ V, X5.setCell ⟨w.heap.size, 6, none⟩ (.slice a6 m6 k6) = V := ⟨_, rfl⟩
        rw [hX6]
        have x6 := x5.trans (one_set hX6 x5.row)
        clear hX6
        obtain ⟨X7, hX7⟩ : ∃ V, X6.setCell ⟨w.heap.size + 1, 0, none⟩ (.int .i64 0) = V := ⟨_, rfl⟩
        rw [hX7]
        have x7 := one_set hX7 ((x6.old _ n32).trans g3)
        clear hX7
        obtain ⟨X8, hX8⟩ : ∃ V, X7.setCell ⟨w.heap.size + 1 + 1, 0, none⟩ (.int .i64 0) = V := ⟨_, rfl⟩
        rw [hX8]
        have x8 := one_set hX8 ((x7.old _ n43).trans ((x6.old _ n42).trans g4))
        clear hX8
        have e2 : X8.heap[w.heap.size]? = some (.cells #[.int .i64 (E.ruleT (E.rTok toks)).1, .string (E.ruleT (E.rTok toks)).2.1, .slice a2 m2 k2, .int .i64 (E.ruleT (E.rTok toks)).2.2.2.1, .string (E.ruleT (E.rTok toks)).2.2.2.2.1, .int .i64 (E.ruleT (E.rTok toks)).2.2.2.2.2.1, .slice a6 m6 k6] 44 (0, 0)) := (x8.old _ n24).trans ((x7.old _ n23).trans x6.row)
        have e3 : X8.heap[w.heap.size + 1]? = some (.cells #[.int .i64 0] 3 (0, 0)) := (x8.old _ n34).trans x7.row
        have e4 : X8.heap[w.heap.size + 1 + 1]? = some (.cells #[.int .i64 0] 23 (0, 0)) := x8.row
        have hsz : X8.heap.size = W4.heap.size := by rw [x8.size, x7.size, x6.size]
        have eX : ∀ k, k ≠ w.heap.size → k ≠ w.heap.size + 1 → k ≠ w.heap.size + 1 + 1 → X8.heap[k]? = W4.heap[k]? := fun k k2 k3 k4 => by rw [x8.old k k4, x7.old k k3, x6.old k k2]
        have eM : X8.os = w.os ∧ X8.tape = w.tape ∧ X8.output = w.output := ⟨(x8.os.trans (x7.os.trans x6.os)).trans (iN.os.trans M3.1), (x8.tape.trans (x7.tape.trans x6.tape)).trans (iN.tape.trans M3.2.1), (x8.output.trans (x7.output.trans x6.output)).trans (iN.output.trans M3.2.2)⟩
        refine leaves_cons (f := 24) (args := #[.pointer (some ⟨w.heap.size, 0, none⟩), .pointer (some ⟨w.heap.size + 1, 0, none⟩), .pointer (some ⟨w.heap.size + 1 + 1, 0, none⟩)]) (by simp) (by simp [go_sem]) ?_
        refine (catch_idle w.heap.size (w.heap.size + 1) (w.heap.size + 1 + 1) X8).mono ?_
        rintro e u' W5 ⟨rfl, rfl, i1, i2, i3, i4, i5⟩
        show Leaves _ _ _ (RuleEnd s w) [] .returning _
        have eB : Below w.heap.size w W5 := ⟨i1.trans eM.1, i2.trans eM.2.1, i3.trans eM.2.2, by omega, fun k hk => by
          rw [i5 k (by omega), eX k (by omega) (by omega) (by omega), O4 k (by omega) (by omega), O3 k (by omega) (by omega) (by omega), B1.block k (by omega), B0.block k hk]⟩
        refine rule_end rfl rfl rfl ((i5 _ (by omega)).trans e2) ((i5 _ (by omega)).trans e3) ((i5 _ (by omega)).trans e4) eB ?_ (by rw [hrr]; exact (tok_good hwhy).symm) (by rw [hrr]; exact hwhy.symm)
        have hD : E.ruleD s = E.ruleT (E.rTok toks) := by unfold E.ruleD; rw [hrr]
        rw [hD]
        have hfr : ∀ k, F' k → (w.heap.size ≤ k ∨ k ∈ E.layG) ∧ k ≠ w.heap.size ∧ k ≠ w.heap.size + 1 ∧ k ≠ w.heap.size + 1 + 1 := fun k hk => by
          rcases iN.f1 k hk with h | h | h
          · have h' : (W0.heap.size ≤ k ∨ k ∈ E.layG) ∧ k < W1.heap.size := h
            have := hF k h'
            exact ⟨h'.1.imp (fun h => by omega) id, this.2⟩
          · exact ⟨.inl (by omega), by omega, by omega, by omega⟩
          · have := E.only1 h
            exact ⟨.inl (by omega), by omega, by omega, by omega⟩
        have up : ∀ {t : E.Ty} {x : t.D} {cs : List Value}, E.DRep W4 F' t x cs → E.DRep W5 (fun b => (w.heap.size ≤ b ∨ b ∈ E.layG) ∧ b < W5.heap.size) t x cs := fun h =>
          E.DRep.mono (fun k hk => ⟨(hfr k hk).1, by have := iN.fb k hk; omega⟩) (fun k hk => by have h1 := hfr k hk; have := iN.fb k hk; rw [i5 k (by omega), eX k h1.2.1 h1.2.2.1 h1.2.2.2]) h
        exact ⟨_, rfl, rfl, rfl, up hd2, rfl, rfl, rfl, up hd6, trivial⟩
      · rw [if_neg hwhy] at hr
        cases hr
    · by_cases hwhy : (E.rTok toks).2.2.2.2.2.2.1 = 0
      · rw [if_pos hwhy] at hr
        cases hr
      · rw [if_neg hwhy] at hr
        injection hr with hr1
        subst hr1
        have O4 : ∀ k, k < W3.heap.size → k ≠ W1.heap.size → W4.heap[k]? = W3.heap[k]? := fun k hk hne => hfr.old k hk (fun hu => hne (E.only1 hu))
        have S4 := hfr.size
        have g2 : W4.heap[w.heap.size]? = some (.cells #[.int .i64 0, .string ⟨#[]⟩, .slice none 0 0, .int .i64 0, .string ⟨#[]⟩, .int .i64 0, .slice none 0 0] 44 (0, 0)) := (O4 _ (by omega) (by omega)).trans d2
        have g3 : Boxed W4 (w.heap.size + 1) 3 (.int .i64 pl) := (O4 _ (by omega) (by omega)).trans d3
        have g4 : Boxed W4 (w.heap.size + 1 + 1) 23 (.int .i64 0) := (O4 _ (by omega) (by omega)).trans d4
        refine leaves_cons (f := 24) (args := #[.pointer (some ⟨w.heap.size, 0, none⟩), .pointer (some ⟨w.heap.size + 1, 0, none⟩), .pointer (some ⟨w.heap.size + 1 + 1, 0, none⟩)]) (by simp) (by simp [go_sem]) ?_
        refine (catch_panic w.heap.size (w.heap.size + 1) (w.heap.size + 1 + 1) 0 ⟨#[]⟩ .nilIface 0 ⟨#[]⟩ 0 .nilIface pl 0 (E.rTok toks).2.2.2.2.2.2.1 (E.rTok toks).2.2.2.2.2.1 W4 g2 g3 g4 n23 n24 n34).mono ?_
        rintro e u' W5 ⟨rfl, rfl, e2, e3, e4, eb⟩
        show Leaves _ _ _ (RuleEnd s w) [] .returning _
        have hbad := tok_bad hwhy
        have eB : Below w.heap.size w W5 := ⟨eb.os.trans (hfr.os.trans M3.1), eb.tape.trans (hfr.tape.trans M3.2.1), eb.output.trans (hfr.output.trans M3.2.2), by have := eb.size; omega, fun k hk => by
          rw [eb.old k (by omega) (by omega) (by omega) (by omega), O4 k (by omega) (by omega), O3 k (by omega) (by omega) (by omega), B1.block k (by omega), B0.block k hk]⟩
        refine rule_end rfl rfl rfl e2 e3 e4 eB ?_ (by rw [hrr]) (by rw [hrr])
        have hz : E.ruleD s = ((0 : Int), (⟨#[]⟩ : ByteArray), ([] : List ByteArray), (0 : Int), (⟨#[]⟩ : ByteArray), (0 : Int), ([] : List E.ty61.D), ()) := by unfold E.ruleD; rw [hrr, hbad]; rfl
        rw [hz]
        exact rule0_rep _ _
  · have he' : ¬ (E.lexS s).2.1 = 0 := he
    have hrr : E.rRule s = E.rErr (E.lexS s).1 (E.lexS s).2.1 := by unfold E.rRule; rw [if_pos he]
    have gz0 : W1.cell? ⟨w.heap.size, 0, none⟩ = some (.int .i64 0) := by simp [World.cell?, b2]
    have gy0 : W1.frozen? ⟨w.heap.size, 0, none⟩ = false := by simp [World.frozen?, b2]
    have gz1 : W1.cell? ⟨w.heap.size, 1, none⟩ = some (.string ⟨#[]⟩) := by simp [World.cell?, b2]
    have gy1 : W1.frozen? ⟨w.heap.size, 1, none⟩ = false := by simp [World.frozen?, b2]
    have gz2 : W1.cell? ⟨w.heap.size, 2, none⟩ = some (.slice none 0 0) := by simp [World.cell?, b2]
    have gy2 : W1.frozen? ⟨w.heap.size, 2, none⟩ = false := by simp [World.frozen?, b2]
    have gz3 : W1.cell? ⟨w.heap.size, 3, none⟩ = some (.int .i64 0) := by simp [World.cell?, b2]
    have gy3 : W1.frozen? ⟨w.heap.size, 3, none⟩ = false := by simp [World.frozen?, b2]
    have gz4 : W1.cell? ⟨w.heap.size, 4, none⟩ = some (.string ⟨#[]⟩) := by simp [World.cell?, b2]
    have gy4 : W1.frozen? ⟨w.heap.size, 4, none⟩ = false := by simp [World.frozen?, b2]
    have gz5 : W1.cell? ⟨w.heap.size, 5, none⟩ = some (.int .i64 0) := by simp [World.cell?, b2]
    have gy5 : W1.frozen? ⟨w.heap.size, 5, none⟩ = false := by simp [World.frozen?, b2]
    have gz6 : W1.cell? ⟨w.heap.size, 6, none⟩ = some (.slice none 0 0) := by simp [World.cell?, b2]
    have gy6 : W1.frozen? ⟨w.heap.size, 6, none⟩ = false := by simp [World.frozen?, b2]
    generalize (E.lexS s).2.1 = er at he he' hrr ⊢
    generalize (E.lexS s).1 = pl at hrr ⊢
    go_wp2_with fail
    obtain ⟨V1, hV1⟩ : ∃ V, W1.setCell ⟨w.heap.size + 1, 0, none⟩ (.int .i64 pl) = V := ⟨_, rfl⟩
    rw [hV1]
    have o1 := one_set hV1 b3
    obtain ⟨V2, hV2⟩ : ∃ V, V1.setCell ⟨w.heap.size + 1 + 1, 0, none⟩ (.int .i64 er) = V := ⟨_, rfl⟩
    rw [hV2]
    have n23 : ¬ w.heap.size = w.heap.size + 1 := by omega
    have n24 : ¬ w.heap.size = w.heap.size + 1 + 1 := by omega
    have n34 : ¬ w.heap.size + 1 = w.heap.size + 1 + 1 := by omega
    have n32 : ¬ w.heap.size + 1 = w.heap.size := by omega
    have n42 : ¬ w.heap.size + 1 + 1 = w.heap.size := by omega
    have n43 : ¬ w.heap.size + 1 + 1 = w.heap.size + 1 := by omega
    have o2 := one_set hV2 ((o1.old _ n43).trans b4)
    clear hV1 hV2
    have c2 : V2.heap[w.heap.size]? = some (.cells #[.int .i64 0, .string ⟨#[]⟩, .slice none 0 0, .int .i64 0, .string ⟨#[]⟩, .int .i64 0, .slice none 0 0] 44 (0, 0)) := (o2.old _ n24).trans ((o1.old _ n23).trans b2)
    have c3 : Boxed V2 (w.heap.size + 1) 3 (.int .i64 pl) := (o2.old _ n34).trans o1.row
    have c4 : Boxed V2 (w.heap.size + 1 + 1) 23 (.int .i64 er) := o2.row
    have c3c := c3.cell
    have c3f := c3.frozen
    have c4c := c4.cell
    have c4f := c4.frozen
    have hz0 : V2.cell? ⟨w.heap.size, 0, none⟩ = some (.int .i64 0) := by simp [World.cell?, c2]
    have hy0 : V2.frozen? ⟨w.heap.size, 0, none⟩ = false := by simp [World.frozen?, c2]
    have hz1 : V2.cell? ⟨w.heap.size, 1, none⟩ = some (.string ⟨#[]⟩) := by simp [World.cell?, c2]
    have hy1 : V2.frozen? ⟨w.heap.size, 1, none⟩ = false := by simp [World.frozen?, c2]
    have hz2 : V2.cell? ⟨w.heap.size, 2, none⟩ = some (.slice none 0 0) := by simp [World.cell?, c2]
    have hy2 : V2.frozen? ⟨w.heap.size, 2, none⟩ = false := by simp [World.frozen?, c2]
    have hz3 : V2.cell? ⟨w.heap.size, 3, none⟩ = some (.int .i64 0) := by simp [World.cell?, c2]
    have hy3 : V2.frozen? ⟨w.heap.size, 3, none⟩ = false := by simp [World.frozen?, c2]
    have hz4 : V2.cell? ⟨w.heap.size, 4, none⟩ = some (.string ⟨#[]⟩) := by simp [World.cell?, c2]
    have hy4 : V2.frozen? ⟨w.heap.size, 4, none⟩ = false := by simp [World.frozen?, c2]
    have hz5 : V2.cell? ⟨w.heap.size, 5, none⟩ = some (.int .i64 0) := by simp [World.cell?, c2]
    have hy5 : V2.frozen? ⟨w.heap.size, 5, none⟩ = false := by simp [World.frozen?, c2]
    have hz6 : V2.cell? ⟨w.heap.size, 6, none⟩ = some (.slice none 0 0) := by simp [World.cell?, c2]
    have hy6 : V2.frozen? ⟨w.heap.size, 6, none⟩ = false := by simp [World.frozen?, c2]
    go_region
    go_wp2
    obtain ⟨X0, hX0⟩ : ∃ V, V2.setCell ⟨w.heap.size, 0, none⟩ (.int .i64 0) = V := ⟨_, rfl⟩
    rw [hX0]
    have x0 := one_set hX0 c2
    clear hX0
    obtain ⟨X1, hX1⟩ : ∃ V, X0.setCell ⟨w.heap.size, 1, none⟩ (.string ⟨#[]⟩) = V := ⟨_, rfl⟩
    rw [hX1]
    have x1 := x0.trans (one_set hX1 x0.row)
    clear hX1
    obtain ⟨X2, hX2⟩ : ∃ V, X1.setCell ⟨w.heap.size, 2, none⟩ (.slice none 0 0) = V := ⟨_, rfl⟩
    rw [hX2]
    have x2 := x1.trans (one_set hX2 x1.row)
    clear hX2
    obtain ⟨X3, hX3⟩ : ∃ V, X2.setCell ⟨w.heap.size, 3, none⟩ (.int .i64 0) = V := ⟨_, rfl⟩
    rw [hX3]
    have x3 := x2.trans (one_set hX3 x2.row)
    clear hX3
    obtain ⟨X4, hX4⟩ : ∃ V, X3.setCell ⟨w.heap.size, 4, none⟩ (.string ⟨#[]⟩) = V := ⟨_, rfl⟩
    rw [hX4]
    have x4 := x3.trans (one_set hX4 x3.row)
    clear hX4
    obtain ⟨X5, hX5⟩ : ∃ V, X4.setCell ⟨w.heap.size, 5, none⟩ (.int .i64 0) = V := ⟨_, rfl⟩
    rw [hX5]
    have x5 := x4.trans (one_set hX5 x4.row)
    clear hX5
    obtain ⟨X6, hX6⟩ : ∃ V, X5.setCell ⟨w.heap.size, 6, none⟩ (.slice none 0 0) = V := ⟨_, rfl⟩
    rw [hX6]
    have x6 := x5.trans (one_set hX6 x5.row)
    clear hX6
    obtain ⟨X7, hX7⟩ : ∃ V, X6.setCell ⟨w.heap.size + 1, 0, none⟩ (.int .i64 pl) = V := ⟨_, rfl⟩
    rw [hX7]
    have x7 := one_set hX7 ((x6.old _ n32).trans c3)
    clear hX7
    obtain ⟨X8, hX8⟩ : ∃ V, X7.setCell ⟨w.heap.size + 1 + 1, 0, none⟩ (.int .i64 er) = V := ⟨_, rfl⟩
    rw [hX8]
    have x8 := one_set hX8 ((x7.old _ n43).trans ((x6.old _ n42).trans c4))
    clear hX8
    have e2 : X8.heap[w.heap.size]? = some (.cells #[.int .i64 0, .string ⟨#[]⟩, .slice none 0 0, .int .i64 0, .string ⟨#[]⟩, .int .i64 0, .slice none 0 0] 44 (0, 0)) := (x8.old _ n24).trans ((x7.old _ n23).trans x6.row)
    have e3 : X8.heap[w.heap.size + 1]? = some (.cells #[.int .i64 pl] 3 (0, 0)) := (x8.old _ n34).trans x7.row
    have e4 : X8.heap[w.heap.size + 1 + 1]? = some (.cells #[.int .i64 er] 23 (0, 0)) := x8.row
    have hsz : X8.heap.size = W1.heap.size := by rw [x8.size, x7.size, x6.size, o2.size, o1.size]
    have eb : Below w.heap.size w X8.drew := ⟨(x8.os.trans (x7.os.trans (x6.os.trans (o2.os.trans o1.os)))).trans (B1.os.trans B0.os), (x8.tape.trans (x7.tape.trans (x6.tape.trans (o2.tape.trans o1.tape)))).trans (B1.tape.trans B0.tape), (x8.output.trans (x7.output.trans (x6.output.trans (o2.output.trans o1.output)))).trans (B1.output.trans B0.output),
      (by show w.heap.size ≤ X8.heap.size; rw [hsz]; omega), fun k hk => by
        show X8.heap[k]? = _
        rw [x8.old k (by omega), x7.old k (by omega), x6.old k (by omega), o2.old k (by omega), o1.old k (by omega), B1.block k (by omega), B0.block k hk]⟩
    show Leaves _ _ _ (RuleEnd s w) [] .returning _
    refine rule_end rfl rfl rfl e2 e3 e4 eb ?_ (by rw [hrr]; rfl) (by rw [hrr]; rfl)
    have hz : E.ruleD s = ((0 : Int), (⟨#[]⟩ : ByteArray), ([] : List ByteArray), (0 : Int), (⟨#[]⟩ : ByteArray), (0 : Int), ([] : List E.ty61.D), ()) := by unfold E.ruleD; rw [hrr]; rfl
    rw [hz]
    exact rule0_rep _ _
end Go.Proofs.YtnnbinmomendnaaDoor
set_option linter.unusedVariables false
set_option maxRecDepth 100000
namespace Go.Proofs.YtnnbinmomendnaaDoor.E
open Go.Proofs
noncomputable section
variable {R : Type}
/-! verderer/parse.Rule: function 19 -/
@[reducible] def parse_Rule_d : Desc := ⟨[(0, .d .str)], []⟩
def parse_Rule_Fi (n : Nat) (a0 : ByteArray) (k0 : ty44.D → Int → Int → Option R) : Option R :=
  if True then (k0 (ruleD a0) ((rRule a0).2.2.2.2.2.1) ((rRule a0).2.2.2.2.2.2.1)) else none
def parse_Rule_F {R : Type} := lazyN (@parse_Rule_Fi R)
theorem parse_Rule_e : @parse_Rule_F R = @parse_Rule_Fi R := lazyN_eq _
def parse_Rule_g (n : Nat) : Gx R := typed 1 parse_Rule_d fun x k => parse_Rule_F n x.1 (fun y0 y1 y2 => k (.tu [(encA ty44 y0), (.c (.i .i64 y1)), (.c (.i .i64 y2))]) [])
theorem parse_Rule_ok [Esc R] (n : Nat) : Good Tryd.prog 19 (parse_Rule_g (R := R) n) := by
  unfold parse_Rule_g
  rw [parse_Rule_e]
  exact Good.hand1 Tryd.func19 (by kernel_rfl) rfl rfl rule_back (fun x k => rfl)
end
end Go.Proofs.YtnnbinmomendnaaDoor.E
set_option linter.unusedVariables false
set_option maxRecDepth 100000
namespace Go.Proofs.YtnnbinmomendnaaDoor.E
open Go.Proofs
noncomputable section
variable {R : Type}
/-! verderer/verdererref12.literal: function 26 -/
def verdererref12_literal_ds : Nat → Desc
  | 4 => ⟨[(2, .pt 0 0), (3, .pt 1 0), (5, .d (.int .i64))], [.box false 61 [.d .bool, .d .str, .d (.sl ty58), .d (.int .i64)], .box false 61 [.d .bool, .d .str, .d (.sl ty58), .d (.int .i64)]]⟩
  | _ => ⟨[], []⟩
def verdererref12_literal_dx : Nat → List (X × Desc)
  | 4 => [(.r, ⟨[(4, .d .bool)], []⟩), (.e 0, ⟨[], []⟩)]
  | _ => []
def verdererref12_literal_s4 (n : Nat) (x0 : Int) (x1 : Bool) (x2 : ByteArray) (x3 : (List ty58.D)) (x4 : Int) (x5 : Bool) (x6 : ByteArray) (x7 : (List ty58.D)) (x8 : Int) (k1 : Int → Bool → ByteArray → (List ty58.D) → Int → Bool → ByteArray → (List ty58.D) → Int → Option R) (qr : Bool → Option R) (qe0 : Option R) : Option R :=
  if (decide (x0 < (x3.length : Int))) = true then (if (0 : Int) ≤ x0 ∧ x0 < (x3.length : Int) then (if (0 : Int) ≤ x0 ∧ x0 < (x7.length : Int) then (if (!((((x3.getD (Int.toNat x0) (Ty.z ty58)).1).toList == ((x7.getD (Int.toNat x0) (Ty.z ty58)).1).toList) && (((x3.getD (Int.toNat x0) (Ty.z ty58)).2.1 == (x7.getD (Int.toNat x0) (Ty.z ty58)).2.1) && (((((x3.getD (Int.toNat x0) (Ty.z ty58)).2.2.1).1 == ((x7.getD (Int.toNat x0) (Ty.z ty58)).2.2.1).1) && ((((x3.getD (Int.toNat x0) (Ty.z ty58)).2.2.1).2.1 == ((x7.getD (Int.toNat x0) (Ty.z ty58)).2.2.1).2.1) && ((((x3.getD (Int.toNat x0) (Ty.z ty58)).2.2.1).2.2.1 == ((x7.getD (Int.toNat x0) (Ty.z ty58)).2.2.1).2.2.1) && (((((x3.getD (Int.toNat x0) (Ty.z ty58)).2.2.1).2.2.2.1).toList == (((x7.getD (Int.toNat x0) (Ty.z ty58)).2.2.1).2.2.2.1).toList) && true)))) && true)))) = true then (qr false) else (k1 (IntKind.i64.wrap (x0 + 1)) x1 x2 x3 x4 x5 x6 x7 x8)) else none) else none) else qe0
def verdererref12_literal_l4 (n : Nat) (a : (verdererref12_literal_ds 4).D) (k1 : (verdererref12_literal_ds 4).D → Option R) (k2 : exK R (verdererref12_literal_dx 4)) : Option R :=
  verdererref12_literal_s4 n a.1 a.2.1 a.2.2.1 a.2.2.2.1 a.2.2.2.2.1 a.2.2.2.2.2.1 a.2.2.2.2.2.2.1 a.2.2.2.2.2.2.2.1 a.2.2.2.2.2.2.2.2.1 (fun x0 x1 x2 x3 x4 x5 x6 x7 x8 => k1 (x0, x1, x2, x3, x4, x5, x6, x7, x8, ())) (fun x0 => k2.1 (x0, ())) (k2.2.1 (()))
@[reducible] def verdererref12_literal_d : Desc := ⟨[(0, .d ty61), (1, .d ty61)], []⟩
def verdererref12_literal_Fi (n : Nat) (a0 : ty61.D) (a1 : ty61.D) (k0 : Bool → Option R) : Option R :=
  if (!(a0.1 == a1.1)) = true then (k0 false) else (if (!(a0.2.1.toList == a1.2.1.toList)) = true then (k0 false) else (if (a0.2.2.2.1 != a1.2.2.2.1) = true then (k0 false) else (if ((a0.2.2.1.length : Int) != (a1.2.2.1.length : Int)) = true then (k0 false) else (runC (verdererref12_literal_l4 n) n (0, a0.1, a0.2.1, a0.2.2.1, a0.2.2.2.1, a1.1, a1.2.1, a1.2.2.1, a1.2.2.2.1, ()) (fun b1 => k0 b1.1, fun b1 => k0 true, ())))))
def verdererref12_literal_F {R : Type} := lazyN (@verdererref12_literal_Fi R)
theorem verdererref12_literal_e : @verdererref12_literal_F R = @verdererref12_literal_Fi R := lazyN_eq _
def verdererref12_literal_g (n : Nat) : Gx R := typed 2 verdererref12_literal_d fun x k => verdererref12_literal_F n x.1 x.2.1 (fun y0 => k (.a (.c (.b y0))) [])
def verdererref12_literal_cs (R : Type) (n : Nat) : List (Nat × Gx R) := []
def verdererref12_literal_lp (n : Nat) : (i : Nat) → (verdererref12_literal_ds i).D → exK R (verdererref12_literal_dx i) → Option R
  | 4, a, k => runC (verdererref12_literal_l4 n) n a k
  | _, _, _ => none
def verdererref12_literal_cx (R : Type) (n : Nat) : Cx R := ⟨Tryd.prog, Gof (verdererref12_literal_cs R n), verdererref12_literal_ds, verdererref12_literal_dx, verdererref12_literal_lp n, drawP Tryd.prog (Gof (verdererref12_literal_cs R n)), false, noJn, noFz⟩
theorem verdererref12_literal_ok [Esc R] (n : Nat) : Good Tryd.prog 26 (verdererref12_literal_g (R := R) n) := by
  unfold verdererref12_literal_g
  rw [verdererref12_literal_e]
  exact Good.fn (f := 26) (cx := verdererref12_literal_cx R n) (by kernel_rfl) (AllGood.nil) rfl Tryd.func26 (by kernel_rfl) rfl (by
    have e : fnLoops noJn Tryd.f26 = [((fnLoops noJn Tryd.f26)[0]?).getD (false, .skip)] := by kernel_rfl
    show LoopRuns _ _ (fnLoops noJn _)
    rw [e]
    exact ⟨LoopRun.loop (by kernel_rfl) (i := 4) (m := n) (step := verdererref12_literal_l4 n) (by kernel_rfl) (fun a k1 k2 => by kernel_rfl) (fun _ _ => rfl), trivial⟩) 2 verdererref12_literal_d (by kernel_rfl) (fun x k => by kernel_rfl)
end
end Go.Proofs.YtnnbinmomendnaaDoor.E
set_option linter.unusedVariables false
set_option maxRecDepth 100000
namespace Go.Proofs.YtnnbinmomendnaaDoor.E
open Go.Proofs
noncomputable section
variable {R : Type}
/-! verderer/verdererref12.Same: function 20 -/
def verdererref12_Same_ds : Nat → Desc
  | 4 => ⟨[(2, .pt 0 0), (3, .pt 1 0), (5, .d (.int .i64))], [.box false 44 [.d (.int .i64), .d .str, .d (.sl .str), .d (.int .i64), .d .str, .d (.int .i64), .d (.sl ty61)], .box false 44 [.d (.int .i64), .d .str, .d (.sl .str), .d (.int .i64), .d .str, .d (.int .i64), .d (.sl ty61)]]⟩
  | 9 => ⟨[(2, .pt 0 0), (3, .pt 1 0), (6, .d (.int .i64))], [.box false 44 [.d (.int .i64), .d .str, .d (.sl .str), .d (.int .i64), .d .str, .d (.int .i64), .d (.sl ty61)], .box false 44 [.d (.int .i64), .d .str, .d (.sl .str), .d (.int .i64), .d .str, .d (.int .i64), .d (.sl ty61)]]⟩
  | _ => ⟨[], []⟩
def verdererref12_Same_dx : Nat → List (X × Desc)
  | 4 => [(.r, ⟨[(4, .d .bool)], []⟩), (.e 0, ⟨[(2, .pt 0 0), (3, .pt 1 0)], [.box false 44 [.d (.int .i64), .d .str, .d (.sl .str), .d (.int .i64), .d .str, .d (.int .i64), .d (.sl ty61)], .box false 44 [.d (.int .i64), .d .str, .d (.sl .str), .d (.int .i64), .d .str, .d (.int .i64), .d (.sl ty61)]]⟩)]
  | 9 => [(.r, ⟨[(4, .d .bool)], []⟩), (.e 2, ⟨[], []⟩)]
  | _ => []
def verdererref12_Same_s4 (n : Nat) (x0 : Int) (x1 : Int) (x2 : ByteArray) (x3 : (List ByteArray)) (x4 : Int) (x5 : ByteArray) (x6 : Int) (x7 : (List ty61.D)) (x8 : Int) (x9 : ByteArray) (x10 : (List ByteArray)) (x11 : Int) (x12 : ByteArray) (x13 : Int) (x14 : (List ty61.D)) (k1 : Int → Int → ByteArray → (List ByteArray) → Int → ByteArray → Int → (List ty61.D) → Int → ByteArray → (List ByteArray) → Int → ByteArray → Int → (List ty61.D) → Option R) (qr : Bool → Option R) (qe0 : Int → ByteArray → (List ByteArray) → Int → ByteArray → Int → (List ty61.D) → Int → ByteArray → (List ByteArray) → Int → ByteArray → Int → (List ty61.D) → Option R) : Option R :=
  if (decide (x0 < (x3.length : Int))) = true then (if (0 : Int) ≤ x0 ∧ x0 < (x3.length : Int) then (if (0 : Int) ≤ x0 ∧ x0 < (x10.length : Int) then (if (!((x3.getD (Int.toNat x0) (Ty.z .str)).toList == (x10.getD (Int.toNat x0) (Ty.z .str)).toList)) = true then (qr false) else (k1 (IntKind.i64.wrap (x0 + 1)) x1 x2 x3 x4 x5 x6 x7 x8 x9 x10 x11 x12 x13 x14)) else none) else none) else (qe0 x1 x2 x3 x4 x5 x6 x7 x8 x9 x10 x11 x12 x13 x14)
def verdererref12_Same_l4 (n : Nat) (a : (verdererref12_Same_ds 4).D) (k1 : (verdererref12_Same_ds 4).D → Option R) (k2 : exK R (verdererref12_Same_dx 4)) : Option R :=
  verdererref12_Same_s4 n a.1 a.2.1 a.2.2.1 a.2.2.2.1 a.2.2.2.2.1 a.2.2.2.2.2.1 a.2.2.2.2.2.2.1 a.2.2.2.2.2.2.2.1 a.2.2.2.2.2.2.2.2.1 a.2.2.2.2.2.2.2.2.2.1 a.2.2.2.2.2.2.2.2.2.2.1 a.2.2.2.2.2.2.2.2.2.2.2.1 a.2.2.2.2.2.2.2.2.2.2.2.2.1 a.2.2.2.2.2.2.2.2.2.2.2.2.2.1 a.2.2.2.2.2.2.2.2.2.2.2.2.2.2.1 (fun x0 x1 x2 x3 x4 x5 x6 x7 x8 x9 x10 x11 x12 x13 x14 => k1 (x0, x1, x2, x3, x4, x5, x6, x7, x8, x9, x10, x11, x12, x13, x14, ())) (fun x0 => k2.1 (x0, ())) (fun x0 x1 x2 x3 x4 x5 x6 x7 x8 x9 x10 x11 x12 x13 => k2.2.1 (x0, x1, x2, x3, x4, x5, x6, x7, x8, x9, x10, x11, x12, x13, ()))
def verdererref12_Same_s9 (n : Nat) (x0 : Int) (x1 : Int) (x2 : ByteArray) (x3 : (List ByteArray)) (x4 : Int) (x5 : ByteArray) (x6 : Int) (x7 : (List ty61.D)) (x8 : Int) (x9 : ByteArray) (x10 : (List ByteArray)) (x11 : Int) (x12 : ByteArray) (x13 : Int) (x14 : (List ty61.D)) (k1 : Int → Int → ByteArray → (List ByteArray) → Int → ByteArray → Int → (List ty61.D) → Int → ByteArray → (List ByteArray) → Int → ByteArray → Int → (List ty61.D) → Option R) (qr : Bool → Option R) (qe2 : Option R) : Option R :=
  if (decide (x0 < (x7.length : Int))) = true then (if (0 : Int) ≤ x0 ∧ x0 < (x7.length : Int) then (if (0 : Int) ≤ x0 ∧ x0 < (x14.length : Int) then (verdererref12_literal_F n (x7.getD (Int.toNat x0) (Ty.z ty61)) (x14.getD (Int.toNat x0) (Ty.z ty61)) (fun y16 => if (!y16) = true then (qr false) else (k1 (IntKind.i64.wrap (x0 + 1)) x1 x2 x3 x4 x5 x6 x7 x8 x9 x10 x11 x12 x13 x14))) else none) else none) else qe2
def verdererref12_Same_l9 (n : Nat) (a : (verdererref12_Same_ds 9).D) (k1 : (verdererref12_Same_ds 9).D → Option R) (k2 : exK R (verdererref12_Same_dx 9)) : Option R :=
  verdererref12_Same_s9 n a.1 a.2.1 a.2.2.1 a.2.2.2.1 a.2.2.2.2.1 a.2.2.2.2.2.1 a.2.2.2.2.2.2.1 a.2.2.2.2.2.2.2.1 a.2.2.2.2.2.2.2.2.1 a.2.2.2.2.2.2.2.2.2.1 a.2.2.2.2.2.2.2.2.2.2.1 a.2.2.2.2.2.2.2.2.2.2.2.1 a.2.2.2.2.2.2.2.2.2.2.2.2.1 a.2.2.2.2.2.2.2.2.2.2.2.2.2.1 a.2.2.2.2.2.2.2.2.2.2.2.2.2.2.1 (fun x0 x1 x2 x3 x4 x5 x6 x7 x8 x9 x10 x11 x12 x13 x14 => k1 (x0, x1, x2, x3, x4, x5, x6, x7, x8, x9, x10, x11, x12, x13, x14, ())) (fun x0 => k2.1 (x0, ())) (k2.2.1 (()))
@[reducible] def verdererref12_Same_d : Desc := ⟨[(0, .d ty44), (1, .d ty44)], []⟩
def verdererref12_Same_Fi (n : Nat) (a0 : ty44.D) (a1 : ty44.D) (k0 : Bool → Option R) : Option R :=
  if (a0.1 != a1.1) = true then (k0 false) else (if (!(a0.2.1.toList == a1.2.1.toList)) = true then (k0 false) else (if (a0.2.2.2.1 != a1.2.2.2.1) = true then (k0 false) else (if (!(a0.2.2.2.2.1.toList == a1.2.2.2.2.1.toList)) = true then (k0 false) else (if (a0.2.2.2.2.2.1 != a1.2.2.2.2.2.1) = true then (k0 false) else (if ((a0.2.2.1.length : Int) != (a1.2.2.1.length : Int)) = true then (k0 false) else (if ((a0.2.2.2.2.2.2.1.length : Int) != (a1.2.2.2.2.2.2.1.length : Int)) = true then (k0 false) else (runC (verdererref12_Same_l4 n) n (0, a0.1, a0.2.1, a0.2.2.1, a0.2.2.2.1, a0.2.2.2.2.1, a0.2.2.2.2.2.1, a0.2.2.2.2.2.2.1, a1.1, a1.2.1, a1.2.2.1, a1.2.2.2.1, a1.2.2.2.2.1, a1.2.2.2.2.2.1, a1.2.2.2.2.2.2.1, ()) (fun b1 => k0 b1.1, fun b15 => runC (verdererref12_Same_l9 n) n (0, b15.1, b15.2.1, b15.2.2.1, b15.2.2.2.1, b15.2.2.2.2.1, b15.2.2.2.2.2.1, b15.2.2.2.2.2.2.1, b15.2.2.2.2.2.2.2.1, b15.2.2.2.2.2.2.2.2.1, b15.2.2.2.2.2.2.2.2.2.1, b15.2.2.2.2.2.2.2.2.2.2.1, b15.2.2.2.2.2.2.2.2.2.2.2.1, b15.2.2.2.2.2.2.2.2.2.2.2.2.1, b15.2.2.2.2.2.2.2.2.2.2.2.2.2.1, ()) (fun b17 => k0 b17.1, fun b17 => k0 true, ()), ()))))))))
def verdererref12_Same_F {R : Type} := lazyN (@verdererref12_Same_Fi R)
theorem verdererref12_Same_e : @verdererref12_Same_F R = @verdererref12_Same_Fi R := lazyN_eq _
def verdererref12_Same_g (n : Nat) : Gx R := typed 2 verdererref12_Same_d fun x k => verdererref12_Same_F n x.1 x.2.1 (fun y0 => k (.a (.c (.b y0))) [])
def verdererref12_Same_cs (R : Type) (n : Nat) : List (Nat × Gx R) := [(26, verdererref12_literal_g n)]
def verdererref12_Same_lp (n : Nat) : (i : Nat) → (verdererref12_Same_ds i).D → exK R (verdererref12_Same_dx i) → Option R
  | 4, a, k => runC (verdererref12_Same_l4 n) n a k
  | 9, a, k => runC (verdererref12_Same_l9 n) n a k
  | _, _, _ => none
def verdererref12_Same_cx (R : Type) (n : Nat) : Cx R := ⟨Tryd.prog, Gof (verdererref12_Same_cs R n), verdererref12_Same_ds, verdererref12_Same_dx, verdererref12_Same_lp n, drawP Tryd.prog (Gof (verdererref12_Same_cs R n)), false, noJn, noFz⟩
theorem verdererref12_Same_ok [Esc R] (n : Nat) : Good Tryd.prog 20 (verdererref12_Same_g (R := R) n) := by
  unfold verdererref12_Same_g
  rw [verdererref12_Same_e]
  exact Good.fn (f := 20) (cx := verdererref12_Same_cx R n) (by kernel_rfl) (AllGood.cons (verdererref12_literal_ok n) (AllGood.nil)) rfl Tryd.func20 (by kernel_rfl) rfl (by
    have e : fnLoops noJn Tryd.f20 = [((fnLoops noJn Tryd.f20)[0]?).getD (false, .skip), ((fnLoops noJn Tryd.f20)[1]?).getD (false, .skip)] := by kernel_rfl
    show LoopRuns _ _ (fnLoops noJn _)
    rw [e]
    exact ⟨LoopRun.loop (by kernel_rfl) (i := 4) (m := n) (step := verdererref12_Same_l4 n) (by kernel_rfl) (fun a k1 k2 => by kernel_rfl) (fun _ _ => rfl), ⟨LoopRun.loop (by kernel_rfl) (i := 9) (m := n) (step := verdererref12_Same_l9 n) (by kernel_rfl) (fun a k1 k2 => by kernel_rfl) (fun _ _ => rfl), trivial⟩⟩) 2 verdererref12_Same_d (by kernel_rfl) (fun x k => by kernel_rfl)
end
end Go.Proofs.YtnnbinmomendnaaDoor.E
set_option linter.unusedVariables false
set_option maxRecDepth 100000
namespace Go.Proofs.YtnnbinmomendnaaDoor.E
open Go.Proofs
noncomputable section
variable {R : Type}
/-! verderer/verdererlaw12.known: function 18 -/
@[reducible] def verdererlaw12_known_d : Desc := ⟨[], []⟩
def verdererlaw12_known_Fi (n : Nat) (k0 : Bool → Option R) : Option R :=
  parse_Rule_F n (⟨#[100, 101, 110, 121, 32, 98, 105, 103, 40, 115, 44, 32, 110, 41, 32, 105, 102, 32, 112, 111, 100, 40, 115, 44, 32, 110, 44, 32, 95, 44, 32, 99, 44, 32, 95, 41, 44, 32, 99, 32, 62, 32, 49, 48, 48]⟩ : ByteArray) (fun y1 y2 y3 => parse_Rule_F n (⟨#[100, 101, 110, 121, 32, 98, 105, 103, 40, 115, 41, 32, 105, 102, 32, 112, 111, 100, 40, 115, 41, 32, 99]⟩ : ByteArray) (fun y4 y5 y6 => if (y3 == 0) = true then (if (y1.1 == 1) = true then (if (y1.2.1.toList == (⟨#[98, 105, 103]⟩ : ByteArray).toList) = true then (if ((y1.2.2.1.length : Int) == 2) = true then (if ((y1.2.2.2.2.2.2.1.length : Int) == 2) = true then (if (0 : Int) ≤ 0 ∧ 0 < (y1.2.2.2.2.2.2.1.length : Int) then (if (0 : Int) ≤ 2 ∧ 2 < (((y1.2.2.2.2.2.2.1.getD (Int.toNat 0) (Ty.z ty61)).2.2.1).length : Int) then (if (((y1.2.2.2.2.2.2.1.getD (Int.toNat 0) (Ty.z ty61)).2.2.1).getD (Int.toNat 2) (Ty.z ty58)).2.1 = true then (if (0 : Int) ≤ 1 ∧ 1 < (y1.2.2.2.2.2.2.1.length : Int) then (if ((y1.2.2.2.2.2.2.1.getD (Int.toNat 1) (Ty.z ty61)).2.2.2.1 == 5) = true then (if (0 : Int) ≤ 1 ∧ 1 < (y1.2.2.2.2.2.2.1.length : Int) then (if (0 : Int) ≤ 1 ∧ 1 < (((y1.2.2.2.2.2.2.1.getD (Int.toNat 1) (Ty.z ty61)).2.2.1).length : Int) then (if (((((y1.2.2.2.2.2.2.1.getD (Int.toNat 1) (Ty.z ty61)).2.2.1).getD (Int.toNat 1) (Ty.z ty58)).2.2.1).2.2.1 == 100) = true then (if (y5 == 22) = true then (k0 (y6 == 7)) else (k0 false)) else (k0 false)) else none) else none) else (k0 false)) else none) else (k0 false)) else none) else none) else (k0 false)) else (k0 false)) else (k0 false)) else (k0 false)) else (k0 false)))
def verdererlaw12_known_F {R : Type} := lazyN (@verdererlaw12_known_Fi R)
theorem verdererlaw12_known_e : @verdererlaw12_known_F R = @verdererlaw12_known_Fi R := lazyN_eq _
def verdererlaw12_known_g (n : Nat) : Gx R := typed 0 verdererlaw12_known_d fun x k => verdererlaw12_known_F n (fun y0 => k (.a (.c (.b y0))) [])
def verdererlaw12_known_cs (R : Type) (n : Nat) : List (Nat × Gx R) := [(19, parse_Rule_g n)]
def verdererlaw12_known_cx (R : Type) (n : Nat) : Cx R := ⟨Tryd.prog, Gof (verdererlaw12_known_cs R n), noDs, noDx, noLp, drawP Tryd.prog (Gof (verdererlaw12_known_cs R n)), false, noJn, noFz⟩
theorem verdererlaw12_known_ok [Esc R] (n : Nat) : Good Tryd.prog 18 (verdererlaw12_known_g (R := R) n) := by
  unfold verdererlaw12_known_g
  rw [verdererlaw12_known_e]
  exact Good.fn (f := 18) (cx := verdererlaw12_known_cx R n) (by kernel_rfl) (AllGood.cons (parse_Rule_ok n) (AllGood.nil)) rfl Tryd.func18 (by kernel_rfl) rfl trivial 0 verdererlaw12_known_d (by kernel_rfl) (fun x k => by kernel_rfl)
end
end Go.Proofs.YtnnbinmomendnaaDoor.E
set_option linter.unusedVariables false
set_option maxRecDepth 100000
namespace Go.Proofs.YtnnbinmomendnaaDoor.E
open Go.Proofs
noncomputable section
variable {R : Type}
/-! verderer/verdererlaw12.ParseTokens: function 6 -/
def verdererlaw12_ParseTokens_ds : Nat → Desc
  | 6 => ⟨[(0, .d .str), (1, .d (.sl .bool)), (5, .d (.sl ty36)), (8, .d .str), (9, .d (.int .i64))], []⟩
  | _ => ⟨[], []⟩
def verdererlaw12_ParseTokens_dx : Nat → List (X × Desc)
  | 6 => [(.e 0, ⟨[(0, .d .str), (8, .d .str)], []⟩)]
  | _ => []
def verdererlaw12_ParseTokens_s6 (n : Nat) (x0 : ByteArray) (x1 : (List Bool)) (x2 : (List ty36.D)) (x3 : ByteArray) (x4 : Int) (k1 : ByteArray → (List Bool) → (List ty36.D) → ByteArray → Int → Option R) (qe0 : ByteArray → ByteArray → Option R) : Option R :=
  if (decide (x4 < (x2.length : Int))) = true then (if (decide (x4 > 0)) = true then (if x3.size + (⟨#[32]⟩ : ByteArray).size ≤ 9223372036854775807 then (if (decide ((x1.length : Int) > 0)) = true then (if (x1.length : Int) = 0 then none else (if (0 : Int) ≤ (Int.tmod x4 (x1.length : Int)) ∧ (Int.tmod x4 (x1.length : Int)) < (x1.length : Int) then (if (x1.getD (Int.toNat (Int.tmod x4 (x1.length : Int))) (Ty.z .bool)) = true then (if (x3 ++ (⟨#[32]⟩ : ByteArray)).size + (⟨#[10]⟩ : ByteArray).size ≤ 9223372036854775807 then (if (0 : Int) ≤ x4 ∧ x4 < (x2.length : Int) then (if ((x3 ++ (⟨#[32]⟩ : ByteArray)) ++ (⟨#[10]⟩ : ByteArray)).size + ((x2.getD (Int.toNat x4) (Ty.z ty36)).2.1).size ≤ 9223372036854775807 then (k1 x0 x1 x2 (((x3 ++ (⟨#[32]⟩ : ByteArray)) ++ (⟨#[10]⟩ : ByteArray)) ++ (x2.getD (Int.toNat x4) (Ty.z ty36)).2.1) (IntKind.i64.wrap (x4 + 1))) else none) else none) else none) else (if (0 : Int) ≤ x4 ∧ x4 < (x2.length : Int) then (if (x3 ++ (⟨#[32]⟩ : ByteArray)).size + ((x2.getD (Int.toNat x4) (Ty.z ty36)).2.1).size ≤ 9223372036854775807 then (k1 x0 x1 x2 ((x3 ++ (⟨#[32]⟩ : ByteArray)) ++ (x2.getD (Int.toNat x4) (Ty.z ty36)).2.1) (IntKind.i64.wrap (x4 + 1))) else none) else none)) else none)) else (if (0 : Int) ≤ x4 ∧ x4 < (x2.length : Int) then (if (x3 ++ (⟨#[32]⟩ : ByteArray)).size + ((x2.getD (Int.toNat x4) (Ty.z ty36)).2.1).size ≤ 9223372036854775807 then (k1 x0 x1 x2 ((x3 ++ (⟨#[32]⟩ : ByteArray)) ++ (x2.getD (Int.toNat x4) (Ty.z ty36)).2.1) (IntKind.i64.wrap (x4 + 1))) else none) else none)) else none) else (if (0 : Int) ≤ x4 ∧ x4 < (x2.length : Int) then (if x3.size + ((x2.getD (Int.toNat x4) (Ty.z ty36)).2.1).size ≤ 9223372036854775807 then (k1 x0 x1 x2 (x3 ++ (x2.getD (Int.toNat x4) (Ty.z ty36)).2.1) (IntKind.i64.wrap (x4 + 1))) else none) else none)) else (qe0 x0 x3)
def verdererlaw12_ParseTokens_l6 (n : Nat) (a : (verdererlaw12_ParseTokens_ds 6).D) (k1 : (verdererlaw12_ParseTokens_ds 6).D → Option R) (k2 : exK R (verdererlaw12_ParseTokens_dx 6)) : Option R :=
  verdererlaw12_ParseTokens_s6 n a.1 a.2.1 a.2.2.1 a.2.2.2.1 a.2.2.2.2.1 (fun x0 x1 x2 x3 x4 => k1 (x0, x1, x2, x3, x4, ())) (fun x0 x1 => k2.1 (x0, x1, ()))
@[reducible] def verdererlaw12_ParseTokens_d : Desc := ⟨[(0, .d .str), (1, .d (.sl .bool))], []⟩
def verdererlaw12_ParseTokens_Fi (n : Nat) (a0 : ByteArray) (a1 : (List Bool)) (k0 : Bool → Option R) : Option R :=
  lex_Read_F n a0 (fun y1 y2 y3 => if (y3 != 0) = true then (verdererlaw12_known_F n (fun y4 => k0 y4)) else (if (decide ((a0.size : Int) > 150)) = true then (verdererlaw12_known_F n (fun y5 => k0 y5)) else (runC (verdererlaw12_ParseTokens_l6 n) n (a0, a1, y1, (⟨#[]⟩ : ByteArray), 0, ()) (fun b7 => parse_Rule_F n b7.1 (fun y8 y9 y10 => parse_Rule_F n b7.2.1 (fun y11 y12 y13 => if (decide ((b7.2.1.size : Int) > 300)) = true then (verdererlaw12_known_F n (fun y14 => k0 y14)) else (verdererref12_Same_F n y8 y11 (fun y15 => if y15 = true then (if (y10 == y13) = true then (verdererlaw12_known_F n (fun y16 => k0 y16)) else (k0 false)) else (k0 false))))), ()))))
def verdererlaw12_ParseTokens_F {R : Type} := lazyN (@verdererlaw12_ParseTokens_Fi R)
theorem verdererlaw12_ParseTokens_e : @verdererlaw12_ParseTokens_F R = @verdererlaw12_ParseTokens_Fi R := lazyN_eq _
def verdererlaw12_ParseTokens_g (n : Nat) : Gx R := typed 2 verdererlaw12_ParseTokens_d fun x k => verdererlaw12_ParseTokens_F n x.1 x.2.1 (fun y0 => k (.a (.c (.b y0))) [])
def verdererlaw12_ParseTokens_cs (R : Type) (n : Nat) : List (Nat × Gx R) := [(7, lex_Read_g n), (18, verdererlaw12_known_g n), (19, parse_Rule_g n), (20, verdererref12_Same_g n)]
def verdererlaw12_ParseTokens_lp (n : Nat) : (i : Nat) → (verdererlaw12_ParseTokens_ds i).D → exK R (verdererlaw12_ParseTokens_dx i) → Option R
  | 6, a, k => runC (verdererlaw12_ParseTokens_l6 n) n a k
  | _, _, _ => none
def verdererlaw12_ParseTokens_cx (R : Type) (n : Nat) : Cx R := ⟨Tryd.prog, Gof (verdererlaw12_ParseTokens_cs R n), verdererlaw12_ParseTokens_ds, verdererlaw12_ParseTokens_dx, verdererlaw12_ParseTokens_lp n, drawP Tryd.prog (Gof (verdererlaw12_ParseTokens_cs R n)), false, noJn, noFz⟩
theorem verdererlaw12_ParseTokens_ok [Esc R] (n : Nat) : Good Tryd.prog 6 (verdererlaw12_ParseTokens_g (R := R) n) := by
  unfold verdererlaw12_ParseTokens_g
  rw [verdererlaw12_ParseTokens_e]
  exact Good.fn (f := 6) (cx := verdererlaw12_ParseTokens_cx R n) (by kernel_rfl) (AllGood.cons (lex_Read_ok n) (AllGood.cons (verdererlaw12_known_ok n) (AllGood.cons (parse_Rule_ok n) (AllGood.cons (verdererref12_Same_ok n) (AllGood.nil))))) rfl Tryd.func6 (by kernel_rfl) rfl (by
    have e : fnLoops noJn Tryd.f6 = [((fnLoops noJn Tryd.f6)[0]?).getD (false, .skip)] := by kernel_rfl
    show LoopRuns _ _ (fnLoops noJn _)
    rw [e]
    exact ⟨LoopRun.loop (by kernel_rfl) (i := 6) (m := n) (step := verdererlaw12_ParseTokens_l6 n) (by kernel_rfl) (fun a k1 k2 => by kernel_rfl) (fun _ _ => rfl), trivial⟩) 2 verdererlaw12_ParseTokens_d (by kernel_rfl) (fun x k => by kernel_rfl)
end
end Go.Proofs.YtnnbinmomendnaaDoor.E
namespace Go.Proofs.YtnnbinmomendnaaDoor.E
open Go.RowKit
variable {R : Type}
set_option maxRecDepth 100000
/-- are two alike? -/
noncomputable def eqD {α : Type} (a b : α) : Bool := @decide (a = b) (Classical.propDecidable _)
theorem eqD_iff {α : Type} {a b : α} : eqD a b = true ↔ a = b := @decide_eq_true_iff _ (Classical.propDecidable _)
theorem eqD_no {α : Type} {a b : α} (h : a ≠ b) : eqD a b = false := by cases e : eqD a b with
  | false => rfl
  | true => exact absurd (eqD_iff.1 e) h
theorem eqD_refl {α : Type} (a : α) : eqD a a = true := eqD_iff.2 rfl
theorem beqE (a b : ByteArray) : (a.toList == b.toList) = eqD a b := by rw [beqB, Bool.eq_iff_iff, decide_eq_true_eq, eqD_iff]
theorem all_eq {α : Type} (z : α) {a b : List α} (h : a.length = b.length) : ((List.range a.length).all fun i => eqD (a.getD i z) (b.getD i z)) = eqD (a) (b) := by
  rw [Bool.eq_iff_iff, List.all_eq_true, eqD_iff]
  constructor
  · intro hh
    refine List.ext_getElem h fun i h1 h2 => ?_
    have := eqD_iff.1 (hh i (List.mem_range.2 h1))
    rw [List.getD_eq_getElem?_getD, List.getD_eq_getElem?_getD, List.getElem?_eq_getElem h1, List.getElem?_eq_getElem h2] at this
    exact this
  · rintro rfl i _
    exact eqD_refl _
theorem ite_not {b : Bool} {p q : Option R} : (if (!b) = true then p else q) = if b = true then q else p := by cases b <;> rfl
/-- terms that are alike -/
theorem tmEq (x y : ty58.D) : ((x.1.toList == y.1.toList) && ((x.2.1 == y.2.1) && (((x.2.2.1.1 == y.2.2.1.1) && ((x.2.2.1.2.1 == y.2.2.1.2.1) && ((x.2.2.1.2.2.1 == y.2.2.1.2.2.1) && ((x.2.2.1.2.2.2.1.toList == y.2.2.1.2.2.2.1.toList) && true)))) && true))) = eqD (x) (y) := by
  obtain ⟨a, b, ⟨c, d, e, f, ⟨⟩⟩, ⟨⟩⟩ := x
  obtain ⟨a', b', ⟨c', d', e', f', ⟨⟩⟩, ⟨⟩⟩ := y
  rw [Bool.eq_iff_iff]
  simp only [beqE, Bool.and_eq_true, eqD_iff, beq_iff_eq, Bool.and_true, Prod.mk.injEq, and_true, and_assoc]
theorem litEq (a b : ty61.D) : eqD (a) (b) = (eqD (a.1) (b.1) && (eqD (a.2.1) (b.2.1) && (eqD (a.2.2.2.1) (b.2.2.2.1) && eqD (a.2.2.1) (b.2.2.1)))) := by
  obtain ⟨a1, a2, a3, a4, ⟨⟩⟩ := a
  obtain ⟨b1, b2, b3, b4, ⟨⟩⟩ := b
  rw [Bool.eq_iff_iff]
  simp only [eqD_iff, Bool.and_eq_true, Prod.mk.injEq, and_true]
  constructor
  · rintro ⟨h1, h2, h3, h4⟩; exact ⟨h1, h2, h4, h3⟩
  · rintro ⟨h1, h2, h3, h4⟩; exact ⟨h1, h2, h4, h3⟩
theorem beq_dec {α : Type} [BEq α] [LawfulBEq α] (a b : α) : (a == b) = eqD (a) (b) := by rw [Bool.eq_iff_iff, beq_iff_eq, eqD_iff]
theorem bne_dec {α : Type} [BEq α] [LawfulBEq α] (a b : α) : (a != b) = !eqD (a) (b) := by rw [bne, beq_dec]
/-- a rule that is not large -/
structure Small (x : ty44.D) : Prop where
  hd : x.2.2.1.length ≤ 1000
  bd : x.2.2.2.2.2.2.1.length ≤ 1000
  ar : ∀ y ∈ x.2.2.2.2.2.2.1, y.2.2.1.length ≤ 1000
theorem ruleEq (a b : ty44.D) : eqD (a) (b) = (eqD (a.1) (b.1) && (eqD (a.2.1) (b.2.1) && (eqD (a.2.2.2.1) (b.2.2.2.1) && (eqD (a.2.2.2.2.1) (b.2.2.2.2.1) && (eqD (a.2.2.2.2.2.1) (b.2.2.2.2.2.1) && (eqD (a.2.2.1) (b.2.2.1) && eqD (a.2.2.2.2.2.2.1) (b.2.2.2.2.2.2.1))))))) := by
  obtain ⟨a1, a2, a3, a4, a5, a6, a7, ⟨⟩⟩ := a
  obtain ⟨b1, b2, b3, b4, b5, b6, b7, ⟨⟩⟩ := b
  rw [Bool.eq_iff_iff]
  simp only [eqD_iff, Bool.and_eq_true, Prod.mk.injEq, and_true]
  constructor
  · rintro ⟨h1, h2, h3, h4, h5, h6, h7⟩; exact ⟨h1, h2, h4, h5, h6, h3, h7⟩
  · rintro ⟨h1, h2, h4, h5, h6, h3, h7⟩; exact ⟨h1, h2, h3, h4, h5, h6, h7⟩
end Go.Proofs.YtnnbinmomendnaaDoor.E
namespace Go.Proofs.YtnnbinmomendnaaDoor.E
open Go.RowKit
variable {R : Type}
set_option maxRecDepth 100000
/-- the document's literals that are alike -/
theorem litR_F (n : Nat) (a b : ty61.D) (ha : a.2.2.1.length ≤ 1000) (hn : 2000 < n) (k : Bool → Option R) : verdererref12_literal_F n a b k = k (eqD a b) := by
  rw [verdererref12_literal_e]
  unfold verdererref12_literal_Fi
  rw [litEq]
  simp only [beqE]
  simp only [beq_dec, bne_dec]
  cases eqD a.1 b.1 with
  | false => rfl
  | true =>
  cases eqD a.2.1 b.2.1 with
  | false => rfl
  | true =>
  cases eqD a.2.2.2.1 b.2.2.2.1 with
  | false => rfl
  | true =>
  simp only [Bool.not_true, Bool.false_eq_true, if_false, Bool.true_and]
  by_cases hl : a.2.2.1.length = b.2.2.1.length
  · have e0 : eqD (a.2.2.1.length : Int) (b.2.2.1.length : Int) = true := eqD_iff.2 (by rw [hl])
    rw [e0]
    simp only [Bool.not_true, Bool.false_eq_true, if_false]
    refine (runC_all (R := R) (step := verdererref12_literal_l4 n) (fun b1 => k b1.1, fun b1 => k true, ()) (k false) (k true) (fun i => eqD (a.2.2.1.getD i (Ty.z ty58)) (b.2.2.1.getD i (Ty.z ty58))) (fun i => ((i : Int), a.1, a.2.1, a.2.2.1, a.2.2.2.1, b.1, b.2.1, b.2.2.1, b.2.2.2.1, ())) a.2.2.1.length (fun i hi k1 => ?_) (fun k1 => ?_) (n := n) (by omega)).trans ?_
    · have c1 : (i : Int) < (a.2.2.1.length : Int) := by omega
      have c2 : (0 : Int) ≤ (i : Int) ∧ (i : Int) < (a.2.2.1.length : Int) := by omega
      have c3 : (0 : Int) ≤ (i : Int) ∧ (i : Int) < (b.2.2.1.length : Int) := by omega
      simp only [verdererref12_literal_l4, verdererref12_literal_s4, c1, c2, c3, decide_true, if_true, and_self, Int.toNat_natCast, wrap_succ i (by omega)]
      exact (congrArg (fun q => if (!q) = true then k false else k1 (((i + 1 : Nat) : Int), a.1, a.2.1, a.2.2.1, a.2.2.2.1, b.1, b.2.1, b.2.2.1, b.2.2.2.1, ())) (tmEq _ _)).trans ite_not
    · simp [verdererref12_literal_l4, verdererref12_literal_s4]
    · rw [all_eq (Ty.z ty58) hl]
      cases eqD a.2.2.1 b.2.2.1 <;> rfl
  · have e0 : eqD (a.2.2.1.length : Int) (b.2.2.1.length : Int) = false := eqD_no (by omega)
    rw [e0, eqD_no (show a.2.2.1 ≠ b.2.2.1 from fun e => hl (by rw [e]))]
    rfl
theorem sameR_F (n : Nat) (a b : ty44.D) (ha : Small a) (hn : 2000 < n) (k : Bool → Option R) : verdererref12_Same_F n a b k = k (eqD a b) := by
  rw [verdererref12_Same_e]
  unfold verdererref12_Same_Fi
  rw [ruleEq]
  simp only [beqE]
  simp only [bne_dec]
  cases eqD a.1 b.1 with
  | false => rfl
  | true =>
  cases eqD a.2.1 b.2.1 with
  | false => rfl
  | true =>
  cases eqD a.2.2.2.1 b.2.2.2.1 with
  | false => rfl
  | true =>
  cases eqD a.2.2.2.2.1 b.2.2.2.2.1 with
  | false => rfl
  | true =>
  cases eqD a.2.2.2.2.2.1 b.2.2.2.2.2.1 with
  | false => rfl
  | true =>
  simp only [Bool.not_true, Bool.false_eq_true, if_false, Bool.true_and]
  by_cases hl : a.2.2.1.length = b.2.2.1.length
  rotate_left
  · have e0 : eqD (a.2.2.1.length : Int) (b.2.2.1.length : Int) = false := eqD_no (by omega)
    rw [e0, eqD_no (show a.2.2.1 ≠ b.2.2.1 from fun e => hl (by rw [e]))]
    rfl
  have e0 : eqD (a.2.2.1.length : Int) (b.2.2.1.length : Int) = true := eqD_iff.2 (by rw [hl])
  rw [e0]
  simp only [Bool.not_true, Bool.false_eq_true, if_false]
  by_cases hl2 : a.2.2.2.2.2.2.1.length = b.2.2.2.2.2.2.1.length
  rotate_left
  · have e1 : eqD (a.2.2.2.2.2.2.1.length : Int) (b.2.2.2.2.2.2.1.length : Int) = false := eqD_no (by omega)
    rw [e1, eqD_no (show a.2.2.2.2.2.2.1 ≠ b.2.2.2.2.2.2.1 from fun e => hl2 (by rw [e]))]
    cases eqD a.2.2.1 b.2.2.1 <;> rfl
  have e1 : eqD (a.2.2.2.2.2.2.1.length : Int) (b.2.2.2.2.2.2.1.length : Int) = true := eqD_iff.2 (by rw [hl2])
  rw [e1]
  simp only [Bool.not_true, Bool.false_eq_true, if_false]
  have h1 := ha.hd
  have h2 := ha.bd
  refine (runC_all (R := R) (step := verdererref12_Same_l4 n) _ (k false) (if eqD a.2.2.2.2.2.2.1 b.2.2.2.2.2.2.1 = true then k true else k false) (fun i => eqD (a.2.2.1.getD i ByteArray.empty) (b.2.2.1.getD i ByteArray.empty)) (fun i => ((i : Int), a.1, a.2.1, a.2.2.1, a.2.2.2.1, a.2.2.2.2.1, a.2.2.2.2.2.1, a.2.2.2.2.2.2.1, b.1, b.2.1, b.2.2.1, b.2.2.2.1, b.2.2.2.2.1, b.2.2.2.2.2.1, b.2.2.2.2.2.2.1, ())) a.2.2.1.length (fun i hi k1 => ?_) (fun k1 => ?_) (n := n) (by omega)).trans ?_
  · have c1 : (i : Int) < (a.2.2.1.length : Int) := by omega
    have c2 : (0 : Int) ≤ (i : Int) ∧ (i : Int) < (a.2.2.1.length : Int) := by omega
    have c3 : (0 : Int) ≤ (i : Int) ∧ (i : Int) < (b.2.2.1.length : Int) := by omega
    have e : ∀ l : List ByteArray, l.getD i (Ty.z .str) = l.getD i ByteArray.empty := fun _ => rfl
    simp only [verdererref12_Same_l4, verdererref12_Same_s4, c1, c2, c3, decide_true, if_true, and_self, Int.toNat_natCast, beqE, e, wrap_succ i (by omega)]
    exact ite_not
  · have c1 : ¬ (a.2.2.1.length : Int) < (a.2.2.1.length : Int) := by omega
    simp only [verdererref12_Same_l4, verdererref12_Same_s4]
    rw [if_neg (by simp)]
    refine (runC_all (R := R) (step := verdererref12_Same_l9 n) (fun b17 => k b17.1, fun b17 => k true, ()) (k false) (k true) (fun i => eqD (a.2.2.2.2.2.2.1.getD i (Ty.z ty61)) (b.2.2.2.2.2.2.1.getD i (Ty.z ty61))) (fun i => ((i : Int), a.1, a.2.1, a.2.2.1, a.2.2.2.1, a.2.2.2.2.1, a.2.2.2.2.2.1, a.2.2.2.2.2.2.1, b.1, b.2.1, b.2.2.1, b.2.2.2.1, b.2.2.2.2.1, b.2.2.2.2.2.1, b.2.2.2.2.2.2.1, ())) a.2.2.2.2.2.2.1.length (fun i hi k1 => ?_) (fun k1 => ?_) (n := n) (by omega)).trans ?_
    · have c1 : (i : Int) < (a.2.2.2.2.2.2.1.length : Int) := by omega
      have c2 : (0 : Int) ≤ (i : Int) ∧ (i : Int) < (a.2.2.2.2.2.2.1.length : Int) := by omega
      have c3 : (0 : Int) ≤ (i : Int) ∧ (i : Int) < (b.2.2.2.2.2.2.1.length : Int) := by omega
      have hm : a.2.2.2.2.2.2.1.getD i (Ty.z ty61) ∈ a.2.2.2.2.2.2.1 := by rw [List.getD_eq_getElem?_getD, List.getElem?_eq_getElem hi]; exact List.getElem_mem hi
      simp only [verdererref12_Same_l9, verdererref12_Same_s9, c1, c2, c3, decide_true, if_true, and_self, Int.toNat_natCast, wrap_succ i (by omega)]
      rw [litR_F n _ _ (ha.ar _ hm) hn]
      exact ite_not
    · simp [verdererref12_Same_l9, verdererref12_Same_s9]
    · rw [all_eq (Ty.z ty61) hl2]
  · rw [all_eq ByteArray.empty hl]
    cases eqD a.2.2.1 b.2.2.1 <;> cases eqD a.2.2.2.2.2.2.1 b.2.2.2.2.2.2.1 <;> rfl
/-- a rule that a text is, as it is held -/
theorem small_rule (s : ByteArray) : Small (ruleT (rRule s)) := by
  obtain ⟨h1, h2, h3⟩ := rRule_rng s
  exact ⟨Nat.le_trans h1 (by decide), Nat.le_trans h2 (by decide), fun y hy => Nat.le_trans (h3 y hy) (by decide)⟩
theorem ruleP2_F (n : Nat) (s : ByteArray) (k : ty44.D → Int → Int → Option R) : parse_Rule_F n s k = k (ruleT (rRule s)) (rRule s).2.2.2.2.2.1 (rRule s).2.2.2.2.2.2.1 := by
  rw [parse_Rule_e]
  unfold parse_Rule_Fi
  rw [if_pos trivial]
  rfl
end Go.Proofs.YtnnbinmomendnaaDoor.E
namespace Go.Proofs.YtnnbinmomendnaaDoor.E
open Go.RowKit
set_option maxRecDepth 100000
/-! tokens without their places: a rule is the same -/
def stT (t : ty52.D) : ty52.D := (t.1, t.2.1, t.2.2.1, 0, ())
def sl (l : Toks) : Toks := l.map stT
def zS (s : RS) : RS := (s.1, s.2.1, 0)
theorem sl_len (l : Toks) : (sl l).length = l.length := List.length_map _
theorem tk_sl (l : Toks) (i : Nat) : tk (sl l) i = stT (tk l i) := by
  unfold tk sl
  rw [List.getD_eq_getElem?_getD, List.getD_eq_getElem?_getD, List.getElem?_map]
  cases l[i]? <;> rfl
theorem z_1 (s : RS) : (zS s).1 = s.1 := rfl
theorem z_2 (s : RS) : (zS s).2.1 = s.2.1 := rfl
theorem st_1 (t : ty52.D) : (stT t).1 = t.1 := rfl
theorem st_2 (t : ty52.D) : (stT t).2.1 = t.2.1 := rfl
theorem st_3 (t : ty52.D) : (stT t).2.2.1 = t.2.2.1 := rfl
theorem st_4 (t : ty52.D) : (stT t).2.2.2.1 = 0 := rfl
theorem hFail (e p : Int) (s : RS) : rFail e 0 (zS s) = zS (rFail e p s) := by
  unfold rFail
  rw [z_2]
  split <;> rfl
theorem hAt (l : Toks) (u : RS) : atT (sl l) (zS u) = 0 := by unfold atT; rw [tk_sl]; rfl
theorem hIs (l : Toks) (w : ByteArray) (s : RS) : rIs (sl l) w (zS s) = rIs l w s := by unfold rIs; rw [z_1, z_2, tk_sl, st_1, st_2]
theorem hStep (l : Toks) (s : RS) : rStep (sl l) (zS s) = zS (rStep l s) := by unfold rStep; rw [z_1, sl_len]; rfl
theorem hTake (l : Toks) (w : ByteArray) (s : RS) : rTake (sl l) w (zS s) = ((rTake l w s).1, zS (rTake l w s).2) := by
  unfold rTake
  rw [hIs, hStep]
  split <;> rfl
theorem hMust (l : Toks) (w : ByteArray) (s : RS) : rMust (sl l) w (zS s) = zS (rMust l w s) := by
  unfold rMust
  rw [hTake, tk_sl, st_4, hFail 7 (tk l s.1).2.2.2.1]
  split <;> rfl
theorem hNamed (l : Toks) (s : RS) : rNamed (sl l) (zS s) = rNamed l s := by unfold rNamed isName; rw [z_1, z_2, tk_sl, st_1, st_2]
theorem hName (l : Toks) (s : RS) : rName (sl l) (zS s) = ((rName l s).1, zS (rName l s).2) := by
  unfold rName
  rw [hNamed, hStep, z_1, tk_sl, st_2, st_4, hFail 7 (tk l s.1).2.2.2.1]
  split <;> rfl
theorem hAggI (l : Toks) (s : RS) : rAggI (sl l) (zS s) = rAggI l s := by unfold rAggI; simp only [hIs]
theorem hAgg (l : Toks) (kind : Int) (s : RS) (ag : Int) (of_ : ByteArray) : rAgg (sl l) kind (zS s) ag of_ = ((rAgg l kind s ag of_).1, zS (rAgg l kind s ag of_).2.1, (rAgg l kind s ag of_).2.2) := by
  unfold rAgg
  rw [hAggI, hStep, hName, z_1, tk_sl, st_4, hFail 7 (tk l s.1).2.2.2.1]
  split
  · rfl
  · split
    · rfl
    · split <;> rfl
theorem hHeadL (l : Toks) (kind : Int) : ∀ (f : Nat) (s : RS) (ag : Int) (of_ : ByteArray) (hd : List ByteArray), rHeadL (sl l) kind f (zS s) ag of_ hd = (zS (rHeadL l kind f s ag of_ hd).1, (rHeadL l kind f s ag of_ hd).2)
  | 0, _, _, _, _ => rfl
  | f + 1, s, ag, of_, hd => by
    have e : (if 40 ≤ hd.length then rFail 9 (atT (sl l) (zS s)) (rName (sl l) (zS s)).2 else (rName (sl l) (zS s)).2) = zS (if 40 ≤ hd.length then rFail 9 (atT l s) (rName l s).2 else (rName l s).2) := by
      rw [hAt, hName, hFail 9 (atT l s)]
      split <;> rfl
    unfold rHeadL
    rw [e, hAgg, hTake, hName, z_2]
    generalize (if 40 ≤ hd.length then rFail 9 (atT l s) (rName l s).2 else (rName l s).2) = q
    split
    · split
      · rfl
      · split
        · exact hHeadL l kind f _ _ _ _
        · rfl
    · rfl
theorem hHead (l : Toks) (kind : Int) (s : RS) (ag : Int) (of_ : ByteArray) (hd : List ByteArray) : rHead (sl l) kind (zS s) ag of_ hd = (zS (rHead l kind s ag of_ hd).1, (rHead l kind s ag of_ hd).2) := by
  unfold rHead
  split
  · rw [hName, hMust, hAgg, hAt, hFail 7 (atT l (rAgg l kind (rMust l commaB (rName l s).2) ag of_).2.1)]
    refine Prod.ext ?_ rfl
    show (if _ then _ else _) = zS (if _ then _ else _)
    split <;> rfl
  · exact hHeadL l kind 400 s ag of_ hd
theorem hTerm (l : Toks) (s : RS) : rTerm (sl l) (zS s) = ((rTerm l s).1, zS (rTerm l s).2) := by
  unfold rTerm
  rw [hName, hStep, z_1, z_2, tk_sl, st_1, st_3]
  split <;> rfl
theorem hArg (l : Toks) (s : RS) : rArg (sl l) (zS s) = ((rArg l s).1, zS (rArg l s).2) := by
  unfold rArg
  rw [hIs, hStep, hTerm]
  split <;> rfl
theorem hArgsL (l : Toks) : ∀ (f : Nat) (s : RS) (acc : List ty58.D), rArgsL (sl l) f (zS s) acc = (zS (rArgsL l f s acc).1, (rArgsL l f s acc).2)
  | 0, _, _ => rfl
  | f + 1, s, acc => by
    have e : (if 40 < acc.length + 1 then rFail 9 (atT (sl l) (zS s)) (rArg (sl l) (zS s)).2 else (rArg (sl l) (zS s)).2) = zS (if 40 < acc.length + 1 then rFail 9 (atT l s) (rArg l s).2 else (rArg l s).2) := by
      rw [hAt, hArg, hFail 9 (atT l s)]
      split <;> rfl
    unfold rArgsL
    rw [e, hTake, hArg, z_2, hMust]
    generalize (if 40 < acc.length + 1 then rFail 9 (atT l s) (rArg l s).2 else (rArg l s).2) = q
    split
    · split
      · exact hArgsL l f _ _
      · rfl
    · rfl
theorem hArgs (l : Toks) (s : RS) : rArgs (sl l) (zS s) = (zS (rArgs l s).1, (rArgs l s).2) := by
  unfold rArgs
  rw [hTake]
  split
  · rfl
  · exact hArgsL l 400 _ _
theorem hLone (l : Toks) (p : Int) (s : RS) : rLone (sl l) 0 (zS s) = zS (rLone l p s) := by
  unfold rLone
  rw [hIs, hNamed, z_1, tk_sl, st_1, hFail 9 p, hFail 7 p, hFail 7 p]
  split <;> rfl
theorem hPar (l : Toks) (s : RS) : rPar (sl l) (zS s) = rPar l s := by unfold rPar; rw [z_1, sl_len, tk_sl, st_1, st_2]
theorem hAtomS (l : Toks) (atoms : Int) (not_ : Bool) (p : Int) (s : RS) : rAtomS (sl l) atoms not_ 0 (zS s) = zS (rAtomS l atoms not_ p s) := by
  unfold rAtomS
  rw [hName, hMust, hFail 9 p]
  split <;> rfl
theorem hAtom (l : Toks) (atoms : Int) (not_ : Bool) (p : Int) (s : RS) : rAtom (sl l) atoms not_ 0 (zS s) = ((rAtom l atoms not_ p s).1, zS (rAtom l atoms not_ p s).2) := by
  unfold rAtom
  rw [hAtomS l atoms not_ p s, hArgs, hName]
theorem hCmpS (l : Toks) (s : RS) : rCmpS (sl l) (zS s) = zS (rCmpS l s) := by
  unfold rCmpS
  rw [hAt, z_1, tk_sl, st_1, st_2, hFail 7 (atT l s)]
  split <;> rfl
theorem hCmp (l : Toks) (not_ : Bool) (s : RS) : rCmp (sl l) not_ (zS s) = ((rCmp l not_ s).1, zS (rCmp l not_ s).2) := by
  unfold rCmp
  rw [hTerm, hCmpS, hStep, hTerm, z_1, tk_sl, st_2]
theorem hLit (l : Toks) (atoms : Int) (s : RS) : rLit (sl l) atoms (zS s) = ((rLit l atoms s).1, zS (rLit l atoms s).2) := by
  have e : (if (rTake l notB s).1 = true then rFail 7 0 (zS (rTake l notB s).2) else zS (rTake l notB s).2) = zS (if (rTake l notB s).1 = true then rFail 7 (atT l (rTake l notB s).2) (rTake l notB s).2 else (rTake l notB s).2) := by
    rw [hFail 7 (atT l (rTake l notB s).2)]
    split <;> rfl
  unfold rLit
  rw [hTake, hNamed, hPar, hAt, e, hCmp, hAtom l atoms _ (atT l (rTake l notB s).2)]
  split <;> rfl
theorem hBodySt (l : Toks) (s : RS) (bd : List ty61.D) : bodySt (sl l) (zS s) bd = zS (bodySt l s bd) := by
  unfold bodySt
  rw [hAt, hLone l (atT l s)]
  split <;> rfl
theorem hBodyL (l : Toks) : ∀ (f : Nat) (atoms : Int) (s : RS) (bd : List ty61.D), rBodyL (sl l) f atoms (zS s) bd = (zS (rBodyL l f atoms s bd).1, (rBodyL l f atoms s bd).2)
  | 0, _, _, _ => rfl
  | f + 1, atoms, s, bd => by
    unfold rBodyL
    rw [hBodySt, hLit, hTake, z_2]
    split
    · split
      · exact hBodyL l f _ _ _
      · rfl
    · rfl
theorem hBody (l : Toks) (s : RS) : rBody (sl l) (zS s) = (zS (rBody l s).1, (rBody l s).2) := hBodyL l 400 0 s []
theorem hKind (l : Toks) (s : RS) : rKind (sl l) (zS s) = ((rKind l s).1, zS (rKind l s).2) := by
  unfold rKind
  rw [hTake, hTake, hTake, hAt, hFail 7 (atT l (rTake l quotaB (rTake l viewB (rTake l denyB s).2).2).2)]
  split
  · rfl
  · split
    · rfl
    · split <;> rfl
theorem hLimS (l : Toks) (s : RS) : rLimS (sl l) (zS s) = zS (rLimS l s) := by
  unfold rLimS
  rw [hAt, z_1, z_2, tk_sl, st_1, st_3, hFail 7 (atT l s)]
  split <;> rfl
theorem hLim (l : Toks) (kind : Int) (s : RS) : rLim (sl l) kind (zS s) = ((rLim l kind s).1, zS (rLim l kind s).2) := by
  unfold rLim
  rw [hMust, hLimS, hStep, z_1, tk_sl, st_3]
  split <;> rfl
theorem hEndS (l : Toks) (s : RS) : rEndS (sl l) (zS s) = zS (rEndS l s) := by
  unfold rEndS
  rw [hAt, z_1, tk_sl, st_1, hFail 7 (atT l s)]
  split <;> rfl
/-- but for the place where it is wrong -/
def zR (x : RR) : RR := (x.1, x.2.1, x.2.2.1, x.2.2.2.1, x.2.2.2.2.1, 0, x.2.2.2.2.2.2)
theorem hEnd (l : Toks) (kind : Int) (nm : ByteArray) (ag : Int) (of_ : ByteArray) (lim : Int) (hd : List ByteArray) (s : RS) : rEnd (sl l) kind nm ag of_ lim hd (zS s) = zR (rEnd l kind nm ag of_ lim hd s) := by
  unfold rEnd
  rw [hMust, hBody, hEndS, z_2]
  split <;> rfl
theorem hHd (l : Toks) (kind : Int) (s : RS) : rHd (sl l) kind (zS s) = (zS (rHd l kind s).1, (rHd l kind s).2) := by
  unfold rHd
  rw [hName, hMust, hHead]
theorem hRest (l : Toks) (kind : Int) (s : RS) : rRest (sl l) kind (zS s) = zR (rRest l kind s) := by
  unfold rRest
  rw [hHd, hName, hMust, hLim, hEnd]
theorem hTok (l : Toks) : rTok (sl l) = zR (rTok l) := by
  unfold rTok
  rw [show ((0, 0, 0) : RS) = zS (0, 0, 0) from rfl, hKind, hRest]
  rfl
/-- tokens that differ in their places alone are one rule -/
theorem rTok_sl {l l' : Toks} (h : sl l = sl l') : zR (rTok l) = zR (rTok l') := by rw [← hTok, ← hTok, h]
end Go.Proofs.YtnnbinmomendnaaDoor.E
namespace Go.Proofs.YtnnbinmomendnaaDoor.E
open Go.RowKit
set_option maxRecDepth 100000
/-! a token is the same wherever its text stands, if nothing that goes on with it stands behind -/
theorem scan_spec (p : Nat → Bool) : ∀ f i, (∀ j, i ≤ j → j < scanN p f i → p j = true) ∧ (scanN p f i = i + f ∨ p (scanN p f i) = false)
  | 0, i => ⟨fun j h1 h2 => by unfold scanN at h2; omega, .inl rfl⟩
  | f + 1, i => by
    unfold scanN
    by_cases h : p i = true
    · rw [if_pos h]
      obtain ⟨a, b⟩ := scan_spec p f (i + 1)
      refine ⟨fun j h1 h2 => ?_, b.imp (fun e => by omega) id⟩
      by_cases e : j = i
      · rw [e]; exact h
      · exact a j (by omega) h2
    · rw [if_neg h]
      exact ⟨fun j h1 h2 => by omega, .inr (by simpa using h)⟩
theorem scan_uniq {p : Nat → Bool} : ∀ {f i j : Nat}, i ≤ j → j ≤ i + f → (∀ q, i ≤ q → q < j → p q = true) → (j = i + f ∨ p j = false) → scanN p f i = j
  | 0, i, j, h1, h2, _, _ => by unfold scanN; omega
  | f + 1, i, j, h1, h2, h3, h4 => by
    unfold scanN
    by_cases e : j = i
    · subst e
      rw [if_neg (by rcases h4 with h | h; (omega); (rw [h]; decide))]
    · rw [if_pos (h3 i (Nat.le_refl _) (by omega))]
      exact scan_uniq (by omega) (by omega) (fun q a b => h3 q (by omega) b) (h4.imp (fun e => by omega) id)
theorem bt_pre {u v : ByteArray} {n : Nat} (h : v.extract 0 n = u.extract 0 n) {j : Nat} (hj : j < n) : bt v j = bt u j := by
  have e : v.data.toList.take n = u.data.toList.take n := by rw [← ext0, ← ext0, h]
  have e2 := congrArg (fun l => l[j]?) e
  simp only [List.getElem?_take, hj, if_true] at e2
  unfold bt
  rw [List.getD_eq_getElem?_getD, List.getD_eq_getElem?_getD, e2]
def sepN (c : Nat) : Bool := decide (c = 32) || decide (c = 10) || decide (c = 40) || decide (c = 41) || decide (c = 44)
theorem sep_no {c : Nat} (h : sepN c = true) : letN c = false ∧ digN c = false ∧ c ≠ 95 ∧ c ≠ 61 := by
  unfold sepN at h
  simp only [Bool.or_eq_true, decide_eq_true_eq] at h
  rcases h with (((h | h) | h) | h) | h <;> subst h <;> decide
/-- a single sign, with which nothing goes on -/
def oneN (c : Nat) : Prop := c = 40 ∨ c = 41 ∨ c = 44 ∨ c = 95
/-- what stands behind n bytes does not go on with them -/
def Sepd (c : Nat) (v : ByteArray) (n : Nat) : Prop := v.size = n ∨ sepN (bt v n) = true ∨ oneN c
theorem oneN_no {c : Nat} (h : oneN c) : letN c = false ∧ digN c = false ∧ c ≠ 45 ∧ c ≠ 34 ∧ c ≠ 61 ∧ c ≠ 33 ∧ c ≠ 60 ∧ c ≠ 62 := by
  rcases h with h | h | h | h <;> subst h <;> decide
theorem word_loc {u v : ByteArray} (h0 : 0 < u.size) (hl : letN (bt u 0) = true) (hx : v.extract 0 (wordN u) = u.extract 0 (wordN u)) (hv : wordN u ≤ v.size) (hs : Sepd (bt u 0) v (wordN u)) : wordN v = wordN u := by
  have hr := wordN_rng u h0 hl
  have eq : ∀ q, q < wordN u → wchN v q = wchN u q := fun q hq => by unfold wchN; rw [bt_pre hx hq]
  refine scan_uniq (f := v.size) (Nat.zero_le _) (by omega) (fun q _ hq => ?_) ?_
  · rw [eq q hq]
    exact (scan_spec (wchN u) u.size 0).1 q (Nat.zero_le _) hq
  · rcases hs with h | h | h
    · left; omega
    · right
      obtain ⟨a, b, c, _⟩ := sep_no h
      unfold wchN
      simp [a, b, c]
    · rw [(oneN_no h).1] at hl; cases hl
theorem num_loc {u v : ByteArray} (h0 : 0 < u.size) (hd : digN (bt u 0) = true ∨ bt u 0 = 45) (hx : v.extract 0 (numN u) = u.extract 0 (numN u)) (hv : numN u ≤ v.size) (hs : Sepd (bt u 0) v (numN u)) :
    numN v = numN u ∧ ¬ (numN u < v.size ∧ (letN (bt v (numN u)) = true ∨ bt v (numN u) = 95)) := by
  have hr := numN_rng u h0 hd
  have e0 : bt v 0 = bt u 0 := bt_pre hx (by omega)
  have hn : v.size = numN u ∨ sepN (bt v (numN u)) = true := by
    rcases hs with h | h | h
    · exact .inl h
    · exact .inr h
    · obtain ⟨a, b, c, _⟩ := oneN_no h
      rcases hd with h | h
      · rw [b] at h; cases h
      · exact absurd h c
  refine ⟨?_, ?_⟩
  · have eu : numN u = scanN (fun i => digN (bt u i)) (u.size - (if bt u 0 = 45 then 1 else 0)) (if bt u 0 = 45 then 1 else 0) := rfl
    have ev : numN v = scanN (fun i => digN (bt v i)) (v.size - (if bt u 0 = 45 then 1 else 0)) (if bt u 0 = 45 then 1 else 0) := by unfold numN; rw [e0]
    rw [ev]
    have hk : (if bt u 0 = 45 then 1 else 0) ≤ 1 := by split <;> omega
    generalize (if bt u 0 = 45 then 1 else 0) = k at hk eu
    have hle := scanN_le (fun i => digN (bt u i)) (u.size - k) k
    rw [← eu] at hle
    have sp := scan_spec (fun i => digN (bt u i)) (u.size - k) k
    rw [← eu] at sp
    refine scan_uniq hle.1 (by omega) (fun q h1 h2 => ?_) ?_
    · show digN (bt v q) = true
      rw [bt_pre hx h2]
      exact sp.1 q h1 h2
    · rcases hn with h | h
      · left; omega
      · right; exact (sep_no h).2.1
  · rintro ⟨h1, h2⟩
    rcases hn with h | h
    · omega
    · obtain ⟨a, _, c, _⟩ := sep_no h
      rcases h2 with h2 | h2
      · rw [a] at h2; cases h2
      · exact c h2
theorem text_gt (s : ByteArray) : ∀ f i, textN s f i = 0 ∨ i < textN s f i
  | 0, i => .inl rfl
  | f + 1, i => by
    unfold textN
    split
    · split
      · exact (text_gt s f (i + 2)).imp id (fun h => by omega)
      · split
        · right; omega
        · exact (text_gt s f (i + 1)).imp id (fun h => by omega)
    · exact .inl rfl
theorem text_loc {u v : ByteArray} {m : Nat} (hm : 0 < m) (hb : ∀ j, j < m → bt v j = bt u j) (hv : m ≤ v.size) : ∀ (f f' i : Nat), textN u f i = m → v.size < i + f' → textN v f' i = m
  | 0, _, i, h, _ => by unfold textN at h; omega
  | f + 1, f', i, h, hf => by
    have hi : i < m := by
      have := text_gt u (f + 1) i
      omega
    obtain ⟨f', rfl⟩ : ∃ q, f' = q + 1 := ⟨f' - 1, by omega⟩
    unfold textN at h ⊢
    rw [if_pos (show i < v.size by omega), hb i hi]
    split at h
    · split at h
      · rename_i h1 h2
        rw [if_pos h2]
        exact text_loc hm hb hv f f' (i + 2) h (by omega)
      · rename_i h1 h2
        rw [if_neg h2]
        split at h
        · rename_i h3
          rw [if_pos h3]; exact h
        · rename_i h3
          rw [if_neg h3]
          exact text_loc hm hb hv f f' (i + 1) h (by omega)
    · omega
theorem sign_loc {u v : ByteArray} (h0 : 0 < u.size) (hp : 0 < signN u) (hx : v.extract 0 (signN u) = u.extract 0 (signN u)) (hv : signN u ≤ v.size) (hs : Sepd (bt u 0) v (signN u)) : signN v = signN u := by
  have hle := signN_le u h0
  have e0 : bt v 0 = bt u 0 := bt_pre hx hp
  by_cases h2 : 2 ≤ u.size ∧ bt u 1 = 61 ∧ (bt u 0 = 61 ∨ bt u 0 = 33 ∨ bt u 0 = 60 ∨ bt u 0 = 62)
  · have e : signN u = 2 := by unfold signN; rw [if_pos h2]
    rw [e] at hx hv ⊢
    have e1 : bt v 1 = bt u 1 := bt_pre hx (by omega)
    unfold signN
    rw [e0, e1, if_pos ⟨hv, h2.2⟩]
  · have e : signN u = if bt u 0 = 40 ∨ bt u 0 = 41 ∨ bt u 0 = 44 ∨ bt u 0 = 95 ∨ bt u 0 = 60 ∨ bt u 0 = 62 then 1 else 0 := by unfold signN; rw [if_neg h2]
    have hc : bt u 0 = 40 ∨ bt u 0 = 41 ∨ bt u 0 = 44 ∨ bt u 0 = 95 ∨ bt u 0 = 60 ∨ bt u 0 = 62 := by
      by_cases h : bt u 0 = 40 ∨ bt u 0 = 41 ∨ bt u 0 = 44 ∨ bt u 0 = 95 ∨ bt u 0 = 60 ∨ bt u 0 = 62
      · exact h
      · rw [if_neg h] at e; omega
    rw [if_pos hc] at e
    rw [e] at hs
    unfold signN
    rw [e0, if_neg, if_neg h2]
    rintro ⟨g1, g2, g3⟩
    rcases hs with h | h | h
    · omega
    · exact (sep_no h).2.2.2 g2
    · obtain ⟨_, _, _, _, a, b, c, d⟩ := oneN_no h
      omega
theorem ext_siz {u : ByteArray} {t : ty52.D} {n : Nat} (hn : n ≤ u.size) (h : u.extract 0 n = t.2.1) : t.2.1.size = n := by rw [← h, ext_size u n hn]
theorem oneS_loc {u v : ByteArray} {t : ty52.D} (h0 : 0 < u.size) (h : oneS u = some t) (he : v.extract 0 t.2.1.size = t.2.1) (hv : t.2.1.size ≤ v.size) (hs : Sepd (bt u 0) v t.2.1.size) : oneS v = some t := by
  have hsz := oneS_size h0 h
  have cst : ∀ m, m ≤ u.size → constS u m = some t → t.2.1 = u.extract 0 m ∧ t.2.1.size = m := by
    intro m hm hc
    unfold constS at hc
    split at hc
    · injection hc with hc
      have e : u.extract 0 m = t.2.1 := by rw [← hc]
      exact ⟨e.symm, ext_siz hm e⟩
    · cases hc
  have h' := h
  unfold oneS at h'
  unfold oneS
  split at h'
  · rename_i hl
    have hr := wordN_rng u h0 hl
    have ht : u.extract 0 (wordN u) = t.2.1 := by split at h' <;> (injection h' with h'; rw [← h'])
    have hn := ext_siz hr.2 ht
    rw [hn] at he hv hs
    have hx := he.trans ht.symm
    have hw := word_loc h0 hl hx hv hs
    rw [if_pos (by rw [bt_pre hx (by omega)]; exact hl), hw, hx]
    exact h'
  · rename_i hl
    split at h'
    · rename_i hd
      have hr := numN_rng u h0 hd
      split at h'
      · cases h'
      · obtain ⟨ht, hn⟩ := cst _ hr.2 h'
        rw [hn] at he hv hs
        have hx := he.trans ht
        obtain ⟨hw, hg⟩ := num_loc h0 hd hx hv hs
        have e0 : bt v 0 = bt u 0 := bt_pre hx (by omega)
        rw [e0, if_neg hl, if_pos hd, hw, if_neg hg]
        unfold constS at h' ⊢
        rw [hx]
        exact h'
    · rename_i hd
      split at h'
      · rename_i hq
        split at h'
        · rename_i hp
          obtain ⟨ht, hn⟩ := cst _ (textN_le u _ _) h'
          rw [hn] at he hv hs
          have hx := he.trans ht
          have e0 : bt v 0 = bt u 0 := bt_pre hx hp
          have hw : textN v (v.size + 1) 1 = textN u (u.size + 1) 1 := text_loc hp (fun j hj => bt_pre hx hj) hv (u.size + 1) (v.size + 1) 1 rfl (by omega)
          rw [e0, if_neg hl, if_neg hd, if_pos hq, hw, if_pos hp]
          unfold constS at h' ⊢
          rw [hx]
          exact h'
        · cases h'
      · rename_i hq
        split at h'
        · rename_i hp
          injection h' with h'
          have ht : u.extract 0 (signN u) = t.2.1 := by rw [← h']
          have hn := ext_siz (signN_le u h0) ht
          rw [hn] at he hv hs
          have hx := he.trans ht.symm
          have e0 : bt v 0 = bt u 0 := bt_pre hx hp
          have hw := sign_loc h0 hp hx hv hs
          rw [e0, if_neg hl, if_neg hd, if_neg hq, hw, if_pos hp, hx, h']
        · cases h'
end Go.Proofs.YtnnbinmomendnaaDoor.E
namespace Go.Proofs.YtnnbinmomendnaaDoor.E
open Go.RowKit
set_option maxRecDepth 100000
/-! a text that is put together of blanks and tokens -/
def isBl (c : UInt8) : Prop := c.toNat = 32 ∨ c.toNat = 10
def catL (tr : List UInt8) : List (List UInt8 × ByteArray) → List UInt8
  | [] => tr
  | (g, w) :: r => g ++ (w.data.toList ++ catL tr r)
/-- what stands behind a token's text -/
def Nxt (w : ByteArray) (l : List UInt8) : Prop := l = [] ∨ sepN (l.headD 0).toNat = true ∨ oneN (bt w 0)
def GoodL (tr : List UInt8) : List (List UInt8 × ByteArray) → Toks → Prop
  | [], [] => ∀ b ∈ tr, isBl b
  | (g, w) :: r, t :: m => (∀ b ∈ g, isBl b) ∧ 0 < w.size ∧ oneS w = some (stT t) ∧ t.2.1 = w ∧ Nxt w (catL tr r) ∧ GoodL tr r m
  | _, _ => False
theorem bt_dropl {T : ByteArray} {i : Nat} {l : List UInt8} (h : T.data.toList.drop i = l) (j : Nat) : bt T (i + j) = (l.getD j 0).toNat := by
  unfold bt
  rw [← h, List.getD_eq_getElem?_getD, List.getD_eq_getElem?_getD, List.getElem?_drop]
theorem len_drop {T : ByteArray} {i : Nat} {l : List UInt8} (h : T.data.toList.drop i = l) (hi : i ≤ T.size) : i + l.length = T.size := by
  rw [← h, List.length_drop, ← ba_size]; omega
theorem oneS_nb {u : ByteArray} {t : ty52.D} (h : oneS u = some t) : ¬ (bt u 0 = 32 ∨ bt u 0 = 10) := by
  intro hb
  have e : letN (bt u 0) = false ∧ digN (bt u 0) = false ∧ bt u 0 ≠ 45 ∧ bt u 0 ≠ 34 ∧ bt u 0 ≠ 61 ∧ bt u 0 ≠ 33 ∧ bt u 0 ≠ 60 ∧ bt u 0 ≠ 62 ∧ bt u 0 ≠ 40 ∧ bt u 0 ≠ 41 ∧ bt u 0 ≠ 44 ∧ bt u 0 ≠ 95 := by
    rcases hb with hb | hb <;> rw [hb] <;> decide
  obtain ⟨a, b, c, d, e1, e2, e3, e4, e5, e6, e7, e8⟩ := e
  have hs : signN u = 0 := by
    unfold signN
    rw [if_neg (by rintro ⟨_, _, h⟩; omega), if_neg (by omega)]
  unfold oneS at h
  rw [if_neg (by rw [a]; decide), if_neg (by rintro (h | h); (rw [b] at h; cases h); exact c h), if_neg d, hs, if_neg (by decide)] at h
  cases h
theorem drop_app {α : Type} {l a b : List α} {i : Nat} (h : l.drop i = a ++ b) : l.drop (i + a.length) = b := by
  rw [← List.drop_drop, h, List.drop_left]
theorem lexL_cat (T : ByteArray) : ∀ (f : Nat) (tr : List UInt8) (r : List (List UInt8 × ByteArray)) (i : Nat) (acc m : Toks), T.data.toList.drop i = catL tr r → i ≤ T.size → T.size < i + f → GoodL tr r m → ∃ m', lexL T f i acc = .inr (acc ++ m') ∧ sl m' = sl m
  | 0, tr, r, i, acc, m, hd, hi, hf, hg => by omega
  | f + 1, tr, [], i, acc, m, hd, hi, hf, hg => by
    match m, hg with
    | [], hg =>
      unfold lexL
      match tr, hd, hg with
      | [], hd, hg =>
        have := len_drop hd hi
        rw [if_neg (by simp [catL] at this; omega)]
        exact ⟨[], by rw [List.append_nil], rfl⟩
      | b :: tr, hd, hg =>
        have hl := len_drop hd hi
        simp only [catL, List.length_cons] at hl
        have hb : bt T i = b.toNat := bt_dropl hd 0
        have hb2 : isBl b := hg b (List.mem_cons_self ..)
        rw [if_pos (by omega), if_pos (by rw [hb]; exact hb2)]
        exact lexL_cat T f tr [] (i + 1) acc [] (drop_app (a := [b]) hd) (by omega) (by omega) (fun x hx => hg x (List.mem_cons_of_mem _ hx))
  | f + 1, tr, ((b :: g), w) :: r, i, acc, m, hd, hi, hf, hg => by
    match m, hg with
    | t :: m, ⟨h1, h2, h3, h4, h5, h6⟩ =>
      have hl := len_drop hd hi
      simp only [catL, List.length_cons, List.length_append, List.cons_append] at hl
      have hb : bt T i = b.toNat := bt_dropl hd 0
      have hb2 : isBl b := h1 b (List.mem_cons_self ..)
      unfold lexL
      rw [if_pos (by omega), if_pos (by rw [hb]; exact hb2)]
      exact lexL_cat T f tr ((g, w) :: r) (i + 1) acc (t :: m) (drop_app (a := [b]) hd) (by omega) (by omega) ⟨fun x hx => h1 x (List.mem_cons_of_mem _ hx), h2, h3, h4, h5, h6⟩
  | f + 1, tr, ([], w) :: r, i, acc, m, hd, hi, hf, hg => by
    match m, hg with
    | t :: m, ⟨h1, h2, h3, h4, h5, h6⟩ =>
      have hd' : T.data.toList.drop i = w.data.toList ++ catL tr r := hd
      have hl := len_drop hd' hi
      rw [List.length_append, ← ba_size] at hl
      have hz : (T.extract i T.size).size = T.size - i := by rw [ByteArray.size_extract]; omega
      have hv : (T.extract i T.size).data.toList = w.data.toList ++ catL tr r := by
        rw [← hd']
        simp only [ByteArray.data_extract, Array.toList_extract, List.extract_eq_take_drop]
        rw [List.take_of_length_le]
        rw [List.length_drop, ← ba_size]
        exact Nat.le_refl _
      have hb0 : bt T i = bt w 0 := by
        have := bt_dropl hd' 0
        rw [Nat.add_zero] at this
        rw [this]
        unfold bt
        rw [List.getD_eq_getElem?_getD, List.getD_eq_getElem?_getD, List.getElem?_append_left (by rw [← ba_size]; exact h2)]
      have hx : (T.extract i T.size).extract 0 w.size = w := by
        apply ba_eq
        rw [ext0, hv, List.take_append_of_le_length (by rw [← ba_size]; exact Nat.le_refl _), List.take_of_length_le (by rw [← ba_size]; exact Nat.le_refl _)]
      have hs : Sepd (bt w 0) (T.extract i T.size) w.size := by
        rcases h5 with h | h | h
        · left; rw [hz]; rw [h] at hl; simp at hl; omega
        · right; left
          have : bt (T.extract i T.size) w.size = ((catL tr r).headD 0).toNat := by
            unfold bt
            rw [hv, List.getD_eq_getElem?_getD, List.getElem?_append_right (by rw [← ba_size]; exact Nat.le_refl _), ← ba_size, Nat.sub_self]
            cases catL tr r <;> rfl
          rw [this]; exact h
        · right; right; exact h
      have ht : (stT t).2.1 = w := h4
      have ho : oneS (T.extract i T.size) = some (stT t) := oneS_loc h2 h3 (by rw [ht]; exact hx) (by rw [ht, hz]; omega) (by rw [ht]; exact hs)
      unfold lexL
      rw [if_pos (by omega), if_neg (by rw [hb0]; exact oneS_nb h3), ho]
      show ∃ m', lexL T f (i + (stT t).2.1.size) (acc ++ [((stT t).1, (stT t).2.1, (stT t).2.2.1, (i : Int), ())]) = _ ∧ _
      rw [ht]
      have hnx : T.data.toList.drop (i + w.size) = catL tr r := by rw [ba_size]; exact drop_app hd'
      obtain ⟨m', g1, g2⟩ := lexL_cat T f tr r (i + w.size) (acc ++ [((stT t).1, w, (stT t).2.2.1, (i : Int), ())]) m hnx (by omega) (by omega) h6
      refine ⟨((stT t).1, w, (stT t).2.2.1, (i : Int), ()) :: m', by rw [g1]; simp, ?_⟩
      show stT _ :: sl m' = stT t :: sl m
      rw [g2]
      congr 1
      show ((stT t).1, w, (stT t).2.2.1, (0 : Int), ()) = stT t
      rw [← h4]
      rfl
theorem lexS_cat {T : ByteArray} {tr : List UInt8} {r : List (List UInt8 × ByteArray)} {m : Toks} (h : T.size ≤ 300) (hd : T.data.toList = catL tr r) (hg : GoodL tr r m) : ∃ m', lexS T = (0, 0, m' ++ [endT T]) ∧ sl m' = sl m := by
  obtain ⟨m', h1, h2⟩ := lexL_cat T (T.size + 1) tr r 0 [] m (by rw [List.drop_zero]; exact hd) (Nat.zero_le _) (by omega) hg
  refine ⟨m', ?_, h2⟩
  unfold lexS
  rw [if_neg (by omega), h1]
  rfl
/-- a token of a text is the token of its own text -/
theorem oneS_self {u : ByteArray} {t : ty52.D} (h0 : 0 < u.size) (h : oneS u = some t) (ht : t.2.1 = u.extract 0 t.2.1.size) : oneS t.2.1 = some t := by
  refine oneS_loc h0 h ?_ (Nat.le_refl _) (.inl rfl)
  apply ba_eq
  rw [ext0, List.take_of_length_le (by rw [← ba_size]; exact Nat.le_refl _)]
theorem oneS_0 {u : ByteArray} {t : ty52.D} (h : oneS u = some t) : t.2.2.2 = (0, ()) ∧ ∃ m, t.2.1 = u.extract 0 m := by
  have fin : ∀ (k : Int) (x : ty34.D) (m : Nat), (k, u.extract 0 m, x, (0 : Int), ()) = t → t.2.2.2 = (0, ()) ∧ ∃ m, t.2.1 = u.extract 0 m := by
    rintro k x m rfl
    exact ⟨rfl, m, rfl⟩
  have cst : ∀ m, constS u m = some t → t.2.2.2 = (0, ()) ∧ ∃ m, t.2.1 = u.extract 0 m := by
    intro m hc
    unfold constS at hc
    split at hc
    · injection hc with hc
      exact fin _ _ m hc
    · cases hc
  unfold oneS at h
  split at h
  · split at h <;> (injection h with h; exact fin _ _ _ h)
  · split at h
    · split at h
      · cases h
      · exact cst _ h
    · split at h
      · split at h
        · exact cst _ h
        · cases h
      · split at h
        · injection h with h
          exact fin _ _ _ h
        · cases h
theorem ext_self {u v : ByteArray} {m : Nat} (h : v = u.extract 0 m) : v = u.extract 0 v.size := by
  apply ba_eq
  rw [h, ext0, ext0, ba_size, ext0, List.length_take]
  by_cases hm : m ≤ u.data.toList.length
  · rw [Nat.min_eq_left hm]
  · rw [Nat.min_eq_right (by omega), List.take_of_length_le (by omega), List.take_of_length_le (Nat.le_refl _)]
def SelfT (n : Nat) (t : ty52.D) : Prop := 0 < t.2.1.size ∧ t.2.1.size ≤ n ∧ oneS t.2.1 = some (stT t)
theorem lexL_self (s : ByteArray) : ∀ (f i : Nat) (l l' : Toks), i ≤ s.size → lexL s f i l = .inr l' → (∀ t ∈ l, SelfT s.size t) → ∀ t ∈ l', SelfT s.size t
  | 0, i, l, l', hi, h, hl => by
    rw [lexL] at h
    injection h with h
    rw [← h]; exact hl
  | f + 1, i, l, l', hi, h, hl => by
    rw [lexL] at h
    split at h
    · rename_i hlt
      split at h
      · exact lexL_self s f (i + 1) l l' (by omega) h hl
      · split at h
        · cases h
        · rename_i t ho
          have hz : (s.extract i s.size).size = s.size - i := by rw [ByteArray.size_extract]; omega
          have hsz := oneS_size (s := s.extract i s.size) (by omega) ho
          rw [hz] at hsz
          obtain ⟨h0, m, hm⟩ := oneS_0 ho
          refine lexL_self s f (i + t.2.1.size) _ l' (by omega) h fun x hx => ?_
          rcases List.mem_append.1 hx with hx | hx
          · exact hl x hx
          · rw [List.mem_singleton] at hx
            subst hx
            refine ⟨hsz.1, by show t.2.1.size ≤ _; omega, ?_⟩
            show oneS t.2.1 = some (t.1, t.2.1, t.2.2.1, 0, ())
            rw [oneS_self (by omega) ho (ext_self hm)]
            obtain ⟨a, b, c, d⟩ := t
            simp only at h0
            rw [h0]
    · injection h with h
      rw [← h]; exact hl
theorem lexS_self {s : ByteArray} (h : (lexS s).2.1 = 0) : ∃ m, (lexS s).2.2 = m ++ [endT s] ∧ m.length ≤ s.size ∧ ∀ t ∈ m, SelfT s.size t := by
  unfold lexS at h ⊢
  split at h
  · cases h
  · rename_i hs
    rw [if_neg hs]
    split at h
    · cases h
    · rename_i l hl
      exact ⟨l, rfl, lexL_len s _ _ _ _ (Nat.zero_le _) (by simp) hl, lexL_self s _ _ _ _ (Nat.zero_le _) hl (by simp)⟩
end Go.Proofs.YtnnbinmomendnaaDoor.E
namespace Go.Proofs.YtnnbinmomendnaaDoor.E
open Go.RowKit
variable {R : Type}
set_option maxRecDepth 100000
theorem readL_F (n : Nat) (s : ByteArray) (k : Toks → Int → Int → Option R) : lex_Read_F n s k = k (lexS s).2.2 (lexS s).1 (lexS s).2.1 := by
  rw [lex_Read_e]
  unfold lex_Read_Fi
  rw [if_pos trivial]
/-! fixed calls, by the document's lexer -/
noncomputable def lexX (n : Nat) (s : ByteArray) : Int × Int × Toks := (verdererref11_Read_F (R := Int × Int × Toks) n s (fun a b c => some (a, b, c))).getD (0, 0, [])
theorem lexX_eq (n : Nat) (hn : 2000 < n) (s : ByteArray) : lexX n s = lexS s := by
  unfold lexX
  rw [refLex_F n s hn]
  rfl
noncomputable def rulX (n : Nat) (s : ByteArray) : RR := if (lexX n s).2.1 ≠ 0 then rErr (lexX n s).1 (lexX n s).2.1 else rTok (lexX n s).2.2
theorem rulX_eq (n : Nat) (hn : 2000 < n) (s : ByteArray) : rulX n s = rRule s := by
  unfold rulX rRule
  rw [lexX_eq n hn]
theorem known_F (m : Nat) (k : Bool → Option R) : verdererlaw12_known_F (m + 2001) k = k true := by
  have h : ∀ (s : ByteArray) (k : ty44.D → Int → Int → Option R), parse_Rule_F (m + 2001) s k = k (ruleT (rulX (m + 2001) s)) (rulX (m + 2001) s).2.2.2.2.2.1 (rulX (m + 2001) s).2.2.2.2.2.2.1 := fun s k => by rw [ruleP2_F, rulX_eq _ (by omega)]
  rw [verdererlaw12_known_e]
  unfold verdererlaw12_known_Fi
  simp only [h]
  clear h
  show _ = _
  kernel_rfl
/-! the text that the law puts together -/
def gapL (g : List Bool) (i : Nat) : List UInt8 := if 0 < i then (if 0 < g.length ∧ g.getD (i % g.length) false = true then [32, 10] else [32]) else []
def catG (g : List Bool) : Nat → Toks → List UInt8
  | _, [] => []
  | i, t :: r => gapL g i ++ (t.2.1.data.toList ++ catG g (i + 1) r)
def mkT (l : List UInt8) : ByteArray := ⟨l.toArray⟩
theorem mkT_l (l : List UInt8) : (mkT l).data.toList = l := rfl
theorem mkT_size (l : List UInt8) : (mkT l).size = l.length := by rw [ba_size]; rfl
theorem tok_one (n : Nat) (s : ByteArray) (g : List Bool) (ys : Toks) (acc : ByteArray) (i : Nat) (hi : i < ys.length) (hy : ys.length ≤ 1000) (ha : acc.size ≤ 1000000) (ht : (ys.getD i (Ty.z ty36)).2.1.size ≤ 1000) (k1 : (verdererlaw12_ParseTokens_ds 6).D → Option R) (k2 : exK R (verdererlaw12_ParseTokens_dx 6)) :
    verdererlaw12_ParseTokens_l6 n (s, g, ys, acc, (i : Int), ()) k1 k2 = k1 (s, g, ys, mkT (acc.data.toList ++ (gapL g i ++ (ys.getD i (Ty.z ty36)).2.1.data.toList)), ((i + 1 : Nat) : Int), ()) := by
  have c1 : (i : Int) < (ys.length : Int) := by omega
  have c2 : (0 : Int) ≤ (i : Int) ∧ (i : Int) < (ys.length : Int) := by omega
  have s1 : (⟨#[32]⟩ : ByteArray).size = 1 := rfl
  have s2 : (⟨#[10]⟩ : ByteArray).size = 1 := rfl
  have l1 : (⟨#[32]⟩ : ByteArray).data.toList = [32] := rfl
  have l2 : (⟨#[10]⟩ : ByteArray).data.toList = [10] := rfl
  unfold verdererlaw12_ParseTokens_l6 verdererlaw12_ParseTokens_s6
  simp only [Int.toNat_natCast, wrap_succ i (by omega)]
  generalize ys.getD i (Ty.z ty36) = t at ht ⊢
  rw [if_pos (decide_eq_true c1)]
  have z1 : acc.size + (⟨#[32]⟩ : ByteArray).size ≤ 9223372036854775807 := by rw [s1]; omega
  have z2 : (acc ++ (⟨#[32]⟩ : ByteArray)).size + (⟨#[10]⟩ : ByteArray).size ≤ 9223372036854775807 := by rw [ByteArray.size_append, s1, s2]; omega
  have z3 : ((acc ++ (⟨#[32]⟩ : ByteArray)) ++ (⟨#[10]⟩ : ByteArray)).size + t.2.1.size ≤ 9223372036854775807 := by rw [ByteArray.size_append, ByteArray.size_append, s1, s2]; omega
  have z4 : (acc ++ (⟨#[32]⟩ : ByteArray)).size + t.2.1.size ≤ 9223372036854775807 := by rw [ByteArray.size_append, s1]; omega
  have z5 : acc.size + t.2.1.size ≤ 9223372036854775807 := by omega
  have e1 : acc ++ t.2.1 = mkT (acc.data.toList ++ ([] ++ t.2.1.data.toList)) := by apply ba_eq; rw [mkT_l]; simp
  have e2 : (acc ++ (⟨#[32]⟩ : ByteArray)) ++ t.2.1 = mkT (acc.data.toList ++ ([32] ++ t.2.1.data.toList)) := by apply ba_eq; rw [mkT_l]; simp
  have e3 : ((acc ++ (⟨#[32]⟩ : ByteArray)) ++ (⟨#[10]⟩ : ByteArray)) ++ t.2.1 = mkT (acc.data.toList ++ ([32, 10] ++ t.2.1.data.toList)) := by apply ba_eq; rw [mkT_l]; simp
  by_cases h0 : 0 < i
  · have c0 : (i : Int) > 0 := by omega
    rw [if_pos (decide_eq_true c0), if_pos z1]
    by_cases hg : 0 < g.length
    · have cg : (g.length : Int) > 0 := by omega
      have cn : ¬ (g.length : Int) = 0 := by omega
      have em : Int.tmod (i : Int) (g.length : Int) = ((i % g.length : Nat) : Int) := rfl
      have hm := Nat.mod_lt i hg
      rw [if_pos (decide_eq_true cg), if_neg cn, em, if_pos (by omega), Int.toNat_natCast]
      by_cases hb : g.getD (i % g.length) false = true
      · have : gapL g i = [32, 10] := by unfold gapL; rw [if_pos h0, if_pos ⟨hg, hb⟩]
        rw [if_pos hb, if_pos z2, if_pos c2, if_pos z3, this, e3]
      · have : gapL g i = [32] := by unfold gapL; rw [if_pos h0, if_neg (fun h => hb h.2)]
        rw [if_neg hb, if_pos c2, if_pos z4, this, e2]
    · have cg : ¬ (g.length : Int) > 0 := by omega
      have : gapL g i = [32] := by unfold gapL; rw [if_pos h0, if_neg (fun h => hg h.1)]
      rw [if_neg (by simpa using cg), if_pos c2, if_pos z4, this, e2]
  · have c0 : ¬ (i : Int) > 0 := by omega
    have : gapL g i = [] := by unfold gapL; rw [if_neg h0]
    rw [if_neg (by simpa using c0), if_pos c2, if_pos z5, this, e1]
theorem gap_len (g : List Bool) (i : Nat) : (gapL g i).length ≤ 2 := by
  unfold gapL
  split
  · split <;> decide
  · decide
theorem tok_loop (n : Nat) (s : ByteArray) (g : List Bool) (ys : Toks) (hy : ys.length ≤ 500) (hs : ∀ t ∈ ys, t.2.1.size ≤ 200) (k2 : exK R (verdererlaw12_ParseTokens_dx 6)) : ∀ (r : Toks) (i m : Nat) (acc : ByteArray), ys.drop i = r → i + r.length = ys.length → acc.size ≤ 202 * i → r.length < m →
    runC (verdererlaw12_ParseTokens_l6 n) m (s, g, ys, acc, (i : Int), ()) k2 = k2.1 (s, mkT (acc.data.toList ++ catG g i r), ())
  | [], i, m, acc, hd, hl, ha, hm => by
    obtain ⟨m, rfl⟩ : ∃ q, m = q + 1 := ⟨m - 1, by omega⟩
    simp only [List.length_nil] at hl
    show verdererlaw12_ParseTokens_l6 n (s, g, ys, acc, (i : Int), ()) (fun b => runC (verdererlaw12_ParseTokens_l6 n) m b k2) k2 = _
    have c1 : ¬ (i : Int) < (ys.length : Int) := by omega
    unfold verdererlaw12_ParseTokens_l6 verdererlaw12_ParseTokens_s6
    rw [if_neg (by simpa using c1)]
    have e : mkT (acc.data.toList ++ catG g i []) = acc := by apply ba_eq; rw [mkT_l]; simp [catG]
    rw [e]
  | t :: r, i, m, acc, hd, hl, ha, hm => by
    obtain ⟨m, rfl⟩ : ∃ q, m = q + 1 := ⟨m - 1, by omega⟩
    simp only [List.length_cons] at hl hm
    have hi : i < ys.length := by omega
    have ht : ys.getD i (Ty.z ty36) = t := by
      have := congrArg (fun l => l[0]?) hd
      simp only [List.getElem?_drop, Nat.add_zero, List.getElem?_cons_zero] at this
      rw [List.getD_eq_getElem?_getD, this]
      rfl
    have hmem : t ∈ ys := by
      rw [← ht, List.getD_eq_getElem?_getD, List.getElem?_eq_getElem hi]
      exact List.getElem_mem hi
    have hts := hs t hmem
    show verdererlaw12_ParseTokens_l6 n (s, g, ys, acc, (i : Int), ()) (fun b => runC (verdererlaw12_ParseTokens_l6 n) m b k2) k2 = _
    rw [tok_one n s g ys acc i hi (by omega) (by omega) (by rw [ht]; omega), ht]
    refine (tok_loop n s g ys hy hs k2 r (i + 1) m _ (by rw [← List.drop_drop, hd]; rfl) (by omega) ?_ (by omega)).trans ?_
    · rw [mkT_size, List.length_append, List.length_append, ← ba_size, ← ba_size]
      have := gap_len g i
      omega
    · rw [mkT_l]
      simp only [catG, List.append_assoc]
def prs (g : List Bool) : Nat → Toks → List (List UInt8 × ByteArray)
  | _, [] => []
  | i, t :: r => (gapL g i, t.2.1) :: prs g (i + 1) r
theorem catG_L (g : List Bool) (e : ty36.D) (he : e.2.1.data.toList = []) : ∀ (m : Toks) (i : Nat), catG g i (m ++ [e]) = catL (gapL g (i + m.length)) (prs g i m)
  | [], i => by simp [catG, catL, prs, he]
  | t :: m, i => by
    show gapL g i ++ (t.2.1.data.toList ++ catG g (i + 1) (m ++ [e])) = gapL g i ++ (t.2.1.data.toList ++ catL _ (prs g (i + 1) m))
    rw [catG_L g e he m (i + 1), List.length_cons, show i + (m.length + 1) = i + 1 + m.length by omega]
theorem gap_bl (g : List Bool) (i : Nat) : ∀ b ∈ gapL g i, isBl b := by
  intro b hb
  unfold gapL at hb
  split at hb
  · split at hb
    · rcases List.mem_cons.1 hb with h | h
      · exact .inl (by rw [h]; rfl)
      · rw [List.mem_singleton] at h
        exact .inr (by rw [h]; rfl)
    · rw [List.mem_singleton] at hb
      exact .inl (by rw [hb]; rfl)
  · cases hb
theorem gap_head (g : List Bool) (i : Nat) (l : List UInt8) : (gapL g (i + 1) ++ l).headD 0 = 32 := by
  unfold gapL
  rw [if_pos (Nat.succ_pos i)]
  split <;> rfl
theorem prs_good (g : List Bool) (n : Nat) : ∀ (m : Toks) (i : Nat), (∀ t ∈ m, SelfT n t) → GoodL (gapL g (i + m.length)) (prs g i m) m
  | [], i, _ => gap_bl g _
  | t :: m, i, h => by
    have ht := h t (List.mem_cons_self ..)
    have ih := prs_good g n m (i + 1) (fun x hx => h x (List.mem_cons_of_mem _ hx))
    have e : i + (t :: m).length = i + 1 + m.length := by rw [List.length_cons]; omega
    rw [e]
    refine ⟨gap_bl g i, ht.1, ht.2.2, rfl, .inr (.inl ?_), ih⟩
    have : (catL (gapL g (i + 1 + m.length)) (prs g (i + 1) m)).headD 0 = 32 := by
      cases m with
      | nil =>
        have := gap_head g i []
        rw [List.append_nil] at this
        exact this
      | cons y m => exact gap_head g i _
    rw [this]
    rfl
theorem same_rule {s T : ByteArray} {g : List Bool} {m : Toks} (h0 : (lexS s).2.1 = 0) (hm : (lexS s).2.2 = m ++ [endT s]) (hself : ∀ t ∈ m, SelfT s.size t) (hT : T.size ≤ 300) (hc : T.data.toList = catG g 0 (m ++ [endT s])) : zR (rRule s) = zR (rRule T) := by
  rw [catG_L g (endT s) rfl m 0, Nat.zero_add] at hc
  have hg := prs_good g s.size m 0 hself
  rw [Nat.zero_add] at hg
  obtain ⟨m', h1, h2⟩ := lexS_cat hT hc hg
  unfold rRule
  rw [if_neg (by rw [h0]; decide), hm, h1, if_neg (by simp)]
  refine rTok_sl ?_
  show sl (m ++ [endT s]) = sl (m' ++ [endT T])
  unfold sl at h2 ⊢
  rw [List.map_append, List.map_append, h2]
  rfl
theorem ParseTokens_true (s : ByteArray) (g : List Bool) (_ : s.size ≤ 140737488351232) (_ : Fine (Ty.sl Ty.bool) g) : ∃ n, verdererlaw12_ParseTokens_F (R := Unit) n s g (fun b => bif b then some () else none) = some () := by
  obtain ⟨m, hm⟩ : ∃ m : Nat, 1000 < m := ⟨2000, by omega⟩
  refine ⟨m + 2001, ?_⟩
  rw [verdererlaw12_ParseTokens_e]
  unfold verdererlaw12_ParseTokens_Fi
  rw [readL_F]
  by_cases h : (lexS s).2.1 = 0
  rotate_left
  · rw [if_pos (by simpa using h), known_F]
    rfl
  rw [if_neg (by rw [h]; decide)]
  by_cases h150 : (s.size : Int) > 150
  · rw [if_pos (decide_eq_true h150), known_F]
    rfl
  rw [if_neg (by simpa using h150)]
  obtain ⟨l, h1, h2, h3⟩ := lexS_self h
  refine (tok_loop (R := Unit) (m + 2001) s g _ (by rw [h1]; simp; omega) (fun t ht => ?_) _ _ 0 _ ⟨#[]⟩ (List.drop_zero) (Nat.zero_add _) (Nat.zero_le _) (by rw [h1]; simp; omega)).trans ?_
  · rw [h1] at ht
    rcases List.mem_append.1 ht with ht | ht
    · have := (h3 t ht).2.1
      omega
    · rw [List.mem_singleton] at ht
      rw [ht]
      exact Nat.zero_le _
  have hT : (mkT ((⟨#[]⟩ : ByteArray).data.toList ++ catG g 0 (lexS s).2.2)).data.toList = catG g 0 (l ++ [endT s]) := by rw [mkT_l, h1]; rfl
  generalize mkT ((⟨#[]⟩ : ByteArray).data.toList ++ catG g 0 (lexS s).2.2) = T at hT
  dsimp only
  rw [ruleP2_F, ruleP2_F]
  by_cases hz : (T.size : Int) > 300
  · rw [if_pos (decide_eq_true hz), known_F]
    rfl
  · rw [if_neg (by simpa using hz)]
    have hr := same_rule h h1 h3 (by omega) hT
    have e1 : ruleT (rRule T) = ruleT (rRule s) := (congrArg ruleT hr).symm
    have e2 : (rRule T).2.2.2.2.2.2.1 = (rRule s).2.2.2.2.2.2.1 := (congrArg (fun x : RR => x.2.2.2.2.2.2.1) hr).symm
    refine (sameR_F _ (ruleT (rRule s)) (ruleT (rRule T)) (small_rule s) (by omega) _).trans ?_
    rw [e1, eqD_refl, if_pos rfl, e2, if_pos (by simp), known_F]
    rfl
end Go.Proofs.YtnnbinmomendnaaDoor.E
/- From what a row lists of strconv's variables to what the walks ask of the world. -/
namespace Go.Proofs.YtnnbinmomendnaaDoor
open Go.RowKit
theorem gt_pow10 : (Tryd.prog.globals[2]?).map (·.type) = some 145 := by kernel_rfl
theorem gt_syn : (Tryd.prog.globals[0]?).map (·.type) = some 106 := by kernel_rfl
theorem gt_rng : (Tryd.prog.globals[1]?).map (·.type) = some 106 := by kernel_rfl
theorem err_star : "*" ++ "errors.errorString" = "*errors.errorString" := by decide
theorem row_err (u : TypeId) (h : Tryd.prog.typeName? 3 u = some "*errors.errorString") : u = 152 :=
  typeName_ptr_named (nm := "errors.errorString") (by rw [err_star]; kernel_rfl) (by kernel_rfl) (by decide) u (by rw [err_star]; exact h)
theorem lt_of_var {w : World} {n : String} {g : Nat} {cs : Array Value} (hg : Tryd.prog.globalNamed n = some g) (h : w.var? Tryd.prog n = some cs) : g < w.heap.size := by
  unfold World.var? at h
  rw [hg] at h
  simp only [Option.bind_some] at h
  rcases Nat.lt_or_ge g w.heap.size with hl | hl
  · exact hl
  · rw [Array.getElem?_eq_none hl] at h; cases h
/-- the list of all the law's rows -/
def laidList : List (String × DataW Unit) := [("math/bits.deBruijn32tab", Rows.laid_math_bits_deBruijn32tab), ("math/bits.deBruijn64tab", Rows.laid_math_bits_deBruijn64tab), ("internal/strconv.uint64pow10", Rows.laid_internal_strconv_uint64pow10), ("strconv.ErrRange", Rows.laid_strconv_ErrRange), ("strconv.ErrSyntax", Rows.laid_strconv_ErrSyntax)]
theorem laid_of {W : World} (h : laidMetH Tryd.prog laidList W) : Laid W := by
  have h0 : laidMet Tryd.prog laidList W := h
  have h3 := h0.tail.tail
  have p := Lib.tabIs_of_head (zs := Lib.pow10Tab) (k := .u64) g_pow10 gt_pow10 Tryd.underlying145 Tryd.underlying94 (by kernel_rfl) (by kernel_rfl) h3
  obtain ⟨a0, s0, hv0, -, -, -⟩ := laid_sentinel h3.tail g_rng gt_rng Tryd.underlying106 row_err Tryd.underlying152 Tryd.underlying154 rfl rfl Tryd.underlying9 (by kernel_rfl) (by kernel_rfl)
  obtain ⟨a1, s1, hv1, -, -, -⟩ := laid_sentinel h3.tail.tail g_syn gt_syn Tryd.underlying106 row_err Tryd.underlying152 Tryd.underlying154 rfl rfl Tryd.underlying9 (by kernel_rfl) (by kernel_rfl)
  exact ⟨p, ⟨_, _, hv1⟩, ⟨_, _, hv0⟩, .inr ⟨lt_of_var g_pow10 p, lt_of_var g_syn hv1, lt_of_var g_rng hv0⟩⟩
end Go.Proofs.YtnnbinmomendnaaDoor
