/- For the law PrintBack. -/
import Derived.Test.YtnnbinmomendnaaGreatDoorMPrintBack5
import Derived.Recover
import Derived.Test.YtnnbinmomendnaaGreatDoorMPrintBack3
import Derived.WalkMore
import Derived.Test.YtnnbinmomendnaaGreatDoorProg
import Derived.KernelRfl
import Derived.Test.YtnnbinmomendnaaGreatDoorMPrintBack4
import Derived.Test.YtnnbinmomendnaaGreatDoorRows
import Derived.Test.YtnnbinmomendnaaGreatDoorMPrintBack1
import Derived.Stop.LaidErr
import Derived.Lib.LaidTab
import Derived.LaidLaws
set_option linter.unusedVariables false
set_option linter.unusedSimpArgs false
set_option linter.unusedSectionVars false
namespace Go.Proofs.YtnnbinmomendnaaGreatDoor.E
open Go.RowKit
variable {R : Type}
def aggN (w : ByteArray) : Nat := if aggW.getD 1 ByteArray.empty = w then 1 else if aggW.getD 2 ByteArray.empty = w then 2 else if aggW.getD 3 ByteArray.empty = w then 3 else if aggW.getD 4 ByteArray.empty = w then 4 else 0
theorem aggN_le (w : ByteArray) : aggN w ≤ 4 := by unfold aggN; split; omega; split; omega; split; omega; split <;> omega
theorem aggIx_F (n : Nat) (w : ByteArray) (hn : 20 < n) (k : Int → Option R) : zAU_F n [(⟨#[99, 111, 117, 110, 116]⟩ : ByteArray), (⟨#[115, 117, 109]⟩ : ByteArray), (⟨#[108, 101, 97, 115, 116]⟩ : ByteArray), (⟨#[109, 111, 115, 116]⟩ : ByteArray)] w k = k ((aggN w : Int) - 1) := by
  refine (ixL_F n _ w (by decide) hn k).trans ?_
  have hr : List.range [(⟨#[99, 111, 117, 110, 116]⟩ : ByteArray), (⟨#[115, 117, 109]⟩ : ByteArray), (⟨#[108, 101, 97, 115, 116]⟩ : ByteArray), (⟨#[109, 111, 115, 116]⟩ : ByteArray)].length = [0, 1, 2, 3] := rfl
  rw [hr]
  have e1 : ixF [(⟨#[99, 111, 117, 110, 116]⟩ : ByteArray), (⟨#[115, 117, 109]⟩ : ByteArray), (⟨#[108, 101, 97, 115, 116]⟩ : ByteArray), (⟨#[109, 111, 115, 116]⟩ : ByteArray)] w 0 = if aggW.getD 1 ByteArray.empty = w then some 0 else none := rfl
  have e2 : ixF [(⟨#[99, 111, 117, 110, 116]⟩ : ByteArray), (⟨#[115, 117, 109]⟩ : ByteArray), (⟨#[108, 101, 97, 115, 116]⟩ : ByteArray), (⟨#[109, 111, 115, 116]⟩ : ByteArray)] w 1 = if aggW.getD 2 ByteArray.empty = w then some 1 else none := rfl
  have e3 : ixF [(⟨#[99, 111, 117, 110, 116]⟩ : ByteArray), (⟨#[115, 117, 109]⟩ : ByteArray), (⟨#[108, 101, 97, 115, 116]⟩ : ByteArray), (⟨#[109, 111, 115, 116]⟩ : ByteArray)] w 2 = if aggW.getD 3 ByteArray.empty = w then some 2 else none := rfl
  have e4 : ixF [(⟨#[99, 111, 117, 110, 116]⟩ : ByteArray), (⟨#[115, 117, 109]⟩ : ByteArray), (⟨#[108, 101, 97, 115, 116]⟩ : ByteArray), (⟨#[109, 111, 115, 116]⟩ : ByteArray)] w 3 = if aggW.getD 4 ByteArray.empty = w then some 3 else none := rfl
  simp only [List.findSome?, e1, e2, e3, e4]
  unfold aggN
  by_cases h1 : aggW.getD 1 ByteArray.empty = w
  · rw [if_pos h1, if_pos h1]; rfl
  · rw [if_neg h1, if_neg h1]
    by_cases h2 : aggW.getD 2 ByteArray.empty = w
    · rw [if_pos h2, if_pos h2]; rfl
    · rw [if_neg h2, if_neg h2]
      by_cases h3 : aggW.getD 3 ByteArray.empty = w
      · rw [if_pos h3, if_pos h3]; rfl
      · rw [if_neg h3, if_neg h3]
        by_cases h4 : aggW.getD 4 ByteArray.empty = w
        · rw [if_pos h4, if_pos h4]; rfl
        · rw [if_neg h4, if_neg h4]; rfl
theorem rAggI_word {l : Toks} {s : RS} (h0 : s.2.1 = 0) (h1 : (tk l s.1).1 = 1) : rAggI l s = aggN (tk l s.1).2.1 := by
  have e : ∀ w : ByteArray, rIs l w s = decide ((tk l s.1).2.1 = w) := fun w => by unfold rIs; rw [decide_eq_true h0, decide_eq_true h1]; simp
  have e2 : ∀ (w : ByteArray), ((decide ((tk l s.1).2.1 = w)) = true) = (w = (tk l s.1).2.1) := fun w => propext ⟨fun h => (of_decide_eq_true h).symm, fun h => decide_eq_true h.symm⟩
  unfold rAggI aggN
  simp only [e, e2]
theorem rAggI_else {l : Toks} {s : RS} (ho : TOk l) (h : s.1 < l.length) (h1 : (tk l s.1).1 ≠ 1) : rAggI l s = 0 := by
  have key : ∀ w : ByteArray, letN (bt w 0) = true → rIs l w s = false := by
    intro w hw
    unfold rIs
    by_cases h3 : (tk l s.1).1 = 3
    · have hs := ho.sign s.1 h h3
      have : (tk l s.1).2.1 ≠ w := fun e => by rw [e, hw] at hs; cases hs
      rw [decide_eq_false this]; simp
    · rw [decide_eq_false h1, decide_eq_false h3]; simp
  unfold rAggI
  rw [key (aggW.getD 1 ByteArray.empty) (by decide), key (aggW.getD 2 ByteArray.empty) (by decide), key (aggW.getD 3 ByteArray.empty) (by decide), key (aggW.getD 4 ByteArray.empty) (by decide)]
  rfl
theorem rAgg_st {l : Toks} {s : RS} {kind ag : Int} {of_ : ByteArray} (h : s.2.1 ≠ 0) : rAgg l kind s ag of_ = (false, s, ag, of_) := by
  have : rAggI l s = 0 := by unfold rAggI; rw [rIs_st h, rIs_st h, rIs_st h, rIs_st h]; rfl
  unfold rAgg
  rw [if_pos this]
theorem aggP_F [Esc R] (n : Nat) (l : Toks) (ho : TOk l) (s : RS) (h0 : s.2.1 = 0) (h : s.1 < l.length) (hn : 500 < n) (kind : Int) (hk : kind = 1 ∨ kind = 2 ∨ kind = 3) (nm : ByteArray) (ag : Int) (of_ : ByteArray) (lim : Int) (hd : List ByteArray) (bd : List ty51.D) (k : Bool → Toks → Int → Int → ByteArray → Int → ByteArray → Int → List ByteArray → List ty51.D → Option R) :
    zCH_F n l (s.1 : Int) kind nm ag of_ lim hd bd k = endS (rAgg l kind s ag of_).2.1 (k (rAgg l kind s ag of_).1 l ((rAgg l kind s ag of_).2.1.1 : Int) kind nm (rAgg l kind s ag of_).2.2.1 (rAgg l kind s ag of_).2.2.2 lim hd bd) := by
  rw [zCH_e]
  unfold zCH_Fi
  rw [nowP_F n l s.1 h, aggIx_F n _ (by omega), nowP_F n l s.1 h]
  have hle := aggN_le (tk l s.1).2.1
  have hw : IntKind.i64.wrap ((aggN (tk l s.1).2.1 : Int) - 1 + 1) = (aggN (tk l s.1).2.1 : Int) := by rw [wrap_i64 (by omega) (by omega)]; omega
  simp only [hw]
  by_cases h1 : (tk l s.1).1 = 1
  · have e1 : ((tk l s.1).1 != 1) = false := by rw [bne_eq_false_iff_eq]; exact h1
    rw [if_neg (by rw [e1]; decide)]
    have ha := rAggI_word h0 h1
    unfold rAgg
    rw [ha]
    generalize aggN (tk l s.1).2.1 = a at hle ⊢
    by_cases a0 : a = 0
    · rw [if_pos (decide_eq_true (show (a : Int) < 1 by omega)), if_pos a0, zDT h0]
    · rw [if_neg (show ¬ decide ((a : Int) < 1) = true by simp; omega), if_neg a0]
      have hst : (rStep l s).2.1 = 0 := by rw [rStep_2]; exact h0
      have hlt := zDZ (l := l) h
      have tail : zAE_F n l (s.1 : Int) (fun y10 y11 y12 => if ((a : Int) != 1) = true then (zAX_F n y11 y12 (fun y13 y14 y15 => k true y14 y15 kind nm (a : Int) y13 lim hd bd)) else (k true y11 y12 kind nm (a : Int) of_ lim hd bd))
          = endS (if 1 < a then (true, (rName l (rStep l s)).2, (a : Int), (rName l (rStep l s)).1) else (true, rStep l s, (a : Int), of_) : Bool × RS × Int × ByteArray).2.1
            (k (if 1 < a then (true, (rName l (rStep l s)).2, (a : Int), (rName l (rStep l s)).1) else (true, rStep l s, (a : Int), of_) : Bool × RS × Int × ByteArray).1 l ((if 1 < a then (true, (rName l (rStep l s)).2, (a : Int), (rName l (rStep l s)).1) else (true, rStep l s, (a : Int), of_) : Bool × RS × Int × ByteArray).2.1.1 : Int) kind nm
              (if 1 < a then (true, (rName l (rStep l s)).2, (a : Int), (rName l (rStep l s)).1) else (true, rStep l s, (a : Int), of_) : Bool × RS × Int × ByteArray).2.2.1 (if 1 < a then (true, (rName l (rStep l s)).2, (a : Int), (rName l (rStep l s)).1) else (true, rStep l s, (a : Int), of_) : Bool × RS × Int × ByteArray).2.2.2 lim hd bd) := by
        rw [stepP_F n l ho s h]
        by_cases hg : 1 < a
        · have e2 : ((a : Int) != 1) = true := by rw [bne_iff_ne]; omega
          rw [if_pos e2, if_pos hg]
          exact nameP_F n l ho (rStep l s) hst hlt hn _
        · have e2 : ((a : Int) != 1) = false := by rw [bne_eq_false_iff_eq]; omega
          rw [if_neg (by rw [e2]; decide), if_neg hg, zDT hst]
      rcases hk with rfl | rfl | rfl
      · rw [if_neg (by decide), if_neg (by decide), if_pos (Or.inl rfl)]
        refine (zEO n false 7 (by decide) l s h0 h _).trans ?_
        have hb : (rFail 7 (atT l s) s).2.1 ≠ 0 := by rw [zEC h0]; show (7 : Int) ≠ 0; decide
        exact (zDQ hb _).trans (zDQ hb _).symm
      · rw [if_pos (by decide), if_neg (by omega)]
        refine (zEO n true 7 (by decide) l s h0 h _).trans ?_
        rw [show rIf true 7 (atT l s) s = s from rfl, zDT h0]
        exact tail
      · rw [if_neg (by decide), if_pos (by decide)]
        refine (zEO n _ 7 (by decide) l s h0 h _).trans ?_
        by_cases hg : 2 < a
        · rw [if_pos (Or.inr ⟨rfl, hg⟩), decide_eq_false (show ¬ (a : Int) ≤ 2 by omega)]
          have hb : (rFail 7 (atT l s) s).2.1 ≠ 0 := by rw [zEC h0]; show (7 : Int) ≠ 0; decide
          exact (zDQ hb _).trans (zDQ hb _).symm
        · rw [if_neg (by omega), decide_eq_true (show (a : Int) ≤ 2 by omega), show rIf true 7 (atT l s) s = s from rfl, zDT h0]
          exact tail
  · have e1 : ((tk l s.1).1 != 1) = true := bne_iff_ne.2 h1
    have ha := rAggI_else ho h h1
    have hr : rAgg l kind s ag of_ = (false, s, ag, of_) := by unfold rAgg; rw [if_pos ha]
    rw [if_pos e1, hr, zDT h0]
end Go.Proofs.YtnnbinmomendnaaGreatDoor.E
namespace Go.Proofs.YtnnbinmomendnaaGreatDoor.E
open Go.RowKit
variable {R : Type}
set_option maxRecDepth 100000
theorem rStep_ge (l : Toks) (s : RS) : s.1 ≤ (rStep l s).1 := by unfold rStep; simp only []; split <;> omega
theorem rTake_ge (l : Toks) (w : ByteArray) (s : RS) : s.1 ≤ (rTake l w s).2.1 := by unfold rTake; split; exact rStep_ge l s; exact Nat.le_refl _
theorem rStep_on {l : Toks} (ho : TOk l) {s : RS} (h : s.1 < l.length) (h4 : (tk l s.1).1 ≠ 4) : (rStep l s).1 = s.1 + 1 := by
  have hh := ho.last s.1 h
  unfold rStep
  exact if_pos (show s.1 + 1 < l.length from by
    have : ¬ s.1 + 1 = l.length := fun e => h4 (hh.2 e)
    omega)
theorem rIs_on {l : Toks} {w : ByteArray} {s : RS} (h : rIs l w s = true) : (tk l s.1).1 ≠ 4 := by
  unfold rIs at h
  intro e
  rw [e] at h
  simp at h
theorem rTake_on {l : Toks} (ho : TOk l) {w : ByteArray} {s : RS} (h : s.1 < l.length) (ht : (rTake l w s).1 = true) : (rTake l w s).2.1 = s.1 + 1 := by
  unfold rTake at ht ⊢
  split at ht
  · rename_i hi
    rw [if_pos hi]
    exact rStep_on ho h (rIs_on hi)
  · cases ht
theorem rNamed_on {l : Toks} {s : RS} (h : rNamed l s = true) : (tk l s.1).1 = 1 := by
  unfold rNamed isName at h
  simp only [Bool.and_eq_true, decide_eq_true_eq] at h
  exact h.2.1
theorem head_loopP [Esc R] (n : Nat) (l : Toks) (ho : TOk l) (hn : 500 < n) (kind : Int) (hk : kind = 1 ∨ kind = 2 ∨ kind = 3) (nm : ByteArray) (lim : Int) (bd : List ty51.D) (K : exK R (zAQ_dx 4)) (ret : Toks → Int → Int → ByteArray → Int → ByteArray → Int → List ByteArray → List ty51.D → Option R)
    (hK1 : ∀ a b c d e f g h i, K.1 (a, b, c, d, e, f, g, h, i, ()) = ret a b c d e f g h i) (hK2 : ∀ a b c d e f g h i, K.2.1 (a, b, c, d, e, f, g, h, i, ()) = ret a b c d e f g h i) : ∀ (f m : Nat) (s : RS) (ag : Int) (of_ : ByteArray) (hd : List ByteArray), s.2.1 = 0 → s.1 < l.length → l.length ≤ s.1 + f → hd.length + f ≤ 2000 → f < m →
    runC (zAQ_l4 n) m (l, (s.1 : Int), kind, nm, ag, of_, lim, hd, bd, ()) K = endS (rHeadL l kind f s ag of_ hd).1 (ret l ((rHeadL l kind f s ag of_ hd).1.1 : Int) kind nm (rHeadL l kind f s ag of_ hd).2.1 (rHeadL l kind f s ag of_ hd).2.2.1 lim (rHeadL l kind f s ag of_ hd).2.2.2 bd)
  | 0, m, s, ag, of_, hd, h0, h, hf, hh, hm => by omega
  | f + 1, m, s, ag, of_, hd, h0, h, hf, hh, hm => by
    obtain ⟨m, rfl⟩ : ∃ q, m = q + 1 := ⟨m - 1, by omega⟩
    refine (runC_s _ _ _ _).trans ?_
    simp only [zAQ_l4, zAQ_s4]
    refine (aggP_F n l ho s h0 h hn kind hk nm ag of_ lim hd bd _).trans ?_
    rw [rHeadL, if_pos h0]
    cases hb : (rAgg l kind s ag of_).1 with
    | true =>
      simp only [Bool.not_true, Bool.false_eq_true, if_false, if_true]
      exact zDY fun _ => hK2 _ _ _ _ _ _ _ _ _
    | false =>
      have hr : rAgg l kind s ag of_ = (false, s, ag, of_) := rAgg_no hb
      simp only [hr, Bool.not_false, if_true, Bool.false_eq_true, if_false]
      rw [zDT h0, namedP_F n l s h0 h hn]
      have gd : ∀ x : ByteArray, (List.length hd + List.length [x]) * 16 ≤ 140737488355328 := fun x => by simp only [List.length_cons, List.length_nil]; omega
      cases hn2 : rNamed l s with
      | true =>
        simp only [if_true]
        have h1 := rNamed_on hn2
        have hN : rName l s = ((tk l s.1).2.1, rStep l s) := by unfold rName; rw [if_pos hn2]
        have hst : (rStep l s).2.1 = 0 := by rw [rStep_2]; exact h0
        have hlt := zDZ (l := l) h
        have hon := rStep_on ho h (by rw [h1]; decide)
        refine (zEO n _ 9 (by decide) l s h0 h _).trans ?_
        by_cases hg : 40 ≤ hd.length
        · have hd9 : decide ((hd.length : Int) < 40) = false := decide_eq_false (by omega)
          rw [hd9]
          have hb1 : (rIf false 9 (atT l s) s).2.1 ≠ 0 := by show (rFail 9 (atT l s) s).2.1 ≠ 0; rw [zEC h0]; show (9 : Int) ≠ 0; decide
          rw [zDQ hb1]
          simp only [hg, if_true, hN]
          have e9 : rFail 9 (atT l s) (rStep l s) = ((rStep l s).1, 9, atT l s) := zEC hst
          rw [e9]
          have hb2 : (((rStep l s).1, 9, atT l s) : RS).2.1 ≠ 0 := by show (9 : Int) ≠ 0; decide
          rw [zEW hb2]
          simp only [Bool.false_eq_true, if_false]
          rw [zDQ hb2]
          show escW (rFail 9 (atT l s) s).2.1 (rFail 9 (atT l s) s).2.2 = _
          rw [zEC h0]
        · have hd9 : decide ((hd.length : Int) < 40) = true := decide_eq_true (by omega)
          rw [hd9, show rIf true 9 (atT l s) s = s from rfl, zDT h0]
          refine (nameP_F n l ho s h0 h hn _).trans ?_
          simp only [hg, if_false, hN, gd, if_true]
          rw [zDT hst]
          refine (takeP_F n commaB l ho (rStep l s) hst hlt _).trans ?_
          have ht2 : (rTake l commaB (rStep l s)).2.2.1 = 0 := by rw [rTake_2]; exact hst
          cases ht : (rTake l commaB (rStep l s)).1 with
          | false =>
            simp only [Bool.not_false, if_true, Bool.false_eq_true, if_false]
            rw [zDT ht2]
            exact hK1 _ _ _ _ _ _ _ _ _
          | true =>
            simp only [Bool.not_true, if_true, Bool.false_eq_true, if_false]
            have hge := rTake_ge l commaB (rStep l s)
            exact head_loopP n l ho hn kind hk nm lim bd K ret hK1 hK2 f m (rTake l commaB (rStep l s)).2 ag of_ _ ht2 (zDR _ hlt) (by omega) (by simp; omega) (by omega)
      | false =>
        simp only [Bool.false_eq_true, if_false]
        have hN : rName l s = ((⟨#[]⟩ : ByteArray), rFail 7 (tk l s.1).2.2.2.1 s) := by unfold rName; rw [if_neg (by rw [hn2]; decide)]
        have hb1 : (rFail 7 (tk l s.1).2.2.2.1 s).2.1 ≠ 0 := by rw [zEC h0]; show (7 : Int) ≠ 0; decide
        refine (nameP_F n l ho s h0 h hn _).trans ?_
        simp only [hN]
        rw [zDQ hb1]
        have e9 : (if 40 ≤ hd.length then rFail 9 (atT l s) (rFail 7 (tk l s.1).2.2.2.1 s) else rFail 7 (tk l s.1).2.2.2.1 s) = rFail 7 (tk l s.1).2.2.2.1 s := by rw [rFail_st hb1]; split <;> rfl
        simp only [e9]
        rw [zEW hb1]
        simp only [Bool.false_eq_true, if_false]
        exact (zDQ hb1 _).symm
theorem headP_F [Esc R] (n : Nat) (l : Toks) (ho : TOk l) (s : RS) (h0 : s.2.1 = 0) (h : s.1 < l.length) (hn : 500 < n) (kind : Int) (hk : kind = 1 ∨ kind = 2 ∨ kind = 3) (nm : ByteArray) (ag : Int) (of_ : ByteArray) (lim : Int) (hd : List ByteArray) (hh : hd.length ≤ 1000) (bd : List ty51.D) (k : Toks → Int → Int → ByteArray → Int → ByteArray → Int → List ByteArray → List ty51.D → Option R) :
    zAQ_F n l (s.1 : Int) kind nm ag of_ lim hd bd k = endS (rHead l kind s ag of_ hd).1 (k l ((rHead l kind s ag of_ hd).1.1 : Int) kind nm (rHead l kind s ag of_ hd).2.1 (rHead l kind s ag of_ hd).2.2.1 lim (rHead l kind s ag of_ hd).2.2.2 bd) := by
  rw [zAQ_e]
  unfold zAQ_Fi
  by_cases hk3 : kind = 3
  · subst hk3
    rw [if_pos (by decide)]
    have hH : rHead l 3 s ag of_ hd = ((if (rAgg l 3 (rMust l commaB (rName l s).2) ag of_).1 = true then (rAgg l 3 (rMust l commaB (rName l s).2) ag of_).2.1 else rFail 7 (atT l (rAgg l 3 (rMust l commaB (rName l s).2) ag of_).2.1) (rAgg l 3 (rMust l commaB (rName l s).2) ag of_).2.1),
      (rAgg l 3 (rMust l commaB (rName l s).2) ag of_).2.2.1, (rAgg l 3 (rMust l commaB (rName l s).2) ag of_).2.2.2, hd ++ [(rName l s).1]) := by unfold rHead; rw [if_pos rfl]
    rw [hH]
    refine (nameP_F n l ho s h0 h hn _).trans ?_
    have h1 := zDX (l := l) h
    have gd : (List.length hd + List.length [(rName l s).1]) * 16 ≤ 140737488355328 := by simp only [List.length_cons, List.length_nil]; omega
    generalize rName l s = a1 at h1 gd ⊢
    simp only [gd, if_true]
    refine (zDY fun g1 => wantP_F n commaB l ho a1.2 g1 h1 _).trans ?_
    rw [zED (fun g => by rw [zEX g])]
    have h2 := zDS (l := l) commaB h1
    generalize hs2 : rMust l commaB a1.2 = s2 at h2 ⊢
    refine (zDY fun g2 => aggP_F n l ho s2 g2 h2 hn 3 (.inr (.inr rfl)) nm ag of_ lim (hd ++ [a1.1]) bd _).trans ?_
    rw [zED (fun g => by rw [rAgg_st g])]
    have h3 := rAgg_lt (l := l) 3 ag of_ h2
    generalize rAgg l 3 s2 ag of_ = q at h3 ⊢
    refine (zDY fun g3 => zEO n q.1 7 (by decide) l q.2.1 g3 h3 _).trans ?_
    rw [zED (fun g => by rw [rIf_st g])]
    have e : rIf q.1 7 (atT l q.2.1) q.2.1 = if q.1 = true then q.2.1 else rFail 7 (atT l q.2.1) q.2.1 := by cases q.1 <;> rfl
    have e1 : (if q.1 = true then q.2.1 else rFail 7 (atT l q.2.1) q.2.1).1 = q.2.1.1 := by rw [← e, rIf_at]
    simp only [e, e1]
  · have b : (kind == 3) = false := by simp [hk3]
    have hH : rHead l kind s ag of_ hd = rHeadL l kind 400 s ag of_ hd := by unfold rHead; rw [if_neg hk3]
    rw [if_neg (by rw [b]; decide), hH]
    have := ho.len
    exact head_loopP n l ho hn kind hk nm lim bd _ k (fun _ _ _ _ _ _ _ _ _ => rfl) (fun _ _ _ _ _ _ _ _ _ => rfl) 400 n s ag of_ hd h0 h (by omega) (by omega) (by omega)
theorem rHeadL_st {l : Toks} {s : RS} {kind ag : Int} {of_ : ByteArray} {hd : List ByteArray} (f : Nat) (h : s.2.1 ≠ 0) : rHeadL l kind f s ag of_ hd = (s, ag, of_, hd) := by
  cases f with
  | zero => rfl
  | succ f => rw [rHeadL, if_neg h]
theorem rHead_st {l : Toks} {s : RS} {kind ag : Int} {of_ : ByteArray} {hd : List ByteArray} (h : s.2.1 ≠ 0) : (rHead l kind s ag of_ hd).1 = s := by
  unfold rHead
  split
  · simp only [rName_st h, zEX h, rAgg_st h]
    simp only [Bool.false_eq_true, if_false]
    exact rFail_st h
  · rw [rHeadL_st 400 h]
theorem rTerm_st {l : Toks} {s : RS} (h : s.2.1 ≠ 0) : (rTerm l s).2 = s := by unfold rTerm; rw [if_neg (fun g => h g.1)]; simp only [rName_st h]
theorem termP_F [Esc R] (n : Nat) (l : Toks) (ho : TOk l) (s : RS) (h0 : s.2.1 = 0) (h : s.1 < l.length) (hn : 500 < n) (k : ty48.D → Toks → Int → Option R) : zAR_F n l (s.1 : Int) k = endS (rTerm l s).2 (k (rTerm l s).1 l ((rTerm l s).2.1 : Int)) := by
  rw [zAR_e]
  unfold zAR_Fi
  rw [nowP_F n l s.1 h]
  unfold rTerm
  by_cases h2 : (tk l s.1).1 = 2
  · rw [if_pos (by rw [h2]; rfl), if_pos ⟨h0, h2⟩, stepP_F n l ho s h, zDT (by rw [rStep_2]; exact h0)]
  · rw [if_neg (by simpa using h2), if_neg (fun g => h2 g.2)]
    exact nameP_F n l ho s h0 h hn _
def rArgM (l : Toks) (many : Nat) (s : RS) : RS := if 40 < many + 1 then rFail 9 (atT l s) (rArg l s).2 else (rArg l s).2
theorem rArgM_lt {l : Toks} (many : Nat) {s : RS} (h : s.1 < l.length) : (rArgM l many s).1 < l.length := by unfold rArgM; split; exact zDW _ _ (rArg_lt h); exact rArg_lt h
theorem argP_F [Esc R] (n : Nat) (many : Nat) (l : Toks) (ho : TOk l) (s : RS) (h0 : s.2.1 = 0) (h : s.1 < l.length) (hn : 500 < n) (k : ty48.D → Toks → Int → Option R) : zCI_F n (many : Int) l (s.1 : Int) k = endS (rArgM l many s) (k (rArg l s).1 l ((rArgM l many s).1 : Int)) := by
  rw [zCI_e]
  unfold zCI_Fi
  rw [isP_F n _ l s h0 h]
  have hplace : (rArgM l many s).1 = (rArg l s).2.1 := by unfold rArgM; split; exact zEF _ _ _; rfl
  rw [hplace]
  have tail : (zAF_F n (⟨#[95]⟩ : ByteArray) l (s.1 : Int) (fun y6 y7 y8 => if y6 = true then (k ((⟨#[]⟩ : ByteArray), true, (0, false, 0, (⟨#[]⟩ : ByteArray), ()), ()) y7 y8) else (zAR_F n y7 y8 (fun y9 y10 y11 => k y9 y10 y11)))) = endS (rArg l s).2 (k (rArg l s).1 l ((rArg l s).2.1 : Int)) := by
    refine (takeP_F n anyB l ho s h0 h _).trans ?_
    unfold rArg rTake
    cases hi : rIs l anyB s with
    | true =>
      simp only [if_true]
      rw [zDT (by rw [rStep_2]; exact h0)]
      rfl
    | false =>
      simp only [Bool.false_eq_true, if_false]
      exact termP_F n l ho s h0 h hn _
  have must : (rArg l s).2.2.1 = 0 → (zK_F n (decide ((many : Int) < 40)) 9 l (s.1 : Int) (fun y4 y5 => zAF_F n (⟨#[95]⟩ : ByteArray) y4 y5 (fun y6 y7 y8 => if y6 = true then (k ((⟨#[]⟩ : ByteArray), true, (0, false, 0, (⟨#[]⟩ : ByteArray), ()), ()) y7 y8) else (zAR_F n y7 y8 (fun y9 y10 y11 => k y9 y10 y11))))) = endS (rArgM l many s) (k (rArg l s).1 l ((rArg l s).2.1 : Int)) := by
    intro hok
    refine (zEO n _ 9 (by decide) l s h0 h _).trans ?_
    unfold rArgM
    by_cases hg : 40 < many + 1
    · rw [if_pos hg, decide_eq_false (show ¬ (many : Int) < 40 by omega)]
      show endS (rFail 9 (atT l s) s) _ = _
      have e1 : rFail 9 (atT l s) s = (s.1, 9, atT l s) := zEC h0
      have e2 : rFail 9 (atT l s) (rArg l s).2 = ((rArg l s).2.1, 9, atT l s) := zEC hok
      rw [e1, e2, zDQ (by show (9 : Int) ≠ 0; decide), zDQ (by show (9 : Int) ≠ 0; decide)]
    · rw [if_neg hg, decide_eq_true (show (many : Int) < 40 by omega)]
      show endS s _ = _
      rw [zDT h0]
      exact tail
  cases hi : rIs l (⟨#[95]⟩ : ByteArray) s with
  | true =>
    have hi' : rIs l anyB s = true := hi
    rw [if_pos rfl]
    exact must (by unfold rArg; rw [if_pos hi', rStep_2]; exact h0)
  | false =>
    have hi' : rIs l anyB s = false := hi
    have hA : rArg l s = rTerm l s := by unfold rArg; rw [if_neg (by rw [hi']; decide)]
    rw [if_neg (by decide), namedP_F n l s h0 h hn]
    cases hnm : rNamed l s with
    | true =>
      have h1 := rNamed_on hnm
      rw [if_pos rfl]
      exact must (by rw [hA]; unfold rTerm; rw [if_neg (fun g => by have := g.2; rw [h1] at this; cases this)]; unfold rName; rw [if_pos hnm, rStep_2]; exact h0)
    | false =>
      rw [if_neg (by decide), nowP_F n l s.1 h]
      by_cases h2 : (tk l s.1).1 = 2
      · rw [if_pos (by rw [h2]; rfl)]
        exact must (by rw [hA]; unfold rTerm; rw [if_pos ⟨h0, h2⟩, rStep_2]; exact h0)
      · rw [if_neg (by simpa using h2)]
        refine tail.trans ?_
        have hb : (rArg l s).2.2.1 ≠ 0 := by
          rw [hA]
          unfold rTerm
          rw [if_neg (fun g => h2 g.2)]
          unfold rName
          rw [if_neg (by rw [hnm]; decide)]
          simp only
          rw [zEC h0]
          show (7 : Int) ≠ 0
          decide
        have e : rArgM l many s = (rArg l s).2 := by unfold rArgM; rw [rFail_st hb]; split <;> rfl
        rw [e]
theorem rArgsL_s (l : Toks) (f : Nat) (s : RS) (acc : List ty48.D) (h0 : s.2.1 = 0) : rArgsL l (f + 1) s acc = if (rTake l commaB (rArgM l acc.length s)).1 = true then rArgsL l f (rTake l commaB (rArgM l acc.length s)).2 (acc ++ [(rArg l s).1]) else (rMust l rparB (rTake l commaB (rArgM l acc.length s)).2, acc ++ [(rArg l s).1]) := by
  rw [rArgsL, if_pos h0]
  rfl
theorem args_loopP [Esc R] (n : Nat) (l : Toks) (ho : TOk l) (hn : 500 < n) (K : exK R (zAS_dx 4)) (ret : Toks → Int → List ty48.D → Option R)
    (hK : ∀ (s : RS) (acc : List ty48.D), s.2.1 = 0 → s.1 < l.length → K.1 (l, (s.1 : Int), acc, ()) = endS (rMust l rparB s) (ret l ((rMust l rparB s).1 : Int) acc)) : ∀ (f m : Nat) (s : RS) (acc : List ty48.D), s.2.1 = 0 → s.1 < l.length → l.length ≤ s.1 + f → acc.length + f ≤ 2000 → f < m →
    runC (zAS_l4 n) m (l, (s.1 : Int), acc, ()) K = endS (if (rTake l commaB s).1 = true then rArgsL l f (rTake l commaB s).2 acc else (rMust l rparB (rTake l commaB s).2, acc)).1
      (ret l ((if (rTake l commaB s).1 = true then rArgsL l f (rTake l commaB s).2 acc else (rMust l rparB (rTake l commaB s).2, acc)).1.1 : Int) (if (rTake l commaB s).1 = true then rArgsL l f (rTake l commaB s).2 acc else (rMust l rparB (rTake l commaB s).2, acc)).2)
  | 0, m, s, acc, h0, h, hf, hh, hm => by omega
  | f + 1, m, s, acc, h0, h, hf, hh, hm => by
    obtain ⟨m, rfl⟩ : ∃ q, m = q + 1 := ⟨m - 1, by omega⟩
    refine (runC_s _ _ _ _).trans ?_
    simp only [zAS_l4, zAS_s4]
    refine (takeP_F n commaB l ho s h0 h _).trans ?_
    have ht2 : (rTake l commaB s).2.2.1 = 0 := by rw [rTake_2]; exact h0
    have htl := zDR (l := l) commaB h
    cases ht : (rTake l commaB s).1 with
    | false =>
      simp only [Bool.false_eq_true, if_false]
      exact hK _ _ ht2 htl
    | true =>
      simp only [if_true]
      have hon := rTake_on ho h ht
      generalize (rTake l commaB s).2 = t at ht2 htl hon ⊢
      refine (argP_F n acc.length l ho t ht2 htl hn _).trans ?_
      rw [rArgsL_s l f t acc ht2]
      have gd : (List.length acc + List.length [(rArg l t).1]) * 64 ≤ 140737488355328 := by simp only [List.length_cons, List.length_nil]; omega
      simp only [gd, if_true]
      have hml := rArgM_lt (l := l) acc.length htl
      have hge : t.1 ≤ (rArgM l acc.length t).1 := by
        unfold rArgM rArg rTerm rName
        split <;> (try rw [zEF]) <;> (split; exact rStep_ge l t; split; exact rStep_ge l t; split; exact rStep_ge l t; rw [zEF]; exact Nat.le_refl _)
      generalize rArgM l acc.length t = q at hml hge ⊢
      by_cases hq : q.2.1 = 0
      · rw [zDT hq]
        exact args_loopP n l ho hn K ret hK f m q _ hq hml (by omega) (by simp; omega) (by omega)
      · rw [zDQ hq, zEW hq]
        simp only [Bool.false_eq_true, if_false]
        rw [zEX hq, zDQ hq]
theorem rArgsL_st {l : Toks} {s : RS} {acc : List ty48.D} (f : Nat) (h : s.2.1 ≠ 0) : rArgsL l f s acc = (s, acc) := by
  cases f with
  | zero => rfl
  | succ f => rw [rArgsL, if_neg h]
theorem rArgs_st {l : Toks} {s : RS} (h : s.2.1 ≠ 0) : (rArgs l s).1 = s := by
  unfold rArgs
  rw [zEW h]
  simp only [Bool.false_eq_true, if_false]
  rw [rArgsL_st 400 h]
theorem argsP_F [Esc R] (n : Nat) (l : Toks) (ho : TOk l) (s : RS) (h0 : s.2.1 = 0) (h : s.1 < l.length) (hn : 500 < n) (k : Toks → Int → List ty48.D → Option R) : zAS_F n l (s.1 : Int) k = endS (rArgs l s).1 (k l ((rArgs l s).1.1 : Int) (rArgs l s).2) := by
  rw [zAS_e]
  unfold zAS_Fi rArgs
  refine (takeP_F n rparB l ho s h0 h _).trans ?_
  have ht2 : (rTake l rparB s).2.2.1 = 0 := by rw [rTake_2]; exact h0
  have htl := zDR (l := l) rparB h
  cases ht : (rTake l rparB s).1 with
  | true =>
    simp only [if_true]
    rw [zDT ht2]
  | false =>
    simp only [Bool.false_eq_true, if_false]
    generalize (rTake l rparB s).2 = t at ht2 htl ⊢
    refine (argP_F n 0 l ho t ht2 htl hn _).trans ?_
    rw [show (400 : Nat) = 399 + 1 from rfl, rArgsL_s l 399 t [] ht2]
    simp only [List.length_nil, List.nil_append]
    have hml := rArgM_lt (l := l) 0 htl
    have hlen := ho.len
    generalize rArgM l 0 t = q at hml ⊢
    by_cases hq : q.2.1 = 0
    · rw [zDT hq]
      exact args_loopP n l ho hn _ k (fun s2 acc h02 h2 => wantP_F n rparB l ho s2 h02 h2 _) 399 n q [(rArg l t).1] hq hml (by omega) (by simp) (by omega)
    · rw [zDQ hq, zEW hq]
      simp only [Bool.false_eq_true, if_false]
      rw [zEX hq, zDQ hq]
theorem atomP_F [Esc R] (n : Nat) (b : Bool) (atoms : Int) (l : Toks) (ho : TOk l) (s : RS) (h0 : s.2.1 = 0) (h : s.1 < l.length) (hn : 500 < n) (k : ty51.D → Toks → Int → Option R) : zCB_F n b atoms l (s.1 : Int) k = endS (rAtom l atoms b (atT l s) s).2 (k (rAtom l atoms b (atT l s) s).1 l ((rAtom l atoms b (atT l s) s).2.1 : Int)) := by
  rw [zCB_e]
  unfold zCB_Fi
  refine (nameP_F n l ho s h0 h hn _).trans ?_
  have hA : rAtom l atoms b (atT l s) s = ((b, (rName l s).1, (rArgs l (rAtomS l atoms b (atT l s) s)).2, 0, ()), (rArgs l (rAtomS l atoms b (atT l s) s)).1) := rfl
  have hS : rAtomS l atoms b (atT l s) s = if b = false ∧ 6 ≤ atoms then rFail 9 (atT l s) (rMust l lparB (rName l s).2) else rMust l lparB (rName l s).2 := rfl
  rw [hA]
  have h1 := zDX (l := l) h
  generalize rName l s = a1 at h1 hS ⊢
  refine (zDY fun g1 => wantP_F n lparB l ho a1.2 g1 h1 _).trans ?_
  rw [zED (fun g => by rw [zEX g])]
  have h2 := zDS (l := l) lparB h1
  generalize rMust l lparB a1.2 = s2 at h2 hS ⊢
  have atP : (0 : Int) ≤ (s.1 : Int) ∧ (s.1 : Int) < (l.length : Int) := by omega
  by_cases hc : b = false ∧ 6 ≤ atoms
  · obtain ⟨rfl, h6⟩ := hc
    rw [if_pos ⟨rfl, h6⟩] at hS
    rw [hS]
    simp only [Bool.not_false, if_true, atP, and_self]
    rw [if_pos (decide_eq_true (show atoms ≥ 6 from h6))]
    by_cases g2 : s2.2.1 = 0
    · rw [zDT g2]
      have e : rFail 9 (atT l s) s2 = (s2.1, 9, atT l s) := zEC g2
      have hb : (rFail 9 (atT l s) s2).2.1 ≠ 0 := by rw [e]; show (9 : Int) ≠ 0; decide
      rw [rArgs_st hb, zDQ hb, e, Int.toNat_natCast]
      rfl
    · rw [zDQ g2, rFail_st g2, rArgs_st g2, zDQ g2]
  · rw [if_neg hc] at hS
    rw [hS]
    refine Eq.trans (zDY (k' := endS (rArgs l s2).1 (k (b, a1.1, (rArgs l s2).2, 0, ()) l ((rArgs l s2).1.1 : Int))) fun g2 => ?_) (zED fun g => by rw [rArgs_st g])
    cases b with
    | true =>
      simp only [Bool.not_true, Bool.false_eq_true, if_false]
      exact argsP_F n l ho s2 g2 h2 hn _
    | false =>
      have h6 : ¬ atoms ≥ 6 := fun g => hc ⟨rfl, g⟩
      simp only [Bool.not_false, if_true]
      rw [if_neg (by simpa using h6)]
      exact argsP_F n l ho s2 g2 h2 hn _
theorem rMust_ge (l : Toks) (w : ByteArray) (s : RS) : s.1 ≤ (rMust l w s).1 := by unfold rMust; split; exact rTake_ge l w s; rw [zEF]; exact Nat.le_refl _
theorem rName_ge (l : Toks) (s : RS) : s.1 ≤ (rName l s).2.1 := by unfold rName; split; exact rStep_ge l s; rw [zEF]; exact Nat.le_refl _
theorem rTerm_ge (l : Toks) (s : RS) : s.1 ≤ (rTerm l s).2.1 := by unfold rTerm; split; exact rStep_ge l s; exact rName_ge l s
theorem rArg_ge (l : Toks) (s : RS) : s.1 ≤ (rArg l s).2.1 := by unfold rArg; split; exact rStep_ge l s; exact rTerm_ge l s
theorem rArgsL_ge (l : Toks) : ∀ (f : Nat) (s : RS) (acc : List ty48.D), s.1 ≤ (rArgsL l f s acc).1.1
  | 0, s, acc => Nat.le_refl _
  | f + 1, s, acc => by
    unfold rArgsL
    split
    · have h1 : s.1 ≤ (if 40 < acc.length + 1 then rFail 9 (atT l s) (rArg l s).2 else (rArg l s).2).1 := by split; rw [zEF]; exact rArg_ge l s; exact rArg_ge l s
      have h2 := rTake_ge l commaB (if 40 < acc.length + 1 then rFail 9 (atT l s) (rArg l s).2 else (rArg l s).2)
      generalize (if 40 < acc.length + 1 then rFail 9 (atT l s) (rArg l s).2 else (rArg l s).2) = x at h1 h2 ⊢
      split
      · exact Nat.le_trans (Nat.le_trans h1 h2) (rArgsL_ge l f _ _)
      · exact Nat.le_trans (Nat.le_trans h1 h2) (rMust_ge l rparB _)
    · exact Nat.le_refl _
theorem rArgs_ge (l : Toks) (s : RS) : s.1 ≤ (rArgs l s).1.1 := by
  unfold rArgs
  split
  · exact rTake_ge l rparB s
  · exact Nat.le_trans (rTake_ge l rparB s) (rArgsL_ge l 400 _ _)
theorem rAtom_ge (l : Toks) (atoms : Int) (b : Bool) (at_ : Int) (s : RS) : s.1 ≤ (rAtom l atoms b at_ s).2.1 := by
  unfold rAtom rAtomS
  refine Nat.le_trans ?_ (rArgs_ge l _)
  have h := Nat.le_trans (rName_ge l s) (rMust_ge l lparB (rName l s).2)
  split
  · rw [zEF]; exact h
  · exact h
theorem rCmpS_at (l : Toks) (s : RS) : (rCmpS l s).1 = s.1 := by unfold rCmpS; split; exact zEF _ _ _; rfl
theorem rCmp_ge (l : Toks) (b : Bool) (s : RS) : s.1 ≤ (rCmp l b s).2.1 := by
  unfold rCmp
  refine Nat.le_trans ?_ (rTerm_ge l _)
  refine Nat.le_trans ?_ (rStep_ge l _)
  rw [rCmpS_at]
  exact rTerm_ge l s
theorem rLit_ge (l : Toks) (atoms : Int) (s : RS) : s.1 ≤ (rLit l atoms s).2.1 := by
  unfold rLit
  have h := rTake_ge l notB s
  split
  · exact Nat.le_trans h (rAtom_ge l _ _ _ _)
  · refine Nat.le_trans h (Nat.le_trans ?_ (rCmp_ge l _ _))
    split
    · rw [zEF]; exact Nat.le_refl _
    · exact Nat.le_refl _
theorem rCmpS_st {l : Toks} {s : RS} (h : s.2.1 ≠ 0) : rCmpS l s = s := by unfold rCmpS; rw [rFail_st h]; split <;> rfl
theorem rCmp_st {l : Toks} {b : Bool} {s : RS} (h : s.2.1 ≠ 0) : (rCmp l b s).2.2 = s.2 := by
  unfold rCmp
  simp only [rTerm_st h, rCmpS_st h]
  have : (rStep l s).2.1 ≠ 0 := by rw [rStep_2]; exact h
  rw [rTerm_st this]
  rfl
theorem rLit_st {l : Toks} {atoms : Int} {s : RS} (h : s.2.1 ≠ 0) : (rLit l atoms s).2.2 = s.2 := by
  unfold rLit
  rw [zEW h]
  simp only [rNamed_st h, Bool.false_eq_true, false_and, if_false]
  exact rCmp_st h
theorem opL_F (n : Nat) (w : ByteArray) (hn : 20 < n) (k : Int → Option R) : zCQ_F n w k = k (opS w) := by
  rw [zCQ_e]
  unfold zCQ_Fi
  refine (runC_scan (R := R) (ρ := Nat) (step := zCQ_l2 n) (fun b2 => k b2.1, fun b2 => k 0, ()) (fun i => k ((i + 1 : Nat) : Int)) (k 0) (fun i => if sgnW.getD (i + 1) ByteArray.empty = w then some i else none) (fun i => (w, ((i + 1 : Nat) : Int), ())) 6 (fun i hi k1 => ?_) (fun k1 => ?_) (n := n) (by omega)).trans ?_
  · have c : ((i + 1 : Nat) : Int) ≤ 6 := by omega
    have hs : sgnP ((i + 1 : Nat) : Int) = sgnW.getD (i + 1) ByteArray.empty := by
      unfold sgnP
      rw [if_pos (by omega), Int.toNat_natCast]
      rfl
    have hF : ∀ k : ByteArray → Option R, zDM_F n ((i + 1 : Nat) : Int) k = k (sgnP ((i + 1 : Nat) : Int)) := fun k => by
      rw [zDM_e]
      unfold zDM_Fi
      rw [if_pos trivial]
    simp only [zCQ_l2, zCQ_s2, c, decide_true, if_true, hF, beqB, hs, zDO (i + 1) (by omega)]
    by_cases h : sgnW.getD (i + 1) ByteArray.empty = w
    · rw [if_pos (decide_eq_true h), if_pos h]
    · rw [if_neg (by simpa using h), if_neg h]
  · simp [zCQ_l2, zCQ_s2]
  · unfold opS
    cases (List.range 6).findSome? (fun i => if sgnW.getD (i + 1) ByteArray.empty = w then some i else none) <;> rfl
theorem opS_ge (w : ByteArray) : 0 ≤ opS w := by unfold opS; split <;> omega
theorem cmpP_F [Esc R] (n : Nat) (l : Toks) (ho : TOk l) (s : RS) (h0 : s.2.1 = 0) (h : s.1 < l.length) (hn : 500 < n) (k : ty51.D → Toks → Int → Option R) :
    (zAR_F n l (s.1 : Int) (fun y13 y14 y15 => zO_F n y14 y15 (fun y16 y17 y18 => zCQ_F n y16.2.1 (fun y19 => zO_F n y17 y18 (fun y20 y21 y22 => if (y20.1 == 3) = true then (zK_F n (decide (y19 > 0)) 7 y21 y22 (fun y23 y24 => zAE_F n y23 y24 (fun y25 y26 y27 => zAR_F n y26 y27 (fun y28 y29 y30 => k (false, (⟨#[]⟩ : ByteArray), [y13, y28], y19, ()) y29 y30)))) else (zK_F n false 7 y21 y22 (fun y31 y32 => zAE_F n y31 y32 (fun y33 y34 y35 => zAR_F n y34 y35 (fun y36 y37 y38 => k (false, (⟨#[]⟩ : ByteArray), [y13, y36], y19, ()) y37 y38))))))))) =
      endS (rCmp l false s).2 (k (rCmp l false s).1 l ((rCmp l false s).2.1 : Int)) := by
  refine (termP_F n l ho s h0 h hn _).trans ?_
  have hC : rCmp l false s = ((false, (⟨#[]⟩ : ByteArray), [(rTerm l s).1, (rTerm l (rStep l (rCmpS l (rTerm l s).2))).1], opS (tk l (rTerm l s).2.1).2.1, ()), (rTerm l (rStep l (rCmpS l (rTerm l s).2))).2) := rfl
  rw [hC]
  have h1 := rTerm_lt (l := l) h
  generalize rTerm l s = a1 at h1 ⊢
  obtain ⟨x1, s1⟩ := a1
  simp only at h1 ⊢
  have hsplit : ∀ g1 : s1.2.1 = 0, (zO_F n l (s1.1 : Int) (fun y16 y17 y18 => zCQ_F n y16.2.1 (fun y19 => zO_F n y17 y18 (fun y20 y21 y22 => if (y20.1 == 3) = true then (zK_F n (decide (y19 > 0)) 7 y21 y22 (fun y23 y24 => zAE_F n y23 y24 (fun y25 y26 y27 => zAR_F n y26 y27 (fun y28 y29 y30 => k (false, (⟨#[]⟩ : ByteArray), [x1, y28], y19, ()) y29 y30)))) else (zK_F n false 7 y21 y22 (fun y31 y32 => zAE_F n y31 y32 (fun y33 y34 y35 => zAR_F n y34 y35 (fun y36 y37 y38 => k (false, (⟨#[]⟩ : ByteArray), [x1, y36], y19, ()) y37 y38)))))))) = endS (rCmpS l s1) (zAE_F n l (s1.1 : Int) (fun y25 y26 y27 => zAR_F n y26 y27 (fun y28 y29 y30 => k (false, (⟨#[]⟩ : ByteArray), [x1, y28], opS (tk l s1.1).2.1, ()) y29 y30))) := by
    intro g1
    rw [nowP_F n l s1.1 h1, opL_F n _ (by omega), nowP_F n l s1.1 h1]
    have hge := opS_ge (tk l s1.1).2.1
    unfold rCmpS
    by_cases h3 : (tk l s1.1).1 = 3
    · rw [if_pos (by rw [h3]; rfl)]
      refine (zEO n _ 7 (by decide) l s1 g1 h1 _).trans ?_
      by_cases ho0 : opS (tk l s1.1).2.1 = 0
      · rw [if_pos (Or.inr ho0), decide_eq_false (show ¬ opS (tk l s1.1).2.1 > 0 by omega)]
        rfl
      · rw [if_neg (fun g => g.elim (fun g => g h3) ho0), decide_eq_true (show opS (tk l s1.1).2.1 > 0 by omega)]
        rfl
    · rw [if_neg (by simpa using h3), if_pos (Or.inl h3)]
      exact zEO n false 7 (by decide) l s1 g1 h1 _
  refine (zDY hsplit).trans ?_
  rw [zED (fun g => by rw [rCmpS_st g])]
  have hat := rCmpS_at l s1
  have h2 : (rCmpS l s1).1 < l.length := by rw [hat]; exact h1
  rw [← hat]
  generalize rCmpS l s1 = s2 at h2 ⊢
  refine Eq.trans (zDY (k' := endS (rTerm l (rStep l s2)).2 (k (false, (⟨#[]⟩ : ByteArray), [x1, (rTerm l (rStep l s2)).1], opS (tk l s2.1).2.1, ()) l ((rTerm l (rStep l s2)).2.1 : Int))) fun g2 => ?_) (zED fun g => ?_)
  · rw [stepP_F n l ho s2 h2]
    exact termP_F n l ho (rStep l s2) (by rw [rStep_2]; exact g2) (zDZ h2) hn _
  · have : (rStep l s2).2.1 ≠ 0 := by rw [rStep_2]; exact g
    rw [rTerm_st this]
    rfl
theorem minI_ix {l : Toks} (ho : TOk l) {i : Nat} (h : i < l.length) : minI (IntKind.i64.wrap ((i : Int) + 1)) (IntKind.i64.wrap ((l.length : Int) - 1)) = ((if i + 1 < l.length then i + 1 else i : Nat) : Int) := by
  have hl := ho.len
  rw [zDO i (by omega), wrap_i64 (by omega) (by omega)]
  unfold minI
  split
  · split <;> omega
  · split <;> omega
theorem litP_F [Esc R] (n : Nat) (atoms : Int) (l : Toks) (ho : TOk l) (s : RS) (h0 : s.2.1 = 0) (h : s.1 < l.length) (hn : 500 < n) (k : ty51.D → Toks → Int → Option R) : zBJ_F n atoms l (s.1 : Int) k = endS (rLit l atoms s).2 (k (rLit l atoms s).1 l ((rLit l atoms s).2.1 : Int)) := by
  rw [zBJ_e]
  unfold zBJ_Fi
  refine (takeP_F n notB l ho s h0 h _).trans ?_
  have ht2 : (rTake l notB s).2.2.1 = 0 := by rw [rTake_2]; exact h0
  have htl := zDR (l := l) notB h
  have hL : rLit l atoms s = if rNamed l (rTake l notB s).2 = true ∧ ((rTake l notB s).1 = true ∨ rPar l (rTake l notB s).2 = true) then rAtom l atoms (rTake l notB s).1 (atT l (rTake l notB s).2) (rTake l notB s).2
    else rCmp l (rTake l notB s).1 (if (rTake l notB s).1 = true then rFail 7 (atT l (rTake l notB s).2) (rTake l notB s).2 else (rTake l notB s).2) := rfl
  rw [hL]
  generalize rTake l notB s = q at ht2 htl ⊢
  obtain ⟨b, t⟩ := q
  simp only at ht2 htl ⊢
  cases b with
  | true =>
    simp only [if_true, true_or, and_true]
    refine (atomP_F n true atoms l ho t ht2 htl hn _).trans ?_
    by_cases hnm : rNamed l t = true
    · rw [if_pos hnm]
    · rw [if_neg hnm]
      have hN : rName l t = ((⟨#[]⟩ : ByteArray), rFail 7 (atT l t) t) := by unfold rName; rw [if_neg hnm]; rfl
      have hb : (rFail 7 (atT l t) t).2.1 ≠ 0 := by rw [zEC ht2]; show (7 : Int) ≠ 0; decide
      have hA : (rAtom l atoms true (atT l t) t).2 = rFail 7 (atT l t) t := by
        unfold rAtom rAtomS
        rw [hN]
        simp only [Bool.true_eq_false, false_and, if_false]
        rw [zEX hb]
        exact rArgs_st hb
      have hc := rCmp_st (l := l) (b := true) hb
      rw [hA, zDQ hb]
      have hb2 : (rCmp l true (rFail 7 (atT l t) t)).2.2.1 ≠ 0 := by rw [hc]; exact hb
      rw [zDQ hb2, hc]
  | false =>
    have hm := minI_ix ho htl
    have hP : rPar l t = (decide ((tk l (if t.1 + 1 < l.length then t.1 + 1 else t.1)).1 = 3) && decide ((tk l (if t.1 + 1 < l.length then t.1 + 1 else t.1)).2.1 = lparB)) := by
      unfold rPar
      by_cases hlt : t.1 + 1 < l.length
      · rw [decide_eq_true hlt, if_pos hlt, Bool.true_and]
      · have h4 := (ho.last t.1 htl).2 (by omega)
        rw [decide_eq_false hlt, if_neg hlt, Bool.false_and, h4]
        rfl
    have hr : (0 : Int) ≤ ((if t.1 + 1 < l.length then t.1 + 1 else t.1 : Nat) : Int) ∧ ((if t.1 + 1 < l.length then t.1 + 1 else t.1 : Nat) : Int) < (l.length : Int) := by split <;> omega
    simp only [Bool.false_eq_true, if_false, false_or, hm, Int.toNat_natCast]
    rw [if_pos hr, namedP_F n l t ht2 htl hn, hP]
    have tkE : ∀ j : Nat, l.getD j (Ty.z ty78) = tk l j := fun j => rfl
    simp only [tkE]
    generalize (if t.1 + 1 < l.length then t.1 + 1 else t.1) = j
    cases hnm : rNamed l t with
    | false =>
      simp only [Bool.false_eq_true, if_false, false_and]
      exact cmpP_F n l ho t ht2 htl hn k
    | true =>
      simp only [if_true, true_and]
      by_cases h3 : (tk l j).1 = 3
      · rw [if_pos (by rw [h3]; rfl), beqB, decide_eq_true h3, Bool.true_and]
        by_cases hw : (tk l j).2.1 = lparB
        · rw [if_pos (decide_eq_true (show (tk l j).2.1 = (⟨#[40]⟩ : ByteArray) from hw)), if_pos (decide_eq_true hw)]
          exact atomP_F n false atoms l ho t ht2 htl hn _
        · rw [if_neg (show ¬ decide ((tk l j).2.1 = (⟨#[40]⟩ : ByteArray)) = true from fun g => hw (of_decide_eq_true g)), if_neg (fun g => hw (of_decide_eq_true g))]
          exact cmpP_F n l ho t ht2 htl hn k
      · rw [if_neg (by simpa using h3), decide_eq_false h3, Bool.false_and, if_neg (by decide)]
        exact cmpP_F n l ho t ht2 htl hn k
theorem beginsP_F (n : Nat) (l : Toks) (s : RS) (h0 : s.2.1 = 0) (h : s.1 < l.length) (hn : 500 < n) (k : Bool → Toks → Int → Option R) : zBQ_F n l (s.1 : Int) k = k (rIs l notB s || (rNamed l s || decide ((tk l s.1).1 = 2))) l (s.1 : Int) := by
  rw [zBQ_e]
  unfold zBQ_Fi
  refine (isP_F n notB l s h0 h _).trans ?_
  cases rIs l notB s with
  | true => rfl
  | false =>
    simp only [Bool.false_eq_true, if_false, Bool.false_or]
    rw [namedP_F n l s h0 h hn]
    cases rNamed l s with
    | true => rfl
    | false =>
      simp only [Bool.false_eq_true, if_false, Bool.false_or]
      rw [nowP_F n l s.1 h]
      rfl
theorem rLone_0 {l : Toks} {s : RS} (h0 : s.2.1 = 0) (p : Int) : rLone l p s = (s.1, (if (rIs l notB s || (rNamed l s || decide ((tk l s.1).1 = 2))) = true then 9 else 7 : Int), p) := by
  unfold rLone
  have e9 : rFail 9 p s = (s.1, 9, p) := zEC h0
  have e : (rIs l notB s = true ∨ rNamed l s = true ∨ (tk l s.1).1 = 2) ↔ (rIs l notB s || (rNamed l s || decide ((tk l s.1).1 = 2))) = true := by simp
  by_cases hc : rIs l notB s = true ∨ rNamed l s = true ∨ (tk l s.1).1 = 2
  · rw [if_pos hc, if_pos (e.1 hc), e9]
    exact rFail_st (by show (9 : Int) ≠ 0; decide)
  · rw [if_neg hc, if_neg (fun g => hc (e.2 g))]
    exact zEC h0
theorem body_loopP [Esc R] (n : Nat) (l : Toks) (ho : TOk l) (hn : 500 < n) (kind : Int) (nm : ByteArray) (ag : Int) (of_ : ByteArray) (lim : Int) (hd : List ByteArray) (K : exK R (zAG_dx 2)) (ret : Toks → Int → Int → ByteArray → Int → ByteArray → Int → List ByteArray → List ty51.D → Option R)
    (hK : ∀ a b c d e f g h i, K.1 (a, b, c, d, e, f, g, h, i, ()) = ret a b c d e f g h i) : ∀ (f m : Nat) (s : RS) (a : Nat) (bd : List ty51.D), s.2.1 = 0 → s.1 < l.length → l.length ≤ s.1 + f → bd.length + f ≤ 2000 → a + f ≤ 2000 → f + 1 < m →
    runC (zAG_l2 n) m ((a : Int), true, l, (s.1 : Int), kind, nm, ag, of_, lim, hd, bd, ()) K = endS (rBodyL l f (a : Int) s bd).1 (ret l ((rBodyL l f (a : Int) s bd).1.1 : Int) kind nm ag of_ lim hd (rBodyL l f (a : Int) s bd).2)
  | 0, m, s, a, bd, h0, h, hf, hh, ha, hm => by omega
  | f + 1, m, s, a, bd, h0, h, hf, hh, ha, hm => by
    obtain ⟨m, rfl⟩ : ∃ q, m = q + 1 := ⟨m - 1, by omega⟩
    refine (runC_s _ _ _ _).trans ?_
    have wa : IntKind.i64.wrap ((a : Int) + 1) = ((a + 1 : Nat) : Int) := zDO _ (by omega)
    simp only [zAG_l2, zAG_s2, if_true, wa]
    rw [rBodyL, if_pos h0]
    by_cases hg : 10 ≤ bd.length
    · rw [if_pos (decide_eq_true (show (bd.length : Int) ≥ 10 by omega))]
      have hS : bodySt l s bd = rLone l (atT l s) s := by unfold bodySt; rw [if_pos hg]
      rw [hS, rLone_0 h0]
      rw [beginsP_F n l s h0 h hn]
      generalize (rIs l notB s || (rNamed l s || decide ((tk l s.1).1 = 2))) = b
      have hb : ((s.1, (if b = true then 9 else 7 : Int), atT l s) : RS).2.1 ≠ 0 := by show (if b = true then 9 else 7 : Int) ≠ 0; split <;> decide
      have hL := rLit_st (l := l) (atoms := (a : Int)) hb
      generalize rLit l (a : Int) (s.1, (if b = true then 9 else 7 : Int), atT l s) = x at hL ⊢
      have hx : x.2.2.1 ≠ 0 := by rw [hL]; exact hb
      rw [zEW hx]
      simp only [Bool.false_eq_true, if_false]
      rw [zDQ hx, hL]
      refine (zEO n _ 9 (by decide) l s h0 h _).trans ?_
      cases b with
      | true =>
        have e9 : rIf (!true) 9 (atT l s) s = (s.1, 9, atT l s) := zEC h0
        rw [e9, zDQ (by show (9 : Int) ≠ 0; decide)]
        rfl
      | false =>
        have e9 : rIf (!false) 9 (atT l s) s = s := rfl
        rw [e9, zDT h0]
        refine (zEO n false 7 (by decide) l s h0 h _).trans ?_
        have e7 : rIf false 7 (atT l s) s = (s.1, 7, atT l s) := zEC h0
        rw [e7, zDQ (by show (7 : Int) ≠ 0; decide)]
        rfl
    · rw [if_neg (show ¬ decide ((bd.length : Int) ≥ 10) = true by simp; omega)]
      have hS : bodySt l s bd = s := by unfold bodySt; rw [if_neg hg]
      rw [hS]
      refine (litP_F n (a : Int) l ho s h0 h hn _).trans ?_
      have h2 := (rLit_rng (l := l) (a : Int) h).1
      have hge := rLit_ge l (a : Int) s
      generalize rLit l (a : Int) s = x at h2 hge ⊢
      obtain ⟨x, s2⟩ := x
      simp only at h2 hge ⊢
      by_cases g2 : s2.2.1 = 0
      · rw [zDT g2]
        have gd : (List.length bd + List.length [x]) * 56 ≤ 140737488355328 := by simp only [List.length_cons, List.length_nil]; omega
        simp only [gd, if_true]
        have ht2 : (rTake l commaB s2).2.2.1 = 0 := by rw [rTake_2]; exact g2
        have htl := zDR (l := l) commaB h2
        have step : ∀ a2 : Nat, a2 + f ≤ 2000 → zAF_F n (⟨#[44]⟩ : ByteArray) l (s2.1 : Int) (fun y11 y12 y13 => runC (zAG_l2 n) m ((a2 : Int), y11, y12, y13, kind, nm, ag, of_, lim, hd, (bd ++ [x]), ()) K)
            = endS (if (rTake l commaB s2).1 = true then rBodyL l f (a2 : Int) (rTake l commaB s2).2 (bd ++ [x]) else ((rTake l commaB s2).2, bd ++ [x])).1 (ret l ((if (rTake l commaB s2).1 = true then rBodyL l f (a2 : Int) (rTake l commaB s2).2 (bd ++ [x]) else ((rTake l commaB s2).2, bd ++ [x])).1.1 : Int) kind nm ag of_ lim hd (if (rTake l commaB s2).1 = true then rBodyL l f (a2 : Int) (rTake l commaB s2).2 (bd ++ [x]) else ((rTake l commaB s2).2, bd ++ [x])).2) := by
          intro a2 ha2
          refine (takeP_F n commaB l ho s2 g2 h2 _).trans ?_
          cases ht : (rTake l commaB s2).1 with
          | false =>
            simp only [Bool.false_eq_true, if_false]
            rw [zDT ht2]
            obtain ⟨m, rfl⟩ : ∃ q, m = q + 1 := ⟨m - 1, by omega⟩
            refine (runC_s _ _ _ _).trans ?_
            simp only [zAG_l2, zAG_s2, Bool.false_eq_true, if_false]
            exact hK _ _ _ _ _ _ _ _ _
          | true =>
            simp only [if_true]
            have hon := rTake_on ho h2 ht
            exact body_loopP n l ho hn kind nm ag of_ lim hd K ret hK f m (rTake l commaB s2).2 a2 _ ht2 htl (by omega) (by simp; omega) (by omega) (by omega)
        have ea : ((a : Int) + 1) = ((a + 1 : Nat) : Int) := rfl
        by_cases hx : x.2.2.2.1 = 0
        · rw [if_pos (by rw [hx]; rfl)]
          cases hxn : x.1 with
          | true =>
            have hat : isAtom x = false := by unfold isAtom; rw [hxn]; simp
            simp only [hat, Bool.not_true, Bool.false_eq_true, if_false]
            exact step a (by omega)
          | false =>
            have hat : isAtom x = true := by unfold isAtom; rw [hxn, decide_eq_true hx]; rfl
            simp only [hat, Bool.not_false, if_true, ea]
            exact step (a + 1) (by omega)
        · have hat : isAtom x = false := by unfold isAtom; rw [decide_eq_false hx]; rfl
          rw [if_neg (by simpa using hx)]
          simp only [hat, Bool.false_eq_true, if_false]
          exact step a (by omega)
      · rw [zDQ g2, zEW g2]
        simp only [Bool.false_eq_true, if_false]
        exact (zDQ g2 _).symm
theorem rBodyL_st {l : Toks} {s : RS} {a : Int} {bd : List ty51.D} (f : Nat) (h : s.2.1 ≠ 0) : rBodyL l f a s bd = (s, bd) := by
  cases f with
  | zero => rfl
  | succ f => rw [rBodyL, if_neg h]
theorem bodyP_F [Esc R] (n : Nat) (l : Toks) (ho : TOk l) (s : RS) (h0 : s.2.1 = 0) (h : s.1 < l.length) (hn : 500 < n) (kind : Int) (nm : ByteArray) (ag : Int) (of_ : ByteArray) (lim : Int) (hd : List ByteArray) (k : Toks → Int → Int → ByteArray → Int → ByteArray → Int → List ByteArray → List ty51.D → Option R) :
    zAG_F n l (s.1 : Int) kind nm ag of_ lim hd [] k = endS (rBody l s).1 (k l ((rBody l s).1.1 : Int) kind nm ag of_ lim hd (rBody l s).2) := by
  rw [zAG_e]
  unfold zAG_Fi rBody
  have := ho.len
  exact body_loopP n l ho hn kind nm ag of_ lim hd _ k (fun _ _ _ _ _ _ _ _ _ => rfl) 400 n s 0 [] h0 h (by omega) (by simp) (by omega) (by omega)
theorem kindP_F [Esc R] (n : Nat) (l : Toks) (ho : TOk l) (s : RS) (h0 : s.2.1 = 0) (h : s.1 < l.length) (hn : 500 < n) (k : Int → Toks → Int → Option R) : zAA_F n l (s.1 : Int) k = endS (rKind l s).2 (k (rKind l s).1 l ((rKind l s).2.1 : Int)) := by
  rw [zAA_e]
  unfold zAA_Fi
  have hK : rKind l s = if (rTake l denyB s).1 = true then (1, (rTake l denyB s).2) else if (rTake l viewB (rTake l denyB s).2).1 = true then (2, (rTake l viewB (rTake l denyB s).2).2)
      else if (rTake l quotaB (rTake l viewB (rTake l denyB s).2).2).1 = true then (3, (rTake l quotaB (rTake l viewB (rTake l denyB s).2).2).2) else (0, rFail 7 (atT l (rTake l quotaB (rTake l viewB (rTake l denyB s).2).2).2) (rTake l quotaB (rTake l viewB (rTake l denyB s).2).2).2) := rfl
  rw [hK]
  have roundL : ∀ (i : Nat) (hi : i < 3) (t : RS) (g0 : t.2.1 = 0) (ht : t.1 < l.length) (k1 : (zAA_ds 2).D → Option R) (K : exK R (zAA_dx 2)),
      zAA_l2 n ((3 : Int), (i : Int), l, (t.1 : Int), [denyB, viewB, quotaB], ()) k1 K = if (rTake l ([denyB, viewB, quotaB].getD i ByteArray.empty) t).1 = true then K.1 (((i + 1 : Nat) : Int), l, ((rTake l ([denyB, viewB, quotaB].getD i ByteArray.empty) t).2.1 : Int), ()) else k1 ((3 : Int), ((i + 1 : Nat) : Int), l, ((rTake l ([denyB, viewB, quotaB].getD i ByteArray.empty) t).2.1 : Int), [denyB, viewB, quotaB], ()) := by
    intro i hi t g0 ht k1 K
    have c1 : (i : Int) < 3 := by omega
    have c2 : (0 : Int) ≤ (i : Int) ∧ (i : Int) < (([denyB, viewB, quotaB] : List ByteArray).length : Int) := ⟨by omega, c1⟩
    have c3 : i < ([denyB, viewB, quotaB] : List ByteArray).length := hi
    have w1 : IntKind.i64.wrap ((i : Int) + 1) = ((i + 1 : Nat) : Int) := zDO _ (by omega)
    have w2 : IntKind.i64.wrap (1 + (i : Int)) = ((i + 1 : Nat) : Int) := by rw [Int.add_comm]; exact w1
    have e : ([denyB, viewB, quotaB] : List ByteArray).getD i (Ty.z .str) = [denyB, viewB, quotaB].getD i ByteArray.empty := rfl
    simp only [zAA_l2, zAA_s2, c1, c2, c3, decide_true, if_true, and_self, Int.toNat_natCast, w1, w2, e]
    rw [takeP_F n _ l ho t g0 ht]
  obtain ⟨m, hm⟩ : ∃ m, n = m + 4 := ⟨n - 4, by omega⟩
  have h1 := zDR (l := l) denyB h
  have g1 : (rTake l denyB s).2.2.1 = 0 := by rw [rTake_2]; exact h0
  have r0 := fun k1 K => roundL 0 (by omega) s h0 h k1 K
  have d0 : ([denyB, viewB, quotaB] : List ByteArray).getD 0 ByteArray.empty = denyB := rfl
  have d1 : ([denyB, viewB, quotaB] : List ByteArray).getD 1 ByteArray.empty = viewB := rfl
  have d2 : ([denyB, viewB, quotaB] : List ByteArray).getD 2 ByteArray.empty = quotaB := rfl
  rw [d0] at r0
  generalize rTake l denyB s = t1 at h1 g1 r0 ⊢
  have h2 := zDR (l := l) viewB h1
  have g2 : (rTake l viewB t1.2).2.2.1 = 0 := by rw [rTake_2]; exact g1
  have r1 := fun k1 K => roundL 1 (by omega) t1.2 g1 h1 k1 K
  rw [d1] at r1
  generalize rTake l viewB t1.2 = t2 at h2 g2 r1 ⊢
  have h3 := zDR (l := l) quotaB h2
  have g3 : (rTake l quotaB t2.2).2.2.1 = 0 := by rw [rTake_2]; exact g2
  have r2 := fun k1 K => roundL 2 (by omega) t2.2 g2 h2 k1 K
  rw [d2] at r2
  generalize rTake l quotaB t2.2 = t3 at h3 g3 r2 ⊢
  have run4 : ∀ (a : (zAA_ds 2).D) (K : exK R (zAA_dx 2)), runC (zAA_l2 n) (m + 4) a K = zAA_l2 n a (fun b => zAA_l2 n b (fun c => zAA_l2 n c (fun d => zAA_l2 n d (fun e => runC (zAA_l2 n) m e K) K) K) K) K := fun a K => rfl
  refine Eq.trans (congrArg (fun q => runC (zAA_l2 n) q _ _) hm) ?_
  refine (run4 _ _).trans ?_
  refine (r0 _ _).trans ?_
  by_cases c1 : t1.1 = true
  · rw [if_pos c1, if_pos c1, zDT g1]
    rfl
  · rw [if_neg c1, if_neg c1]
    refine (r1 _ _).trans ?_
    by_cases c2 : t2.1 = true
    · rw [if_pos c2, if_pos c2, zDT g2]
      rfl
    · rw [if_neg c2, if_neg c2]
      refine (r2 _ _).trans ?_
      by_cases c3 : t3.1 = true
      · rw [if_pos c3, if_pos c3, zDT g3]
        rfl
      · rw [if_neg c3, if_neg c3]
        have last : ∀ (k1 : (zAA_ds 2).D → Option R) (K : exK R (zAA_dx 2)), zAA_l2 n ((3 : Int), ((2 + 1 : Nat) : Int), l, (t3.2.1 : Int), [denyB, viewB, quotaB], ()) k1 K = K.2.1 (l, (t3.2.1 : Int), ()) := by
          intro k1 K
          simp only [zAA_l2, zAA_s2]
          rw [if_neg (show ¬ decide (((2 + 1 : Nat) : Int) < 3) = true from by simp)]
        refine (last _ _).trans ?_
        refine (zEO n false 7 (by decide) l t3.2 g3 h3 _).trans ?_
        show endS (rFail 7 (atT l t3.2) t3.2) _ = endS (rFail 7 (atT l t3.2) t3.2) _
        have hb : (rFail 7 (atT l t3.2) t3.2).2.1 ≠ 0 := by rw [zEC g3]; show (7 : Int) ≠ 0; decide
        rw [zDQ hb, zDQ hb]
theorem rKind_ok {l : Toks} {s : RS} (h0 : s.2.1 = 0) (h : (rKind l s).2.2.1 = 0) : (rKind l s).1 = 1 ∨ (rKind l s).1 = 2 ∨ (rKind l s).1 = 3 := by
  unfold rKind at h ⊢
  split
  · exact .inl rfl
  · split
    · exact .inr (.inl rfl)
    · split
      · exact .inr (.inr rfl)
      · rename_i c1 c2 c3
        rw [if_neg c1, if_neg c2, if_neg c3] at h
        simp only at h
        have g : (rTake l quotaB (rTake l viewB (rTake l denyB s).2).2).2.2.1 = 0 := by rw [rTake_2, rTake_2, rTake_2]; exact h0
        rw [zEC g] at h
        exact absurd (show (7 : Int) = 0 from h) (by decide)
def ruleT (r : RR) : ty25.D := (r.1, r.2.1, r.2.2.2.2.2.2.2.1, r.2.2.1, r.2.2.2.1, r.2.2.2.2.1, r.2.2.2.2.2.2.2.2, ())
theorem rEndS_st {l : Toks} {s : RS} (h : s.2.1 ≠ 0) : rEndS l s = s := by unfold rEndS; rw [rFail_st h]; split <;> rfl
theorem rBody_st {l : Toks} {s : RS} (h : s.2.1 ≠ 0) : (rBody l s).1 = s := by unfold rBody; rw [rBodyL_st 400 h]
theorem rLimS_st {l : Toks} {s : RS} (h : s.2.1 ≠ 0) : rLimS l s = s := by unfold rLimS; rw [if_neg (fun g => h g.1)]
def endZ (l : Toks) (s : RS) : RS := rEndS l (rBody l (rMust l ifB s)).1
theorem endZ_st {l : Toks} {s : RS} (h : s.2.1 ≠ 0) : endZ l s = s := by unfold endZ; rw [zEX h, rBody_st h, rEndS_st h]
theorem endP_F [Esc R] (n : Nat) (l : Toks) (ho : TOk l) (s : RS) (h0 : s.2.1 = 0) (h : s.1 < l.length) (hn : 500 < n) (kind : Int) (nm : ByteArray) (ag : Int) (of_ : ByteArray) (lim : Int) (hd : List ByteArray) (k : ty25.D → Toks → Int → Option R) :
    (zAO_F n (⟨#[105, 102]⟩ : ByteArray) l (s.1 : Int) (fun y70 y71 => zAG_F n y70 y71 kind nm ag of_ lim hd [] (fun y72 y73 y74 y75 y76 y77 y78 y79 y80 => zO_F n y72 y73 (fun y81 y82 y83 => zK_F n (y81.1 == 4) 7 y82 y83 (fun y84 y85 => k (y74, y75, y79, y76, y77, y78, y80, ()) y84 y85))))) =
      endS (endZ l s) (k (kind, nm, hd, ag, of_, lim, (rBody l (rMust l ifB s)).2, ()) l ((endZ l s).1 : Int)) := by
  refine (wantP_F n ifB l ho s h0 h _).trans ?_
  unfold endZ
  have h1 := zDS (l := l) ifB h
  generalize rMust l ifB s = s1 at h1 ⊢
  refine (zDY fun g1 => bodyP_F n l ho s1 g1 h1 hn kind nm ag of_ lim hd _).trans ?_
  rw [zED (fun g => by rw [rBody_st g])]
  have h2 : (rBody l s1).1.1 < l.length := (rBodyL_rng (l := l) 400 0 s1 [] h1 (by simp)).1
  generalize rBody l s1 = b at h2 ⊢
  obtain ⟨s2, bd⟩ := b
  simp only at h2 ⊢
  refine Eq.trans (zDY (k' := endS (rEndS l s2) (k (kind, nm, hd, ag, of_, lim, bd, ()) l ((rEndS l s2).1 : Int))) fun g2 => ?_) (zED fun g => by rw [rEndS_st g])
  rw [nowP_F n l s2.1 h2]
  refine (zEO n _ 7 (by decide) l s2 g2 h2 _).trans ?_
  unfold rEndS
  by_cases h4 : (tk l s2.1).1 = 4
  · have e : ((tk l s2.1).1 == 4) = true := beq_iff_eq.2 h4
    rw [e, if_neg (fun g => g h4)]
    rfl
  · have e : ((tk l s2.1).1 == 4) = false := beq_eq_false_iff_ne.2 h4
    rw [e, if_pos h4, zEF]
    rfl
def limZ (l : Toks) (kind : Int) (s : RS) : RS := (rLim l kind s).2
theorem limZ_st {l : Toks} {kind : Int} {s : RS} (h : s.2.1 ≠ 0) : (limZ l kind s).2 = s.2 := by
  unfold limZ rLim
  split
  · simp only [zEX h, rLimS_st h]
    rfl
  · rfl
theorem limP_F [Esc R] (n : Nat) (l : Toks) (ho : TOk l) (s : RS) (h0 : s.2.1 = 0) (h : s.1 < l.length) (hn : 500 < n) (kind : Int) (k : Int → Toks → Int → Option R) :
    (if (kind == 3) = true then (zAO_F n (⟨#[108, 105, 109, 105, 116]⟩ : ByteArray) l (s.1 : Int) (fun y20 y21 => zO_F n y20 y21 (fun y22 y23 y24 => if (y22.1 == 2) = true then (zO_F n y23 y24 (fun y25 y26 y27 => zK_F n (y25.2.2.1.1 == 2) 7 y26 y27 (fun y28 y29 => zAE_F n y28 y29 (fun y30 y31 y32 => k y30.2.2.1.2.2.1 y31 y32)))) else (zK_F n false 7 y23 y24 (fun y49 y50 => zAE_F n y49 y50 (fun y51 y52 y53 => k y51.2.2.1.2.2.1 y52 y53)))))) else k 0 l (s.1 : Int)) =
      endS (limZ l kind s) (k (rLim l kind s).1 l ((limZ l kind s).1 : Int)) := by
  unfold limZ
  by_cases hk : kind = 3
  · have b : (kind == 3) = true := by simp [hk]
    have hL : rLim l kind s = ((tk l (rLimS l (rMust l limitB s)).1).2.2.1.2.2.1, rStep l (rLimS l (rMust l limitB s))) := by unfold rLim; rw [if_pos hk]
    rw [if_pos b, hL]
    refine (wantP_F n limitB l ho s h0 h _).trans ?_
    have h1 := zDS (l := l) limitB h
    generalize rMust l limitB s = g at h1 ⊢
    refine Eq.trans (zDY (k' := endS (rStep l (rLimS l g)) (k (tk l (rLimS l g).1).2.2.1.2.2.1 l ((rStep l (rLimS l g)).1 : Int))) fun g1 => ?_) (zED fun g2 => by rw [rLimS_st g2]; rfl)
    rw [nowP_F n l g.1 h1]
    have bad : rLimS l g = rFail 7 (atT l g) g → ∀ (K : Toks → Int → Option R), zK_F n false 7 l (g.1 : Int) K = endS (rStep l (rLimS l g)) (k (tk l (rLimS l g).1).2.2.1.2.2.1 l ((rStep l (rLimS l g)).1 : Int)) := by
      intro e K
      refine (zEO n false 7 (by decide) l g g1 h1 _).trans ?_
      show endS (rFail 7 (atT l g) g) _ = _
      have e7 : rFail 7 (atT l g) g = (g.1, 7, atT l g) := zEC g1
      have hb : (rFail 7 (atT l g) g).2.1 ≠ 0 := by rw [e7]; show (7 : Int) ≠ 0; decide
      have hb2 : (rStep l (rLimS l g)).2.1 ≠ 0 := by rw [e, rStep_2]; exact hb
      rw [zDQ hb, zDQ hb2, rStep_2, e]
    by_cases hk2 : (tk l g.1).1 = 2
    · have e2 : ((tk l g.1).1 == 2) = true := beq_iff_eq.2 hk2
      rw [if_pos e2, nowP_F n l g.1 h1]
      by_cases hv : (tk l g.1).2.2.1.1 = 2
      · have e3 : ((tk l g.1).2.2.1.1 == 2) = true := beq_iff_eq.2 hv
        have e : rLimS l g = g := by unfold rLimS; rw [if_neg (by rintro ⟨_, h | h⟩; exact h hk2; exact h hv)]
        rw [e3, e]
        refine (zEO n true 7 (by decide) l g g1 h1 _).trans ?_
        rw [show rIf true 7 (atT l g) g = g from rfl, zDT g1, stepP_F n l ho g h1, zDT (by rw [rStep_2]; exact g1)]
      · have e3 : ((tk l g.1).2.2.1.1 == 2) = false := beq_eq_false_iff_ne.2 hv
        rw [e3]
        exact bad (by unfold rLimS; rw [if_pos ⟨g1, Or.inr hv⟩]) _
    · have e2 : ((tk l g.1).1 == 2) = false := beq_eq_false_iff_ne.2 hk2
      rw [if_neg (by rw [e2]; decide)]
      exact bad (by unfold rLimS; rw [if_pos ⟨g1, Or.inl hk2⟩]) _
  · have b : (kind == 3) = false := by simp [hk]
    have hL : rLim l kind s = (0, s) := by unfold rLim; rw [if_neg hk]
    rw [if_neg (by rw [b]; decide), hL, zDT h0]
theorem rest_why (l : Toks) (kind : Int) (s : RS) : (rRest l kind s).2.2.2.2.2.2.1 = (endZ l (limZ l kind (rMust l rparB (rHd l kind s).1))).2.1 ∧ ((endZ l (limZ l kind (rMust l rparB (rHd l kind s).1))).2.1 ≠ 0 → (rRest l kind s).2.2.2.2.2.1 = (endZ l (limZ l kind (rMust l rparB (rHd l kind s).1))).2.2) ∧
    ((endZ l (limZ l kind (rMust l rparB (rHd l kind s).1))).2.1 = 0 → ruleT (rRest l kind s) = (kind, (rName l s).1, (rHd l kind s).2.2.2, (rHd l kind s).2.1, (rHd l kind s).2.2.1, (rLim l kind (rMust l rparB (rHd l kind s).1)).1, (rBody l (rMust l ifB (limZ l kind (rMust l rparB (rHd l kind s).1)))).2, ())) := by
  unfold rRest rEnd
  show (if (endZ l (limZ l kind (rMust l rparB (rHd l kind s).1))).2.1 ≠ 0 then _ else _ : RR).2.2.2.2.2.2.1 = _ ∧ _
  by_cases h : (endZ l (limZ l kind (rMust l rparB (rHd l kind s).1))).2.1 = 0
  · rw [if_neg (fun g => g h)]
    refine ⟨h.symm, fun g => absurd h g, fun _ => ?_⟩
    rw [if_neg (show ¬ (rEndS l (rBody l (rMust l ifB (rLim l kind (rMust l rparB (rHd l kind s).1)).2)).1).2.1 ≠ 0 from fun g => g h)]
    rfl
  · rw [if_pos h]
    refine ⟨rfl, fun _ => ?_, fun g => absurd g h⟩
    rw [if_pos (show (rEndS l (rBody l (rMust l ifB (rLim l kind (rMust l rparB (rHd l kind s).1)).2)).1).2.1 ≠ 0 from h)]
    rfl
theorem ruleP_F [Esc R] (n : Nat) (l : Toks) (ho : TOk l) (hl : 0 < l.length) (hn : 500 < n) (k : ty25.D → Toks → Int → Option R) : ∃ p : Nat,
    zCC_F n l 0 k = if (rTok l).2.2.2.2.2.2.1 = 0 then k (ruleT (rTok l)) l (p : Int) else escW (rTok l).2.2.2.2.2.2.1 (rTok l).2.2.2.2.2.1 := by
  refine ⟨(endZ l (limZ l (rKind l (0, 0, 0)).1 (rMust l rparB (rHd l (rKind l (0, 0, 0)).1 (rKind l (0, 0, 0)).2).1))).1, ?_⟩
  rw [zCC_e]
  unfold zCC_Fi
  refine (kindP_F n l ho (0, 0, 0) rfl hl hn _).trans ?_
  have hT : rTok l = rRest l (rKind l (0, 0, 0)).1 (rKind l (0, 0, 0)).2 := rfl
  have hko := rKind_ok (l := l) (s := (0, 0, 0)) rfl
  rw [hT]
  have h1 := rKind_lt (l := l) (s := (0, 0, 0)) hl
  generalize rKind l (0, 0, 0) = kq at hko h1 ⊢
  obtain ⟨kind, s1⟩ := kq
  simp only at hko h1 ⊢
  obtain ⟨w1, w2, w3⟩ := rest_why l kind s1
  have hd : rHd l kind s1 = rHead l kind (rMust l lparB (rName l s1).2) 0 (⟨#[]⟩ : ByteArray) [] := rfl
  have key : endS s1 (zAX_F n l (s1.1 : Int) (fun y4 y5 y6 => zAO_F n (⟨#[40]⟩ : ByteArray) y5 y6 (fun y7 y8 => zAQ_F n y7 y8 kind y4 0 (⟨#[]⟩ : ByteArray) 0 ([] : List ByteArray) ([] : List ty51.D) (fun y9 y10 y11 y12 y13 y14 y15 y16 y17 => zAO_F n (⟨#[41]⟩ : ByteArray) y9 y10 (fun y18 y19 => if (y11 == 3) = true then (zAO_F n (⟨#[108, 105, 109, 105, 116]⟩ : ByteArray) y18 y19 (fun y20 y21 => zO_F n y20 y21 (fun y22 y23 y24 => if (y22.1 == 2) = true then (zO_F n y23 y24 (fun y25 y26 y27 => zK_F n (y25.2.2.1.1 == 2) 7 y26 y27 (fun y28 y29 => zAE_F n y28 y29 (fun y30 y31 y32 => zAO_F n (⟨#[105, 102]⟩ : ByteArray) y31 y32 (fun y33 y34 => zAG_F n y33 y34 y11 y12 y13 y14 y30.2.2.1.2.2.1 y16 y17 (fun y35 y36 y37 y38 y39 y40 y41 y42 y43 => zO_F n y35 y36 (fun y44 y45 y46 => zK_F n (y44.1 == 4) 7 y45 y46 (fun y47 y48 => k (y37, y38, y42, y39, y40, y41, y43, ()) y47 y48)))))))) else (zK_F n false 7 y23 y24 (fun y49 y50 => zAE_F n y49 y50 (fun y51 y52 y53 => zAO_F n (⟨#[105, 102]⟩ : ByteArray) y52 y53 (fun y54 y55 => zAG_F n y54 y55 y11 y12 y13 y14 y51.2.2.1.2.2.1 y16 y17 (fun y56 y57 y58 y59 y60 y61 y62 y63 y64 => zO_F n y56 y57 (fun y65 y66 y67 => zK_F n (y65.1 == 4) 7 y66 y67 (fun y68 y69 => k (y58, y59, y63, y60, y61, y62, y64, ()) y68 y69)))))))))) else (zAO_F n (⟨#[105, 102]⟩ : ByteArray) y18 y19 (fun y70 y71 => zAG_F n y70 y71 y11 y12 y13 y14 y15 y16 y17 (fun y72 y73 y74 y75 y76 y77 y78 y79 y80 => zO_F n y72 y73 (fun y81 y82 y83 => zK_F n (y81.1 == 4) 7 y82 y83 (fun y84 y85 => k (y74, y75, y79, y76, y77, y78, y80, ()) y84 y85)))))))))) =
      endS (endZ l (limZ l kind (rMust l rparB (rHd l kind s1).1))) (k (kind, (rName l s1).1, (rHd l kind s1).2.2.2, (rHd l kind s1).2.1, (rHd l kind s1).2.2.1, (rLim l kind (rMust l rparB (rHd l kind s1).1)).1, (rBody l (rMust l ifB (limZ l kind (rMust l rparB (rHd l kind s1).1)))).2, ()) l ((endZ l (limZ l kind (rMust l rparB (rHd l kind s1).1))).1 : Int)) := by
    have stay1 : s1.2.1 ≠ 0 → (rName l s1).2.2 = s1.2 := fun g => by rw [rName_st g]
    by_cases g1 : s1.2.1 = 0
    · have hkk := hko g1
      rw [zDT g1]
      refine (nameP_F n l ho s1 g1 h1 hn _).trans ?_
      rw [hd]
      have h2 := zDX (l := l) h1
      generalize rName l s1 = a at h2 ⊢
      obtain ⟨nm, s2⟩ := a
      simp only at h2 ⊢
      refine (zDY fun g2 => wantP_F n lparB l ho s2 g2 h2 _).trans ?_
      rw [zED (fun g => by rw [zEX g])]
      have h3 := zDS (l := l) lparB h2
      generalize rMust l lparB s2 = s3 at h3 ⊢
      refine (zDY fun g3 => headP_F n l ho s3 g3 h3 hn kind hkk nm 0 (⟨#[]⟩ : ByteArray) 0 [] (by simp) [] _).trans ?_
      rw [zED (fun g => by rw [rHead_st g])]
      have h4 := (rHead_rng (l := l) kind s3 0 (⟨#[]⟩ : ByteArray) [] h3).1
      generalize rHead l kind s3 0 (⟨#[]⟩ : ByteArray) [] = H at h4 ⊢
      obtain ⟨s4, ag, of_, hdl⟩ := H
      simp only at h4 ⊢
      refine (zDY fun g4 => wantP_F n rparB l ho s4 g4 h4 _).trans ?_
      rw [zED (fun g => by rw [zEX g])]
      have h5 := zDS (l := l) rparB h4
      generalize rMust l rparB s4 = s5 at h5 ⊢
      have h6 : (limZ l kind s5).1 < l.length := rLim_lt kind h5
      refine (zDY fun g5 => limP_F n l ho s5 g5 h5 hn kind (fun lim y31 y32 => zAO_F n (⟨#[105, 102]⟩ : ByteArray) y31 y32 (fun y70 y71 => zAG_F n y70 y71 kind nm ag of_ lim hdl [] (fun y72 y73 y74 y75 y76 y77 y78 y79 y80 => zO_F n y72 y73 (fun y81 y82 y83 => zK_F n (y81.1 == 4) 7 y82 y83 (fun y84 y85 => k (y74, y75, y79, y76, y77, y78, y80, ()) y84 y85)))))).trans ?_
      rw [zED (fun g => limZ_st g)]
      generalize limZ l kind s5 = s6 at h6 ⊢
      refine (zDY fun g6 => endP_F n l ho s6 g6 h6 hn kind nm ag of_ _ hdl k).trans ?_
      rw [zED (fun g => by rw [endZ_st g])]
    · have e1 : (rName l s1).2 = s1 := by rw [rName_st g1]
      have e2 : (rHd l kind s1).1 = s1 := by rw [hd, e1, zEX g1, rHead_st g1]
      have e3 : rMust l rparB (rHd l kind s1).1 = s1 := by rw [e2, zEX g1]
      rw [e3]
      have e4 : (limZ l kind s1).2 = s1.2 := limZ_st g1
      have g4 : (limZ l kind s1).2.1 ≠ 0 := by rw [e4]; exact g1
      rw [endZ_st g4, zDQ g1, zDQ g4, e4]
  refine key.trans ?_
  unfold endS
  rw [w1]
  by_cases hz : (endZ l (limZ l kind (rMust l rparB (rHd l kind s1).1))).2.1 = 0
  · rw [if_pos hz, if_pos hz, w3 hz]
  · rw [if_neg hz, if_neg hz, w2 hz]
end Go.Proofs.YtnnbinmomendnaaGreatDoor.E
namespace Go.Proofs.YtnnbinmomendnaaGreatDoor.E
open Go.RowKit
def TokG (t : ty60.D) : Prop := t.1 ≠ 4 ∧ (t.1 = 3 → letN (bt t.2.1 0) = false)
theorem bt_ext0 {s : ByteArray} {n : Nat} (hn : 0 < n) : bt (s.extract 0 n) 0 = bt s 0 := by
  unfold bt
  rw [ByteArray.data_extract, Array.toList_extract, List.getD_eq_getElem?_getD, List.getD_eq_getElem?_getD]
  simp [List.extract, List.getElem?_take, hn]
theorem oneS_tok {u : ByteArray} {t : ty60.D} (h : oneS u = some t) : TokG t := by
  unfold oneS at h
  have cs : ∀ n, constS u n = some t → TokG t := by
    intro n h
    unfold constS at h
    split at h
    · injection h with h; rw [← h]; exact ⟨by show (2 : Int) ≠ 4; decide, fun g => absurd (show (2 : Int) = 3 from g) (by decide)⟩
    · cases h
  split at h
  · split at h
    · injection h with h; rw [← h]; exact ⟨by show (2 : Int) ≠ 4; decide, fun g => absurd (show (2 : Int) = 3 from g) (by decide)⟩
    · injection h with h; rw [← h]; exact ⟨by show (1 : Int) ≠ 4; decide, fun g => absurd (show (1 : Int) = 3 from g) (by decide)⟩
  · rename_i hl
    split at h
    · split at h
      · cases h
      · exact cs _ h
    · split at h
      · split at h
        · exact cs _ h
        · cases h
      · split at h
        · rename_i hs
          injection h with h
          rw [← h]
          refine ⟨by show (3 : Int) ≠ 4; decide, fun _ => ?_⟩
          show letN (bt (u.extract 0 (signN u)) 0) = false
          rw [bt_ext0 hs]
          simpa using hl
        · cases h
theorem lexL_tok (s : ByteArray) : ∀ (f i : Nat) (l l' : Toks), (∀ t ∈ l, TokG t) → lexL s f i l = .inr l' → ∀ t ∈ l', TokG t
  | 0, i, l, l', hl, h => by injection h with h; rw [← h]; exact hl
  | f + 1, i, l, l', hl, h => by
    unfold lexL at h
    split at h
    · split at h
      · exact lexL_tok s f (i + 1) l l' hl h
      · split at h
        · cases h
        · rename_i t he
          refine lexL_tok s f (i + t.2.1.size) _ l' (fun u hu => ?_) h
          rcases List.mem_append.1 hu with hu | hu
          · exact hl u hu
          · rw [List.mem_singleton] at hu
            rw [hu]
            have g := oneS_tok he
            exact ⟨g.1, g.2⟩
    · injection h with h; rw [← h]; exact hl
theorem lexS_tok (s : ByteArray) (h : (lexS s).2.1 = 0) : TOk (lexS s).2.2 ∧ 0 < (lexS s).2.2.length := by
  obtain ⟨l, hl, hlen⟩ := lexS_rng s h
  have hg : ∀ t ∈ l, TokG t := by
    unfold lexS at hl h
    split at hl
    · rename_i h1
      rw [if_pos h1] at h
      exact absurd (show (9 : Int) = 0 from h) (by decide)
    · rename_i h1
      cases he : lexL s (s.size + 1) 0 [] with
      | inl j => rw [he] at hl; exact absurd (congrArg List.length (show ([] : Toks) = l ++ [endT s] from hl)) (by simp)
      | inr l2 =>
        rw [he] at hl
        have e : l2 = l := by
          have : l2 ++ [endT s] = l ++ [endT s] := hl
          exact (List.append_left_inj [endT s]).1 this
        rw [← e]
        exact lexL_tok s _ _ _ _ (fun t ht => by cases ht) he
  rw [hl]
  have hin : ∀ i, i < l.length → ∃ t ∈ l, tk (l ++ [endT s]) i = t := fun i hi => ⟨l[i], List.getElem_mem hi, by
    unfold tk
    rw [List.getD_eq_getElem?_getD, List.getElem?_append_left hi, List.getElem?_eq_getElem hi]
    rfl⟩
  have hend : tk (l ++ [endT s]) l.length = endT s := by
    unfold tk
    rw [List.getD_eq_getElem?_getD, List.getElem?_append_right (Nat.le_refl _)]
    simp
  refine ⟨⟨by simp; omega, fun i hi => ?_, fun i hi h3 => ?_⟩, by simp⟩
  · have hi2 : i < l.length + 1 := by simpa using hi
    by_cases he : i = l.length
    · rw [he, hend]
      exact ⟨fun _ => by simp, fun _ => rfl⟩
    · obtain ⟨t, ht, e⟩ := hin i (by omega)
      rw [e]
      exact ⟨fun g => absurd g (hg t ht).1, fun g => absurd g (by simp; omega)⟩
  · have hi2 : i < l.length + 1 := by simpa using hi
    by_cases he : i = l.length
    · rw [he, hend] at h3
      exact absurd (show (4 : Int) = 3 from h3) (by decide)
    · obtain ⟨t, ht, e⟩ := hin i (by omega)
      rw [e] at h3 ⊢
      exact (hg t ht).2 h3
end Go.Proofs.YtnnbinmomendnaaGreatDoor.E
namespace Go.Proofs.YtnnbinmomendnaaGreatDoor
open Go.RowKit Go.Shelf
def wrongV (why at_ : Int) : Value := .iface 39 (.agg #[.int .i64 why, .int .i64 at_])
def rule0 : Array Value := #[.int .i64 0, .string ⟨#[]⟩, .slice none 0 0, .int .i64 0, .string ⟨#[]⟩, .int .i64 0, .slice none 0 0]
structure But3 (W W' : World) (a b c : Nat) : Prop where
  os : W'.os = W.os
  tape : W'.tape = W.tape
  output : W'.output = W.output
  size : W.heap.size ≤ W'.heap.size
  old : ∀ k, k < W.heap.size → k ≠ a → k ≠ b → k ≠ c → W'.heap[k]? = W.heap[k]?
theorem blk_set {W : World} {B : Nat} {cs : Array Value} {t : TypeId} (i : Nat) (v : Value) (h : W.heap[B]? = some (.cells cs t (0, 0))) : (W.setCell ⟨B, i, none⟩ v).heap[B]? = some (.cells (cs.setIfInBounds i v) t (0, 0)) := by
  obtain ⟨hlt, hk⟩ := Array.getElem?_eq_some_iff.1 h
  show (W.heap.modify B _)[B]? = _
  rw [Array.getElem?_eq_getElem (by rw [Array.size_modify]; exact hlt), Array.getElem_modify_self, hk]
  rfl
structure OneSet (W W1 : World) (p : Nat) (cs : Array Value) (t : TypeId) : Prop where
  row : W1.heap[p]? = some (.cells cs t (0, 0))
  os : W1.os = W.os
  tape : W1.tape = W.tape
  output : W1.output = W.output
  size : W1.heap.size = W.heap.size
  old : ∀ k, k ≠ p → W1.heap[k]? = W.heap[k]?
theorem one_set {W W1 : World} {p : Nat} {i : Nat} {v : Value} {cs : Array Value} {t : TypeId} (e : W.setCell ⟨p, i, none⟩ v = W1) (h : W.heap[p]? = some (.cells cs t (0, 0))) : OneSet W W1 p (cs.setIfInBounds i v) t := by
  subst e
  exact ⟨blk_set i v h, rfl, rfl, rfl, by simp, fun k hk => Below.heap_setCell _ _ _ k hk⟩
theorem OneSet.trans {W W1 W2 : World} {p : Nat} {cs cs' : Array Value} {t t' : TypeId} (a : OneSet W W1 p cs t) (b : OneSet W1 W2 p cs' t') : OneSet W W2 p cs' t' :=
  ⟨b.row, b.os.trans a.os, b.tape.trans a.tape, b.output.trans a.output, b.size.trans a.size, fun k hk => (b.old k hk).trans (a.old k hk)⟩
set_option maxRecDepth 100000 in
set_option maxHeartbeats 2000000 in
theorem catch_panic (p2 p3 p4 : Nat) (x0 : Int) (x1 : ByteArray) (x2 : Value) (x3 : Int) (x4 : ByteArray) (x5 : Int) (x6 : Value) (v3 v4 why at_ : Int) (w : World) (h2 : w.heap[p2]? = some (.cells rule0 25 (0, 0))) (h3 : Boxed w p3 3 (.int .i64 v3)) (h4 : Boxed w p4 26 (.int .i64 v4)) (n23 : p2 ≠ p3) (n24 : p2 ≠ p4) (n34 : p3 ≠ p4) :
    CallsD Tryz.prog 14 #[.pointer (some ⟨p2, 0, none⟩), .pointer (some ⟨p3, 0, none⟩), .pointer (some ⟨p4, 0, none⟩)] (.panicking (E.pan1 (wrongV why at_))) w fun e u' w' =>
      e = .returned (.tuple #[]) ∧ u' = .panicking [{ v := wrongV why at_, recovered := true }] ∧ w'.heap[p2]? = some (.cells rule0 25 (0, 0)) ∧ Boxed w' p3 3 (.int .i64 at_) ∧ Boxed w' p4 26 (.int .i64 why) ∧ But3 w w' p2 p3 p4 := by
  have hta : ∀ (a b : Int) (w : World), (Instr.typeAssert (.iface 39 (.agg #[.int .i64 a, .int .i64 b])) 20 39 true).run Tryz.prog w = .ok (.tuple #[.agg #[.int .i64 a, .int .i64 b], .bool true]) w := by intros; kernel_rfl
  refine callsD_of_wpS Tryz.func14 rfl fun c₀ cs hu => ?_
  apply wpS_seq
  apply wpS_region
  simp [wpOpsS, go_sem, recoverD, hu, hta, E.pan1, wrongV, Tryz.ntmps14, Exit.thenS]
  apply wpS_seq
  apply wpS_region
  simp [wpOpsS, go_sem, Exit.thenS]
  refine wpS_cond (t := true) (by simp [Act.eval, Array.replicate]) ?_
  simp only [if_true]
  refine wpS_of_wp ?_
  simp only [Array.replicate_succ, Array.replicate_zero, List.push_toArray, List.append_toArray, List.nil_append, List.cons_append, List.setIfInBounds_toArray, List.set_cons_zero, List.set_cons_succ]
  have hlt2 := (Array.getElem?_eq_some_iff.1 h2).1
  have hlt3 := h3.lt
  have hlt4 := h4.lt
  obtain ⟨WA, hWA⟩ : ∃ WA, w.alloc (.cells #[.int .i64 why, .int .i64 at_] 39) = WA := ⟨_, rfl⟩
  have WS : WA.heap.size = w.heap.size + 1 := by rw [← hWA]; simp
  have WO : ∀ k, k < w.heap.size → WA.heap[k]? = w.heap[k]? := fun k hk => by rw [← hWA]; exact Below.heap_alloc _ _ _ hk
  have WM : WA.os = w.os ∧ WA.tape = w.tape ∧ WA.output = w.output := by rw [← hWA]; exact ⟨rfl, rfl, rfl⟩
  have W1 : WA.heap[p2]? = some (.cells rule0 25 (0, 0)) := (WO p2 hlt2).trans h2
  have W3 : Boxed WA p3 3 (.int .i64 v3) := (WO p3 hlt3).trans h3
  have W4 : Boxed WA p4 26 (.int .i64 v4) := (WO p4 hlt4).trans h4
  have W5 : WA.heap[w.heap.size]? = some (.cells #[.int .i64 why, .int .i64 at_] 39 (0, 0)) := by rw [← hWA]; exact World.alloc_heap_new w _
  have z0 : WA.cell? ⟨p2, 0, none⟩ = some (.int .i64 0) := by simp [World.cell?, W1, rule0]
  have y0 : WA.frozen? ⟨p2, 0, none⟩ = false := by simp [World.frozen?, W1]
  have z1 : WA.cell? ⟨p2, 1, none⟩ = some (.string ⟨#[]⟩) := by simp [World.cell?, W1, rule0]
  have y1 : WA.frozen? ⟨p2, 1, none⟩ = false := by simp [World.frozen?, W1]
  have z2 : WA.cell? ⟨p2, 2, none⟩ = some (.slice none 0 0) := by simp [World.cell?, W1, rule0]
  have y2 : WA.frozen? ⟨p2, 2, none⟩ = false := by simp [World.frozen?, W1]
  have z3 : WA.cell? ⟨p2, 3, none⟩ = some (.int .i64 0) := by simp [World.cell?, W1, rule0]
  have y3 : WA.frozen? ⟨p2, 3, none⟩ = false := by simp [World.frozen?, W1]
  have z4 : WA.cell? ⟨p2, 4, none⟩ = some (.string ⟨#[]⟩) := by simp [World.cell?, W1, rule0]
  have y4 : WA.frozen? ⟨p2, 4, none⟩ = false := by simp [World.frozen?, W1]
  have z5 : WA.cell? ⟨p2, 5, none⟩ = some (.int .i64 0) := by simp [World.cell?, W1, rule0]
  have y5 : WA.frozen? ⟨p2, 5, none⟩ = false := by simp [World.frozen?, W1]
  have z6 : WA.cell? ⟨p2, 6, none⟩ = some (.slice none 0 0) := by simp [World.cell?, W1, rule0]
  have y6 : WA.frozen? ⟨p2, 6, none⟩ = false := by simp [World.frozen?, W1]
  have q3 := W3.cell
  have f3 := W3.frozen
  have q4 := W4.cell
  have f4 := W4.frozen
  have u0 : WA.cell? ⟨w.heap.size, 0, none⟩ = some (.int .i64 why) := by simp [World.cell?, W5]
  have u1 : WA.cell? ⟨w.heap.size, 1, none⟩ = some (.int .i64 at_) := by simp [World.cell?, W5]
  have m2 : ¬ p2 = w.heap.size := by omega
  have m3 : ¬ p3 = w.heap.size := by omega
  have m4 : ¬ p4 = w.heap.size := by omega
  have n32 : ¬ p3 = p2 := fun e => n23 e.symm
  have n42 : ¬ p4 = p2 := fun e => n24 e.symm
  have n43 : ¬ p4 = p3 := fun e => n34 e.symm
  have m2' : ¬ w.heap.size = p2 := fun e => m2 e.symm
  have m3' : ¬ w.heap.size = p3 := fun e => m3 e.symm
  have m4' : ¬ w.heap.size = p4 := fun e => m4 e.symm
  rw [hWA]
  go_region
  obtain ⟨V0, hV0⟩ : ∃ V, WA.setCell ⟨p2, 0, none⟩ (.int .i64 0) = V := ⟨_, rfl⟩
  rw [hV0]
  have o0 := one_set hV0 W1
  clear hV0
  obtain ⟨V1, hV1⟩ : ∃ V, V0.setCell ⟨p2, 1, none⟩ (.string ⟨#[]⟩) = V := ⟨_, rfl⟩
  rw [hV1]
  have o1 := o0.trans (one_set hV1 o0.row)
  clear hV1
  obtain ⟨V2, hV2⟩ : ∃ V, V1.setCell ⟨p2, 2, none⟩ (.slice none 0 0) = V := ⟨_, rfl⟩
  rw [hV2]
  have o2 := o1.trans (one_set hV2 o1.row)
  clear hV2
  obtain ⟨V3, hV3⟩ : ∃ V, V2.setCell ⟨p2, 3, none⟩ (.int .i64 0) = V := ⟨_, rfl⟩
  rw [hV3]
  have o3 := o2.trans (one_set hV3 o2.row)
  clear hV3
  obtain ⟨V4, hV4⟩ : ∃ V, V3.setCell ⟨p2, 4, none⟩ (.string ⟨#[]⟩) = V := ⟨_, rfl⟩
  rw [hV4]
  have o4 := o3.trans (one_set hV4 o3.row)
  clear hV4
  obtain ⟨V5, hV5⟩ : ∃ V, V4.setCell ⟨p2, 5, none⟩ (.int .i64 0) = V := ⟨_, rfl⟩
  rw [hV5]
  have o5 := o4.trans (one_set hV5 o4.row)
  clear hV5
  obtain ⟨V6, hV6⟩ : ∃ V, V5.setCell ⟨p2, 6, none⟩ (.slice none 0 0) = V := ⟨_, rfl⟩
  rw [hV6]
  have o6 := o5.trans (one_set hV6 o5.row)
  clear hV6
  have o6r : V6.heap[p2]? = some (.cells rule0 25 (0, 0)) := o6.row
  have b3 : V6.heap[p3]? = some (.cells #[.int .i64 v3] 3 (0, 0)) := (o6.old p3 n32).trans W3
  have b4 : V6.heap[p4]? = some (.cells #[.int .i64 v4] 26 (0, 0)) := (o6.old p4 n42).trans W4
  obtain ⟨V7, hV7⟩ : ∃ V, V6.setCell ⟨p3, 0, none⟩ (.int .i64 at_) = V := ⟨_, rfl⟩
  rw [hV7]
  have o7 := one_set hV7 b3
  clear hV7
  obtain ⟨V8, hV8⟩ : ∃ V, V7.setCell ⟨p4, 0, none⟩ (.int .i64 why) = V := ⟨_, rfl⟩
  rw [hV8]
  have o8 := one_set hV8 ((o7.old p4 n43).trans b4)
  clear hV8
  have e2 : V8.heap[p2]? = some (.cells rule0 25 (0, 0)) := (o8.old p2 n24).trans ((o7.old p2 n23).trans o6r)
  have e3 : V8.heap[p3]? = some (.cells #[.int .i64 at_] 3 (0, 0)) := (o8.old p3 n34).trans o7.row
  have e4 : V8.heap[p4]? = some (.cells #[.int .i64 why] 26 (0, 0)) := o8.row
  have eb : But3 w V8.drew p2 p3 p4 := ⟨(o8.os.trans (o7.os.trans o6.os)).trans WM.1, (o8.tape.trans (o7.tape.trans o6.tape)).trans WM.2.1, (o8.output.trans (o7.output.trans o6.output)).trans WM.2.2,
    (by show w.heap.size ≤ V8.heap.size; rw [o8.size, o7.size, o6.size]; omega), fun k hk k2 k3 k4 => ((o8.old k k4).trans ((o7.old k k3).trans (o6.old k k2))).trans (WO k hk)⟩
  exact ⟨rfl, _, rfl, _, results_none rfl _ _ _, rfl, rfl, e2, e3, e4, eb⟩
set_option maxRecDepth 100000 in
set_option maxHeartbeats 2000000 in
theorem catch_idle (p2 p3 p4 : Nat) (w : World) :
    CallsD Tryz.prog 14 #[.pointer (some ⟨p2, 0, none⟩), .pointer (some ⟨p3, 0, none⟩), .pointer (some ⟨p4, 0, none⟩)] .returning w fun e u' w' =>
      e = .returned (.tuple #[]) ∧ u' = .returning ∧ w'.os = w.os ∧ w'.tape = w.tape ∧ w'.output = w.output ∧ w.heap.size ≤ w'.heap.size ∧ ∀ k, k < w.heap.size → w'.heap[k]? = w.heap[k]? := by
  have hta : ∀ (w : World), (Instr.typeAssert .nilIface 20 39 true).run Tryz.prog w = .ok (.tuple #[.agg #[.int .i64 0, .int .i64 0], .bool false]) w := by intros; kernel_rfl
  refine callsD_of_wpS Tryz.func14 rfl fun c₀ cs hu => ?_
  apply wpS_seq
  apply wpS_region
  simp [wpOpsS, go_sem, recoverD, hu, hta, Tryz.ntmps14, Exit.thenS]
  apply wpS_seq
  apply wpS_region
  simp [wpOpsS, go_sem, Exit.thenS]
  refine wpS_cond (t := false) (by simp [Act.eval, Array.replicate]) ?_
  simp only [Bool.false_eq_true, if_false]
  refine wpS_of_wp (wp_skip ?_)
  refine ⟨rfl, .returning, ?_, _, results_none rfl _ _ _, rfl, rfl, rfl, rfl, rfl, by simp, fun k hk => Below.heap_alloc _ _ _ hk⟩
  cases c₀
  simp_all
noncomputable def E.ruleD (s : ByteArray) : E.ty25.D := E.ruleT (E.rRule s)
theorem lex_vals {W : World} {F : Nat → Prop} {v : Value} {l : E.Toks} {a e : Int} (h : E.RepT W F [] v (.tu [.c (.fz E.ty78 l), .c (.i .i64 a), .c (.i .i64 e)])) : ∃ vl, v = .tuple #[vl, .int .i64 a, .int .i64 e] ∧ E.DRep W F (.sl E.ty78) l [vl] := by
  obtain ⟨vs, rfl, h⟩ := h
  obtain ⟨cl, hcl⟩ : ∃ cl, vs.toList = cl := ⟨_, rfl⟩
  rw [hcl] at h
  match cl, h with
  | [v1, v2, v3], ⟨h1, h2, h3, _⟩ =>
    refine ⟨v1, ?_, h1⟩
    have e2 : v2 = .int .i64 a := h2
    have e3 : v3 = .int .i64 e := h3
    subst e2 e3
    congr 1
    rw [← Array.toList_inj, hcl]
theorem rule_results {W : World} {tmps : Array Value} {p2 p3 p4 : Nat} {c0 c1 c2 c3 c4 c5 c6 x y : Value} (t2 : tmps.getD 2 undef = .pointer (some ⟨p2, 0, none⟩)) (t3 : tmps.getD 3 undef = .pointer (some ⟨p3, 0, none⟩)) (t4 : tmps.getD 4 undef = .pointer (some ⟨p4, 0, none⟩))
    (h2 : W.heap[p2]? = some (.cells #[c0, c1, c2, c3, c4, c5, c6] 25 (0, 0))) (h3 : Boxed W p3 3 x) (h4 : Boxed W p4 26 y) : (results Tryz.f6 tmps).run Tryz.prog W = .ok (.tuple #[.agg #[c0, c1, c2, c3, c4, c5, c6], x, y]) W := by
  have k0 : W.cell? ⟨p2, 0, none⟩ = some c0 := by simp [World.cell?, h2]
  have k1 : W.cell? ⟨p2, 1, none⟩ = some c1 := by simp [World.cell?, h2]
  have k2 : W.cell? ⟨p2, 2, none⟩ = some c2 := by simp [World.cell?, h2]
  have k3 : W.cell? ⟨p2, 3, none⟩ = some c3 := by simp [World.cell?, h2]
  have k4 : W.cell? ⟨p2, 4, none⟩ = some c4 := by simp [World.cell?, h2]
  have k5 : W.cell? ⟨p2, 5, none⟩ = some c5 := by simp [World.cell?, h2]
  have k6 : W.cell? ⟨p2, 6, none⟩ = some c6 := by simp [World.cell?, h2]
  have hr : Tryz.f6.results = #[.cell 2 25, .cell 3 3, .cell 4 26] := rfl
  have q3 := h3.cell
  have q4 := h4.cell
  simp only [results, hr, Array.getD_eq_getD_getElem?] at *
  simp [go_sem, t2, t3, t4, k0, k1, k2, k3, k4, k5, k6, q3, q4]
def RuleEnd (s : ByteArray) (w : World) : Ending → World → Prop := fun e w' => ∃ v, e = .returned v ∧ E.RepT w' (fun b => (w.heap.size ≤ b ∨ b ∈ E.layG) ∧ b < w'.heap.size) [] v (.tu [E.encA E.ty25 (E.ruleD s), .c (.i .i64 (E.rRule s).2.2.2.2.2.1), .c (.i .i64 (E.rRule s).2.2.2.2.2.2.1)]) ∧ Below w.heap.size w w'
theorem rule_end {s : ByteArray} {w W : World} {tmps : Array Value} {p2 p3 p4 : Nat} {c0 c1 c2 c3 c4 c5 c6 : Value} {x y : Int} (t2 : tmps.getD 2 undef = .pointer (some ⟨p2, 0, none⟩)) (t3 : tmps.getD 3 undef = .pointer (some ⟨p3, 0, none⟩)) (t4 : tmps.getD 4 undef = .pointer (some ⟨p4, 0, none⟩))
    (h2 : W.heap[p2]? = some (.cells #[c0, c1, c2, c3, c4, c5, c6] 25 (0, 0))) (h3 : Boxed W p3 3 (.int .i64 x)) (h4 : Boxed W p4 26 (.int .i64 y)) (hB : Below w.heap.size w W)
    (hr : E.RepT W (fun b => (w.heap.size ≤ b ∨ b ∈ E.layG) ∧ b < W.heap.size) [] (.agg #[c0, c1, c2, c3, c4, c5, c6]) (.a (E.encA E.ty25 (E.ruleD s)))) (hx : x = (E.rRule s).2.2.2.2.2.1) (hy : y = (E.rRule s).2.2.2.2.2.2.1) :
    Leaves Tryz.prog Tryz.f6 tmps (RuleEnd s w) [] .returning W :=
  ⟨_, rule_results t2 t3 t4 h2 h3 h4, _, rfl, ⟨_, rfl, hr, by rw [← hx]; rfl, by rw [← hy]; rfl, trivial⟩, hB⟩
theorem rule_vals {W : World} {F : Nat → Prop} {hv : List Value} {v : Value} {r : E.ty25.D} (h : E.RepT W F hv v (.a (E.encA E.ty25 r))) : ∃ a2 n2 k2 a6 n6 k6, v = .agg #[.int .i64 r.1, .string r.2.1, .slice a2 n2 k2, .int .i64 r.2.2.2.1, .string r.2.2.2.2.1, .int .i64 r.2.2.2.2.2.1, .slice a6 n6 k6] ∧
    E.DRep W F (.sl .str) r.2.2.1 [.slice a2 n2 k2] ∧ E.DRep W F (.sl E.ty51) r.2.2.2.2.2.2.1 [.slice a6 n6 k6] := by
  obtain ⟨cs, rfl, h⟩ := h
  obtain ⟨cl, hcl⟩ : ∃ cl, cs.toList = cl := ⟨_, rfl⟩
  rw [hcl] at h
  match cl, h with
  | [v0, v1, v2, v3, v4, v5, v6], ⟨h0, h1, h2, h3, h4, h5, h6, _⟩ =>
    obtain ⟨a2, k2, e2, _⟩ := id (show E.DRep W F (.sl .str) r.2.2.1 [v2] from h2)
    obtain ⟨a6, k6, e6, _⟩ := id (show E.DRep W F (.sl E.ty51) r.2.2.2.2.2.2.1 [v6] from h6)
    injection e2 with e2
    injection e6 with e6
    subst e2 e6
    refine ⟨a2, _, k2, a6, _, k6, ?_, h2, h6⟩
    have g0 : v0 = .int .i64 r.1 := h0
    have g1 : v1 = .string r.2.1 := h1
    have g3 : v3 = .int .i64 r.2.2.2.1 := h3
    have g4 : v4 = .string r.2.2.2.2.1 := h4
    have g5 : v5 = .int .i64 r.2.2.2.2.2.1 := h5
    subst g0 g1 g3 g4 g5
    congr 1
    rw [← Array.toList_inj, hcl]
theorem ruleG (n : Nat) (l : E.Toks) (k : E.T → List E.Blk → Option E.Fate) : E.zCC_g n [.c (.pt 0 0)] [.box true 43 [.fz E.ty78 l, .i .i64 0]] k = E.zCC_F n l 0 (fun y0 y1 y2 => k (.a (E.encA E.ty25 y0)) [.box true 43 [.fz E.ty78 y1, .i .i64 y2]]) := rfl
theorem ruleR (l : E.Toks) (ho : E.TOk l) (h0 : 0 < l.length) : ∃ p : Nat, E.zCC_g 3000 [.c (.pt 0 0)] [.box true 43 [.fz E.ty78 l, .i .i64 0]] (fun x HN => some (E.Fate.ok x HN)) =
    some (if (E.rTok l).2.2.2.2.2.2.1 = 0 then E.Fate.ok (.a (E.encA E.ty25 (E.ruleT (E.rTok l)))) [.box true 43 [.fz E.ty78 l, .i .i64 (p : Int)]] else E.Fate.pan (wrongV (E.rTok l).2.2.2.2.2.2.1 (E.rTok l).2.2.2.2.2.1)) := by
  obtain ⟨n, hn, hn2⟩ : ∃ n : Nat, 500 < n ∧ n = 3000 := ⟨3000, by omega, rfl⟩
  rw [← hn2]
  obtain ⟨p, hp⟩ := E.ruleP_F (R := E.Fate) n l ho h0 hn (fun y0 y1 y2 => some (E.Fate.ok (.a (E.encA E.ty25 y0)) [.box true 43 [.fz E.ty78 y1, .i .i64 y2]]))
  refine ⟨p, (ruleG n l _).trans (hp.trans ?_)⟩
  split <;> rfl
theorem tok_bad {l : E.Toks} (h : (E.rTok l).2.2.2.2.2.2.1 ≠ 0) : E.rTok l = E.rErr (E.rTok l).2.2.2.2.2.1 (E.rTok l).2.2.2.2.2.2.1 := by
  unfold E.rTok E.rRest E.rEnd at h ⊢
  split at h
  · rename_i hc
    rw [if_pos hc]
    rfl
  · exact absurd rfl h
theorem tok_good {l : E.Toks} (h : (E.rTok l).2.2.2.2.2.2.1 = 0) : (E.rTok l).2.2.2.2.2.1 = 0 := by
  unfold E.rTok E.rRest E.rEnd at h ⊢
  split at h
  · rename_i hc
    exact absurd h hc
  · rename_i hc
    rw [if_neg hc]
theorem rule0_rep (W : World) (F : Nat → Prop) : E.RepT W F [] (.agg #[.int .i64 0, .string ⟨#[]⟩, .slice none 0 0, .int .i64 0, .string ⟨#[]⟩, .int .i64 0, .slice none 0 0]) (.a (E.encA E.ty25 ((0 : Int), (⟨#[]⟩ : ByteArray), ([] : List ByteArray), (0 : Int), (⟨#[]⟩ : ByteArray), (0 : Int), ([] : List E.ty51.D), ()))) :=
  ⟨_, rfl, rfl, rfl, ⟨none, 0, rfl, ⟨Nat.le_refl _, fun _ => rfl⟩, fun i hi => by simp at hi⟩, rfl, rfl, rfl, ⟨none, 0, rfl, ⟨Nat.le_refl _, fun _ => rfl⟩, fun i hi => by simp at hi⟩, trivial⟩
set_option maxRecDepth 100000 in
set_option maxHeartbeats 4000000 in
theorem E.rule_back (s : ByteArray) (w : World) (hc : E.LayC w) (hl : ∀ g ∈ E.layG, g < w.heap.size) (_ : True) : E.Back Tryz.prog 6 #[E.valD .str s] w (.tu [E.encA E.ty25 (E.ruleD s), .c (.i .i64 (E.rRule s).2.2.2.2.2.1), .c (.i .i64 (E.rRule s).2.2.2.2.2.2.1)]) := by
  have hmf : ∀ (fn : Fn) (first cap : Array Value) (w : World), (Instr.makeFunc fn first cap).run Tryz.prog w = .ok (.func fn first cap) w := fun _ _ _ _ => rfl
  show Calls _ _ #[.string s] w (RuleEnd s w)
  go_enter_defers Tryz.func6, Tryz.ntmps6
  go_wp2_with fail
  obtain ⟨W0, hW0⟩ : ∃ W0, ((w.alloc (.cells #[.int .i64 0, .string ⟨#[]⟩, .slice none 0 0, .int .i64 0, .string ⟨#[]⟩, .int .i64 0, .slice none 0 0] 25)).alloc (.cells #[.int .i64 0] 3)).alloc (.cells #[.int .i64 0] 26) = W0 := ⟨_, rfl⟩
  have S0 : W0.heap.size = w.heap.size + 3 := by rw [← hW0]; simp
  have B0 : Below w.heap.size w W0 := by
    rw [← hW0]
    exact (((Below.refl _ w).alloc (Nat.le_refl _) _).alloc (by simp) _).alloc (by simp; omega) _
  have a2 : W0.heap[w.heap.size]? = some (.cells #[.int .i64 0, .string ⟨#[]⟩, .slice none 0 0, .int .i64 0, .string ⟨#[]⟩, .int .i64 0, .slice none 0 0] 25 (0, 0)) := by
    rw [← hW0]
    exact (Below.heap_alloc _ _ _ (by simp; omega)).trans ((Below.heap_alloc _ _ _ (by simp)).trans (World.alloc_heap_new w _))
  have a3 : Boxed W0 (w.heap.size + 1) 3 (.int .i64 0) := by
    rw [← hW0]
    have := Boxed.new (w.alloc (.cells #[.int .i64 0, .string ⟨#[]⟩, .slice none 0 0, .int .i64 0, .string ⟨#[]⟩, .int .i64 0, .slice none 0 0] 25)) 3 (.int .i64 0)
    rw [World.size_alloc] at this
    exact this.alloc _
  have a4 : Boxed W0 (w.heap.size + 1 + 1) 26 (.int .i64 0) := by
    rw [← hW0]
    have := Boxed.new ((w.alloc (.cells #[.int .i64 0, .string ⟨#[]⟩, .slice none 0 0, .int .i64 0, .string ⟨#[]⟩, .int .i64 0, .slice none 0 0] 25)).alloc (.cells #[.int .i64 0] 3)) 26 (.int .i64 0)
    rw [World.size_alloc, World.size_alloc] at this
    exact this
  rw [hW0]
  clear hW0
  have hc0 : E.LayC W0 := E.LayC.same (fun g hg => B0.block g (hl g hg)) hc
  have hl0 : ∀ g ∈ E.layG, g < W0.heap.size := fun g hg => by have := hl g hg; omega
  refine (E.lex_back s W0 hc0 hl0 trivial).mono ?_
  rintro e W1 ⟨v, rfl, hv, B1⟩
  obtain ⟨vl, rfl, hd⟩ := lex_vals hv
  obtain ⟨ad, cap, hvl, hle, hrows⟩ := id hd
  injection hvl with hvl
  subst hvl
  have S1 := B1.size
  have b2 : W1.heap[w.heap.size]? = some (.cells #[.int .i64 0, .string ⟨#[]⟩, .slice none 0 0, .int .i64 0, .string ⟨#[]⟩, .int .i64 0, .slice none 0 0] 25 (0, 0)) := (B1.block _ (by omega)).trans a2
  have b3 : Boxed W1 (w.heap.size + 1) 3 (.int .i64 0) := (B1.block _ (by omega)).trans a3
  have b4 : Boxed W1 (w.heap.size + 1 + 1) 26 (.int .i64 0) := (B1.block _ (by omega)).trans a4
  have b3c := b3.cell
  have b3f := b3.frozen
  have b4c := b4.cell
  have b4f := b4.frozen
  by_cases he : (E.lexS s).2.1 = 0
  · rw [he]
    obtain ⟨hto, hlen⟩ := E.lexS_tok s he
    have hrr : E.rRule s = E.rTok (E.lexS s).2.2 := by unfold E.rRule; rw [if_neg (fun g => g he)]
    generalize (E.lexS s).2.2 = toks at hd hle hrows hto hlen hrr ⊢
    generalize (E.lexS s).1 = pl at hv ⊢
    go_wp2_with fail
    obtain ⟨V1, hV1⟩ : ∃ V, W1.setCell ⟨w.heap.size + 1, 0, none⟩ (.int .i64 pl) = V := ⟨_, rfl⟩
    rw [hV1]
    have o1 := one_set hV1 b3
    obtain ⟨V2, hV2⟩ : ∃ V, V1.setCell ⟨w.heap.size + 1 + 1, 0, none⟩ (.int .i64 0) = V := ⟨_, rfl⟩
    rw [hV2]
    have n23 : ¬ w.heap.size = w.heap.size + 1 := by omega
    have n24 : ¬ w.heap.size = w.heap.size + 1 + 1 := by omega
    have n34 : ¬ w.heap.size + 1 = w.heap.size + 1 + 1 := by omega
    have n32 : ¬ w.heap.size + 1 = w.heap.size := by omega
    have n42 : ¬ w.heap.size + 1 + 1 = w.heap.size := by omega
    have n43 : ¬ w.heap.size + 1 + 1 = w.heap.size + 1 := by omega
    have o2 := one_set hV2 ((o1.old _ n43).trans b4)
    clear hV1 hV2
    have hsz2 : V2.heap.size = W1.heap.size := by rw [o2.size, o1.size]
    obtain ⟨W3, hW3⟩ : ∃ W3, V2.alloc (.cells #[.slice ad toks.length cap, .int .i64 0] 43) = W3 := ⟨_, rfl⟩
    rw [hW3]
    have S3 : W3.heap.size = W1.heap.size + 1 := by rw [← hW3]; simp [hsz2]
    have O3 : ∀ k, k < W1.heap.size → k ≠ w.heap.size + 1 → k ≠ w.heap.size + 1 + 1 → W3.heap[k]? = W1.heap[k]? := fun k hk k3 k4 => by
      rw [← hW3, Below.heap_alloc _ _ _ (by omega), o2.old k k4, o1.old k k3]
    have M3 : W3.os = w.os ∧ W3.tape = w.tape ∧ W3.output = w.output := by
      rw [← hW3]
      exact ⟨(o2.os.trans o1.os).trans (B1.os.trans B0.os), (o2.tape.trans o1.tape).trans (B1.tape.trans B0.tape), (o2.output.trans o1.output).trans (B1.output.trans B0.output)⟩
    have r5 : W3.heap[W1.heap.size]? = some (.cells #[.slice ad toks.length cap, .int .i64 0] 43 (0, 0)) := by
      have := World.alloc_heap_new V2 (.cells #[.slice ad toks.length cap, .int .i64 0] 43)
      rw [hsz2] at this
      rw [← hW3]
      exact this
    have d2 : W3.heap[w.heap.size]? = some (.cells #[.int .i64 0, .string ⟨#[]⟩, .slice none 0 0, .int .i64 0, .string ⟨#[]⟩, .int .i64 0, .slice none 0 0] 25 (0, 0)) := (O3 _ (by omega) n23 n24).trans b2
    have d3 : Boxed W3 (w.heap.size + 1) 3 (.int .i64 pl) := by
      show W3.heap[_]? = _
      rw [← hW3, Below.heap_alloc _ _ _ (by omega)]
      exact (o2.old _ n34).trans o1.row
    have d4 : Boxed W3 (w.heap.size + 1 + 1) 26 (.int .i64 0) := by
      show W3.heap[_]? = _
      rw [← hW3, Below.heap_alloc _ _ _ (by omega)]
      exact o2.row
    clear hW3
    have hF : ∀ k, ((W0.heap.size ≤ k ∨ k ∈ E.layG) ∧ k < W1.heap.size) → k < W1.heap.size ∧ k ≠ w.heap.size ∧ k ≠ w.heap.size + 1 ∧ k ≠ w.heap.size + 1 + 1 := fun k hk => by
      rcases hk.1 with h | h
      · exact ⟨hk.2, by omega, by omega, by omega⟩
      · have := hl k h; exact ⟨hk.2, by omega, by omega, by omega⟩
    have hold : E.Holds1 W3 (fun k => (W0.heap.size ≤ k ∨ k ∈ E.layG) ∧ k < W1.heap.size) W1.heap.size 43 [.fz E.ty78 toks, .i .i64 0] :=
      ⟨⟨_, r5, E.DRep.mono (t := .sl E.ty78) (fun _ h => h) (fun k hk => O3 k (hF k hk).1 (hF k hk).2.2.1 (hF k hk).2.2.2) hd, rfl, trivial⟩⟩
    have hlay3 : E.LayC W3 := E.LayC.same (fun g hg => by have := hl g hg; exact (O3 g (by omega) (by omega) (by omega)).trans ((B1.block g (by omega)).trans (B0.block g (by omega)))) hc
    obtain ⟨p, hp⟩ := ruleR toks hto hlen
    refine (E.Good.callsP (E.zCC_ok 3000) Tryz.func15 (by kernel_rfl) rfl hold (fun k hk => by have := hk.2; omega) (fun h => Nat.lt_irrefl _ h.2) hlay3 (fun g hg => ⟨.inr hg, by have := hl g hg; omega⟩) (args := [.c (.pt 0 0)]) (vs := [.pointer (some ⟨W1.heap.size, 0, none⟩)]) ⟨⟨_, rfl, rfl⟩, trivial⟩ hp).mono ?_
    rintro e W4 (⟨x, HN, v, F', hvN, hr, rfl, iN, hx⟩ | ⟨pv, hr, rfl, hfr⟩)
    · by_cases hwhy : (E.rTok toks).2.2.2.2.2.2.1 = 0
      · rw [if_pos hwhy] at hr
        injection hr with hr1 hr2
        subst hr1 hr2
        obtain ⟨a2, m2, k2, a6, m6, k6, rfl, hd2, hd6⟩ := rule_vals hx
        have O4 : ∀ k, k < W3.heap.size → k ≠ W1.heap.size → W4.heap[k]? = W3.heap[k]? := fun k hk hne => iN.old k hk (fun hu => hne (E.only1 hu))
        have S4 := iN.size
        have g2 : W4.heap[w.heap.size]? = some (.cells #[.int .i64 0, .string ⟨#[]⟩, .slice none 0 0, .int .i64 0, .string ⟨#[]⟩, .int .i64 0, .slice none 0 0] 25 (0, 0)) := (O4 _ (by omega) (by omega)).trans d2
        have g3 : Boxed W4 (w.heap.size + 1) 3 (.int .i64 pl) := (O4 _ (by omega) (by omega)).trans d3
        have g4 : Boxed W4 (w.heap.size + 1 + 1) 26 (.int .i64 0) := (O4 _ (by omega) (by omega)).trans d4
        have g3c := g3.cell
        have g3f := g3.frozen
        have g4c := g4.cell
        have g4f := g4.frozen
        have hz0 : W4.cell? ⟨w.heap.size, 0, none⟩ = some (.int .i64 0) := by simp [World.cell?, g2]
        have hy0 : W4.frozen? ⟨w.heap.size, 0, none⟩ = false := by simp [World.frozen?, g2]
        have hz1 : W4.cell? ⟨w.heap.size, 1, none⟩ = some (.string ⟨#[]⟩) := by simp [World.cell?, g2]
        have hy1 : W4.frozen? ⟨w.heap.size, 1, none⟩ = false := by simp [World.frozen?, g2]
        have hz2 : W4.cell? ⟨w.heap.size, 2, none⟩ = some (.slice none 0 0) := by simp [World.cell?, g2]
        have hy2 : W4.frozen? ⟨w.heap.size, 2, none⟩ = false := by simp [World.frozen?, g2]
        have hz3 : W4.cell? ⟨w.heap.size, 3, none⟩ = some (.int .i64 0) := by simp [World.cell?, g2]
        have hy3 : W4.frozen? ⟨w.heap.size, 3, none⟩ = false := by simp [World.frozen?, g2]
        have hz4 : W4.cell? ⟨w.heap.size, 4, none⟩ = some (.string ⟨#[]⟩) := by simp [World.cell?, g2]
        have hy4 : W4.frozen? ⟨w.heap.size, 4, none⟩ = false := by simp [World.frozen?, g2]
        have hz5 : W4.cell? ⟨w.heap.size, 5, none⟩ = some (.int .i64 0) := by simp [World.cell?, g2]
        have hy5 : W4.frozen? ⟨w.heap.size, 5, none⟩ = false := by simp [World.frozen?, g2]
        have hz6 : W4.cell? ⟨w.heap.size, 6, none⟩ = some (.slice none 0 0) := by simp [World.cell?, g2]
        have hy6 : W4.frozen? ⟨w.heap.size, 6, none⟩ = false := by simp [World.frozen?, g2]
        go_wp2
        obtain ⟨X0, hX0⟩ : ∃ V, W4.setCell ⟨w.heap.size, 0, none⟩ (.int .i64 (E.ruleT (E.rTok toks)).1) = V := ⟨_, rfl⟩
        rw [hX0]
        have x0 := one_set hX0 g2
        clear hX0
        obtain ⟨X1, hX1⟩ : ∃ V, X0.setCell ⟨w.heap.size, 1, none⟩ (.string (E.ruleT (E.rTok toks)).2.1) = V := ⟨_, rfl⟩
        rw [hX1]
        have x1 := x0.trans (one_set hX1 x0.row)
        clear hX1
        obtain ⟨X2, hX2⟩ : ∃ V, X1.setCell ⟨w.heap.size, 2, none⟩ (.slice a2 m2 k2) = V := ⟨_, rfl⟩
        rw [hX2]
        have x2 := x1.trans (one_set hX2 x1.row)
        clear hX2
        obtain ⟨X3, hX3⟩ : ∃ V, X2.setCell ⟨w.heap.size, 3, none⟩ (.int .i64 (E.ruleT (E.rTok toks)).2.2.2.1) = V := ⟨_, rfl⟩
        rw [hX3]
        have x3 := x2.trans (one_set hX3 x2.row)
        clear hX3
        obtain ⟨X4, hX4⟩ : ∃ V, X3.setCell ⟨w.heap.size, 4, none⟩ (.string (E.ruleT (E.rTok toks)).2.2.2.2.1) = V := ⟨_, rfl⟩
        rw [hX4]
        have x4 := x3.trans (one_set hX4 x3.row)
        clear hX4
        obtain ⟨X5, hX5⟩ : ∃ V, X4.setCell ⟨w.heap.size, 5, none⟩ (.int .i64 (E.ruleT (E.rTok toks)).2.2.2.2.2.1) = V := ⟨_, rfl⟩
        rw [hX5]
        have x5 := x4.trans (one_set hX5 x4.row)
        clear hX5
        obtain ⟨X6, hX6⟩ : ∃ V, X5.setCell ⟨w.heap.size, 6, none⟩ (.slice a6 m6 k6) = V := ⟨_, rfl⟩
        rw [hX6]
        have x6 := x5.trans (one_set hX6 x5.row)
        clear hX6
        obtain ⟨X7, hX7⟩ : ∃ V, X6.setCell ⟨w.heap.size + 1, 0, none⟩ (.int .i64 0) = V := ⟨_, rfl⟩
        rw [hX7]
        have x7 := one_set hX7 ((x6.old _ n32).trans g3)
        clear hX7
        obtain ⟨X8, hX8⟩ : ∃ V, X7.setCell ⟨w.heap.size + 1 + 1, 0, none⟩ (.int .i64 0) = V := ⟨_, rfl⟩
        rw [hX8]
        have x8 := one_set hX8 ((x7.old _ n43).trans ((x6.old _ n42).trans g4))
        clear hX8
        have e2 : X8.heap[w.heap.size]? = some (.cells #[.int .i64 (E.ruleT (E.rTok toks)).1, .string (E.ruleT (E.rTok toks)).2.1, .slice a2 m2 k2, .int .i64 (E.ruleT (E.rTok toks)).2.2.2.1, .string (E.ruleT (E.rTok toks)).2.2.2.2.1, .int .i64 (E.ruleT (E.rTok toks)).2.2.2.2.2.1, .slice a6 m6 k6] 25 (0, 0)) := (x8.old _ n24).trans ((x7.old _ n23).trans x6.row)
        have e3 : X8.heap[w.heap.size + 1]? = some (.cells #[.int .i64 0] 3 (0, 0)) := (x8.old _ n34).trans x7.row
        have e4 : X8.heap[w.heap.size + 1 + 1]? = some (.cells #[.int .i64 0] 26 (0, 0)) := x8.row
        have hsz : X8.heap.size = W4.heap.size := by rw [x8.size, x7.size, x6.size]
        have eX : ∀ k, k ≠ w.heap.size → k ≠ w.heap.size + 1 → k ≠ w.heap.size + 1 + 1 → X8.heap[k]? = W4.heap[k]? := fun k k2 k3 k4 => by rw [x8.old k k4, x7.old k k3, x6.old k k2]
        have eM : X8.os = w.os ∧ X8.tape = w.tape ∧ X8.output = w.output := ⟨(x8.os.trans (x7.os.trans x6.os)).trans (iN.os.trans M3.1), (x8.tape.trans (x7.tape.trans x6.tape)).trans (iN.tape.trans M3.2.1), (x8.output.trans (x7.output.trans x6.output)).trans (iN.output.trans M3.2.2)⟩
        refine leaves_cons (f := 14) (args := #[.pointer (some ⟨w.heap.size, 0, none⟩), .pointer (some ⟨w.heap.size + 1, 0, none⟩), .pointer (some ⟨w.heap.size + 1 + 1, 0, none⟩)]) (by simp) (by simp [go_sem]) ?_
        refine (catch_idle w.heap.size (w.heap.size + 1) (w.heap.size + 1 + 1) X8).mono ?_
        rintro e u' W5 ⟨rfl, rfl, i1, i2, i3, i4, i5⟩
        show Leaves _ _ _ (RuleEnd s w) [] .returning _
        have eB : Below w.heap.size w W5 := ⟨i1.trans eM.1, i2.trans eM.2.1, i3.trans eM.2.2, by omega, fun k hk => by
          rw [i5 k (by omega), eX k (by omega) (by omega) (by omega), O4 k (by omega) (by omega), O3 k (by omega) (by omega) (by omega), B1.block k (by omega), B0.block k hk]⟩
        refine rule_end rfl rfl rfl ((i5 _ (by omega)).trans e2) ((i5 _ (by omega)).trans e3) ((i5 _ (by omega)).trans e4) eB ?_ (by rw [hrr]; exact (tok_good hwhy).symm) (by rw [hrr]; exact hwhy.symm)
        have hD : E.ruleD s = E.ruleT (E.rTok toks) := by unfold E.ruleD; rw [hrr]
        rw [hD]
        have hfr : ∀ k, F' k → (w.heap.size ≤ k ∨ k ∈ E.layG) ∧ k ≠ w.heap.size ∧ k ≠ w.heap.size + 1 ∧ k ≠ w.heap.size + 1 + 1 := fun k hk => by
          rcases iN.f1 k hk with h | h | h
          · have h' : (W0.heap.size ≤ k ∨ k ∈ E.layG) ∧ k < W1.heap.size := h
            have := hF k h'
            exact ⟨h'.1.imp (fun h => by omega) id, this.2⟩
          · exact ⟨.inl (by omega), by omega, by omega, by omega⟩
          · have := E.only1 h
            exact ⟨.inl (by omega), by omega, by omega, by omega⟩
        have up : ∀ {t : E.Ty} {x : t.D} {cs : List Value}, E.DRep W4 F' t x cs → E.DRep W5 (fun b => (w.heap.size ≤ b ∨ b ∈ E.layG) ∧ b < W5.heap.size) t x cs := fun h =>
          E.DRep.mono (fun k hk => ⟨(hfr k hk).1, by have := iN.fb k hk; omega⟩) (fun k hk => by have h1 := hfr k hk; have := iN.fb k hk; rw [i5 k (by omega), eX k h1.2.1 h1.2.2.1 h1.2.2.2]) h
        exact ⟨_, rfl, rfl, rfl, up hd2, rfl, rfl, rfl, up hd6, trivial⟩
      · rw [if_neg hwhy] at hr
        cases hr
    · by_cases hwhy : (E.rTok toks).2.2.2.2.2.2.1 = 0
      · rw [if_pos hwhy] at hr
        cases hr
      · rw [if_neg hwhy] at hr
        injection hr with hr1
        subst hr1
        have O4 : ∀ k, k < W3.heap.size → k ≠ W1.heap.size → W4.heap[k]? = W3.heap[k]? := fun k hk hne => hfr.old k hk (fun hu => hne (E.only1 hu))
        have S4 := hfr.size
        have g2 : W4.heap[w.heap.size]? = some (.cells #[.int .i64 0, .string ⟨#[]⟩, .slice none 0 0, .int .i64 0, .string ⟨#[]⟩, .int .i64 0, .slice none 0 0] 25 (0, 0)) := (O4 _ (by omega) (by omega)).trans d2
        have g3 : Boxed W4 (w.heap.size + 1) 3 (.int .i64 pl) := (O4 _ (by omega) (by omega)).trans d3
        have g4 : Boxed W4 (w.heap.size + 1 + 1) 26 (.int .i64 0) := (O4 _ (by omega) (by omega)).trans d4
        refine leaves_cons (f := 14) (args := #[.pointer (some ⟨w.heap.size, 0, none⟩), .pointer (some ⟨w.heap.size + 1, 0, none⟩), .pointer (some ⟨w.heap.size + 1 + 1, 0, none⟩)]) (by simp) (by simp [go_sem]) ?_
        refine (catch_panic w.heap.size (w.heap.size + 1) (w.heap.size + 1 + 1) 0 ⟨#[]⟩ .nilIface 0 ⟨#[]⟩ 0 .nilIface pl 0 (E.rTok toks).2.2.2.2.2.2.1 (E.rTok toks).2.2.2.2.2.1 W4 g2 g3 g4 n23 n24 n34).mono ?_
        rintro e u' W5 ⟨rfl, rfl, e2, e3, e4, eb⟩
        show Leaves _ _ _ (RuleEnd s w) [] .returning _
        have hbad := tok_bad hwhy
        have eB : Below w.heap.size w W5 := ⟨eb.os.trans (hfr.os.trans M3.1), eb.tape.trans (hfr.tape.trans M3.2.1), eb.output.trans (hfr.output.trans M3.2.2), by have := eb.size; omega, fun k hk => by
          rw [eb.old k (by omega) (by omega) (by omega) (by omega), O4 k (by omega) (by omega), O3 k (by omega) (by omega) (by omega), B1.block k (by omega), B0.block k hk]⟩
        refine rule_end rfl rfl rfl e2 e3 e4 eB ?_ (by rw [hrr]) (by rw [hrr])
        have hz : E.ruleD s = ((0 : Int), (⟨#[]⟩ : ByteArray), ([] : List ByteArray), (0 : Int), (⟨#[]⟩ : ByteArray), (0 : Int), ([] : List E.ty51.D), ()) := by unfold E.ruleD; rw [hrr, hbad]; rfl
        rw [hz]
        exact rule0_rep _ _
  · have he' : ¬ (E.lexS s).2.1 = 0 := he
    have hrr : E.rRule s = E.rErr (E.lexS s).1 (E.lexS s).2.1 := by unfold E.rRule; rw [if_pos he]
    have gz0 : W1.cell? ⟨w.heap.size, 0, none⟩ = some (.int .i64 0) := by simp [World.cell?, b2]
    have gy0 : W1.frozen? ⟨w.heap.size, 0, none⟩ = false := by simp [World.frozen?, b2]
    have gz1 : W1.cell? ⟨w.heap.size, 1, none⟩ = some (.string ⟨#[]⟩) := by simp [World.cell?, b2]
    have gy1 : W1.frozen? ⟨w.heap.size, 1, none⟩ = false := by simp [World.frozen?, b2]
    have gz2 : W1.cell? ⟨w.heap.size, 2, none⟩ = some (.slice none 0 0) := by simp [World.cell?, b2]
    have gy2 : W1.frozen? ⟨w.heap.size, 2, none⟩ = false := by simp [World.frozen?, b2]
    have gz3 : W1.cell? ⟨w.heap.size, 3, none⟩ = some (.int .i64 0) := by simp [World.cell?, b2]
    have gy3 : W1.frozen? ⟨w.heap.size, 3, none⟩ = false := by simp [World.frozen?, b2]
    have gz4 : W1.cell? ⟨w.heap.size, 4, none⟩ = some (.string ⟨#[]⟩) := by simp [World.cell?, b2]
    have gy4 : W1.frozen? ⟨w.heap.size, 4, none⟩ = false := by simp [World.frozen?, b2]
    have gz5 : W1.cell? ⟨w.heap.size, 5, none⟩ = some (.int .i64 0) := by simp [World.cell?, b2]
    have gy5 : W1.frozen? ⟨w.heap.size, 5, none⟩ = false := by simp [World.frozen?, b2]
    have gz6 : W1.cell? ⟨w.heap.size, 6, none⟩ = some (.slice none 0 0) := by simp [World.cell?, b2]
    have gy6 : W1.frozen? ⟨w.heap.size, 6, none⟩ = false := by simp [World.frozen?, b2]
    generalize (E.lexS s).2.1 = er at he he' hrr ⊢
    generalize (E.lexS s).1 = pl at hrr ⊢
    go_wp2_with fail
    obtain ⟨V1, hV1⟩ : ∃ V, W1.setCell ⟨w.heap.size + 1, 0, none⟩ (.int .i64 pl) = V := ⟨_, rfl⟩
    rw [hV1]
    have o1 := one_set hV1 b3
    obtain ⟨V2, hV2⟩ : ∃ V, V1.setCell ⟨w.heap.size + 1 + 1, 0, none⟩ (.int .i64 er) = V := ⟨_, rfl⟩
    rw [hV2]
    have n23 : ¬ w.heap.size = w.heap.size + 1 := by omega
    have n24 : ¬ w.heap.size = w.heap.size + 1 + 1 := by omega
    have n34 : ¬ w.heap.size + 1 = w.heap.size + 1 + 1 := by omega
    have n32 : ¬ w.heap.size + 1 = w.heap.size := by omega
    have n42 : ¬ w.heap.size + 1 + 1 = w.heap.size := by omega
    have n43 : ¬ w.heap.size + 1 + 1 = w.heap.size + 1 := by omega
    have o2 := one_set hV2 ((o1.old _ n43).trans b4)
    clear hV1 hV2
    have c2 : V2.heap[w.heap.size]? = some (.cells #[.int .i64 0, .string ⟨#[]⟩, .slice none 0 0, .int .i64 0, .string ⟨#[]⟩, .int .i64 0, .slice none 0 0] 25 (0, 0)) := (o2.old _ n24).trans ((o1.old _ n23).trans b2)
    have c3 : Boxed V2 (w.heap.size + 1) 3 (.int .i64 pl) := (o2.old _ n34).trans o1.row
    have c4 : Boxed V2 (w.heap.size + 1 + 1) 26 (.int .i64 er) := o2.row
    have c3c := c3.cell
    have c3f := c3.frozen
    have c4c := c4.cell
    have c4f := c4.frozen
    have hz0 : V2.cell? ⟨w.heap.size, 0, none⟩ = some (.int .i64 0) := by simp [World.cell?, c2]
    have hy0 : V2.frozen? ⟨w.heap.size, 0, none⟩ = false := by simp [World.frozen?, c2]
    have hz1 : V2.cell? ⟨w.heap.size, 1, none⟩ = some (.string ⟨#[]⟩) := by simp [World.cell?, c2]
    have hy1 : V2.frozen? ⟨w.heap.size, 1, none⟩ = false := by simp [World.frozen?, c2]
    have hz2 : V2.cell? ⟨w.heap.size, 2, none⟩ = some (.slice none 0 0) := by simp [World.cell?, c2]
    have hy2 : V2.frozen? ⟨w.heap.size, 2, none⟩ = false := by simp [World.frozen?, c2]
    have hz3 : V2.cell? ⟨w.heap.size, 3, none⟩ = some (.int .i64 0) := by simp [World.cell?, c2]
    have hy3 : V2.frozen? ⟨w.heap.size, 3, none⟩ = false := by simp [World.frozen?, c2]
    have hz4 : V2.cell? ⟨w.heap.size, 4, none⟩ = some (.string ⟨#[]⟩) := by simp [World.cell?, c2]
    have hy4 : V2.frozen? ⟨w.heap.size, 4, none⟩ = false := by simp [World.frozen?, c2]
    have hz5 : V2.cell? ⟨w.heap.size, 5, none⟩ = some (.int .i64 0) := by simp [World.cell?, c2]
    have hy5 : V2.frozen? ⟨w.heap.size, 5, none⟩ = false := by simp [World.frozen?, c2]
    have hz6 : V2.cell? ⟨w.heap.size, 6, none⟩ = some (.slice none 0 0) := by simp [World.cell?, c2]
    have hy6 : V2.frozen? ⟨w.heap.size, 6, none⟩ = false := by simp [World.frozen?, c2]
    go_region
    go_wp2
    obtain ⟨X0, hX0⟩ : ∃ V, V2.setCell ⟨w.heap.size, 0, none⟩ (.int .i64 0) = V := ⟨_, rfl⟩
    rw [hX0]
    have x0 := one_set hX0 c2
    clear hX0
    obtain ⟨X1, hX1⟩ : ∃ V, X0.setCell ⟨w.heap.size, 1, none⟩ (.string ⟨#[]⟩) = V := ⟨_, rfl⟩
    rw [hX1]
    have x1 := x0.trans (one_set hX1 x0.row)
    clear hX1
    obtain ⟨X2, hX2⟩ : ∃ V, X1.setCell ⟨w.heap.size, 2, none⟩ (.slice none 0 0) = V := ⟨_, rfl⟩
    rw [hX2]
    have x2 := x1.trans (one_set hX2 x1.row)
    clear hX2
    obtain ⟨X3, hX3⟩ : ∃ V, X2.setCell ⟨w.heap.size, 3, none⟩ (.int .i64 0) = V := ⟨_, rfl⟩
    rw [hX3]
    have x3 := x2.trans (one_set hX3 x2.row)
    clear hX3
    obtain ⟨X4, hX4⟩ : ∃ V, X3.setCell ⟨w.heap.size, 4, none⟩ (.string ⟨#[]⟩) = V := ⟨_, rfl⟩
    rw [hX4]
    have x4 := x3.trans (one_set hX4 x3.row)
    clear hX4
    obtain ⟨X5, hX5⟩ : ∃ V, X4.setCell ⟨w.heap.size, 5, none⟩ (.int .i64 0) = V := ⟨_, rfl⟩
    rw [hX5]
    have x5 := x4.trans (one_set hX5 x4.row)
    clear hX5
    obtain ⟨X6, hX6⟩ : ∃ V, X5.setCell ⟨w.heap.size, 6, none⟩ (.slice none 0 0) = V := ⟨_, rfl⟩
    rw [hX6]
    have x6 := x5.trans (one_set hX6 x5.row)
    clear hX6
    obtain ⟨X7, hX7⟩ : ∃ V, X6.setCell ⟨w.heap.size + 1, 0, none⟩ (.int .i64 pl) = V := ⟨_, rfl⟩
    rw [hX7]
    have x7 := one_set hX7 ((x6.old _ n32).trans c3)
    clear hX7
    obtain ⟨X8, hX8⟩ : ∃ V, X7.setCell ⟨w.heap.size + 1 + 1, 0, none⟩ (.int .i64 er) = V := ⟨_, rfl⟩
    rw [hX8]
    have x8 := one_set hX8 ((x7.old _ n43).trans ((x6.old _ n42).trans c4))
    clear hX8
    have e2 : X8.heap[w.heap.size]? = some (.cells #[.int .i64 0, .string ⟨#[]⟩, .slice none 0 0, .int .i64 0, .string ⟨#[]⟩, .int .i64 0, .slice none 0 0] 25 (0, 0)) := (x8.old _ n24).trans ((x7.old _ n23).trans x6.row)
    have e3 : X8.heap[w.heap.size + 1]? = some (.cells #[.int .i64 pl] 3 (0, 0)) := (x8.old _ n34).trans x7.row
    have e4 : X8.heap[w.heap.size + 1 + 1]? = some (.cells #[.int .i64 er] 26 (0, 0)) := x8.row
    have hsz : X8.heap.size = W1.heap.size := by rw [x8.size, x7.size, x6.size, o2.size, o1.size]
    have eb : Below w.heap.size w X8.drew := ⟨(x8.os.trans (x7.os.trans (x6.os.trans (o2.os.trans o1.os)))).trans (B1.os.trans B0.os), (x8.tape.trans (x7.tape.trans (x6.tape.trans (o2.tape.trans o1.tape)))).trans (B1.tape.trans B0.tape), (x8.output.trans (x7.output.trans (x6.output.trans (o2.output.trans o1.output)))).trans (B1.output.trans B0.output),
      (by show w.heap.size ≤ X8.heap.size; rw [hsz]; omega), fun k hk => by
        show X8.heap[k]? = _
        rw [x8.old k (by omega), x7.old k (by omega), x6.old k (by omega), o2.old k (by omega), o1.old k (by omega), B1.block k (by omega), B0.block k hk]⟩
    show Leaves _ _ _ (RuleEnd s w) [] .returning _
    refine rule_end rfl rfl rfl e2 e3 e4 eb ?_ (by rw [hrr]; rfl) (by rw [hrr]; rfl)
    have hz : E.ruleD s = ((0 : Int), (⟨#[]⟩ : ByteArray), ([] : List ByteArray), (0 : Int), (⟨#[]⟩ : ByteArray), (0 : Int), ([] : List E.ty51.D), ()) := by unfold E.ruleD; rw [hrr]; rfl
    rw [hz]
    exact rule0_rep _ _
end Go.Proofs.YtnnbinmomendnaaGreatDoor
set_option maxRecDepth 100000
namespace Go.Proofs.YtnnbinmomendnaaGreatDoor.E
open Go.Proofs
noncomputable section
variable {R : Type}
@[reducible] def zDK_d : Desc := ⟨[(0, .d .str)], []⟩
def zDK_Fi (n : Nat) (a0 : ByteArray) (k0 : ty25.D → Int → Int → Option R) : Option R :=
  if True then (k0 (ruleD a0) ((rRule a0).2.2.2.2.2.1) ((rRule a0).2.2.2.2.2.2.1)) else none
def zDK_F {R : Type} := lazyN (@zDK_Fi R)
theorem zDK_e : @zDK_F R = @zDK_Fi R := lazyN_eq _
def zDK_g (n : Nat) : Gx R := typed 1 zDK_d fun x k => zDK_F n x.1 (fun y0 y1 y2 => k (.tu [(encA ty25 y0), (.c (.i .i64 y1)), (.c (.i .i64 y2))]) [])
theorem zDK_ok [Esc R] (n : Nat) : Good Tryz.prog 6 (zDK_g (R := R) n) := by
  unfold zDK_g
  rw [zDK_e]
  exact Good.hand1 Tryz.func6 (by kernel_rfl) rfl rfl rule_back (fun x k => rfl)
def zAD_ds : Nat → Desc
  | 4 => ⟨[(2, .pt 0 0), (3, .pt 1 0), (5, .d (.int .i64))], [.box false 51 [.d .bool, .d .str, .d (.sl ty48), .d (.int .i64)], .box false 51 [.d .bool, .d .str, .d (.sl ty48), .d (.int .i64)]]⟩
  | _ => ⟨[], []⟩
def zAD_dx : Nat → List (X × Desc)
  | 4 => [(.r, ⟨[(4, .d .bool)], []⟩), (.e 0, ⟨[], []⟩)]
  | _ => []
def zAD_s4 (n : Nat) (x0 : Int) (x1 : Bool) (x2 : ByteArray) (x3 : (List ty48.D)) (x4 : Int) (x5 : Bool) (x6 : ByteArray) (x7 : (List ty48.D)) (x8 : Int) (k1 : Int → Bool → ByteArray → (List ty48.D) → Int → Bool → ByteArray → (List ty48.D) → Int → Option R) (qr : Bool → Option R) (qe0 : Option R) : Option R :=
  if (decide (x0 < (x3.length : Int))) = true then (if (0 : Int) ≤ x0 ∧ x0 < (x3.length : Int) then (if (0 : Int) ≤ x0 ∧ x0 < (x7.length : Int) then (if (!((((x3.getD (Int.toNat x0) (Ty.z ty48)).1).toList == ((x7.getD (Int.toNat x0) (Ty.z ty48)).1).toList) && (((x3.getD (Int.toNat x0) (Ty.z ty48)).2.1 == (x7.getD (Int.toNat x0) (Ty.z ty48)).2.1) && (((((x3.getD (Int.toNat x0) (Ty.z ty48)).2.2.1).1 == ((x7.getD (Int.toNat x0) (Ty.z ty48)).2.2.1).1) && ((((x3.getD (Int.toNat x0) (Ty.z ty48)).2.2.1).2.1 == ((x7.getD (Int.toNat x0) (Ty.z ty48)).2.2.1).2.1) && ((((x3.getD (Int.toNat x0) (Ty.z ty48)).2.2.1).2.2.1 == ((x7.getD (Int.toNat x0) (Ty.z ty48)).2.2.1).2.2.1) && (((((x3.getD (Int.toNat x0) (Ty.z ty48)).2.2.1).2.2.2.1).toList == (((x7.getD (Int.toNat x0) (Ty.z ty48)).2.2.1).2.2.2.1).toList) && true)))) && true)))) = true then (qr false) else (k1 (IntKind.i64.wrap (x0 + 1)) x1 x2 x3 x4 x5 x6 x7 x8)) else none) else none) else qe0
def zAD_l4 (n : Nat) (a : (zAD_ds 4).D) (k1 : (zAD_ds 4).D → Option R) (k2 : exK R (zAD_dx 4)) : Option R :=
  zAD_s4 n a.1 a.2.1 a.2.2.1 a.2.2.2.1 a.2.2.2.2.1 a.2.2.2.2.2.1 a.2.2.2.2.2.2.1 a.2.2.2.2.2.2.2.1 a.2.2.2.2.2.2.2.2.1 (fun x0 x1 x2 x3 x4 x5 x6 x7 x8 => k1 (x0, x1, x2, x3, x4, x5, x6, x7, x8, ())) (fun x0 => k2.1 (x0, ())) (k2.2.1 (()))
@[reducible] def zAD_d : Desc := ⟨[(0, .d ty51), (1, .d ty51)], []⟩
def zAD_Fi (n : Nat) (a0 : ty51.D) (a1 : ty51.D) (k0 : Bool → Option R) : Option R :=
  if (!(a0.1 == a1.1)) = true then (k0 false) else (if (!(a0.2.1.toList == a1.2.1.toList)) = true then (k0 false) else (if (a0.2.2.2.1 != a1.2.2.2.1) = true then (k0 false) else (if ((a0.2.2.1.length : Int) != (a1.2.2.1.length : Int)) = true then (k0 false) else (runC (zAD_l4 n) n (0, a0.1, a0.2.1, a0.2.2.1, a0.2.2.2.1, a1.1, a1.2.1, a1.2.2.1, a1.2.2.2.1, ()) (fun b1 => k0 b1.1, fun b1 => k0 true, ())))))
def zAD_F {R : Type} := lazyN (@zAD_Fi R)
theorem zAD_e : @zAD_F R = @zAD_Fi R := lazyN_eq _
def zAD_g (n : Nat) : Gx R := typed 2 zAD_d fun x k => zAD_F n x.1 x.2.1 (fun y0 => k (.a (.c (.b y0))) [])
def zAD_cs (R : Type) (n : Nat) : List (Nat × Gx R) := []
def zAD_lp (n : Nat) : (i : Nat) → (zAD_ds i).D → exK R (zAD_dx i) → Option R
  | 4, a, k => runC (zAD_l4 n) n a k
  | _, _, _ => none
def zAD_cx (R : Type) (n : Nat) : Cx R := ⟨Tryz.prog, Gof (zAD_cs R n), zAD_ds, zAD_dx, zAD_lp n, drawP Tryz.prog (Gof (zAD_cs R n)), false, noJn, noFz⟩
theorem zAD_ok [Esc R] (n : Nat) : Good Tryz.prog 25 (zAD_g (R := R) n) := by
  unfold zAD_g
  rw [zAD_e]
  exact Good.fn (f := 25) (cx := zAD_cx R n) (by kernel_rfl) (AllGood.nil) rfl Tryz.func25 (by kernel_rfl) rfl (by
    have e : fnLoops noJn Tryz.f25 = [((fnLoops noJn Tryz.f25)[0]?).getD (false, .skip)] := by kernel_rfl
    show LoopRuns _ _ (fnLoops noJn _)
    rw [e]
    exact ⟨LoopRun.loop (by kernel_rfl) (i := 4) (m := n) (step := zAD_l4 n) (by kernel_rfl) (fun a k1 k2 => by kernel_rfl) (fun _ _ => rfl), trivial⟩) 2 zAD_d (by kernel_rfl) (fun x k => by kernel_rfl)
def zW_ds : Nat → Desc
  | 4 => ⟨[(2, .pt 0 0), (3, .pt 1 0), (5, .d (.int .i64))], [.box false 25 [.d (.int .i64), .d .str, .d (.sl .str), .d (.int .i64), .d .str, .d (.int .i64), .d (.sl ty51)], .box false 25 [.d (.int .i64), .d .str, .d (.sl .str), .d (.int .i64), .d .str, .d (.int .i64), .d (.sl ty51)]]⟩
  | 9 => ⟨[(2, .pt 0 0), (3, .pt 1 0), (6, .d (.int .i64))], [.box false 25 [.d (.int .i64), .d .str, .d (.sl .str), .d (.int .i64), .d .str, .d (.int .i64), .d (.sl ty51)], .box false 25 [.d (.int .i64), .d .str, .d (.sl .str), .d (.int .i64), .d .str, .d (.int .i64), .d (.sl ty51)]]⟩
  | _ => ⟨[], []⟩
def zW_dx : Nat → List (X × Desc)
  | 4 => [(.r, ⟨[(4, .d .bool)], []⟩), (.e 0, ⟨[(2, .pt 0 0), (3, .pt 1 0)], [.box false 25 [.d (.int .i64), .d .str, .d (.sl .str), .d (.int .i64), .d .str, .d (.int .i64), .d (.sl ty51)], .box false 25 [.d (.int .i64), .d .str, .d (.sl .str), .d (.int .i64), .d .str, .d (.int .i64), .d (.sl ty51)]]⟩)]
  | 9 => [(.r, ⟨[(4, .d .bool)], []⟩), (.e 2, ⟨[], []⟩)]
  | _ => []
def zW_s4 (n : Nat) (x0 : Int) (x1 : Int) (x2 : ByteArray) (x3 : (List ByteArray)) (x4 : Int) (x5 : ByteArray) (x6 : Int) (x7 : (List ty51.D)) (x8 : Int) (x9 : ByteArray) (x10 : (List ByteArray)) (x11 : Int) (x12 : ByteArray) (x13 : Int) (x14 : (List ty51.D)) (k1 : Int → Int → ByteArray → (List ByteArray) → Int → ByteArray → Int → (List ty51.D) → Int → ByteArray → (List ByteArray) → Int → ByteArray → Int → (List ty51.D) → Option R) (qr : Bool → Option R) (qe0 : Int → ByteArray → (List ByteArray) → Int → ByteArray → Int → (List ty51.D) → Int → ByteArray → (List ByteArray) → Int → ByteArray → Int → (List ty51.D) → Option R) : Option R :=
  if (decide (x0 < (x3.length : Int))) = true then (if (0 : Int) ≤ x0 ∧ x0 < (x3.length : Int) then (if (0 : Int) ≤ x0 ∧ x0 < (x10.length : Int) then (if (!((x3.getD (Int.toNat x0) (Ty.z .str)).toList == (x10.getD (Int.toNat x0) (Ty.z .str)).toList)) = true then (qr false) else (k1 (IntKind.i64.wrap (x0 + 1)) x1 x2 x3 x4 x5 x6 x7 x8 x9 x10 x11 x12 x13 x14)) else none) else none) else (qe0 x1 x2 x3 x4 x5 x6 x7 x8 x9 x10 x11 x12 x13 x14)
def zW_l4 (n : Nat) (a : (zW_ds 4).D) (k1 : (zW_ds 4).D → Option R) (k2 : exK R (zW_dx 4)) : Option R :=
  zW_s4 n a.1 a.2.1 a.2.2.1 a.2.2.2.1 a.2.2.2.2.1 a.2.2.2.2.2.1 a.2.2.2.2.2.2.1 a.2.2.2.2.2.2.2.1 a.2.2.2.2.2.2.2.2.1 a.2.2.2.2.2.2.2.2.2.1 a.2.2.2.2.2.2.2.2.2.2.1 a.2.2.2.2.2.2.2.2.2.2.2.1 a.2.2.2.2.2.2.2.2.2.2.2.2.1 a.2.2.2.2.2.2.2.2.2.2.2.2.2.1 a.2.2.2.2.2.2.2.2.2.2.2.2.2.2.1 (fun x0 x1 x2 x3 x4 x5 x6 x7 x8 x9 x10 x11 x12 x13 x14 => k1 (x0, x1, x2, x3, x4, x5, x6, x7, x8, x9, x10, x11, x12, x13, x14, ())) (fun x0 => k2.1 (x0, ())) (fun x0 x1 x2 x3 x4 x5 x6 x7 x8 x9 x10 x11 x12 x13 => k2.2.1 (x0, x1, x2, x3, x4, x5, x6, x7, x8, x9, x10, x11, x12, x13, ()))
def zW_s9 (n : Nat) (x0 : Int) (x1 : Int) (x2 : ByteArray) (x3 : (List ByteArray)) (x4 : Int) (x5 : ByteArray) (x6 : Int) (x7 : (List ty51.D)) (x8 : Int) (x9 : ByteArray) (x10 : (List ByteArray)) (x11 : Int) (x12 : ByteArray) (x13 : Int) (x14 : (List ty51.D)) (k1 : Int → Int → ByteArray → (List ByteArray) → Int → ByteArray → Int → (List ty51.D) → Int → ByteArray → (List ByteArray) → Int → ByteArray → Int → (List ty51.D) → Option R) (qr : Bool → Option R) (qe2 : Option R) : Option R :=
  if (decide (x0 < (x7.length : Int))) = true then (if (0 : Int) ≤ x0 ∧ x0 < (x7.length : Int) then (if (0 : Int) ≤ x0 ∧ x0 < (x14.length : Int) then (zAD_F n (x7.getD (Int.toNat x0) (Ty.z ty51)) (x14.getD (Int.toNat x0) (Ty.z ty51)) (fun y16 => if (!y16) = true then (qr false) else (k1 (IntKind.i64.wrap (x0 + 1)) x1 x2 x3 x4 x5 x6 x7 x8 x9 x10 x11 x12 x13 x14))) else none) else none) else qe2
def zW_l9 (n : Nat) (a : (zW_ds 9).D) (k1 : (zW_ds 9).D → Option R) (k2 : exK R (zW_dx 9)) : Option R :=
  zW_s9 n a.1 a.2.1 a.2.2.1 a.2.2.2.1 a.2.2.2.2.1 a.2.2.2.2.2.1 a.2.2.2.2.2.2.1 a.2.2.2.2.2.2.2.1 a.2.2.2.2.2.2.2.2.1 a.2.2.2.2.2.2.2.2.2.1 a.2.2.2.2.2.2.2.2.2.2.1 a.2.2.2.2.2.2.2.2.2.2.2.1 a.2.2.2.2.2.2.2.2.2.2.2.2.1 a.2.2.2.2.2.2.2.2.2.2.2.2.2.1 a.2.2.2.2.2.2.2.2.2.2.2.2.2.2.1 (fun x0 x1 x2 x3 x4 x5 x6 x7 x8 x9 x10 x11 x12 x13 x14 => k1 (x0, x1, x2, x3, x4, x5, x6, x7, x8, x9, x10, x11, x12, x13, x14, ())) (fun x0 => k2.1 (x0, ())) (k2.2.1 (()))
@[reducible] def zW_d : Desc := ⟨[(0, .d ty25), (1, .d ty25)], []⟩
def zW_Fi (n : Nat) (a0 : ty25.D) (a1 : ty25.D) (k0 : Bool → Option R) : Option R :=
  if (a0.1 != a1.1) = true then (k0 false) else (if (!(a0.2.1.toList == a1.2.1.toList)) = true then (k0 false) else (if (a0.2.2.2.1 != a1.2.2.2.1) = true then (k0 false) else (if (!(a0.2.2.2.2.1.toList == a1.2.2.2.2.1.toList)) = true then (k0 false) else (if (a0.2.2.2.2.2.1 != a1.2.2.2.2.2.1) = true then (k0 false) else (if ((a0.2.2.1.length : Int) != (a1.2.2.1.length : Int)) = true then (k0 false) else (if ((a0.2.2.2.2.2.2.1.length : Int) != (a1.2.2.2.2.2.2.1.length : Int)) = true then (k0 false) else (runC (zW_l4 n) n (0, a0.1, a0.2.1, a0.2.2.1, a0.2.2.2.1, a0.2.2.2.2.1, a0.2.2.2.2.2.1, a0.2.2.2.2.2.2.1, a1.1, a1.2.1, a1.2.2.1, a1.2.2.2.1, a1.2.2.2.2.1, a1.2.2.2.2.2.1, a1.2.2.2.2.2.2.1, ()) (fun b1 => k0 b1.1, fun b15 => runC (zW_l9 n) n (0, b15.1, b15.2.1, b15.2.2.1, b15.2.2.2.1, b15.2.2.2.2.1, b15.2.2.2.2.2.1, b15.2.2.2.2.2.2.1, b15.2.2.2.2.2.2.2.1, b15.2.2.2.2.2.2.2.2.1, b15.2.2.2.2.2.2.2.2.2.1, b15.2.2.2.2.2.2.2.2.2.2.1, b15.2.2.2.2.2.2.2.2.2.2.2.1, b15.2.2.2.2.2.2.2.2.2.2.2.2.1, b15.2.2.2.2.2.2.2.2.2.2.2.2.2.1, ()) (fun b17 => k0 b17.1, fun b17 => k0 true, ()), ()))))))))
def zW_F {R : Type} := lazyN (@zW_Fi R)
theorem zW_e : @zW_F R = @zW_Fi R := lazyN_eq _
def zW_g (n : Nat) : Gx R := typed 2 zW_d fun x k => zW_F n x.1 x.2.1 (fun y0 => k (.a (.c (.b y0))) [])
def zW_cs (R : Type) (n : Nat) : List (Nat × Gx R) := [(25, zAD_g n)]
def zW_lp (n : Nat) : (i : Nat) → (zW_ds i).D → exK R (zW_dx i) → Option R
  | 4, a, k => runC (zW_l4 n) n a k
  | 9, a, k => runC (zW_l9 n) n a k
  | _, _, _ => none
def zW_cx (R : Type) (n : Nat) : Cx R := ⟨Tryz.prog, Gof (zW_cs R n), zW_ds, zW_dx, zW_lp n, drawP Tryz.prog (Gof (zW_cs R n)), false, noJn, noFz⟩
theorem zW_ok [Esc R] (n : Nat) : Good Tryz.prog 9 (zW_g (R := R) n) := by
  unfold zW_g
  rw [zW_e]
  exact Good.fn (f := 9) (cx := zW_cx R n) (by kernel_rfl) (AllGood.cons (zAD_ok n) (AllGood.nil)) rfl Tryz.func9 (by kernel_rfl) rfl (by
    have e : fnLoops noJn Tryz.f9 = [((fnLoops noJn Tryz.f9)[0]?).getD (false, .skip), ((fnLoops noJn Tryz.f9)[1]?).getD (false, .skip)] := by kernel_rfl
    show LoopRuns _ _ (fnLoops noJn _)
    rw [e]
    exact ⟨LoopRun.loop (by kernel_rfl) (i := 4) (m := n) (step := zW_l4 n) (by kernel_rfl) (fun a k1 k2 => by kernel_rfl) (fun _ _ => rfl), ⟨LoopRun.loop (by kernel_rfl) (i := 9) (m := n) (step := zW_l9 n) (by kernel_rfl) (fun a k1 k2 => by kernel_rfl) (fun _ _ => rfl), trivial⟩⟩) 2 zW_d (by kernel_rfl) (fun x k => by kernel_rfl)
def zAY_ds : Nat → Desc
  | 4 => ⟨[(0, .d (.sl .str)), (1, .d (.sl .str)), (12, .d (.int .i64)), (13, .d (.int .i64))], []⟩
  | _ => ⟨[], []⟩
def zAY_dx : Nat → List (X × Desc)
  | 4 => [(.r, ⟨[(4, .d .bool)], []⟩), (.e 0, ⟨[], []⟩)]
  | _ => []
def zAY_s4 (n : Nat) (x0 : (List ByteArray)) (x1 : (List ByteArray)) (x2 : Int) (x3 : Int) (k1 : (List ByteArray) → (List ByteArray) → Int → Int → Option R) (qr : Bool → Option R) (qe0 : Option R) : Option R :=
  if (decide (x3 < x2)) = true then (if (0 : Int) ≤ x3 ∧ x3 < (x0.length : Int) then (if (0 : Int) ≤ x3 ∧ x3 < (x1.length : Int) then (if (!((x0.getD (Int.toNat x3) (Ty.z .str)).toList == (x1.getD (Int.toNat x3) (Ty.z .str)).toList)) = true then (qr false) else (k1 x0 x1 x2 (IntKind.i64.wrap (x3 + 1)))) else none) else none) else qe0
def zAY_l4 (n : Nat) (a : (zAY_ds 4).D) (k1 : (zAY_ds 4).D → Option R) (k2 : exK R (zAY_dx 4)) : Option R :=
  zAY_s4 n a.1 a.2.1 a.2.2.1 a.2.2.2.1 (fun x0 x1 x2 x3 => k1 (x0, x1, x2, x3, ())) (fun x0 => k2.1 (x0, ())) (k2.2.1 (()))
@[reducible] def zAY_d : Desc := ⟨[(0, .d (.sl .str)), (1, .d (.sl .str))], []⟩
def zAY_Fi (n : Nat) (a0 : (List ByteArray)) (a1 : (List ByteArray)) (k0 : Bool → Option R) : Option R :=
  if ((a0.length : Int) != (a1.length : Int)) = true then (k0 false) else (runC (zAY_l4 n) n (a0, a1, (a0.length : Int), 0, ()) (fun b1 => k0 b1.1, fun b1 => k0 true, ()))
def zAY_F {R : Type} := lazyN (@zAY_Fi R)
theorem zAY_e : @zAY_F R = @zAY_Fi R := lazyN_eq _
def zAY_g (n : Nat) : Gx R := typed 2 zAY_d fun x k => zAY_F n x.1 x.2.1 (fun y0 => k (.a (.c (.b y0))) [])
def zAY_cs (R : Type) (n : Nat) : List (Nat × Gx R) := []
def zAY_lp (n : Nat) : (i : Nat) → (zAY_ds i).D → exK R (zAY_dx i) → Option R
  | 4, a, k => runC (zAY_l4 n) n a k
  | _, _, _ => none
def zAY_cx (R : Type) (n : Nat) : Cx R := ⟨Tryz.prog, Gof (zAY_cs R n), zAY_ds, zAY_dx, zAY_lp n, drawP Tryz.prog (Gof (zAY_cs R n)), false, noJn, noFz⟩
theorem zAY_ok [Esc R] (n : Nat) : Good Tryz.prog 26 (zAY_g (R := R) n) := by
  unfold zAY_g
  rw [zAY_e]
  exact Good.fn (f := 26) (cx := zAY_cx R n) (by kernel_rfl) (AllGood.nil) rfl Tryz.func26 (by kernel_rfl) rfl (by
    have e : fnLoops noJn Tryz.f26 = [((fnLoops noJn Tryz.f26)[0]?).getD (false, .skip)] := by kernel_rfl
    show LoopRuns _ _ (fnLoops noJn _)
    rw [e]
    exact ⟨LoopRun.loop (by kernel_rfl) (i := 4) (m := n) (step := zAY_l4 n) (by kernel_rfl) (fun a k1 k2 => by kernel_rfl) (fun _ _ => rfl), trivial⟩) 2 zAY_d (by kernel_rfl) (fun x k => by kernel_rfl)
def zAZ_ds : Nat → Desc
  | 4 => ⟨[(0, .d (.sl ty48)), (1, .d (.sl ty48)), (12, .d (.int .i64)), (13, .d (.int .i64))], []⟩
  | _ => ⟨[], []⟩
def zAZ_dx : Nat → List (X × Desc)
  | 4 => [(.r, ⟨[(4, .d .bool)], []⟩), (.e 0, ⟨[], []⟩)]
  | _ => []
def zAZ_s4 (n : Nat) (x0 : (List ty48.D)) (x1 : (List ty48.D)) (x2 : Int) (x3 : Int) (k1 : (List ty48.D) → (List ty48.D) → Int → Int → Option R) (qr : Bool → Option R) (qe0 : Option R) : Option R :=
  if (decide (x3 < x2)) = true then (if (0 : Int) ≤ x3 ∧ x3 < (x0.length : Int) then (if (0 : Int) ≤ x3 ∧ x3 < (x1.length : Int) then (if (!((((x0.getD (Int.toNat x3) (Ty.z ty48)).1).toList == ((x1.getD (Int.toNat x3) (Ty.z ty48)).1).toList) && (((x0.getD (Int.toNat x3) (Ty.z ty48)).2.1 == (x1.getD (Int.toNat x3) (Ty.z ty48)).2.1) && (((((x0.getD (Int.toNat x3) (Ty.z ty48)).2.2.1).1 == ((x1.getD (Int.toNat x3) (Ty.z ty48)).2.2.1).1) && ((((x0.getD (Int.toNat x3) (Ty.z ty48)).2.2.1).2.1 == ((x1.getD (Int.toNat x3) (Ty.z ty48)).2.2.1).2.1) && ((((x0.getD (Int.toNat x3) (Ty.z ty48)).2.2.1).2.2.1 == ((x1.getD (Int.toNat x3) (Ty.z ty48)).2.2.1).2.2.1) && (((((x0.getD (Int.toNat x3) (Ty.z ty48)).2.2.1).2.2.2.1).toList == (((x1.getD (Int.toNat x3) (Ty.z ty48)).2.2.1).2.2.2.1).toList) && true)))) && true)))) = true then (qr false) else (k1 x0 x1 x2 (IntKind.i64.wrap (x3 + 1)))) else none) else none) else qe0
def zAZ_l4 (n : Nat) (a : (zAZ_ds 4).D) (k1 : (zAZ_ds 4).D → Option R) (k2 : exK R (zAZ_dx 4)) : Option R :=
  zAZ_s4 n a.1 a.2.1 a.2.2.1 a.2.2.2.1 (fun x0 x1 x2 x3 => k1 (x0, x1, x2, x3, ())) (fun x0 => k2.1 (x0, ())) (k2.2.1 (()))
@[reducible] def zAZ_d : Desc := ⟨[(0, .d (.sl ty48)), (1, .d (.sl ty48))], []⟩
def zAZ_Fi (n : Nat) (a0 : (List ty48.D)) (a1 : (List ty48.D)) (k0 : Bool → Option R) : Option R :=
  if ((a0.length : Int) != (a1.length : Int)) = true then (k0 false) else (runC (zAZ_l4 n) n (a0, a1, (a0.length : Int), 0, ()) (fun b1 => k0 b1.1, fun b1 => k0 true, ()))
def zAZ_F {R : Type} := lazyN (@zAZ_Fi R)
theorem zAZ_e : @zAZ_F R = @zAZ_Fi R := lazyN_eq _
def zAZ_g (n : Nat) : Gx R := typed 2 zAZ_d fun x k => zAZ_F n x.1 x.2.1 (fun y0 => k (.a (.c (.b y0))) [])
def zAZ_cs (R : Type) (n : Nat) : List (Nat × Gx R) := []
def zAZ_lp (n : Nat) : (i : Nat) → (zAZ_ds i).D → exK R (zAZ_dx i) → Option R
  | 4, a, k => runC (zAZ_l4 n) n a k
  | _, _, _ => none
def zAZ_cx (R : Type) (n : Nat) : Cx R := ⟨Tryz.prog, Gof (zAZ_cs R n), zAZ_ds, zAZ_dx, zAZ_lp n, drawP Tryz.prog (Gof (zAZ_cs R n)), false, noJn, noFz⟩
theorem zAZ_ok [Esc R] (n : Nat) : Good Tryz.prog 50 (zAZ_g (R := R) n) := by
  unfold zAZ_g
  rw [zAZ_e]
  exact Good.fn (f := 50) (cx := zAZ_cx R n) (by kernel_rfl) (AllGood.nil) rfl Tryz.func50 (by kernel_rfl) rfl (by
    have e : fnLoops noJn Tryz.f50 = [((fnLoops noJn Tryz.f50)[0]?).getD (false, .skip)] := by kernel_rfl
    show LoopRuns _ _ (fnLoops noJn _)
    rw [e]
    exact ⟨LoopRun.loop (by kernel_rfl) (i := 4) (m := n) (step := zAZ_l4 n) (by kernel_rfl) (fun a k1 k2 => by kernel_rfl) (fun _ _ => rfl), trivial⟩) 2 zAZ_d (by kernel_rfl) (fun x k => by kernel_rfl)
@[reducible] def zCM_d : Desc := ⟨[(0, .d ty51), (1, .d ty51)], []⟩
def zCM_Fi (n : Nat) (a0 : ty51.D) (a1 : ty51.D) (k0 : Bool → Option R) : Option R :=
  if (a0.1 == a1.1) = true then (if (a0.2.1.toList == a1.2.1.toList) = true then (if (a0.2.2.2.1 == a1.2.2.2.1) = true then (zAZ_F n a0.2.2.1 a1.2.2.1 (fun y1 => k0 y1)) else (k0 false)) else (k0 false)) else (k0 false)
def zCM_F {R : Type} := lazyN (@zCM_Fi R)
theorem zCM_e : @zCM_F R = @zCM_Fi R := lazyN_eq _
def zCM_g (n : Nat) : Gx R := typed 2 zCM_d fun x k => zCM_F n x.1 x.2.1 (fun y0 => k (.a (.c (.b y0))) [])
def zCM_cs (R : Type) (n : Nat) : List (Nat × Gx R) := [(50, zAZ_g n)]
def zCM_cx (R : Type) (n : Nat) : Cx R := ⟨Tryz.prog, Gof (zCM_cs R n), noDs, noDx, noLp, drawP Tryz.prog (Gof (zCM_cs R n)), false, noJn, noFz⟩
theorem zCM_ok [Esc R] (n : Nat) : Good Tryz.prog 28 (zCM_g (R := R) n) := by
  unfold zCM_g
  rw [zCM_e]
  exact Good.fn (f := 28) (cx := zCM_cx R n) (by kernel_rfl) (AllGood.cons (zAZ_ok n) (AllGood.nil)) rfl Tryz.func28 (by kernel_rfl) rfl trivial 2 zCM_d (by kernel_rfl) (fun x k => by kernel_rfl)
def zAL_ds : Nat → Desc
  | 4 => ⟨[(1, .d (.sl ty51)), (2, .fn 28 []), (15, .d (.sl ty51)), (16, .d (.int .i64)), (17, .d (.int .i64))], []⟩
  | _ => ⟨[], []⟩
def zAL_dx : Nat → List (X × Desc)
  | 4 => [(.r, ⟨[(6, .d .bool)], []⟩), (.e 0, ⟨[], []⟩)]
  | _ => []
def zAL_s4 (n : Nat) (x0 : (List ty51.D)) (x1 : (List ty51.D)) (x2 : Int) (x3 : Int) (k1 : (List ty51.D) → (List ty51.D) → Int → Int → Option R) (qr : Bool → Option R) (qe0 : Option R) : Option R :=
  if (decide (x3 < x2)) = true then (if (0 : Int) ≤ x3 ∧ x3 < (x1.length : Int) then (if (0 : Int) ≤ x3 ∧ x3 < (x0.length : Int) then (zCM_F n (x1.getD (Int.toNat x3) (Ty.z ty51)) (x0.getD (Int.toNat x3) (Ty.z ty51)) (fun y1 => if (!y1) = true then (qr false) else (k1 x0 x1 x2 (IntKind.i64.wrap (x3 + 1))))) else none) else none) else qe0
def zAL_l4 (n : Nat) (a : (zAL_ds 4).D) (k1 : (zAL_ds 4).D → Option R) (k2 : exK R (zAL_dx 4)) : Option R :=
  zAL_s4 n a.1 a.2.1 a.2.2.1 a.2.2.2.1 (fun x0 x1 x2 x3 => k1 (x0, x1, x2, x3, ())) (fun x0 => k2.1 (x0, ())) (k2.2.1 (()))
@[reducible] def zAL_d : Desc := ⟨[(0, .d (.sl ty51)), (1, .d (.sl ty51)), (2, .fn 28 [])], []⟩
def zAL_Fi (n : Nat) (a0 : (List ty51.D)) (a1 : (List ty51.D)) (k0 : Bool → Option R) : Option R :=
  if ((a0.length : Int) != (a1.length : Int)) = true then (k0 false) else (runC (zAL_l4 n) n (a1, a0, (a0.length : Int), 0, ()) (fun b2 => k0 b2.1, fun b2 => k0 true, ()))
def zAL_F {R : Type} := lazyN (@zAL_Fi R)
theorem zAL_e : @zAL_F R = @zAL_Fi R := lazyN_eq _
def zAL_g (n : Nat) : Gx R := typed 3 zAL_d fun x k => zAL_F n x.1 x.2.1 (fun y0 => k (.a (.c (.b y0))) [])
def zAL_cs (R : Type) (n : Nat) : List (Nat × Gx R) := [(28, zCM_g n)]
def zAL_lp (n : Nat) : (i : Nat) → (zAL_ds i).D → exK R (zAL_dx i) → Option R
  | 4, a, k => runC (zAL_l4 n) n a k
  | _, _, _ => none
def zAL_cx (R : Type) (n : Nat) : Cx R := ⟨Tryz.prog, Gof (zAL_cs R n), zAL_ds, zAL_dx, zAL_lp n, drawP Tryz.prog (Gof (zAL_cs R n)), false, noJn, noFz⟩
theorem zAL_ok [Esc R] (n : Nat) : Good Tryz.prog 27 (zAL_g (R := R) n) := by
  unfold zAL_g
  rw [zAL_e]
  exact Good.fn (f := 27) (cx := zAL_cx R n) (by kernel_rfl) (AllGood.cons (zCM_ok n) (AllGood.nil)) rfl Tryz.func27 (by kernel_rfl) rfl (by
    have e : fnLoops noJn Tryz.f27 = [((fnLoops noJn Tryz.f27)[0]?).getD (false, .skip)] := by kernel_rfl
    show LoopRuns _ _ (fnLoops noJn _)
    rw [e]
    exact ⟨LoopRun.loop (by kernel_rfl) (i := 4) (m := n) (step := zAL_l4 n) (by kernel_rfl) (fun a k1 k2 => by kernel_rfl) (fun _ _ => rfl), trivial⟩) 3 zAL_d (by kernel_rfl) (fun x k => by kernel_rfl)
@[reducible] def zDA_d : Desc := ⟨[(0, .d ty25), (1, .d ty25)], []⟩
def zDA_Fi (n : Nat) (a0 : ty25.D) (a1 : ty25.D) (k0 : Bool → Option R) : Option R :=
  if (a0.1 == a1.1) = true then (if (a0.2.1.toList == a1.2.1.toList) = true then (if (a0.2.2.2.1 == a1.2.2.2.1) = true then (if (a0.2.2.2.2.1.toList == a1.2.2.2.2.1.toList) = true then (if (a0.2.2.2.2.2.1 == a1.2.2.2.2.2.1) = true then (zAY_F n a0.2.2.1 a1.2.2.1 (fun y1 => if y1 = true then (zAL_F n a0.2.2.2.2.2.2.1 a1.2.2.2.2.2.2.1 (fun y2 => k0 y2)) else (k0 false))) else (k0 false)) else (k0 false)) else (k0 false)) else (k0 false)) else (k0 false)
def zDA_F {R : Type} := lazyN (@zDA_Fi R)
theorem zDA_e : @zDA_F R = @zDA_Fi R := lazyN_eq _
def zDA_g (n : Nat) : Gx R := typed 2 zDA_d fun x k => zDA_F n x.1 x.2.1 (fun y0 => k (.a (.c (.b y0))) [])
def zDA_cs (R : Type) (n : Nat) : List (Nat × Gx R) := [(26, zAY_g n), (27, zAL_g n)]
def zDA_cx (R : Type) (n : Nat) : Cx R := ⟨Tryz.prog, Gof (zDA_cs R n), noDs, noDx, noLp, drawP Tryz.prog (Gof (zDA_cs R n)), false, noJn, noFz⟩
theorem zDA_ok [Esc R] (n : Nat) : Good Tryz.prog 10 (zDA_g (R := R) n) := by
  unfold zDA_g
  rw [zDA_e]
  exact Good.fn (f := 10) (cx := zDA_cx R n) (by kernel_rfl) (AllGood.cons (zAY_ok n) (AllGood.cons (zAL_ok n) (AllGood.nil))) rfl Tryz.func10 (by kernel_rfl) rfl trivial 2 zDA_d (by kernel_rfl) (fun x k => by kernel_rfl)
@[reducible] def verdererlaw12_known_d : Desc := ⟨[], []⟩
@[reducible] def verdererlaw12_ParseRules_d : Desc := ⟨[(0, .d .str)], []⟩
@[reducible] def verdererlaw12_ParseSame_d : Desc := ⟨[(0, .d .str), (1, .d .str)], []⟩
@[reducible] def zCS_d : Desc := ⟨[(0, .d (.int .i64)), (1, .d (.sl .str))], []⟩
def zCS_Fi (n : Nat) (a0 : Int) (a1 : (List ByteArray)) (k0 : ByteArray → Option R) : Option R :=
  if (decide (a0 < 0)) = true then (k0 (⟨#[]⟩ : ByteArray)) else (if (decide (a0 ≥ (a1.length : Int))) = true then (k0 (⟨#[]⟩ : ByteArray)) else (if (0 : Int) ≤ a0 ∧ a0 < (a1.length : Int) then (k0 (a1.getD (Int.toNat a0) (Ty.z .str))) else none))
def zCS_F {R : Type} := lazyN (@zCS_Fi R)
theorem zCS_e : @zCS_F R = @zCS_Fi R := lazyN_eq _
def zCS_g (n : Nat) : Gx R := typed 2 zCS_d fun x k => zCS_F n x.1 x.2.1 (fun y0 => k (.a (.c (.s y0))) [])
def zCS_cs (R : Type) (n : Nat) : List (Nat × Gx R) := []
def zCS_cx (R : Type) (n : Nat) : Cx R := ⟨Tryz.prog, Gof (zCS_cs R n), noDs, noDx, noLp, drawP Tryz.prog (Gof (zCS_cs R n)), false, noJn, noFz⟩
theorem zCS_ok [Esc R] (n : Nat) : Good Tryz.prog 30 (zCS_g (R := R) n) := by
  unfold zCS_g
  rw [zCS_e]
  exact Good.fn (f := 30) (cx := zCS_cx R n) (by kernel_rfl) (AllGood.nil) rfl Tryz.func30 (by kernel_rfl) rfl trivial 2 zCS_d (by kernel_rfl) (fun x k => by kernel_rfl)
@[reducible] def zDL_d : Desc := ⟨[(0, .d (.sl .str)), (1, .d .str)], []⟩
def zDL_Fi (n : Nat) (a0 : (List ByteArray)) (a1 : ByteArray) (k0 : ByteArray → Option R) : Option R :=
  if a0.length ≤ 140737488355328 ∧ (joinB a0 a1).size ≤ 140737488355328 then (k0 (joinB a0 a1)) else none
def zDL_F {R : Type} := lazyN (@zDL_Fi R)
theorem zDL_e : @zDL_F R = @zDL_Fi R := lazyN_eq _
def zDL_g (n : Nat) : Gx R := typed 2 zDL_d fun x k => zDL_F n x.1 x.2.1 (fun y0 => k (.a (.c (.s y0))) [])
theorem zDL_ok [Esc R] (n : Nat) : Good Tryz.prog 54 (zDL_g (R := R) n) := by
  unfold zDL_g
  rw [zDL_e]
  exact Good.handL Tryz.func54 (by kernel_rfl) rfl join_back (fun x k => rfl)
@[reducible] def zCK_d : Desc := ⟨[(0, .d (.sl .str))], []⟩
def zCK_Fi (n : Nat) (a0 : (List ByteArray)) (k0 : ByteArray → Option R) : Option R :=
  zDL_F n a0 (⟨#[44, 32]⟩ : ByteArray) (fun y1 => k0 y1)
def zCK_F {R : Type} := lazyN (@zCK_Fi R)
theorem zCK_e : @zCK_F R = @zCK_Fi R := lazyN_eq _
def zCK_g (n : Nat) : Gx R := typed 1 zCK_d fun x k => zCK_F n x.1 (fun y0 => k (.a (.c (.s y0))) [])
def zCK_cs (R : Type) (n : Nat) : List (Nat × Gx R) := [(54, zDL_g n)]
def zCK_cx (R : Type) (n : Nat) : Cx R := ⟨Tryz.prog, Gof (zCK_cs R n), noDs, noDx, noLp, drawP Tryz.prog (Gof (zCK_cs R n)), false, noJn, noFz⟩
theorem zCK_ok [Esc R] (n : Nat) : Good Tryz.prog 34 (zCK_g (R := R) n) := by
  unfold zCK_g
  rw [zCK_e]
  exact Good.fn (f := 34) (cx := zCK_cx R n) (by kernel_rfl) (AllGood.cons (zDL_ok n) (AllGood.nil)) rfl Tryz.func34 (by kernel_rfl) rfl trivial 1 zCK_d (by kernel_rfl) (fun x k => by kernel_rfl)
@[reducible] def zDD_d : Desc := ⟨[(0, .d ty25)], []⟩
def zDD_Fi (n : Nat) (a0 : ty25.D) (k0 : ByteArray → Option R) : Option R :=
  if (List.length ([] : List ByteArray) + List.length a0.2.2.1) * 16 ≤ 140737488355328 then (if (a0.2.2.2.1 != 0) = true then (zCS_F n a0.2.2.2.1 [(⟨#[]⟩ : ByteArray), (⟨#[99, 111, 117, 110, 116]⟩ : ByteArray), (⟨#[115, 117, 109]⟩ : ByteArray), (⟨#[108, 101, 97, 115, 116]⟩ : ByteArray), (⟨#[109, 111, 115, 116]⟩ : ByteArray)] (fun y1 => if (decide (a0.2.2.2.1 > 1)) = true then (if (⟨#[32]⟩ : ByteArray).size + a0.2.2.2.2.1.size ≤ 9223372036854775807 then (if y1.size + ((⟨#[32]⟩ : ByteArray) ++ a0.2.2.2.2.1).size ≤ 9223372036854775807 then (if (List.length (([] : List ByteArray) ++ a0.2.2.1) + List.length [(y1 ++ ((⟨#[32]⟩ : ByteArray) ++ a0.2.2.2.2.1))]) * 16 ≤ 140737488355328 then (zCK_F n ((([] : List ByteArray) ++ a0.2.2.1) ++ [(y1 ++ ((⟨#[32]⟩ : ByteArray) ++ a0.2.2.2.2.1))]) (fun y2 => k0 y2)) else none) else none) else none) else (if (List.length (([] : List ByteArray) ++ a0.2.2.1) + List.length [y1]) * 16 ≤ 140737488355328 then (zCK_F n ((([] : List ByteArray) ++ a0.2.2.1) ++ [y1]) (fun y3 => k0 y3)) else none))) else (zCK_F n (([] : List ByteArray) ++ a0.2.2.1) (fun y4 => k0 y4))) else none
def zDD_F {R : Type} := lazyN (@zDD_Fi R)
theorem zDD_e : @zDD_F R = @zDD_Fi R := lazyN_eq _
def zDD_g (n : Nat) : Gx R := typed 1 zDD_d fun x k => zDD_F n x.1 (fun y0 => k (.a (.c (.s y0))) [])
def zDD_cs (R : Type) (n : Nat) : List (Nat × Gx R) := [(30, zCS_g n), (34, zCK_g n)]
def zDD_cx (R : Type) (n : Nat) : Cx R := ⟨Tryz.prog, Gof (zDD_cs R n), noDs, noDx, noLp, drawP Tryz.prog (Gof (zDD_cs R n)), false, noJn, noFz⟩
theorem zDD_ok [Esc R] (n : Nat) : Good Tryz.prog 31 (zDD_g (R := R) n) := by
  unfold zDD_g
  rw [zDD_e]
  exact Good.fn (f := 31) (cx := zDD_cx R n) (by kernel_rfl) (AllGood.cons (zCS_ok n) (AllGood.cons (zCK_ok n) (AllGood.nil))) rfl Tryz.func31 (by kernel_rfl) rfl trivial 1 zDD_d (by kernel_rfl) (fun x k => by kernel_rfl)
@[reducible] def zCR_d : Desc := ⟨[(0, .d ty48)], []⟩
def zCR_Fi (n : Nat) (a0 : ty48.D) (k0 : ByteArray → Option R) : Option R :=
  if a0.2.1 = true then (k0 (⟨#[95]⟩ : ByteArray)) else (if (!(a0.1.toList == (⟨#[]⟩ : ByteArray).toList)) = true then (k0 a0.1) else (zCU_F n a0.2.2.1 (fun y1 => k0 y1)))
def zCR_F {R : Type} := lazyN (@zCR_Fi R)
theorem zCR_e : @zCR_F R = @zCR_Fi R := lazyN_eq _
def zCR_g (n : Nat) : Gx R := typed 1 zCR_d fun x k => zCR_F n x.1 (fun y0 => k (.a (.c (.s y0))) [])
def zCR_cs (R : Type) (n : Nat) : List (Nat × Gx R) := [(51, zCU_g n)]
def zCR_cx (R : Type) (n : Nat) : Cx R := ⟨Tryz.prog, Gof (zCR_cs R n), noDs, noDx, noLp, drawP Tryz.prog (Gof (zCR_cs R n)), false, noJn, noFz⟩
theorem zCR_ok [Esc R] (n : Nat) : Good Tryz.prog 29 (zCR_g (R := R) n) := by
  unfold zCR_g
  rw [zCR_e]
  exact Good.fn (f := 29) (cx := zCR_cx R n) (by kernel_rfl) (AllGood.cons (zCU_ok n) (AllGood.nil)) rfl Tryz.func29 (by kernel_rfl) rfl trivial 1 zCR_d (by kernel_rfl) (fun x k => by kernel_rfl)
def zAH_ds : Nat → Desc
  | 3 => ⟨[(1, .pt 0 0), (3, .ow 1), (8, .d (.sl ty48)), (9, .d (.int .i64)), (10, .d (.int .i64))], [.box false 51 [.d .bool, .d .str, .d (.sl ty48), .d (.int .i64)], .arr 9 .str]⟩
  | 1000009 => ⟨[(1, .pt 0 0), (3, .ow 1), (6, .d .str), (23, .d .bool)], [.box false 51 [.d .bool, .d .str, .d (.sl ty48), .d (.int .i64)], .arr 9 .str]⟩
  | _ => ⟨[], []⟩
def zAH_dx : Nat → List (X × Desc)
  | 3 => [(.e 0, ⟨[(1, .pt 0 0), (3, .ow 1)], [.box false 51 [.d .bool, .d .str, .d (.sl ty48), .d (.int .i64)], .arr 9 .str]⟩)]
  | 1000009 => [(.r, ⟨[(2, .d .str)], []⟩), (.n, ⟨[(1, .pt 0 0), (3, .ow 1)], [.box false 51 [.d .bool, .d .str, .d (.sl ty48), .d (.int .i64)], .arr 9 .str]⟩)]
  | _ => []
def zAH_s3 (n : Nat) (x0 : (List ty48.D)) (x1 : Int) (x2 : Int) (x3 : Bool) (x4 : ByteArray) (x5 : (List ty48.D)) (x6 : Int) (x7 : (List ByteArray)) (k1 : (List ty48.D) → Int → Int → Bool → ByteArray → (List ty48.D) → Int → (List ByteArray) → Option R) (qe0 : Bool → ByteArray → (List ty48.D) → Int → (List ByteArray) → Option R) : Option R :=
  if (decide (x2 < x1)) = true then (if (0 : Int) ≤ x2 ∧ x2 < (x0.length : Int) then (zCR_F n ((x0.getD (Int.toNat x2) (Ty.z ty48)).1, (x0.getD (Int.toNat x2) (Ty.z ty48)).2.1, ((x0.getD (Int.toNat x2) (Ty.z ty48)).2.2.1), ()) (fun y1 => if (List.length x7 + List.length [y1]) * 16 ≤ 140737488355328 then (k1 x0 x1 (IntKind.i64.wrap (x2 + 1)) x3 x4 x5 x6 (x7 ++ [y1])) else none)) else none) else (qe0 x3 x4 x5 x6 x7)
def zAH_l3 (n : Nat) (a : (zAH_ds 3).D) (k1 : (zAH_ds 3).D → Option R) (k2 : exK R (zAH_dx 3)) : Option R :=
  zAH_s3 n a.1 a.2.1 a.2.2.1 a.2.2.2.1 a.2.2.2.2.1 a.2.2.2.2.2.1 a.2.2.2.2.2.2.1 a.2.2.2.2.2.2.2.1 (fun x0 x1 x2 x3 x4 x5 x6 x7 => k1 (x0, x1, x2, x3, x4, x5, x6, x7, ())) (fun x0 x1 x2 x3 x4 => k2.1 (x0, x1, x2, x3, x4, ()))
def zAH_s1000009 (n : Nat) (x0 : ByteArray) (x1 : Bool) (x2 : Bool) (x3 : ByteArray) (x4 : (List ty48.D)) (x5 : Int) (x6 : (List ByteArray)) (qr : ByteArray → Option R) (qn : Bool → ByteArray → (List ty48.D) → Int → (List ByteArray) → Option R) : Option R :=
  if x1 = true then (qr (⟨#[]⟩ : ByteArray)) else (if (x5 != 0) = true then (if (0 : Int) ≤ 0 ∧ 0 < (x6.length : Int) then (if (Int.toNat 0) < x6.length then (if (x6.getD (Int.toNat 0) (Ty.z .str)).size + (⟨#[32]⟩ : ByteArray).size ≤ 9223372036854775807 then (if ((x6.getD (Int.toNat 0) (Ty.z .str)) ++ (⟨#[32]⟩ : ByteArray)).size + x0.size ≤ 9223372036854775807 then (if (((x6.getD (Int.toNat 0) (Ty.z .str)) ++ (⟨#[32]⟩ : ByteArray)) ++ x0).size + (⟨#[32]⟩ : ByteArray).size ≤ 9223372036854775807 then (if (0 : Int) ≤ 1 ∧ 1 < (x6.length : Int) then (if (Int.toNat 1) < x6.length then (if ((((x6.getD (Int.toNat 0) (Ty.z .str)) ++ (⟨#[32]⟩ : ByteArray)) ++ x0) ++ (⟨#[32]⟩ : ByteArray)).size + (x6.getD (Int.toNat 1) (Ty.z .str)).size ≤ 9223372036854775807 then (qr (((((x6.getD (Int.toNat 0) (Ty.z .str)) ++ (⟨#[32]⟩ : ByteArray)) ++ x0) ++ (⟨#[32]⟩ : ByteArray)) ++ (x6.getD (Int.toNat 1) (Ty.z .str)))) else none) else none) else none) else none) else none) else none) else none) else none) else (if x2 = true then (if (⟨#[110, 111, 116, 32]⟩ : ByteArray).size + x3.size ≤ 9223372036854775807 then (if ((⟨#[110, 111, 116, 32]⟩ : ByteArray) ++ x3).size + (⟨#[40]⟩ : ByteArray).size ≤ 9223372036854775807 then (zCK_F n x6 (fun y8 => if (((⟨#[110, 111, 116, 32]⟩ : ByteArray) ++ x3) ++ (⟨#[40]⟩ : ByteArray)).size + y8.size ≤ 9223372036854775807 then (if ((((⟨#[110, 111, 116, 32]⟩ : ByteArray) ++ x3) ++ (⟨#[40]⟩ : ByteArray)) ++ y8).size + (⟨#[41]⟩ : ByteArray).size ≤ 9223372036854775807 then (qr (((((⟨#[110, 111, 116, 32]⟩ : ByteArray) ++ x3) ++ (⟨#[40]⟩ : ByteArray)) ++ y8) ++ (⟨#[41]⟩ : ByteArray))) else none) else none)) else none) else none) else (qn x2 x3 x4 x5 x6)))
def zAH_li1000009 (n : Nat) (a : (zAH_ds 1000009).D) (k2 : exK R (zAH_dx 1000009)) : Option R :=
  zAH_s1000009 n a.1 a.2.1 a.2.2.1 a.2.2.2.1 a.2.2.2.2.1 a.2.2.2.2.2.1 a.2.2.2.2.2.2.1 (fun x0 => k2.1 (x0, ())) (fun x0 x1 x2 x3 x4 => k2.2.1 (x0, x1, x2, x3, x4, ()))
def zFI {R : Type} := lazyN (@zAH_li1000009 R)
theorem zAH_e1000009 : @zFI R = @zAH_li1000009 R := lazyN_eq _
@[reducible] def zAH_d : Desc := ⟨[(0, .d ty51)], []⟩
def zAH_Fi (n : Nat) (a0 : ty51.D) (k0 : ByteArray → Option R) : Option R :=
  runC (zAH_l3 n) n (a0.2.2.1, (a0.2.2.1.length : Int), 0, a0.1, a0.2.1, a0.2.2.1, a0.2.2.2.1, ([] : List ByteArray), ()) (fun b6 => zDM_F n b6.2.2.2.1 (fun y7 => if (b6.2.2.2.1 != 0) = true then (if (y7.toList == (⟨#[]⟩ : ByteArray).toList) = true then (zFI n (y7, true, b6.1, b6.2.1, b6.2.2.1, b6.2.2.2.1, b6.2.2.2.2.1, ()) (fun b9 => k0 b9.1, fun b14 => if b14.2.1.size + (⟨#[40]⟩ : ByteArray).size ≤ 9223372036854775807 then (zCK_F n b14.2.2.2.2.1 (fun y15 => if (b14.2.1 ++ (⟨#[40]⟩ : ByteArray)).size + y15.size ≤ 9223372036854775807 then (if ((b14.2.1 ++ (⟨#[40]⟩ : ByteArray)) ++ y15).size + (⟨#[41]⟩ : ByteArray).size ≤ 9223372036854775807 then (k0 (((b14.2.1 ++ (⟨#[40]⟩ : ByteArray)) ++ y15) ++ (⟨#[41]⟩ : ByteArray))) else none) else none)) else none, ())) else (zFI n (y7, ((b6.2.2.2.2.1.length : Int) != 2), b6.1, b6.2.1, b6.2.2.1, b6.2.2.2.1, b6.2.2.2.2.1, ()) (fun b16 => k0 b16.1, fun b21 => if b21.2.1.size + (⟨#[40]⟩ : ByteArray).size ≤ 9223372036854775807 then (zCK_F n b21.2.2.2.2.1 (fun y22 => if (b21.2.1 ++ (⟨#[40]⟩ : ByteArray)).size + y22.size ≤ 9223372036854775807 then (if ((b21.2.1 ++ (⟨#[40]⟩ : ByteArray)) ++ y22).size + (⟨#[41]⟩ : ByteArray).size ≤ 9223372036854775807 then (k0 (((b21.2.1 ++ (⟨#[40]⟩ : ByteArray)) ++ y22) ++ (⟨#[41]⟩ : ByteArray))) else none) else none)) else none, ()))) else (zFI n (y7, false, b6.1, b6.2.1, b6.2.2.1, b6.2.2.2.1, b6.2.2.2.2.1, ()) (fun b23 => k0 b23.1, fun b28 => if b28.2.1.size + (⟨#[40]⟩ : ByteArray).size ≤ 9223372036854775807 then (zCK_F n b28.2.2.2.2.1 (fun y29 => if (b28.2.1 ++ (⟨#[40]⟩ : ByteArray)).size + y29.size ≤ 9223372036854775807 then (if ((b28.2.1 ++ (⟨#[40]⟩ : ByteArray)) ++ y29).size + (⟨#[41]⟩ : ByteArray).size ≤ 9223372036854775807 then (k0 (((b28.2.1 ++ (⟨#[40]⟩ : ByteArray)) ++ y29) ++ (⟨#[41]⟩ : ByteArray))) else none) else none)) else none, ()))), ())
def zAH_F {R : Type} := lazyN (@zAH_Fi R)
theorem zAH_e : @zAH_F R = @zAH_Fi R := lazyN_eq _
def zAH_g (n : Nat) : Gx R := typed 1 zAH_d fun x k => zAH_F n x.1 (fun y0 => k (.a (.c (.s y0))) [])
def zAH_cs (R : Type) (n : Nat) : List (Nat × Gx R) := [(29, zCR_g n), (34, zCK_g n), (53, zDM_g n)]
def zAH_lp (n : Nat) : (i : Nat) → (zAH_ds i).D → exK R (zAH_dx i) → Option R
  | 3, a, k => runC (zAH_l3 n) n a k
  | 1000009, a, k => zFI n a k
  | _, _, _ => none
def zAH_cx (R : Type) (n : Nat) : Cx R := ⟨Tryz.prog, Gof (zAH_cs R n), zAH_ds, zAH_dx, zAH_lp n, drawP Tryz.prog (Gof (zAH_cs R n)), false, (memN [9]), noFz⟩
theorem zAH_ok [Esc R] (n : Nat) : Good Tryz.prog 33 (zAH_g (R := R) n) := by
  unfold zAH_g
  rw [zAH_e]
  exact Good.fn (f := 33) (cx := zAH_cx R n) (by kernel_rfl) (AllGood.cons (zCR_ok n) (AllGood.cons (zCK_ok n) (AllGood.cons (zDM_ok n) (AllGood.nil)))) rfl Tryz.func33 (by kernel_rfl) rfl (by
    have e : fnLoops (memN [9]) Tryz.f33 = [((fnLoops (memN [9]) Tryz.f33)[0]?).getD (false, .skip), ((fnLoops (memN [9]) Tryz.f33)[1]?).getD (false, .skip)] := by kernel_rfl
    show LoopRuns _ _ (fnLoops (memN [9]) _)
    rw [e]
    exact ⟨LoopRun.loop (by kernel_rfl) (i := 3) (m := n) (step := zAH_l3 n) (by kernel_rfl) (fun a k1 k2 => by kernel_rfl) (fun _ _ => rfl), ⟨LoopRun.joinS (by kernel_rfl) (i := 9) (L := zFI n) (Li := zAH_li1000009 n) (by rw [zAH_e1000009]) (by kernel_rfl) (fun a k => by kernel_rfl) (fun a k => by kernel_rfl), trivial⟩⟩) 1 zAH_d (by kernel_rfl) (fun x k => by kernel_rfl)
def zBG_ds : Nat → Desc
  | 6 => ⟨[(1, .pt 0 0), (4, .d .str), (5, .ow 1), (34, .d (.sl ty51)), (35, .d (.int .i64)), (36, .d (.int .i64))], [.box false 25 [.d (.int .i64), .d .str, .d (.sl .str), .d (.int .i64), .d .str, .d (.int .i64), .d (.sl ty51)], .arr 9 .str]⟩
  | _ => ⟨[], []⟩
def zBG_dx : Nat → List (X × Desc)
  | 6 => [(.e 0, ⟨[(1, .pt 0 0), (4, .d .str), (5, .ow 1)], [.box false 25 [.d (.int .i64), .d .str, .d (.sl .str), .d (.int .i64), .d .str, .d (.int .i64), .d (.sl ty51)], .arr 9 .str]⟩)]
  | _ => []
def zBG_s6 (n : Nat) (x0 : ByteArray) (x1 : (List ty51.D)) (x2 : Int) (x3 : Int) (x4 : Int) (x5 : ByteArray) (x6 : (List ByteArray)) (x7 : Int) (x8 : ByteArray) (x9 : Int) (x10 : (List ty51.D)) (x11 : (List ByteArray)) (k1 : ByteArray → (List ty51.D) → Int → Int → Int → ByteArray → (List ByteArray) → Int → ByteArray → Int → (List ty51.D) → (List ByteArray) → Option R) (qe0 : ByteArray → Int → ByteArray → (List ByteArray) → Int → ByteArray → Int → (List ty51.D) → (List ByteArray) → Option R) : Option R :=
  if (decide (x3 < x2)) = true then (if (0 : Int) ≤ x3 ∧ x3 < (x1.length : Int) then (zAH_F n (x1.getD (Int.toNat x3) (Ty.z ty51)) (fun y4 => if (List.length x11 + List.length [y4]) * 16 ≤ 140737488355328 then (k1 x0 x1 x2 (IntKind.i64.wrap (x3 + 1)) x4 x5 x6 x7 x8 x9 x10 (x11 ++ [y4])) else none)) else none) else (qe0 x0 x4 x5 x6 x7 x8 x9 x10 x11)
def zBG_l6 (n : Nat) (a : (zBG_ds 6).D) (k1 : (zBG_ds 6).D → Option R) (k2 : exK R (zBG_dx 6)) : Option R :=
  zBG_s6 n a.1 a.2.1 a.2.2.1 a.2.2.2.1 a.2.2.2.2.1 a.2.2.2.2.2.1 a.2.2.2.2.2.2.1 a.2.2.2.2.2.2.2.1 a.2.2.2.2.2.2.2.2.1 a.2.2.2.2.2.2.2.2.2.1 a.2.2.2.2.2.2.2.2.2.2.1 a.2.2.2.2.2.2.2.2.2.2.2.1 (fun x0 x1 x2 x3 x4 x5 x6 x7 x8 x9 x10 x11 => k1 (x0, x1, x2, x3, x4, x5, x6, x7, x8, x9, x10, x11, ())) (fun x0 x1 x2 x3 x4 x5 x6 x7 x8 => k2.1 (x0, x1, x2, x3, x4, x5, x6, x7, x8, ()))
@[reducible] def zBG_d : Desc := ⟨[(0, .d ty25)], []⟩
def zBG_Fi (n : Nat) (a0 : ty25.D) (k0 : ByteArray → Int → Option R) : Option R :=
  zCS_F n a0.1 [(⟨#[]⟩ : ByteArray), (⟨#[100, 101, 110, 121]⟩ : ByteArray), (⟨#[118, 105, 101, 119]⟩ : ByteArray), (⟨#[113, 117, 111, 116, 97]⟩ : ByteArray)] (fun y1 => if y1.size + (⟨#[32]⟩ : ByteArray).size ≤ 9223372036854775807 then (if (y1 ++ (⟨#[32]⟩ : ByteArray)).size + a0.2.1.size ≤ 9223372036854775807 then (if ((y1 ++ (⟨#[32]⟩ : ByteArray)) ++ a0.2.1).size + (⟨#[40]⟩ : ByteArray).size ≤ 9223372036854775807 then (zDD_F n a0 (fun y2 => if (((y1 ++ (⟨#[32]⟩ : ByteArray)) ++ a0.2.1) ++ (⟨#[40]⟩ : ByteArray)).size + y2.size ≤ 9223372036854775807 then (if ((((y1 ++ (⟨#[32]⟩ : ByteArray)) ++ a0.2.1) ++ (⟨#[40]⟩ : ByteArray)) ++ y2).size + (⟨#[41]⟩ : ByteArray).size ≤ 9223372036854775807 then (if (a0.1 == 3) = true then (zBS_F n a0.2.2.2.2.2.1 10 (fun y3 => if (⟨#[32, 108, 105, 109, 105, 116, 32]⟩ : ByteArray).size + y3.size ≤ 9223372036854775807 then (if (((((y1 ++ (⟨#[32]⟩ : ByteArray)) ++ a0.2.1) ++ (⟨#[40]⟩ : ByteArray)) ++ y2) ++ (⟨#[41]⟩ : ByteArray)).size + ((⟨#[32, 108, 105, 109, 105, 116, 32]⟩ : ByteArray) ++ y3).size ≤ 9223372036854775807 then (runC (zBG_l6 n) n (((((((y1 ++ (⟨#[32]⟩ : ByteArray)) ++ a0.2.1) ++ (⟨#[40]⟩ : ByteArray)) ++ y2) ++ (⟨#[41]⟩ : ByteArray)) ++ ((⟨#[32, 108, 105, 109, 105, 116, 32]⟩ : ByteArray) ++ y3)), a0.2.2.2.2.2.2.1, (a0.2.2.2.2.2.2.1.length : Int), 0, a0.1, a0.2.1, a0.2.2.1, a0.2.2.2.1, a0.2.2.2.2.1, a0.2.2.2.2.2.1, a0.2.2.2.2.2.2.1, ([] : List ByteArray), ()) (fun b13 => zCK_F n b13.2.2.2.2.2.2.2.2.1 (fun y14 => if (⟨#[32, 105, 102, 32]⟩ : ByteArray).size + y14.size ≤ 9223372036854775807 then (if b13.1.size + ((⟨#[32, 105, 102, 32]⟩ : ByteArray) ++ y14).size ≤ 9223372036854775807 then (if (decide (((b13.1 ++ ((⟨#[32, 105, 102, 32]⟩ : ByteArray) ++ y14)).size : Int) > 300)) = true then (k0 (⟨#[]⟩ : ByteArray) 9) else (zDK_F n (b13.1 ++ ((⟨#[32, 105, 102, 32]⟩ : ByteArray) ++ y14)) (fun y15 y16 y17 => if (y17 != 0) = true then (k0 (⟨#[]⟩ : ByteArray) 7) else (zDA_F n (b13.2.1, b13.2.2.1, b13.2.2.2.1, b13.2.2.2.2.1, b13.2.2.2.2.2.1, b13.2.2.2.2.2.2.1, b13.2.2.2.2.2.2.2.1, ()) y15 (fun y18 => if (!y18) = true then (k0 (⟨#[]⟩ : ByteArray) 7) else (k0 (b13.1 ++ ((⟨#[32, 105, 102, 32]⟩ : ByteArray) ++ y14)) 0)))))) else none) else none), ())) else none) else none)) else (runC (zBG_l6 n) n ((((((y1 ++ (⟨#[32]⟩ : ByteArray)) ++ a0.2.1) ++ (⟨#[40]⟩ : ByteArray)) ++ y2) ++ (⟨#[41]⟩ : ByteArray)), a0.2.2.2.2.2.2.1, (a0.2.2.2.2.2.2.1.length : Int), 0, a0.1, a0.2.1, a0.2.2.1, a0.2.2.2.1, a0.2.2.2.2.1, a0.2.2.2.2.2.1, a0.2.2.2.2.2.2.1, ([] : List ByteArray), ()) (fun b27 => zCK_F n b27.2.2.2.2.2.2.2.2.1 (fun y28 => if (⟨#[32, 105, 102, 32]⟩ : ByteArray).size + y28.size ≤ 9223372036854775807 then (if b27.1.size + ((⟨#[32, 105, 102, 32]⟩ : ByteArray) ++ y28).size ≤ 9223372036854775807 then (if (decide (((b27.1 ++ ((⟨#[32, 105, 102, 32]⟩ : ByteArray) ++ y28)).size : Int) > 300)) = true then (k0 (⟨#[]⟩ : ByteArray) 9) else (zDK_F n (b27.1 ++ ((⟨#[32, 105, 102, 32]⟩ : ByteArray) ++ y28)) (fun y29 y30 y31 => if (y31 != 0) = true then (k0 (⟨#[]⟩ : ByteArray) 7) else (zDA_F n (b27.2.1, b27.2.2.1, b27.2.2.2.1, b27.2.2.2.2.1, b27.2.2.2.2.2.1, b27.2.2.2.2.2.2.1, b27.2.2.2.2.2.2.2.1, ()) y29 (fun y32 => if (!y32) = true then (k0 (⟨#[]⟩ : ByteArray) 7) else (k0 (b27.1 ++ ((⟨#[32, 105, 102, 32]⟩ : ByteArray) ++ y28)) 0)))))) else none) else none), ()))) else none) else none)) else none) else none) else none)
def zBG_F {R : Type} := lazyN (@zBG_Fi R)
theorem zBG_e : @zBG_F R = @zBG_Fi R := lazyN_eq _
def zBG_g (n : Nat) : Gx R := typed 1 zBG_d fun x k => zBG_F n x.1 (fun y0 y1 => k (.tu [(.c (.s y0)), (.c (.i .i64 y1))]) [])
def zBG_cs (R : Type) (n : Nat) : List (Nat × Gx R) := [(6, zDK_g n), (10, zDA_g n), (30, zCS_g n), (31, zDD_g n), (32, zBS_g n), (33, zAH_g n), (34, zCK_g n)]
def zBG_lp (n : Nat) : (i : Nat) → (zBG_ds i).D → exK R (zBG_dx i) → Option R
  | 6, a, k => runC (zBG_l6 n) n a k
  | _, _, _ => none
def zBG_cx (R : Type) (n : Nat) : Cx R := ⟨Tryz.prog, Gof (zBG_cs R n), zBG_ds, zBG_dx, zBG_lp n, drawP Tryz.prog (Gof (zBG_cs R n)), false, noJn, noFz⟩
theorem zBG_ok [Esc R] (n : Nat) : Good Tryz.prog 12 (zBG_g (R := R) n) := by
  unfold zBG_g
  rw [zBG_e]
  exact Good.fn (f := 12) (cx := zBG_cx R n) (by kernel_rfl) (AllGood.cons (zDK_ok n) (AllGood.cons (zDA_ok n) (AllGood.cons (zCS_ok n) (AllGood.cons (zDD_ok n) (AllGood.cons (zBS_ok n) (AllGood.cons (zAH_ok n) (AllGood.cons (zCK_ok n) (AllGood.nil)))))))) rfl Tryz.func12 (by kernel_rfl) rfl (by
    have e : fnLoops noJn Tryz.f12 = [((fnLoops noJn Tryz.f12)[0]?).getD (false, .skip)] := by kernel_rfl
    show LoopRuns _ _ (fnLoops noJn _)
    rw [e]
    exact ⟨LoopRun.loop (by kernel_rfl) (i := 6) (m := n) (step := zBG_l6 n) (by kernel_rfl) (fun a k1 k2 => by kernel_rfl) (fun _ _ => rfl), trivial⟩) 1 zBG_d (by kernel_rfl) (fun x k => by kernel_rfl)
@[reducible] def zBK_d : Desc := ⟨[], []⟩
def zBK_Fi (n : Nat) (k0 : Bool → Option R) : Option R :=
  zF_F n (⟨#[100, 101, 110, 121, 32, 100, 40, 32, 97, 32, 41, 105, 102, 32, 104, 40, 32, 97, 32, 41, 44, 97, 60, 51]⟩ : ByteArray) (fun y1 y2 y3 y4 y5 y6 y7 y8 y9 => zBG_F n (y1, y2, y8, y3, y4, y5, y9, ()) (fun y10 y11 => zBG_F n (0, (⟨#[]⟩ : ByteArray), [], 0, (⟨#[]⟩ : ByteArray), 0, [], ()) (fun y12 y13 => if (y7 == 0) = true then (if (y10.toList == (⟨#[100, 101, 110, 121, 32, 100, 40, 97, 41, 32, 105, 102, 32, 104, 40, 97, 41, 44, 32, 97, 32, 60, 32, 51]⟩ : ByteArray).toList) = true then (if (y11 == 0) = true then (if (y13 == 7) = true then (zCR_F n ((⟨#[]⟩ : ByteArray), true, (0, false, 0, (⟨#[]⟩ : ByteArray), ()), ()) (fun y14 => k0 (y14.toList == (⟨#[95]⟩ : ByteArray).toList))) else (k0 false)) else (k0 false)) else (k0 false)) else (k0 false))))
def zBK_F {R : Type} := lazyN (@zBK_Fi R)
theorem zBK_e : @zBK_F R = @zBK_Fi R := lazyN_eq _
def zBK_g (n : Nat) : Gx R := typed 0 zBK_d fun x k => zBK_F n (fun y0 => k (.a (.c (.b y0))) [])
def zBK_cs (R : Type) (n : Nat) : List (Nat × Gx R) := [(8, zF_g n), (12, zBG_g n), (29, zCR_g n)]
def zBK_cx (R : Type) (n : Nat) : Cx R := ⟨Tryz.prog, Gof (zBK_cs R n), noDs, noDx, noLp, drawP Tryz.prog (Gof (zBK_cs R n)), false, noJn, noFz⟩
theorem zBK_ok [Esc R] (n : Nat) : Good Tryz.prog 11 (zBK_g (R := R) n) := by
  unfold zBK_g
  rw [zBK_e]
  exact Good.fn (f := 11) (cx := zBK_cx R n) (by kernel_rfl) (AllGood.cons (zF_ok n) (AllGood.cons (zBG_ok n) (AllGood.cons (zCR_ok n) (AllGood.nil)))) rfl Tryz.func11 (by kernel_rfl) rfl trivial 0 zBK_d (by kernel_rfl) (fun x k => by kernel_rfl)
@[reducible] def zBF_d : Desc := ⟨[(0, .d .str)], []⟩
def zBF_Fi (n : Nat) (a0 : ByteArray) (k0 : Bool → Option R) : Option R :=
  zF_F n a0 (fun y1 y2 y3 y4 y5 y6 y7 y8 y9 => if (y7 != 0) = true then (zBK_F n (fun y10 => k0 y10)) else (zBG_F n (y1, y2, y8, y3, y4, y5, y9, ()) (fun y11 y12 => if (y12 != 0) = true then (if (y12 == 9) = true then (if (y11.toList == (⟨#[]⟩ : ByteArray).toList) = true then (zBK_F n (fun y13 => k0 y13)) else (k0 false)) else (k0 false)) else (zF_F n y11 (fun y14 y15 y16 y17 y18 y19 y20 y21 y22 => zBG_F n (y14, y15, y21, y16, y17, y18, y22, ()) (fun y23 y24 => if (y20 == 0) = true then (zW_F n (y1, y2, y8, y3, y4, y5, y9, ()) (y14, y15, y21, y16, y17, y18, y22, ()) (fun y25 => if y25 = true then (if (y23.toList == y11.toList) = true then (if (y24 == 0) = true then (zBK_F n (fun y26 => k0 y26)) else (k0 false)) else (k0 false)) else (k0 false))) else (k0 false)))))))
def zBF_F {R : Type} := lazyN (@zBF_Fi R)
theorem zBF_e : @zBF_F R = @zBF_Fi R := lazyN_eq _
def zBF_g (n : Nat) : Gx R := typed 1 zBF_d fun x k => zBF_F n x.1 (fun y0 => k (.a (.c (.b y0))) [])
def zBF_cs (R : Type) (n : Nat) : List (Nat × Gx R) := [(8, zF_g n), (9, zW_g n), (11, zBK_g n), (12, zBG_g n)]
def zBF_cx (R : Type) (n : Nat) : Cx R := ⟨Tryz.prog, Gof (zBF_cs R n), noDs, noDx, noLp, drawP Tryz.prog (Gof (zBF_cs R n)), false, noJn, noFz⟩
theorem zBF_ok [Esc R] (n : Nat) : Good Tryz.prog 5 (zBF_g (R := R) n) := by
  unfold zBF_g
  rw [zBF_e]
  exact Good.fn (f := 5) (cx := zBF_cx R n) (by kernel_rfl) (AllGood.cons (zF_ok n) (AllGood.cons (zW_ok n) (AllGood.cons (zBK_ok n) (AllGood.cons (zBG_ok n) (AllGood.nil))))) rfl Tryz.func5 (by kernel_rfl) rfl trivial 1 zBF_d (by kernel_rfl) (fun x k => by kernel_rfl)
end
end Go.Proofs.YtnnbinmomendnaaGreatDoor.E
namespace Go.Proofs.YtnnbinmomendnaaGreatDoor.E
open Go.RowKit
set_option maxRecDepth 100000
def stT (t : ty60.D) : ty60.D := (t.1, t.2.1, t.2.2.1, 0, ())
def sl (l : Toks) : Toks := l.map stT
def zS (s : RS) : RS := (s.1, s.2.1, 0)
theorem sl_len (l : Toks) : (sl l).length = l.length := List.length_map _
theorem tk_sl (l : Toks) (i : Nat) : tk (sl l) i = stT (tk l i) := by
  unfold tk sl
  rw [List.getD_eq_getElem?_getD, List.getD_eq_getElem?_getD, List.getElem?_map]
  cases l[i]? <;> rfl
theorem z_1 (s : RS) : (zS s).1 = s.1 := rfl
theorem z_2 (s : RS) : (zS s).2.1 = s.2.1 := rfl
theorem st_1 (t : ty60.D) : (stT t).1 = t.1 := rfl
theorem st_2 (t : ty60.D) : (stT t).2.1 = t.2.1 := rfl
theorem st_3 (t : ty60.D) : (stT t).2.2.1 = t.2.2.1 := rfl
theorem st_4 (t : ty60.D) : (stT t).2.2.2.1 = 0 := rfl
theorem hFail (e p : Int) (s : RS) : rFail e 0 (zS s) = zS (rFail e p s) := by
  unfold rFail
  rw [z_2]
  split <;> rfl
theorem hAt (l : Toks) (u : RS) : atT (sl l) (zS u) = 0 := by unfold atT; rw [tk_sl]; rfl
theorem hIs (l : Toks) (w : ByteArray) (s : RS) : rIs (sl l) w (zS s) = rIs l w s := by unfold rIs; rw [z_1, z_2, tk_sl, st_1, st_2]
theorem hStep (l : Toks) (s : RS) : rStep (sl l) (zS s) = zS (rStep l s) := by unfold rStep; rw [z_1, sl_len]; rfl
theorem hTake (l : Toks) (w : ByteArray) (s : RS) : rTake (sl l) w (zS s) = ((rTake l w s).1, zS (rTake l w s).2) := by
  unfold rTake
  rw [hIs, hStep]
  split <;> rfl
theorem hMust (l : Toks) (w : ByteArray) (s : RS) : rMust (sl l) w (zS s) = zS (rMust l w s) := by
  unfold rMust
  rw [hTake, tk_sl, st_4, hFail 7 (tk l s.1).2.2.2.1]
  split <;> rfl
theorem hNamed (l : Toks) (s : RS) : rNamed (sl l) (zS s) = rNamed l s := by unfold rNamed isName; rw [z_1, z_2, tk_sl, st_1, st_2]
theorem hName (l : Toks) (s : RS) : rName (sl l) (zS s) = ((rName l s).1, zS (rName l s).2) := by
  unfold rName
  rw [hNamed, hStep, z_1, tk_sl, st_2, st_4, hFail 7 (tk l s.1).2.2.2.1]
  split <;> rfl
theorem hAggI (l : Toks) (s : RS) : rAggI (sl l) (zS s) = rAggI l s := by unfold rAggI; simp only [hIs]
theorem hAgg (l : Toks) (kind : Int) (s : RS) (ag : Int) (of_ : ByteArray) : rAgg (sl l) kind (zS s) ag of_ = ((rAgg l kind s ag of_).1, zS (rAgg l kind s ag of_).2.1, (rAgg l kind s ag of_).2.2) := by
  unfold rAgg
  rw [hAggI, hStep, hName, z_1, tk_sl, st_4, hFail 7 (tk l s.1).2.2.2.1]
  split
  · rfl
  · split
    · rfl
    · split <;> rfl
theorem hHeadL (l : Toks) (kind : Int) : ∀ (f : Nat) (s : RS) (ag : Int) (of_ : ByteArray) (hd : List ByteArray), rHeadL (sl l) kind f (zS s) ag of_ hd = (zS (rHeadL l kind f s ag of_ hd).1, (rHeadL l kind f s ag of_ hd).2)
  | 0, _, _, _, _ => rfl
  | f + 1, s, ag, of_, hd => by
    have e : (if 40 ≤ hd.length then rFail 9 (atT (sl l) (zS s)) (rName (sl l) (zS s)).2 else (rName (sl l) (zS s)).2) = zS (if 40 ≤ hd.length then rFail 9 (atT l s) (rName l s).2 else (rName l s).2) := by
      rw [hAt, hName, hFail 9 (atT l s)]
      split <;> rfl
    unfold rHeadL
    rw [e, hAgg, hTake, hName, z_2]
    generalize (if 40 ≤ hd.length then rFail 9 (atT l s) (rName l s).2 else (rName l s).2) = q
    split
    · split
      · rfl
      · split
        · exact hHeadL l kind f _ _ _ _
        · rfl
    · rfl
theorem hHead (l : Toks) (kind : Int) (s : RS) (ag : Int) (of_ : ByteArray) (hd : List ByteArray) : rHead (sl l) kind (zS s) ag of_ hd = (zS (rHead l kind s ag of_ hd).1, (rHead l kind s ag of_ hd).2) := by
  unfold rHead
  split
  · rw [hName, hMust, hAgg, hAt, hFail 7 (atT l (rAgg l kind (rMust l commaB (rName l s).2) ag of_).2.1)]
    refine Prod.ext ?_ rfl
    show (if _ then _ else _) = zS (if _ then _ else _)
    split <;> rfl
  · exact hHeadL l kind 400 s ag of_ hd
theorem hTerm (l : Toks) (s : RS) : rTerm (sl l) (zS s) = ((rTerm l s).1, zS (rTerm l s).2) := by
  unfold rTerm
  rw [hName, hStep, z_1, z_2, tk_sl, st_1, st_3]
  split <;> rfl
theorem hArg (l : Toks) (s : RS) : rArg (sl l) (zS s) = ((rArg l s).1, zS (rArg l s).2) := by
  unfold rArg
  rw [hIs, hStep, hTerm]
  split <;> rfl
theorem hArgsL (l : Toks) : ∀ (f : Nat) (s : RS) (acc : List ty48.D), rArgsL (sl l) f (zS s) acc = (zS (rArgsL l f s acc).1, (rArgsL l f s acc).2)
  | 0, _, _ => rfl
  | f + 1, s, acc => by
    have e : (if 40 < acc.length + 1 then rFail 9 (atT (sl l) (zS s)) (rArg (sl l) (zS s)).2 else (rArg (sl l) (zS s)).2) = zS (if 40 < acc.length + 1 then rFail 9 (atT l s) (rArg l s).2 else (rArg l s).2) := by
      rw [hAt, hArg, hFail 9 (atT l s)]
      split <;> rfl
    unfold rArgsL
    rw [e, hTake, hArg, z_2, hMust]
    generalize (if 40 < acc.length + 1 then rFail 9 (atT l s) (rArg l s).2 else (rArg l s).2) = q
    split
    · split
      · exact hArgsL l f _ _
      · rfl
    · rfl
theorem hArgs (l : Toks) (s : RS) : rArgs (sl l) (zS s) = (zS (rArgs l s).1, (rArgs l s).2) := by
  unfold rArgs
  rw [hTake]
  split
  · rfl
  · exact hArgsL l 400 _ _
theorem hLone (l : Toks) (p : Int) (s : RS) : rLone (sl l) 0 (zS s) = zS (rLone l p s) := by
  unfold rLone
  rw [hIs, hNamed, z_1, tk_sl, st_1, hFail 9 p, hFail 7 p, hFail 7 p]
  split <;> rfl
theorem hPar (l : Toks) (s : RS) : rPar (sl l) (zS s) = rPar l s := by unfold rPar; rw [z_1, sl_len, tk_sl, st_1, st_2]
theorem hAtomS (l : Toks) (atoms : Int) (not_ : Bool) (p : Int) (s : RS) : rAtomS (sl l) atoms not_ 0 (zS s) = zS (rAtomS l atoms not_ p s) := by
  unfold rAtomS
  rw [hName, hMust, hFail 9 p]
  split <;> rfl
theorem hAtom (l : Toks) (atoms : Int) (not_ : Bool) (p : Int) (s : RS) : rAtom (sl l) atoms not_ 0 (zS s) = ((rAtom l atoms not_ p s).1, zS (rAtom l atoms not_ p s).2) := by
  unfold rAtom
  rw [hAtomS l atoms not_ p s, hArgs, hName]
theorem hCmpS (l : Toks) (s : RS) : rCmpS (sl l) (zS s) = zS (rCmpS l s) := by
  unfold rCmpS
  rw [hAt, z_1, tk_sl, st_1, st_2, hFail 7 (atT l s)]
  split <;> rfl
theorem hCmp (l : Toks) (not_ : Bool) (s : RS) : rCmp (sl l) not_ (zS s) = ((rCmp l not_ s).1, zS (rCmp l not_ s).2) := by
  unfold rCmp
  rw [hTerm, hCmpS, hStep, hTerm, z_1, tk_sl, st_2]
theorem hLit (l : Toks) (atoms : Int) (s : RS) : rLit (sl l) atoms (zS s) = ((rLit l atoms s).1, zS (rLit l atoms s).2) := by
  have e : (if (rTake l notB s).1 = true then rFail 7 0 (zS (rTake l notB s).2) else zS (rTake l notB s).2) = zS (if (rTake l notB s).1 = true then rFail 7 (atT l (rTake l notB s).2) (rTake l notB s).2 else (rTake l notB s).2) := by
    rw [hFail 7 (atT l (rTake l notB s).2)]
    split <;> rfl
  unfold rLit
  rw [hTake, hNamed, hPar, hAt, e, hCmp, hAtom l atoms _ (atT l (rTake l notB s).2)]
  split <;> rfl
theorem hBodySt (l : Toks) (s : RS) (bd : List ty51.D) : bodySt (sl l) (zS s) bd = zS (bodySt l s bd) := by
  unfold bodySt
  rw [hAt, hLone l (atT l s)]
  split <;> rfl
theorem hBodyL (l : Toks) : ∀ (f : Nat) (atoms : Int) (s : RS) (bd : List ty51.D), rBodyL (sl l) f atoms (zS s) bd = (zS (rBodyL l f atoms s bd).1, (rBodyL l f atoms s bd).2)
  | 0, _, _, _ => rfl
  | f + 1, atoms, s, bd => by
    unfold rBodyL
    rw [hBodySt, hLit, hTake, z_2]
    split
    · split
      · exact hBodyL l f _ _ _
      · rfl
    · rfl
theorem hBody (l : Toks) (s : RS) : rBody (sl l) (zS s) = (zS (rBody l s).1, (rBody l s).2) := hBodyL l 400 0 s []
theorem hKind (l : Toks) (s : RS) : rKind (sl l) (zS s) = ((rKind l s).1, zS (rKind l s).2) := by
  unfold rKind
  rw [hTake, hTake, hTake, hAt, hFail 7 (atT l (rTake l quotaB (rTake l viewB (rTake l denyB s).2).2).2)]
  split
  · rfl
  · split
    · rfl
    · split <;> rfl
theorem hLimS (l : Toks) (s : RS) : rLimS (sl l) (zS s) = zS (rLimS l s) := by
  unfold rLimS
  rw [hAt, z_1, z_2, tk_sl, st_1, st_3, hFail 7 (atT l s)]
  split <;> rfl
theorem hLim (l : Toks) (kind : Int) (s : RS) : rLim (sl l) kind (zS s) = ((rLim l kind s).1, zS (rLim l kind s).2) := by
  unfold rLim
  rw [hMust, hLimS, hStep, z_1, tk_sl, st_3]
  split <;> rfl
theorem hEndS (l : Toks) (s : RS) : rEndS (sl l) (zS s) = zS (rEndS l s) := by
  unfold rEndS
  rw [hAt, z_1, tk_sl, st_1, hFail 7 (atT l s)]
  split <;> rfl
def zR (x : RR) : RR := (x.1, x.2.1, x.2.2.1, x.2.2.2.1, x.2.2.2.2.1, 0, x.2.2.2.2.2.2)
theorem hEnd (l : Toks) (kind : Int) (nm : ByteArray) (ag : Int) (of_ : ByteArray) (lim : Int) (hd : List ByteArray) (s : RS) : rEnd (sl l) kind nm ag of_ lim hd (zS s) = zR (rEnd l kind nm ag of_ lim hd s) := by
  unfold rEnd
  rw [hMust, hBody, hEndS, z_2]
  split <;> rfl
theorem hHd (l : Toks) (kind : Int) (s : RS) : rHd (sl l) kind (zS s) = (zS (rHd l kind s).1, (rHd l kind s).2) := by
  unfold rHd
  rw [hName, hMust, hHead]
theorem hRest (l : Toks) (kind : Int) (s : RS) : rRest (sl l) kind (zS s) = zR (rRest l kind s) := by
  unfold rRest
  rw [hHd, hName, hMust, hLim, hEnd]
theorem hTok (l : Toks) : rTok (sl l) = zR (rTok l) := by
  unfold rTok
  rw [show ((0, 0, 0) : RS) = zS (0, 0, 0) from rfl, hKind, hRest]
  rfl
theorem rTok_sl {l l' : Toks} (h : sl l = sl l') : zR (rTok l) = zR (rTok l') := by rw [← hTok, ← hTok, h]
theorem scan_spec (p : Nat → Bool) : ∀ f i, (∀ j, i ≤ j → j < scanN p f i → p j = true) ∧ (scanN p f i = i + f ∨ p (scanN p f i) = false)
  | 0, i => ⟨fun j h1 h2 => by unfold scanN at h2; omega, .inl rfl⟩
  | f + 1, i => by
    unfold scanN
    by_cases h : p i = true
    · rw [if_pos h]
      obtain ⟨a, b⟩ := scan_spec p f (i + 1)
      refine ⟨fun j h1 h2 => ?_, b.imp (fun e => by omega) id⟩
      by_cases e : j = i
      · rw [e]; exact h
      · exact a j (by omega) h2
    · rw [if_neg h]
      exact ⟨fun j h1 h2 => by omega, .inr (by simpa using h)⟩
theorem scan_uniq {p : Nat → Bool} : ∀ {f i j : Nat}, i ≤ j → j ≤ i + f → (∀ q, i ≤ q → q < j → p q = true) → (j = i + f ∨ p j = false) → scanN p f i = j
  | 0, i, j, h1, h2, _, _ => by unfold scanN; omega
  | f + 1, i, j, h1, h2, h3, h4 => by
    unfold scanN
    by_cases e : j = i
    · subst e
      rw [if_neg (by rcases h4 with h | h; (omega); (rw [h]; decide))]
    · rw [if_pos (h3 i (Nat.le_refl _) (by omega))]
      exact scan_uniq (by omega) (by omega) (fun q a b => h3 q (by omega) b) (h4.imp (fun e => by omega) id)
theorem bt_pre {u v : ByteArray} {n : Nat} (h : v.extract 0 n = u.extract 0 n) {j : Nat} (hj : j < n) : bt v j = bt u j := by
  have e : v.data.toList.take n = u.data.toList.take n := by rw [← ext0, ← ext0, h]
  have e2 := congrArg (fun l => l[j]?) e
  simp only [List.getElem?_take, hj, if_true] at e2
  unfold bt
  rw [List.getD_eq_getElem?_getD, List.getD_eq_getElem?_getD, e2]
def sepN (c : Nat) : Bool := decide (c = 32) || decide (c = 10) || decide (c = 40) || decide (c = 41) || decide (c = 44)
theorem sep_no {c : Nat} (h : sepN c = true) : letN c = false ∧ digN c = false ∧ c ≠ 95 ∧ c ≠ 61 := by
  unfold sepN at h
  simp only [Bool.or_eq_true, decide_eq_true_eq] at h
  rcases h with (((h | h) | h) | h) | h <;> subst h <;> decide
def oneN (c : Nat) : Prop := c = 40 ∨ c = 41 ∨ c = 44 ∨ c = 95
def Sepd (c : Nat) (v : ByteArray) (n : Nat) : Prop := v.size = n ∨ sepN (bt v n) = true ∨ oneN c
theorem oneN_no {c : Nat} (h : oneN c) : letN c = false ∧ digN c = false ∧ c ≠ 45 ∧ c ≠ 34 ∧ c ≠ 61 ∧ c ≠ 33 ∧ c ≠ 60 ∧ c ≠ 62 := by
  rcases h with h | h | h | h <;> subst h <;> decide
theorem word_loc {u v : ByteArray} (h0 : 0 < u.size) (hl : letN (bt u 0) = true) (hx : v.extract 0 (wordN u) = u.extract 0 (wordN u)) (hv : wordN u ≤ v.size) (hs : Sepd (bt u 0) v (wordN u)) : wordN v = wordN u := by
  have hr := wordN_rng u h0 hl
  have eq : ∀ q, q < wordN u → wchN v q = wchN u q := fun q hq => by unfold wchN; rw [bt_pre hx hq]
  refine scan_uniq (f := v.size) (Nat.zero_le _) (by omega) (fun q _ hq => ?_) ?_
  · rw [eq q hq]
    exact (scan_spec (wchN u) u.size 0).1 q (Nat.zero_le _) hq
  · rcases hs with h | h | h
    · left; omega
    · right
      obtain ⟨a, b, c, _⟩ := sep_no h
      unfold wchN
      simp [a, b, c]
    · rw [(oneN_no h).1] at hl; cases hl
theorem num_loc {u v : ByteArray} (h0 : 0 < u.size) (hd : digN (bt u 0) = true ∨ bt u 0 = 45) (hx : v.extract 0 (numN u) = u.extract 0 (numN u)) (hv : numN u ≤ v.size) (hs : Sepd (bt u 0) v (numN u)) :
    numN v = numN u ∧ ¬ (numN u < v.size ∧ (letN (bt v (numN u)) = true ∨ bt v (numN u) = 95)) := by
  have hr := numN_rng u h0 hd
  have e0 : bt v 0 = bt u 0 := bt_pre hx (by omega)
  have hn : v.size = numN u ∨ sepN (bt v (numN u)) = true := by
    rcases hs with h | h | h
    · exact .inl h
    · exact .inr h
    · obtain ⟨a, b, c, _⟩ := oneN_no h
      rcases hd with h | h
      · rw [b] at h; cases h
      · exact absurd h c
  refine ⟨?_, ?_⟩
  · have eu : numN u = scanN (fun i => digN (bt u i)) (u.size - (if bt u 0 = 45 then 1 else 0)) (if bt u 0 = 45 then 1 else 0) := rfl
    have ev : numN v = scanN (fun i => digN (bt v i)) (v.size - (if bt u 0 = 45 then 1 else 0)) (if bt u 0 = 45 then 1 else 0) := by unfold numN; rw [e0]
    rw [ev]
    have hk : (if bt u 0 = 45 then 1 else 0) ≤ 1 := by split <;> omega
    generalize (if bt u 0 = 45 then 1 else 0) = k at hk eu
    have hle := scanN_le (fun i => digN (bt u i)) (u.size - k) k
    rw [← eu] at hle
    have sp := scan_spec (fun i => digN (bt u i)) (u.size - k) k
    rw [← eu] at sp
    refine scan_uniq hle.1 (by omega) (fun q h1 h2 => ?_) ?_
    · show digN (bt v q) = true
      rw [bt_pre hx h2]
      exact sp.1 q h1 h2
    · rcases hn with h | h
      · left; omega
      · right; exact (sep_no h).2.1
  · rintro ⟨h1, h2⟩
    rcases hn with h | h
    · omega
    · obtain ⟨a, _, c, _⟩ := sep_no h
      rcases h2 with h2 | h2
      · rw [a] at h2; cases h2
      · exact c h2
theorem text_gt (s : ByteArray) : ∀ f i, textN s f i = 0 ∨ i < textN s f i
  | 0, i => .inl rfl
  | f + 1, i => by
    unfold textN
    split
    · split
      · exact (text_gt s f (i + 2)).imp id (fun h => by omega)
      · split
        · right; omega
        · exact (text_gt s f (i + 1)).imp id (fun h => by omega)
    · exact .inl rfl
theorem text_loc {u v : ByteArray} {m : Nat} (hm : 0 < m) (hb : ∀ j, j < m → bt v j = bt u j) (hv : m ≤ v.size) : ∀ (f f' i : Nat), textN u f i = m → v.size < i + f' → textN v f' i = m
  | 0, _, i, h, _ => by unfold textN at h; omega
  | f + 1, f', i, h, hf => by
    have hi : i < m := by
      have := text_gt u (f + 1) i
      omega
    obtain ⟨f', rfl⟩ : ∃ q, f' = q + 1 := ⟨f' - 1, by omega⟩
    unfold textN at h ⊢
    rw [if_pos (show i < v.size by omega), hb i hi]
    split at h
    · split at h
      · rename_i h1 h2
        rw [if_pos h2]
        exact text_loc hm hb hv f f' (i + 2) h (by omega)
      · rename_i h1 h2
        rw [if_neg h2]
        split at h
        · rename_i h3
          rw [if_pos h3]; exact h
        · rename_i h3
          rw [if_neg h3]
          exact text_loc hm hb hv f f' (i + 1) h (by omega)
    · omega
theorem sign_loc {u v : ByteArray} (h0 : 0 < u.size) (hp : 0 < signN u) (hx : v.extract 0 (signN u) = u.extract 0 (signN u)) (hv : signN u ≤ v.size) (hs : Sepd (bt u 0) v (signN u)) : signN v = signN u := by
  have hle := signN_le u h0
  have e0 : bt v 0 = bt u 0 := bt_pre hx hp
  by_cases h2 : 2 ≤ u.size ∧ bt u 1 = 61 ∧ (bt u 0 = 61 ∨ bt u 0 = 33 ∨ bt u 0 = 60 ∨ bt u 0 = 62)
  · have e : signN u = 2 := by unfold signN; rw [if_pos h2]
    rw [e] at hx hv ⊢
    have e1 : bt v 1 = bt u 1 := bt_pre hx (by omega)
    unfold signN
    rw [e0, e1, if_pos ⟨hv, h2.2⟩]
  · have e : signN u = if bt u 0 = 40 ∨ bt u 0 = 41 ∨ bt u 0 = 44 ∨ bt u 0 = 95 ∨ bt u 0 = 60 ∨ bt u 0 = 62 then 1 else 0 := by unfold signN; rw [if_neg h2]
    have hc : bt u 0 = 40 ∨ bt u 0 = 41 ∨ bt u 0 = 44 ∨ bt u 0 = 95 ∨ bt u 0 = 60 ∨ bt u 0 = 62 := by
      by_cases h : bt u 0 = 40 ∨ bt u 0 = 41 ∨ bt u 0 = 44 ∨ bt u 0 = 95 ∨ bt u 0 = 60 ∨ bt u 0 = 62
      · exact h
      · rw [if_neg h] at e; omega
    rw [if_pos hc] at e
    rw [e] at hs
    unfold signN
    rw [e0, if_neg, if_neg h2]
    rintro ⟨g1, g2, g3⟩
    rcases hs with h | h | h
    · omega
    · exact (sep_no h).2.2.2 g2
    · obtain ⟨_, _, _, _, a, b, c, d⟩ := oneN_no h
      omega
theorem ext_siz {u : ByteArray} {t : ty60.D} {n : Nat} (hn : n ≤ u.size) (h : u.extract 0 n = t.2.1) : t.2.1.size = n := by rw [← h, ext_size u n hn]
theorem oneS_loc {u v : ByteArray} {t : ty60.D} (h0 : 0 < u.size) (h : oneS u = some t) (he : v.extract 0 t.2.1.size = t.2.1) (hv : t.2.1.size ≤ v.size) (hs : Sepd (bt u 0) v t.2.1.size) : oneS v = some t := by
  have hsz := oneS_size h0 h
  have cst : ∀ m, m ≤ u.size → constS u m = some t → t.2.1 = u.extract 0 m ∧ t.2.1.size = m := by
    intro m hm hc
    unfold constS at hc
    split at hc
    · injection hc with hc
      have e : u.extract 0 m = t.2.1 := by rw [← hc]
      exact ⟨e.symm, ext_siz hm e⟩
    · cases hc
  have h' := h
  unfold oneS at h'
  unfold oneS
  split at h'
  · rename_i hl
    have hr := wordN_rng u h0 hl
    have ht : u.extract 0 (wordN u) = t.2.1 := by split at h' <;> (injection h' with h'; rw [← h'])
    have hn := ext_siz hr.2 ht
    rw [hn] at he hv hs
    have hx := he.trans ht.symm
    have hw := word_loc h0 hl hx hv hs
    rw [if_pos (by rw [bt_pre hx (by omega)]; exact hl), hw, hx]
    exact h'
  · rename_i hl
    split at h'
    · rename_i hd
      have hr := numN_rng u h0 hd
      split at h'
      · cases h'
      · obtain ⟨ht, hn⟩ := cst _ hr.2 h'
        rw [hn] at he hv hs
        have hx := he.trans ht
        obtain ⟨hw, hg⟩ := num_loc h0 hd hx hv hs
        have e0 : bt v 0 = bt u 0 := bt_pre hx (by omega)
        rw [e0, if_neg hl, if_pos hd, hw, if_neg hg]
        unfold constS at h' ⊢
        rw [hx]
        exact h'
    · rename_i hd
      split at h'
      · rename_i hq
        split at h'
        · rename_i hp
          obtain ⟨ht, hn⟩ := cst _ (textN_le u _ _) h'
          rw [hn] at he hv hs
          have hx := he.trans ht
          have e0 : bt v 0 = bt u 0 := bt_pre hx hp
          have hw : textN v (v.size + 1) 1 = textN u (u.size + 1) 1 := text_loc hp (fun j hj => bt_pre hx hj) hv (u.size + 1) (v.size + 1) 1 rfl (by omega)
          rw [e0, if_neg hl, if_neg hd, if_pos hq, hw, if_pos hp]
          unfold constS at h' ⊢
          rw [hx]
          exact h'
        · cases h'
      · rename_i hq
        split at h'
        · rename_i hp
          injection h' with h'
          have ht : u.extract 0 (signN u) = t.2.1 := by rw [← h']
          have hn := ext_siz (signN_le u h0) ht
          rw [hn] at he hv hs
          have hx := he.trans ht.symm
          have e0 : bt v 0 = bt u 0 := bt_pre hx hp
          have hw := sign_loc h0 hp hx hv hs
          rw [e0, if_neg hl, if_neg hd, if_neg hq, hw, if_pos hp, hx, h']
        · cases h'
def isBl (c : UInt8) : Prop := c.toNat = 32 ∨ c.toNat = 10
def catL (tr : List UInt8) : List (List UInt8 × ByteArray) → List UInt8
  | [] => tr
  | (g, w) :: r => g ++ (w.data.toList ++ catL tr r)
def Nxt (w : ByteArray) (l : List UInt8) : Prop := l = [] ∨ sepN (l.headD 0).toNat = true ∨ oneN (bt w 0)
def GoodL (tr : List UInt8) : List (List UInt8 × ByteArray) → Toks → Prop
  | [], [] => ∀ b ∈ tr, isBl b
  | (g, w) :: r, t :: m => (∀ b ∈ g, isBl b) ∧ 0 < w.size ∧ oneS w = some (stT t) ∧ t.2.1 = w ∧ Nxt w (catL tr r) ∧ GoodL tr r m
  | _, _ => False
theorem bt_dropl {T : ByteArray} {i : Nat} {l : List UInt8} (h : T.data.toList.drop i = l) (j : Nat) : bt T (i + j) = (l.getD j 0).toNat := by
  unfold bt
  rw [← h, List.getD_eq_getElem?_getD, List.getD_eq_getElem?_getD, List.getElem?_drop]
theorem len_drop {T : ByteArray} {i : Nat} {l : List UInt8} (h : T.data.toList.drop i = l) (hi : i ≤ T.size) : i + l.length = T.size := by
  rw [← h, List.length_drop, ← zDV]; omega
theorem oneS_nb {u : ByteArray} {t : ty60.D} (h : oneS u = some t) : ¬ (bt u 0 = 32 ∨ bt u 0 = 10) := by
  intro hb
  have e : letN (bt u 0) = false ∧ digN (bt u 0) = false ∧ bt u 0 ≠ 45 ∧ bt u 0 ≠ 34 ∧ bt u 0 ≠ 61 ∧ bt u 0 ≠ 33 ∧ bt u 0 ≠ 60 ∧ bt u 0 ≠ 62 ∧ bt u 0 ≠ 40 ∧ bt u 0 ≠ 41 ∧ bt u 0 ≠ 44 ∧ bt u 0 ≠ 95 := by
    rcases hb with hb | hb <;> rw [hb] <;> decide
  obtain ⟨a, b, c, d, e1, e2, e3, e4, e5, e6, e7, e8⟩ := e
  have hs : signN u = 0 := by
    unfold signN
    rw [if_neg (by rintro ⟨_, _, h⟩; omega), if_neg (by omega)]
  unfold oneS at h
  rw [if_neg (by rw [a]; decide), if_neg (by rintro (h | h); (rw [b] at h; cases h); exact c h), if_neg d, hs, if_neg (by decide)] at h
  cases h
theorem drop_app {α : Type} {l a b : List α} {i : Nat} (h : l.drop i = a ++ b) : l.drop (i + a.length) = b := by
  rw [← List.drop_drop, h, List.drop_left]
theorem lexL_cat (T : ByteArray) : ∀ (f : Nat) (tr : List UInt8) (r : List (List UInt8 × ByteArray)) (i : Nat) (acc m : Toks), T.data.toList.drop i = catL tr r → i ≤ T.size → T.size < i + f → GoodL tr r m → ∃ m', lexL T f i acc = .inr (acc ++ m') ∧ sl m' = sl m
  | 0, tr, r, i, acc, m, hd, hi, hf, hg => by omega
  | f + 1, tr, [], i, acc, m, hd, hi, hf, hg => by
    match m, hg with
    | [], hg =>
      unfold lexL
      match tr, hd, hg with
      | [], hd, hg =>
        have := len_drop hd hi
        rw [if_neg (by simp [catL] at this; omega)]
        exact ⟨[], by rw [List.append_nil], rfl⟩
      | b :: tr, hd, hg =>
        have hl := len_drop hd hi
        simp only [catL, List.length_cons] at hl
        have hb : bt T i = b.toNat := bt_dropl hd 0
        have hb2 : isBl b := hg b (List.mem_cons_self ..)
        rw [if_pos (by omega), if_pos (by rw [hb]; exact hb2)]
        exact lexL_cat T f tr [] (i + 1) acc [] (drop_app (a := [b]) hd) (by omega) (by omega) (fun x hx => hg x (List.mem_cons_of_mem _ hx))
  | f + 1, tr, ((b :: g), w) :: r, i, acc, m, hd, hi, hf, hg => by
    match m, hg with
    | t :: m, ⟨h1, h2, h3, h4, h5, h6⟩ =>
      have hl := len_drop hd hi
      simp only [catL, List.length_cons, List.length_append, List.cons_append] at hl
      have hb : bt T i = b.toNat := bt_dropl hd 0
      have hb2 : isBl b := h1 b (List.mem_cons_self ..)
      unfold lexL
      rw [if_pos (by omega), if_pos (by rw [hb]; exact hb2)]
      exact lexL_cat T f tr ((g, w) :: r) (i + 1) acc (t :: m) (drop_app (a := [b]) hd) (by omega) (by omega) ⟨fun x hx => h1 x (List.mem_cons_of_mem _ hx), h2, h3, h4, h5, h6⟩
  | f + 1, tr, ([], w) :: r, i, acc, m, hd, hi, hf, hg => by
    match m, hg with
    | t :: m, ⟨h1, h2, h3, h4, h5, h6⟩ =>
      have hd' : T.data.toList.drop i = w.data.toList ++ catL tr r := hd
      have hl := len_drop hd' hi
      rw [List.length_append, ← zDV] at hl
      have hz : (T.extract i T.size).size = T.size - i := by rw [ByteArray.size_extract]; omega
      have hv : (T.extract i T.size).data.toList = w.data.toList ++ catL tr r := by
        rw [← hd']
        simp only [ByteArray.data_extract, Array.toList_extract, List.extract_eq_take_drop]
        rw [List.take_of_length_le]
        rw [List.length_drop, ← zDV]
        exact Nat.le_refl _
      have hb0 : bt T i = bt w 0 := by
        have := bt_dropl hd' 0
        rw [Nat.add_zero] at this
        rw [this]
        unfold bt
        rw [List.getD_eq_getElem?_getD, List.getD_eq_getElem?_getD, List.getElem?_append_left (by rw [← zDV]; exact h2)]
      have hx : (T.extract i T.size).extract 0 w.size = w := by
        apply ba_eq
        rw [ext0, hv, List.take_append_of_le_length (by rw [← zDV]; exact Nat.le_refl _), List.take_of_length_le (by rw [← zDV]; exact Nat.le_refl _)]
      have hs : Sepd (bt w 0) (T.extract i T.size) w.size := by
        rcases h5 with h | h | h
        · left; rw [hz]; rw [h] at hl; simp at hl; omega
        · right; left
          have : bt (T.extract i T.size) w.size = ((catL tr r).headD 0).toNat := by
            unfold bt
            rw [hv, List.getD_eq_getElem?_getD, List.getElem?_append_right (by rw [← zDV]; exact Nat.le_refl _), ← zDV, Nat.sub_self]
            cases catL tr r <;> rfl
          rw [this]; exact h
        · right; right; exact h
      have ht : (stT t).2.1 = w := h4
      have ho : oneS (T.extract i T.size) = some (stT t) := oneS_loc h2 h3 (by rw [ht]; exact hx) (by rw [ht, hz]; omega) (by rw [ht]; exact hs)
      unfold lexL
      rw [if_pos (by omega), if_neg (by rw [hb0]; exact oneS_nb h3), ho]
      show ∃ m', lexL T f (i + (stT t).2.1.size) (acc ++ [((stT t).1, (stT t).2.1, (stT t).2.2.1, (i : Int), ())]) = _ ∧ _
      rw [ht]
      have hnx : T.data.toList.drop (i + w.size) = catL tr r := by rw [zDV]; exact drop_app hd'
      obtain ⟨m', g1, g2⟩ := lexL_cat T f tr r (i + w.size) (acc ++ [((stT t).1, w, (stT t).2.2.1, (i : Int), ())]) m hnx (by omega) (by omega) h6
      refine ⟨((stT t).1, w, (stT t).2.2.1, (i : Int), ()) :: m', by rw [g1]; simp, ?_⟩
      show stT _ :: sl m' = stT t :: sl m
      rw [g2]
      congr 1
      show ((stT t).1, w, (stT t).2.2.1, (0 : Int), ()) = stT t
      rw [← h4]
      rfl
theorem lexS_cat {T : ByteArray} {tr : List UInt8} {r : List (List UInt8 × ByteArray)} {m : Toks} (h : T.size ≤ 300) (hd : T.data.toList = catL tr r) (hg : GoodL tr r m) : ∃ m', lexS T = (0, 0, m' ++ [endT T]) ∧ sl m' = sl m := by
  obtain ⟨m', h1, h2⟩ := lexL_cat T (T.size + 1) tr r 0 [] m (by rw [List.drop_zero]; exact hd) (Nat.zero_le _) (by omega) hg
  refine ⟨m', ?_, h2⟩
  unfold lexS
  rw [if_neg (by omega), h1]
  rfl
theorem oneS_self {u : ByteArray} {t : ty60.D} (h0 : 0 < u.size) (h : oneS u = some t) (ht : t.2.1 = u.extract 0 t.2.1.size) : oneS t.2.1 = some t := by
  refine oneS_loc h0 h ?_ (Nat.le_refl _) (.inl rfl)
  apply ba_eq
  rw [ext0, List.take_of_length_le (by rw [← zDV]; exact Nat.le_refl _)]
theorem oneS_0 {u : ByteArray} {t : ty60.D} (h : oneS u = some t) : t.2.2.2 = (0, ()) ∧ ∃ m, t.2.1 = u.extract 0 m := by
  have fin : ∀ (k : Int) (x : ty46.D) (m : Nat), (k, u.extract 0 m, x, (0 : Int), ()) = t → t.2.2.2 = (0, ()) ∧ ∃ m, t.2.1 = u.extract 0 m := by
    rintro k x m rfl
    exact ⟨rfl, m, rfl⟩
  have cst : ∀ m, constS u m = some t → t.2.2.2 = (0, ()) ∧ ∃ m, t.2.1 = u.extract 0 m := by
    intro m hc
    unfold constS at hc
    split at hc
    · injection hc with hc
      exact fin _ _ m hc
    · cases hc
  unfold oneS at h
  split at h
  · split at h <;> (injection h with h; exact fin _ _ _ h)
  · split at h
    · split at h
      · cases h
      · exact cst _ h
    · split at h
      · split at h
        · exact cst _ h
        · cases h
      · split at h
        · injection h with h
          exact fin _ _ _ h
        · cases h
theorem ext_self {u v : ByteArray} {m : Nat} (h : v = u.extract 0 m) : v = u.extract 0 v.size := by
  apply ba_eq
  rw [h, ext0, ext0, zDV, ext0, List.length_take]
  by_cases hm : m ≤ u.data.toList.length
  · rw [Nat.min_eq_left hm]
  · rw [Nat.min_eq_right (by omega), List.take_of_length_le (by omega), List.take_of_length_le (Nat.le_refl _)]
def SelfT (n : Nat) (t : ty60.D) : Prop := 0 < t.2.1.size ∧ t.2.1.size ≤ n ∧ oneS t.2.1 = some (stT t)
theorem lexL_self (s : ByteArray) : ∀ (f i : Nat) (l l' : Toks), i ≤ s.size → lexL s f i l = .inr l' → (∀ t ∈ l, SelfT s.size t) → ∀ t ∈ l', SelfT s.size t
  | 0, i, l, l', hi, h, hl => by
    rw [lexL] at h
    injection h with h
    rw [← h]; exact hl
  | f + 1, i, l, l', hi, h, hl => by
    rw [lexL] at h
    split at h
    · rename_i hlt
      split at h
      · exact lexL_self s f (i + 1) l l' (by omega) h hl
      · split at h
        · cases h
        · rename_i t ho
          have hz : (s.extract i s.size).size = s.size - i := by rw [ByteArray.size_extract]; omega
          have hsz := oneS_size (s := s.extract i s.size) (by omega) ho
          rw [hz] at hsz
          obtain ⟨h0, m, hm⟩ := oneS_0 ho
          refine lexL_self s f (i + t.2.1.size) _ l' (by omega) h fun x hx => ?_
          rcases List.mem_append.1 hx with hx | hx
          · exact hl x hx
          · rw [List.mem_singleton] at hx
            subst hx
            refine ⟨hsz.1, by show t.2.1.size ≤ _; omega, ?_⟩
            show oneS t.2.1 = some (t.1, t.2.1, t.2.2.1, 0, ())
            rw [oneS_self (by omega) ho (ext_self hm)]
            obtain ⟨a, b, c, d⟩ := t
            simp only at h0
            rw [h0]
    · injection h with h
      rw [← h]; exact hl
theorem lexS_self {s : ByteArray} (h : (lexS s).2.1 = 0) : ∃ m, (lexS s).2.2 = m ++ [endT s] ∧ m.length ≤ s.size ∧ ∀ t ∈ m, SelfT s.size t := by
  unfold lexS at h ⊢
  split at h
  · cases h
  · rename_i hs
    rw [if_neg hs]
    split at h
    · cases h
    · rename_i l hl
      exact ⟨l, rfl, lexL_len s _ _ _ _ (Nat.zero_le _) (by simp) hl, lexL_self s _ _ _ _ (Nat.zero_le _) hl (by simp)⟩
end Go.Proofs.YtnnbinmomendnaaGreatDoor.E
namespace Go.Proofs.YtnnbinmomendnaaGreatDoor.E
open Go.RowKit
set_option maxRecDepth 100000
abbrev Ws := List (List UInt8 × ByteArray)
def mp (r : Ws) : List ByteArray := r.map Prod.snd
theorem mp_app (a b : Ws) : mp (a ++ b) = mp a ++ mp b := List.map_append
def sp : Ws → Ws
  | [] => []
  | (_, w) :: r => ([32], w) :: r
theorem mp_sp (r : Ws) : mp (sp r) = mp r := by cases r <;> rfl
def sepP : List Ws → Ws
  | [] => []
  | [x] => x
  | x :: y :: r => x ++ ([], commaB) :: sp (sepP (y :: r))
theorem mp_sepP (x : Ws) {L : List Ws} (h : L ≠ []) : mp (sepP (x :: L)) = mp x ++ commaB :: mp (sepP L) := by
  match L, h with
  | y :: r, _ =>
    show mp (x ++ ([], commaB) :: sp (sepP (y :: r))) = _
    rw [mp_app]
    show mp x ++ commaB :: mp (sp (sepP (y :: r))) = _
    rw [mp_sp]
def nmP (w : ByteArray) : Ws := [([], w)]
def aggP (ag : Int) (of_ : ByteArray) : Ws := ([], aggW.getD ag.toNat ByteArray.empty) :: (if 1 < ag then [([32], of_)] else [])
def headI (hd : List ByteArray) (ag : Int) (of_ : ByteArray) : List Ws := hd.map nmP ++ (if ag = 0 then [] else [aggP ag of_])
def tmW (t : ty48.D) : ByteArray := if t.2.1 = true then anyB else if t.1 ≠ (⟨#[]⟩ : ByteArray) then t.1 else showS t.2.2.1
def tmI (ts : List ty48.D) : List Ws := ts.map fun t => nmP (tmW t)
def litP (x : ty51.D) : Ws :=
  if x.2.2.2.1 ≠ 0 then [([], tmW (x.2.2.1.getD 0 (Ty.z ty48))), ([32], sgnP x.2.2.2.1), ([32], tmW (x.2.2.1.getD 1 (Ty.z ty48)))]
  else (if x.1 = true then ([], notB) :: [([32], x.2.1)] else [([], x.2.1)]) ++ ([], lparB) :: (sepP (tmI x.2.2.1) ++ [([], rparB)])
def kindW (k : Int) : ByteArray := if k = 1 then denyB else if k = 2 then viewB else quotaB
def ruleW (x : ty25.D) : Ws :=
  ([], kindW x.1) :: ([32], x.2.1) :: ([], lparB) :: (sepP (headI x.2.2.1 x.2.2.2.1 x.2.2.2.2.1) ++ ([], rparB) :: ((if x.1 = 3 then [([32], limitB), ([32], fmtB x.2.2.2.2.2.1)] else []) ++ ([32], ifB) :: sp (sepP (x.2.2.2.2.2.2.1.map litP))))
def tx (l : Toks) : List ByteArray := l.map fun t => t.2.1
def Eat (l : Toks) (s s' : RS) (ws : List ByteArray) : Prop := (tx l).drop s.1 = ws ++ (tx l).drop s'.1
variable {l : Toks}
theorem Eat.app {s s1 s2 : RS} {u v : List ByteArray} (a : Eat l s s1 u) (b : Eat l s1 s2 v) : Eat l s s2 (u ++ v) := by
  unfold Eat at *
  rw [a, b, List.append_assoc]
theorem eat_step (ho : TOk l) {s : RS} (h : s.1 < l.length) (h4 : (tk l s.1).1 ≠ 4) : Eat l s (rStep l s) [(tk l s.1).2.1] := by
  unfold Eat
  rw [rStep_on ho h h4]
  have hl : s.1 < (tx l).length := by unfold tx; rw [List.length_map]; exact h
  rw [List.drop_eq_getElem_cons hl]
  have e : (tx l)[s.1] = (tk l s.1).2.1 := by
    have e2 : (tx l)[s.1]? = some (tk l s.1).2.1 := by
      unfold tx tk
      rw [List.getElem?_map, List.getD_eq_getElem?_getD, List.getElem?_eq_getElem h]
      rfl
    exact Option.some.inj ((List.getElem?_eq_getElem hl).symm.trans e2)
  rw [e]
  rfl
theorem zEV (ho : TOk l) {w : ByteArray} {s : RS} (h : s.1 < l.length) (ht : (rTake l w s).1 = true) : s.2.1 = 0 ∧ (rTake l w s).2.2.1 = 0 ∧ Eat l s (rTake l w s).2 [w] := by
  by_cases hi : rIs l w s = true
  · have e : rTake l w s = (true, rStep l s) := by unfold rTake; rw [if_pos hi]
    rw [e]
    have h4 := rIs_on hi
    unfold rIs at hi
    simp only [Bool.and_eq_true, Bool.or_eq_true, decide_eq_true_eq] at hi
    refine ⟨hi.1, hi.1, ?_⟩
    have := eat_step ho h h4
    rw [hi.2.2] at this
    exact this
  · unfold rTake at ht
    rw [if_neg hi] at ht
    cases ht
theorem take_no {w : ByteArray} {s : RS} (ht : ¬ (rTake l w s).1 = true) : rTake l w s = (false, s) := by
  unfold rTake at ht ⊢
  by_cases hi : rIs l w s = true
  · rw [if_pos hi] at ht; exact absurd rfl ht
  · rw [if_neg hi]
theorem fail_no {e p : Int} {s : RS} (he : e ≠ 0) (h : (rFail e p s).2.1 = 0) : False := by
  unfold rFail at h
  split at h
  · exact he h
  · rename_i g; exact g h
theorem eat_must (ho : TOk l) {w : ByteArray} {s : RS} (h : s.1 < l.length) (hk : (rMust l w s).2.1 = 0) : s.2.1 = 0 ∧ Eat l s (rMust l w s) [w] := by
  unfold rMust at hk ⊢
  by_cases ht : (rTake l w s).1 = true
  · rw [if_pos ht]
    exact ⟨(zEV ho h ht).1, (zEV ho h ht).2.2⟩
  · rw [if_neg ht] at hk
    exact (fail_no (by decide) hk).elim
theorem eat_name (ho : TOk l) {s : RS} (h : s.1 < l.length) (hk : (rName l s).2.2.1 = 0) : s.2.1 = 0 ∧ Eat l s (rName l s).2 [(rName l s).1] ∧ isName (tk l s.1) = true ∧ (rName l s).1 = (tk l s.1).2.1 := by
  by_cases hn : rNamed l s = true
  · have e : rName l s = ((tk l s.1).2.1, rStep l s) := by unfold rName; rw [if_pos hn]
    rw [e]
    have h1 := rNamed_on hn
    have := eat_step ho h (by rw [h1]; decide)
    unfold rNamed at hn
    simp only [Bool.and_eq_true, decide_eq_true_eq] at hn
    exact ⟨hn.1, this, hn.2, rfl⟩
  · unfold rName at hk
    rw [if_neg hn] at hk
    exact (fail_no (by decide) hk).elim
theorem rAggI_is {s : RS} (h : rAggI l s ≠ 0) : rIs l (aggW.getD (rAggI l s) ByteArray.empty) s = true ∧ rAggI l s ≤ 4 := by
  unfold rAggI at h ⊢
  by_cases h1 : rIs l (aggW.getD 1 ByteArray.empty) s = true
  · rw [if_pos h1]; exact ⟨h1, by decide⟩
  · rw [if_neg h1] at h ⊢
    by_cases h2 : rIs l (aggW.getD 2 ByteArray.empty) s = true
    · rw [if_pos h2]; exact ⟨h2, by decide⟩
    · rw [if_neg h2] at h ⊢
      by_cases h3 : rIs l (aggW.getD 3 ByteArray.empty) s = true
      · rw [if_pos h3]; exact ⟨h3, by decide⟩
      · rw [if_neg h3] at h ⊢
        by_cases h4 : rIs l (aggW.getD 4 ByteArray.empty) s = true
        · rw [if_pos h4]; exact ⟨h4, by decide⟩
        · rw [if_neg h4] at h; exact absurd rfl h
theorem eat_agg (ho : TOk l) {kind ag : Int} {of_ : ByteArray} {s : RS} (h : s.1 < l.length) (hb : (rAgg l kind s ag of_).1 = true) (hk : (rAgg l kind s ag of_).2.1.2.1 = 0) :
    s.2.1 = 0 ∧ 1 ≤ (rAgg l kind s ag of_).2.2.1 ∧ (rAgg l kind s ag of_).2.2.1 ≤ 4 ∧ Eat l s (rAgg l kind s ag of_).2.1 (mp (aggP (rAgg l kind s ag of_).2.2.1 (rAgg l kind s ag of_).2.2.2)) := by
  unfold rAgg at hb hk ⊢
  by_cases h0 : rAggI l s = 0
  · rw [if_pos h0] at hb; cases hb
  · rw [if_neg h0] at hk ⊢
    obtain ⟨hi, h4⟩ := rAggI_is h0
    have et : rTake l (aggW.getD (rAggI l s) ByteArray.empty) s = (true, rStep l s) := by unfold rTake; rw [if_pos hi]
    have et2 := zEV ho (w := aggW.getD (rAggI l s) ByteArray.empty) h (by rw [et])
    rw [et] at et2
    by_cases hw : kind = 1 ∨ kind = 3 ∧ 2 < rAggI l s
    · rw [if_pos hw] at hk
      exact (fail_no (by decide) hk).elim
    · rw [if_neg hw] at hk ⊢
      by_cases h1 : 1 < rAggI l s
      · rw [if_pos h1] at hk ⊢
        have hn := eat_name ho (zDZ h) hk
        refine ⟨et2.1, by show (1 : Int) ≤ (rAggI l s : Int); omega, by show (rAggI l s : Int) ≤ 4; omega, ?_⟩
        have := et2.2.2.app hn.2.1
        have hgt : (1 : Int) < (rAggI l s : Int) := by omega
        unfold aggP
        rw [if_pos hgt, Int.toNat_natCast]
        exact this
      · rw [if_neg h1] at hk ⊢
        refine ⟨et2.1, by show (1 : Int) ≤ (rAggI l s : Int); omega, by show (rAggI l s : Int) ≤ 4; omega, ?_⟩
        have hgt : ¬ (1 : Int) < (rAggI l s : Int) := by omega
        unfold aggP
        rw [if_neg hgt, Int.toNat_natCast]
        exact et2.2.2
theorem if_fail {c : Prop} [Decidable c] {e p : Int} {s : RS} (he : e ≠ 0) (h : (if c then rFail e p s else s).2.1 = 0) : (if c then rFail e p s else s) = s ∧ s.2.1 = 0 := by
  by_cases hc : c
  · rw [if_pos hc] at h; exact (fail_no he h).elim
  · rw [if_neg hc] at h ⊢; exact ⟨rfl, h⟩
theorem headI_cons (n : ByteArray) (nm : List ByteArray) (ag : Int) (of_ : ByteArray) : headI (n :: nm) ag of_ = nmP n :: headI nm ag of_ := rfl
theorem eat_headL (ho : TOk l) (kind : Int) : ∀ (f : Nat) (s : RS) (of_ : ByteArray) (hd : List ByteArray), s.1 < l.length → l.length ≤ s.1 + f → (rHeadL l kind f s 0 of_ hd).1.2.1 = 0 →
    s.2.1 = 0 ∧ ∃ nm, (rHeadL l kind f s 0 of_ hd).2.2.2 = hd ++ nm ∧ headI nm (rHeadL l kind f s 0 of_ hd).2.1 (rHeadL l kind f s 0 of_ hd).2.2.1 ≠ [] ∧ 0 ≤ (rHeadL l kind f s 0 of_ hd).2.1 ∧ (rHeadL l kind f s 0 of_ hd).2.1 ≤ 4 ∧
      Eat l s (rHeadL l kind f s 0 of_ hd).1 (mp (sepP (headI nm (rHeadL l kind f s 0 of_ hd).2.1 (rHeadL l kind f s 0 of_ hd).2.2.1)))
  | 0, s, of_, hd, h, hf, hk => by omega
  | f + 1, s, of_, hd, h, hf, hk => by
    unfold rHeadL at hk ⊢
    by_cases h0 : s.2.1 = 0
    · refine ⟨h0, ?_⟩
      rw [if_pos h0] at hk ⊢
      by_cases hb : (rAgg l kind s 0 of_).1 = true
      · rw [if_pos hb] at hk ⊢
        obtain ⟨_, g1, g2, g3⟩ := eat_agg ho h hb hk
        have e : headI [] (rAgg l kind s 0 of_).2.2.1 (rAgg l kind s 0 of_).2.2.2 = [aggP (rAgg l kind s 0 of_).2.2.1 (rAgg l kind s 0 of_).2.2.2] := by
          unfold headI
          rw [if_neg (by omega)]
          rfl
        refine ⟨[], (List.append_nil _).symm, ?_, by show (0 : Int) ≤ (rAgg l kind s 0 of_).2.2.1; omega, g2, ?_⟩
        · show headI [] (rAgg l kind s 0 of_).2.2.1 (rAgg l kind s 0 of_).2.2.2 ≠ []
          rw [e]; simp
        · show Eat l s (rAgg l kind s 0 of_).2.1 (mp (sepP (headI [] (rAgg l kind s 0 of_).2.2.1 (rAgg l kind s 0 of_).2.2.2)))
          rw [e]
          exact g3
      · rw [if_neg hb] at hk ⊢
        obtain ⟨q, hq⟩ : ∃ q, (if 40 ≤ hd.length then rFail 9 (atT l s) (rName l s).2 else (rName l s).2) = q := ⟨_, rfl⟩
        rw [hq] at hk ⊢
        by_cases ht : (rTake l commaB q).1 = true
        · rw [if_pos ht] at hk ⊢
          have hq0 : q.2.1 = 0 := by
            by_cases g : q.2.1 = 0
            · exact g
            · rw [zEW g] at ht; cases ht
          obtain ⟨e1, e2⟩ := if_fail (by decide) (hq ▸ hq0 : (if 40 ≤ hd.length then rFail 9 (atT l s) (rName l s).2 else (rName l s).2).2.1 = 0)
          have hqe : q = (rName l s).2 := hq.symm.trans e1
          subst hqe
          have hn := eat_name ho h e2
          have hlt := zDX h
          have ht2 := zEV ho hlt ht
          have hon := rTake_on ho hlt ht
          have hge := rName_ge l s
          obtain ⟨_, nm, r1, r2, r3, r4, r5⟩ := eat_headL ho kind f (rTake l commaB (rName l s).2).2 of_ (hd ++ [(rName l s).1]) (zDR _ hlt) (by omega) hk
          refine ⟨(rName l s).1 :: nm, by rw [r1]; simp, by rw [headI_cons]; simp, r3, r4, ?_⟩
          rw [headI_cons, mp_sepP _ r2]
          exact (hn.2.1.app ht2.2.2).app r5
        · rw [if_neg ht] at hk ⊢
          rw [take_no ht] at hk ⊢
          obtain ⟨e1, e2⟩ := if_fail (by decide) (hq ▸ hk : (if 40 ≤ hd.length then rFail 9 (atT l s) (rName l s).2 else (rName l s).2).2.1 = 0)
          have hqe : q = (rName l s).2 := hq.symm.trans e1
          subst hqe
          have hn := eat_name ho h e2
          refine ⟨[(rName l s).1], rfl, by rw [headI_cons]; simp, Int.le_refl _, by show (0 : Int) ≤ 4; decide, ?_⟩
          exact hn.2.1
    · rw [if_neg h0] at hk
      exact absurd hk h0
theorem eat_head (ho : TOk l) (kind : Int) (s : RS) (of_ : ByteArray) (h : s.1 < l.length) (hk : (rHead l kind s 0 of_ []).1.2.1 = 0) :
    s.2.1 = 0 ∧ 0 ≤ (rHead l kind s 0 of_ []).2.1 ∧ (rHead l kind s 0 of_ []).2.1 ≤ 4 ∧ Eat l s (rHead l kind s 0 of_ []).1 (mp (sepP (headI (rHead l kind s 0 of_ []).2.2.2 (rHead l kind s 0 of_ []).2.1 (rHead l kind s 0 of_ []).2.2.1))) := by
  unfold rHead at hk ⊢
  by_cases h3 : kind = 3
  · rw [if_pos h3] at hk ⊢
    by_cases hb : (rAgg l kind (rMust l commaB (rName l s).2) 0 of_).1 = true
    · simp only [if_pos hb] at hk ⊢
      have hlt := zDX h
      have hlt2 := zDS commaB hlt
      obtain ⟨g0, g1, g2, g3⟩ := eat_agg ho hlt2 hb hk
      have hm := eat_must ho hlt g0
      have hn := eat_name ho h hm.1
      refine ⟨hn.1, by omega, g2, ?_⟩
      have e : headI ([] ++ [(rName l s).1]) (rAgg l kind (rMust l commaB (rName l s).2) 0 of_).2.2.1 (rAgg l kind (rMust l commaB (rName l s).2) 0 of_).2.2.2 = [nmP (rName l s).1, aggP (rAgg l kind (rMust l commaB (rName l s).2) 0 of_).2.2.1 (rAgg l kind (rMust l commaB (rName l s).2) 0 of_).2.2.2] := by
        unfold headI
        rw [if_neg (by omega)]
        rfl
      rw [e, mp_sepP _ (by simp)]
      exact (hn.2.1.app hm.2).app g3
    · simp only [if_neg hb] at hk
      exact (fail_no (by decide) hk).elim
  · rw [if_neg h3] at hk ⊢
    have hlen := ho.len
    obtain ⟨g0, nm, g1, _, g3, g4, g5⟩ := eat_headL ho kind 400 s of_ [] h (by omega) hk
    rw [g1]
    exact ⟨g0, g3, g4, g5⟩
end Go.Proofs.YtnnbinmomendnaaGreatDoor.E
namespace Go.Proofs.YtnnbinmomendnaaGreatDoor.E
open Go.RowKit
set_option maxRecDepth 100000
structure TW (l : Toks) : Prop where
  ok : TOk l
  val : ∀ i, i < l.length → (tk l i).1 = 2 → isW (tk l i).2.1 (tk l i).2.2.1
variable {l : Toks}
def TmOk (t : ty48.D) : Prop := inR t.2.2.1.2.2.1
theorem name_ne {t : ty60.D} (h : isName t = true) : t.2.1 ≠ (⟨#[]⟩ : ByteArray) := by
  unfold isName nameS at h
  simp only [Bool.and_eq_true, decide_eq_true_eq] at h
  exact ne_nil h.2.1.1
theorem inR0' : inR zV.2.2.1 := inR0
theorem eat_term (ho : TW l) {s : RS} (h : s.1 < l.length) (hk : (rTerm l s).2.2.1 = 0) : s.2.1 = 0 ∧ Eat l s (rTerm l s).2 [tmW (rTerm l s).1] ∧ TmOk (rTerm l s).1 := by
  unfold rTerm at hk ⊢
  by_cases hc : s.2.1 = 0 ∧ (tk l s.1).1 = 2
  · rw [if_pos hc]
    have hv := ho.val s.1 h hc.2
    have he := eat_step ho.ok h (by rw [hc.2]; decide)
    refine ⟨hc.1, ?_, hv.2.1⟩
    have e : tmW ((⟨#[]⟩ : ByteArray), false, (tk l s.1).2.2.1, ()) = (tk l s.1).2.1 := by
      unfold tmW
      rw [if_neg (show ¬ (false = true) by decide), if_neg (by simp)]
      exact hv.2.2
    rw [e]
    exact he
  · rw [if_neg hc] at hk ⊢
    obtain ⟨g0, g1, g2, g3⟩ := eat_name ho.ok h hk
    refine ⟨g0, ?_, inR0'⟩
    have e : tmW ((rName l s).1, false, zV, ()) = (rName l s).1 := by
      unfold tmW
      rw [if_neg (show ¬ (false = true) by decide), if_pos (by show (rName l s).1 ≠ _; rw [g3]; exact name_ne g2)]
    rw [e]
    exact g1
theorem eat_arg (ho : TW l) {s : RS} (h : s.1 < l.length) (hk : (rArg l s).2.2.1 = 0) : s.2.1 = 0 ∧ Eat l s (rArg l s).2 [tmW (rArg l s).1] ∧ TmOk (rArg l s).1 := by
  unfold rArg at hk ⊢
  by_cases hi : rIs l anyB s = true
  · rw [if_pos hi]
    have et : rTake l anyB s = (true, rStep l s) := by unfold rTake; rw [if_pos hi]
    have et2 := zEV ho.ok (w := anyB) h (by rw [et])
    rw [et] at et2
    exact ⟨et2.1, et2.2.2, inR0'⟩
  · rw [if_neg hi] at hk ⊢
    exact eat_term ho h hk
theorem tmI_cons (t : ty48.D) (ts : List ty48.D) : tmI (t :: ts) = nmP (tmW t) :: tmI ts := rfl
theorem eat_argsL (ho : TW l) : ∀ (f : Nat) (s : RS) (acc : List ty48.D), s.1 < l.length → l.length ≤ s.1 + f → (rArgsL l f s acc).1.2.1 = 0 →
    s.2.1 = 0 ∧ ∃ ts, (rArgsL l f s acc).2 = acc ++ ts ∧ ts ≠ [] ∧ (∀ t ∈ ts, TmOk t) ∧ Eat l s (rArgsL l f s acc).1 (mp (sepP (tmI ts)) ++ [rparB])
  | 0, s, acc, h, hf, hk => by omega
  | f + 1, s, acc, h, hf, hk => by
    unfold rArgsL at hk ⊢
    by_cases h0 : s.2.1 = 0
    · refine ⟨h0, ?_⟩
      rw [if_pos h0] at hk ⊢
      obtain ⟨q, hq⟩ : ∃ q, (if 40 < acc.length + 1 then rFail 9 (atT l s) (rArg l s).2 else (rArg l s).2) = q := ⟨_, rfl⟩
      rw [hq] at hk ⊢
      by_cases ht : (rTake l commaB q).1 = true
      · rw [if_pos ht] at hk ⊢
        have hq0 : q.2.1 = 0 := by
          by_cases g : q.2.1 = 0
          · exact g
          · rw [zEW g] at ht; cases ht
        obtain ⟨e1, e2⟩ := if_fail (by decide) (hq ▸ hq0 : (if 40 < acc.length + 1 then rFail 9 (atT l s) (rArg l s).2 else (rArg l s).2).2.1 = 0)
        have hqe : q = (rArg l s).2 := hq.symm.trans e1
        subst hqe
        have hn := eat_arg ho h e2
        have hlt := rArg_lt h
        have ht2 := zEV ho.ok hlt ht
        have hon := rTake_on ho.ok hlt ht
        have hge := rArg_ge l s
        obtain ⟨_, ts, r1, r2, r3, r4⟩ := eat_argsL ho f (rTake l commaB (rArg l s).2).2 (acc ++ [(rArg l s).1]) (zDR _ hlt) (by omega) hk
        refine ⟨(rArg l s).1 :: ts, by rw [r1]; simp, by simp, fun t ht => ?_, ?_⟩
        · rcases List.mem_cons.1 ht with e | e
          · rw [e]; exact hn.2.2
          · exact r3 t e
        · rw [tmI_cons, mp_sepP _ (by cases ts; exact absurd rfl r2; exact List.cons_ne_nil _ _)]
          have := (hn.2.1.app ht2.2.2).app r4
          simpa [mp, nmP] using this
      · rw [if_neg ht] at hk ⊢
        rw [take_no ht] at hk ⊢
        have hqlt : q.1 < l.length := by
          rw [← hq]
          split
          · exact zDW _ _ (rArg_lt h)
          · exact rArg_lt h
        obtain ⟨hq0, hm⟩ := eat_must ho.ok hqlt hk
        obtain ⟨e1, e2⟩ := if_fail (by decide) (hq ▸ hq0 : (if 40 < acc.length + 1 then rFail 9 (atT l s) (rArg l s).2 else (rArg l s).2).2.1 = 0)
        have hqe : q = (rArg l s).2 := hq.symm.trans e1
        subst hqe
        have hn := eat_arg ho h e2
        refine ⟨[(rArg l s).1], rfl, by simp, fun t ht => by rw [List.mem_singleton.1 ht]; exact hn.2.2, ?_⟩
        exact hn.2.1.app hm
    · rw [if_neg h0] at hk
      exact absurd hk h0
theorem eat_args (ho : TW l) {s : RS} (h : s.1 < l.length) (hk : (rArgs l s).1.2.1 = 0) : s.2.1 = 0 ∧ (∀ t ∈ (rArgs l s).2, TmOk t) ∧ Eat l s (rArgs l s).1 (mp (sepP (tmI (rArgs l s).2)) ++ [rparB]) := by
  unfold rArgs at hk ⊢
  by_cases ht : (rTake l rparB s).1 = true
  · rw [if_pos ht]
    have ht2 := zEV ho.ok h ht
    exact ⟨ht2.1, (fun t ht => by cases ht), ht2.2.2⟩
  · rw [if_neg ht] at hk ⊢
    rw [take_no ht] at hk ⊢
    have hlen := ho.ok.len
    obtain ⟨g0, ts, g1, _, g3, g4⟩ := eat_argsL ho 400 s [] h (by omega) hk
    rw [g1]
    exact ⟨g0, g3, g4⟩
def LitOk (x : ty51.D) : Prop := (∀ t ∈ x.2.2.1, TmOk t) ∧ (x.2.2.2.1 ≠ 0 → 1 ≤ x.2.2.2.1 ∧ x.2.2.2.1 ≤ 6 ∧ x.2.2.1.length = 2)
theorem eat_atom (ho : TW l) {atoms at_ : Int} {b : Bool} {s : RS} (h : s.1 < l.length) (hk : (rAtom l atoms b at_ s).2.2.1 = 0) :
    s.2.1 = 0 ∧ LitOk (rAtom l atoms b at_ s).1 ∧ Eat l s (rAtom l atoms b at_ s).2 ([(rAtom l atoms b at_ s).1.2.1] ++ lparB :: (mp (sepP (tmI (rAtom l atoms b at_ s).1.2.2.1)) ++ [rparB])) := by
  unfold rAtom at hk ⊢
  have hlt := rAtomS_lt atoms b at_ h
  obtain ⟨g0, g1, g2⟩ := eat_args ho hlt hk
  have e : rAtomS l atoms b at_ s = rMust l lparB (rName l s).2 ∧ (rMust l lparB (rName l s).2).2.1 = 0 := by
    unfold rAtomS at g0 ⊢
    exact if_fail (by decide) g0
  have hm := eat_must ho.ok (zDX h) e.2
  have hn := eat_name ho.ok h hm.1
  refine ⟨hn.1, ⟨g1, fun h => absurd rfl h⟩, ?_⟩
  have := (hn.2.1.app hm.2)
  rw [← e.1] at this
  simpa using this.app g2
theorem opS_sgn {w : ByteArray} (h : opS w ≠ 0) : sgnP (opS w) = w ∧ 1 ≤ opS w ∧ opS w ≤ 6 := by
  have hr := opS_rng w
  have key : ∀ i : Fin 6, sgnP ((i.val : Int) + 1) = sgnW.getD (i.val + 1) ByteArray.empty := by decide +kernel
  unfold opS at h hr ⊢
  cases e : (List.range 6).findSome? (fun i => if sgnW.getD (i + 1) ByteArray.empty = w then some i else none) with
  | none => rw [e] at h; exact absurd rfl h
  | some j =>
    obtain ⟨i, hi, hj⟩ := List.exists_of_findSome?_eq_some e
    rw [List.mem_range] at hi
    by_cases hw : sgnW.getD (i + 1) ByteArray.empty = w
    · rw [if_pos hw] at hj
      injection hj with hj
      subst hj
      refine ⟨?_, by show (1 : Int) ≤ ((i + 1 : Nat) : Int); omega, by show ((i + 1 : Nat) : Int) ≤ 6; omega⟩
      exact (key ⟨i, hi⟩).trans hw
    · rw [if_neg hw] at hj; cases hj
theorem eat_cmp (ho : TW l) {b : Bool} {s : RS} (h : s.1 < l.length) (hk : (rCmp l b s).2.2.1 = 0) :
    s.2.1 = 0 ∧ LitOk (rCmp l b s).1 ∧ (rCmp l b s).1.2.2.2.1 ≠ 0 ∧ Eat l s (rCmp l b s).2 [tmW ((rCmp l b s).1.2.2.1.getD 0 (Ty.z ty48)), sgnP (rCmp l b s).1.2.2.2.1, tmW ((rCmp l b s).1.2.2.1.getD 1 (Ty.z ty48))] := by
  unfold rCmp at hk ⊢
  have hlt := rTerm_lt h
  have hlt2 := rCmpS_lt hlt
  obtain ⟨g0, g1, g2⟩ := eat_term ho (zDZ hlt2) hk
  have e : rCmpS l (rTerm l s).2 = (rTerm l s).2 ∧ (rTerm l s).2.2.1 = 0 := by
    have g0' : (rCmpS l (rTerm l s).2).2.1 = 0 := g0
    unfold rCmpS at g0' ⊢
    exact if_fail (by decide) g0'
  have hc : ¬ ((tk l (rTerm l s).2.1).1 ≠ 3 ∨ opS (tk l (rTerm l s).2.1).2.1 = 0) := by
    intro hc
    have g0' : (rCmpS l (rTerm l s).2).2.1 = 0 := g0
    unfold rCmpS at g0'
    rw [if_pos hc] at g0'
    exact fail_no (by decide) g0'
  obtain ⟨c1, c2⟩ := not_or.1 hc
  have c1' : (tk l (rTerm l s).2.1).1 = 3 := Decidable.not_not.1 c1
  obtain ⟨o1, o2, o3⟩ := opS_sgn c2
  obtain ⟨t0, t1, t2⟩ := eat_term ho h e.2
  have hst := eat_step ho.ok hlt (by rw [c1']; decide)
  rw [e.1] at g1 g2 ⊢
  refine ⟨t0, ⟨fun t ht => ?_, fun _ => ⟨o2, o3, rfl⟩⟩, c2, ?_⟩
  · rcases List.mem_cons.1 ht with ht | ht
    · rw [ht]; exact t2
    · rw [List.mem_singleton.1 ht]; exact g2
  · have := (t1.app hst).app g1
    show Eat l s _ [tmW (rTerm l s).1, sgnP (opS (tk l (rTerm l s).2.1).2.1), tmW _]
    rw [o1]
    exact this
theorem eat_lit (ho : TW l) {atoms : Int} {s : RS} (h : s.1 < l.length) (hk : (rLit l atoms s).2.2.1 = 0) : s.2.1 = 0 ∧ LitOk (rLit l atoms s).1 ∧ Eat l s (rLit l atoms s).2 (mp (litP (rLit l atoms s).1)) := by
  have hlt := zDR notB h
  unfold rLit at hk ⊢
  by_cases hc : rNamed l (rTake l notB s).2 = true ∧ ((rTake l notB s).1 = true ∨ rPar l (rTake l notB s).2 = true)
  · rw [if_pos hc] at hk ⊢
    obtain ⟨g0, g1, g2⟩ := eat_atom ho hlt hk
    have eop : ∀ b, (rAtom l atoms b (atT l (rTake l notB s).2) (rTake l notB s).2).1.2.2.2.1 = 0 := fun _ => rfl
    have enot : ∀ b, (rAtom l atoms b (atT l (rTake l notB s).2) (rTake l notB s).2).1.1 = b := fun _ => rfl
    by_cases ht : (rTake l notB s).1 = true
    · have ht2 := zEV ho.ok h ht
      refine ⟨ht2.1, g1, ?_⟩
      unfold litP
      rw [if_neg (by rw [eop]; simp), enot, if_pos ht]
      have := ht2.2.2.app g2
      simpa [mp] using this
    · have e := take_no ht
      refine ⟨by rw [e] at g0; exact g0, g1, ?_⟩
      unfold litP
      rw [if_neg (by rw [eop]; simp), enot, if_neg ht]
      have : Eat l s (rTake l notB s).2 [] := by rw [e]; rfl
      have := this.app g2
      simpa [mp] using this
  · rw [if_neg hc] at hk ⊢
    have hlt2 : (if (rTake l notB s).1 = true then rFail 7 (atT l (rTake l notB s).2) (rTake l notB s).2 else (rTake l notB s).2).1 < l.length := by
      split
      · exact zDW _ _ hlt
      · exact hlt
    obtain ⟨g0, g1, g2, g3⟩ := eat_cmp ho hlt2 hk
    by_cases ht : (rTake l notB s).1 = true
    · rw [if_pos ht] at g0
      exact (fail_no (by decide) g0).elim
    · have e := take_no ht
      rw [if_neg ht] at g0 g1 g2 g3 ⊢
      refine ⟨by rw [e] at g0; exact g0, g1, ?_⟩
      unfold litP
      rw [if_pos g2]
      have : Eat l s (rTake l notB s).2 [] := by rw [e]; rfl
      exact this.app g3
theorem eat_bodyL (ho : TW l) : ∀ (f : Nat) (atoms : Int) (s : RS) (bd : List ty51.D), s.1 < l.length → l.length ≤ s.1 + f → (rBodyL l f atoms s bd).1.2.1 = 0 →
    s.2.1 = 0 ∧ ∃ ls, (rBodyL l f atoms s bd).2 = bd ++ ls ∧ ls ≠ [] ∧ (∀ x ∈ ls, LitOk x) ∧ Eat l s (rBodyL l f atoms s bd).1 (mp (sepP (ls.map litP)))
  | 0, atoms, s, bd, h, hf, hk => by omega
  | f + 1, atoms, s, bd, h, hf, hk => by
    unfold rBodyL at hk ⊢
    by_cases h0 : s.2.1 = 0
    · refine ⟨h0, ?_⟩
      rw [if_pos h0] at hk ⊢
      have hst : (rLit l atoms (bodySt l s bd)).2.2.1 = 0 → bodySt l s bd = s := by
        intro g
        have g0 := (eat_lit ho (bodySt_lt bd h) g).1
        unfold bodySt at g0 ⊢
        split at g0
        · unfold rLone at g0
          split at g0 <;> exact (fail_no (by decide) g0).elim
        · rename_i hn; rw [if_neg hn]
      by_cases ht : (rTake l commaB (rLit l atoms (bodySt l s bd)).2).1 = true
      · rw [if_pos ht] at hk ⊢
        have hq0 : (rLit l atoms (bodySt l s bd)).2.2.1 = 0 := by
          by_cases g : (rLit l atoms (bodySt l s bd)).2.2.1 = 0
          · exact g
          · rw [zEW g] at ht; cases ht
        have e := hst hq0
        rw [e] at hk ht hq0 ⊢
        have hn := eat_lit ho h hq0
        have hlt := (rLit_rng atoms h).1
        have ht2 := zEV ho.ok hlt ht
        have hon := rTake_on ho.ok hlt ht
        have hge := rLit_ge l atoms s
        obtain ⟨_, ls, r1, r2, r3, r4⟩ := eat_bodyL ho f _ (rTake l commaB (rLit l atoms s).2).2 (bd ++ [(rLit l atoms s).1]) (zDR _ hlt) (by omega) hk
        refine ⟨(rLit l atoms s).1 :: ls, by rw [r1]; simp, by simp, fun x hx => ?_, ?_⟩
        · rcases List.mem_cons.1 hx with e | e
          · rw [e]; exact hn.2.1
          · exact r3 x e
        · rw [List.map_cons, mp_sepP _ (by cases ls; exact absurd rfl r2; exact List.cons_ne_nil _ _)]
          have := (hn.2.2.app ht2.2.2).app r4
          simpa using this
      · rw [if_neg ht] at hk ⊢
        rw [take_no ht] at hk ⊢
        have e := hst hk
        rw [e] at hk ⊢
        have hn := eat_lit ho h hk
        exact ⟨[(rLit l atoms s).1], rfl, by simp, fun x hx => by rw [List.mem_singleton.1 hx]; exact hn.2.1, hn.2.2⟩
    · rw [if_neg h0] at hk
      exact absurd hk h0
end Go.Proofs.YtnnbinmomendnaaGreatDoor.E
namespace Go.Proofs.YtnnbinmomendnaaGreatDoor.E
open Go.RowKit
set_option maxRecDepth 100000
variable {l : Toks}
theorem eat_kind (ho : TOk l) {s : RS} (h : s.1 < l.length) (hk : (rKind l s).2.2.1 = 0) : s.2.1 = 0 ∧ Eat l s (rKind l s).2 [kindW (rKind l s).1] ∧ 1 ≤ (rKind l s).1 ∧ (rKind l s).1 ≤ 3 := by
  unfold rKind at hk ⊢
  by_cases h1 : (rTake l denyB s).1 = true
  · rw [if_pos h1]
    have := zEV ho h h1
    exact ⟨this.1, this.2.2, show (1 : Int) ≤ 1 by decide, show (1 : Int) ≤ 3 by decide⟩
  · rw [if_neg h1, take_no h1] at hk ⊢
    by_cases h2 : (rTake l viewB s).1 = true
    · rw [if_pos h2]
      have := zEV ho h h2
      exact ⟨this.1, this.2.2, show (1 : Int) ≤ 2 by decide, show (2 : Int) ≤ 3 by decide⟩
    · rw [if_neg h2, take_no h2] at hk ⊢
      by_cases h3 : (rTake l quotaB s).1 = true
      · rw [if_pos h3]
        have := zEV ho h h3
        exact ⟨this.1, this.2.2, show (1 : Int) ≤ 3 by decide, show (3 : Int) ≤ 3 by decide⟩
      · rw [if_neg h3] at hk
        exact (fail_no (by decide) hk).elim
def limI (kind lim : Int) : Ws := if kind = 3 then [([32], limitB), ([32], fmtB lim)] else []
theorem eat_lim (ho : TW l) {kind : Int} {s : RS} (h : s.1 < l.length) (hk : (rLim l kind s).2.2.1 = 0) : s.2.1 = 0 ∧ inR (rLim l kind s).1 ∧ Eat l s (rLim l kind s).2 (mp (limI kind (rLim l kind s).1)) := by
  unfold rLim limI at *
  by_cases h3 : kind = 3
  · rw [if_pos h3] at hk ⊢
    rw [if_pos h3]
    have hlt := zDS limitB h
    have g0 : (rLimS l (rMust l limitB s)).2.1 = 0 := hk
    have e : rLimS l (rMust l limitB s) = rMust l limitB s ∧ (rMust l limitB s).2.1 = 0 := by
      unfold rLimS at g0 ⊢
      exact if_fail (by decide) g0
    have hc : ¬ ((rMust l limitB s).2.1 = 0 ∧ ((tk l (rMust l limitB s).1).1 ≠ 2 ∨ (tk l (rMust l limitB s).1).2.2.1.1 ≠ 2)) := by
      intro hc
      unfold rLimS at g0
      rw [if_pos hc] at g0
      exact fail_no (by decide) g0
    have c1 : (tk l (rMust l limitB s).1).1 = 2 := Decidable.not_not.1 fun c => hc ⟨e.2, .inl c⟩
    have c2 : (tk l (rMust l limitB s).1).2.2.1.1 = 2 := Decidable.not_not.1 fun c => hc ⟨e.2, .inr c⟩
    have hm := eat_must ho.ok h e.2
    have hst := eat_step ho.ok hlt (by rw [c1]; decide)
    have hv := ho.val _ hlt c1
    rw [e.1]
    have ev : (tk l (rMust l limitB s).1).2.1 = fmtB (tk l (rMust l limitB s).1).2.2.1.2.2.1 := by
      rw [← hv.2.2]
      rcases zFC hv.1 with r | ⟨b, r⟩ | ⟨x, r⟩ | ⟨t, _, r⟩
      · rw [r] at c2; exact absurd c2 (by decide)
      · rw [r] at c2; exact absurd c2 (show ¬ (1 : Int) = 2 by decide)
      · rw [r, show_num]; rfl
      · rw [r] at c2; exact absurd c2 (show ¬ (3 : Int) = 2 by decide)
    refine ⟨hm.1, hv.2.1, ?_⟩
    have := hm.2.app hst
    rw [ev] at this
    exact this
  · rw [if_neg h3] at hk ⊢
    rw [if_neg h3]
    exact ⟨hk, inR0, rfl⟩
structure RuleOk (x : ty25.D) : Prop where
  k1 : 1 ≤ x.1
  k3 : x.1 ≤ 3
  a0 : 0 ≤ x.2.2.2.1
  a4 : x.2.2.2.1 ≤ 4
  lim : inR x.2.2.2.2.2.1
  lits : ∀ y ∈ x.2.2.2.2.2.2.1, LitOk y
  some : x.2.2.2.2.2.2.1 ≠ []
theorem eat_tok (ho : TW l) (hl : 0 < l.length) (hk : (rTok l).2.2.2.2.2.2.1 = 0) : RuleOk (ruleT (rTok l)) ∧ ∃ e, tx l = mp (ruleW (ruleT (rTok l))) ++ [e] := by
  unfold rTok at hk ⊢
  obtain ⟨w1, _, w3⟩ := rest_why l (rKind l (0, 0, 0)).1 (rKind l (0, 0, 0)).2
  rw [w1] at hk
  rw [w3 hk]
  have hk0 := rKind_lt (s := ((0, 0, 0) : RS)) hl
  generalize hK : (rKind l (0, 0, 0)).1 = kind at *
  have hlt1 : (rHd l kind (rKind l (0, 0, 0)).2).1.1 < l.length := (rHead_rng kind _ 0 _ [] (zDS _ (zDX hk0))).1
  have hlt2 := zDS rparB hlt1
  have hlt3 : (limZ l kind (rMust l rparB (rHd l kind (rKind l (0, 0, 0)).2).1)).1 < l.length := rLim_lt kind hlt2
  have hlt4 := zDS ifB hlt3
  have hlt5 : (rBody l (rMust l ifB (limZ l kind (rMust l rparB (rHd l kind (rKind l (0, 0, 0)).2).1)))).1.1 < l.length := (rBodyL_rng 400 0 _ [] hlt4 (by simp)).1
  unfold endZ at hk
  have e5 : (rBody l (rMust l ifB (limZ l kind (rMust l rparB (rHd l kind (rKind l (0, 0, 0)).2).1)))).1.2.1 = 0 ∧ (tk l (rBody l (rMust l ifB (limZ l kind (rMust l rparB (rHd l kind (rKind l (0, 0, 0)).2).1)))).1.1).1 = 4 := by
    unfold rEndS at hk
    refine ⟨(if_fail (by decide) hk).2, Decidable.not_not.1 fun c => ?_⟩
    rw [if_pos c] at hk
    exact fail_no (by decide) hk
  have hlen := ho.ok.len
  obtain ⟨b0, ls, b1, b2, b3, b4⟩ := eat_bodyL ho 400 0 _ [] hlt4 (by omega) e5.1
  have hi := eat_must ho.ok hlt3 b0
  obtain ⟨l0, l1, l2⟩ := eat_lim ho hlt2 hi.1
  have hr := eat_must ho.ok hlt1 l0
  obtain ⟨h0, h1, h2, h3⟩ := eat_head ho.ok kind _ _ (zDS lparB (zDX hk0)) hr.1
  have hp := eat_must ho.ok (zDX hk0) h0
  have hn := eat_name ho.ok hk0 hp.1
  obtain ⟨_, q1, q2, q3⟩ := eat_kind ho.ok hl hn.1
  rw [hK] at q1 q2 q3
  have hb : (rBody l (rMust l ifB (limZ l kind (rMust l rparB (rHd l kind (rKind l (0, 0, 0)).2).1)))).2 = ls := b1
  refine ⟨⟨q2, q3, h1, h2, l1, fun y hy => ?_, by rw [hb]; exact b2⟩, ?_⟩
  · rw [hb] at hy
    exact b3 y hy
  · have hlast := (ho.ok.last _ hlt5).1 e5.2
    have hdrop : ∃ e, (tx l).drop (rBody l (rMust l ifB (limZ l kind (rMust l rparB (rHd l kind (rKind l (0, 0, 0)).2).1)))).1.1 = [e] := by
      have hll : ((tx l).drop (rBody l (rMust l ifB (limZ l kind (rMust l rparB (rHd l kind (rKind l (0, 0, 0)).2).1)))).1.1).length = 1 := by
        rw [List.length_drop]
        unfold tx
        rw [List.length_map]
        omega
      exact List.length_eq_one_iff.1 hll
    obtain ⟨e, he⟩ := hdrop
    refine ⟨e, ?_⟩
    have all := ((((((q1.app hn.2.1).app hp.2).app h3).app hr.2).app l2).app hi.2).app b4
    have hz : (tx l).drop ((0, 0, 0) : RS).1 = tx l := rfl
    unfold Eat at all
    rw [hz] at all
    have all2 := all.trans (congrArg (fun q => _ ++ q) he)
    refine all2.trans ?_
    refine congrArg (fun q => q ++ [e]) ?_
    unfold ruleW
    simp only [hb]
    have ms : mp (sp (sepP (ls.map litP))) = mp (sepP (ls.map litP)) := mp_sp _
    simp only [mp_app, mp, List.map_cons, List.map_append] at ms ⊢
    rw [ms]
    simp only [List.append_assoc, List.cons_append, List.nil_append, List.singleton_append]
    rfl
end Go.Proofs.YtnnbinmomendnaaGreatDoor.E
namespace Go.Proofs.YtnnbinmomendnaaGreatDoor.E
open Go.RowKit
set_option maxRecDepth 100000
def Ch (p : Bool) : Ws → Prop
  | [] => True
  | (g, w) :: r => (g = [32] ∨ g = [] ∧ (p = true ∨ w = lparB ∨ w = rparB ∨ w = commaB)) ∧ Ch (decide (w = lparB)) r
theorem Ch.mono {p : Bool} : ∀ {r : Ws}, Ch false r → Ch p r
  | [], _ => trivial
  | (g, w) :: r, h => ⟨h.1.imp id fun h => ⟨h.1, h.2.elim (fun e => by cases e) .inr⟩, h.2⟩
theorem Ch.app : ∀ {a b : Ws} {p : Bool}, Ch p a → Ch false b → Ch p (a ++ b)
  | [], b, p, _, hb => hb.mono
  | (g, w) :: a, b, p, ha, hb => ⟨ha.1, Ch.app ha.2 hb⟩
theorem Ch.spc {p q : Bool} : ∀ {r : Ws}, Ch p r → Ch q (sp r)
  | [], _ => trivial
  | (g, w) :: r, h => ⟨.inl rfl, h.2⟩
theorem Ch.sep : ∀ {L : List Ws}, (∀ x ∈ L, Ch true x) → Ch true (sepP L)
  | [], _ => trivial
  | [x], h => h x (List.mem_singleton_self x)
  | x :: y :: r, h => (h x (List.mem_cons_self ..)).app ⟨.inr ⟨rfl, .inr (.inr (.inr rfl))⟩, Ch.spc (Ch.sep fun z hz => h z (List.mem_cons_of_mem _ hz))⟩
theorem Ch.one (w : ByteArray) : Ch true (nmP w) := ⟨.inr ⟨rfl, .inl rfl⟩, trivial⟩
theorem Ch.agg (ag : Int) (of_ : ByteArray) : Ch true (aggP ag of_) := by
  unfold aggP
  refine ⟨.inr ⟨rfl, .inl rfl⟩, ?_⟩
  split
  · exact ⟨.inl rfl, trivial⟩
  · trivial
theorem Ch.tms (ts : List ty48.D) : Ch true (sepP (tmI ts)) := Ch.sep fun x hx => by
  obtain ⟨t, _, rfl⟩ := List.mem_map.1 hx
  exact Ch.one _
theorem Ch.lit (x : ty51.D) : Ch true (litP x) := by
  have par : Ch false (([], lparB) :: (sepP (tmI x.2.2.1) ++ [([], rparB)])) := by
    refine ⟨.inr ⟨rfl, .inr (.inl rfl)⟩, ?_⟩
    rw [decide_eq_true rfl]
    exact (Ch.tms _).app ⟨.inr ⟨rfl, .inr (.inr (.inl rfl))⟩, trivial⟩
  unfold litP
  split
  · exact ⟨.inr ⟨rfl, .inl rfl⟩, .inl rfl, .inl rfl, trivial⟩
  · refine Ch.app ?_ par
    split
    · exact ⟨.inr ⟨rfl, .inl rfl⟩, .inl rfl, trivial⟩
    · exact ⟨.inr ⟨rfl, .inl rfl⟩, trivial⟩
theorem Ch.rule (x : ty25.D) : Ch true (ruleW x) := by
  unfold ruleW
  refine ⟨.inr ⟨rfl, .inl rfl⟩, .inl rfl, .inr ⟨rfl, .inr (.inl rfl)⟩, ?_⟩
  rw [decide_eq_true rfl]
  have body : ∀ p, Ch p (([32], ifB) :: sp (sepP (x.2.2.2.2.2.2.1.map litP))) := fun p => by
    refine ⟨.inl rfl, Ch.spc (p := true) (Ch.sep fun y hy => ?_)⟩
    obtain ⟨t, _, rfl⟩ := List.mem_map.1 hy
    exact Ch.lit t
  refine Ch.app (Ch.sep fun y hy => ?_) ⟨.inr ⟨rfl, .inr (.inr (.inl rfl))⟩, ?_⟩
  · unfold headI at hy
    rcases List.mem_append.1 hy with hy | hy
    · obtain ⟨t, _, rfl⟩ := List.mem_map.1 hy
      exact Ch.one _
    · split at hy
      · cases hy
      · rw [List.mem_singleton.1 hy]
        exact Ch.agg _ _
  · split
    · exact ⟨.inl rfl, .inl rfl, body _⟩
    · exact body _
theorem ch_good (n : Nat) : ∀ (r : Ws) (m : Toks) (p : Bool), Ch p r → mp r = tx m → (∀ t ∈ m, SelfT n t) → GoodL [] r m
  | [], [], _, _, _, _ => fun b hb => by cases hb
  | [], t :: m, _, _, h, _ => by cases h
  | x :: r, [], _, _, h, _ => by cases h
  | (g, w) :: r, t :: m, p, hc, h, hs => by
    have h1 : w = t.2.1 := (List.cons.inj h).1
    have h2 : mp r = tx m := (List.cons.inj h).2
    have ht := hs t (List.mem_cons_self ..)
    refine ⟨fun b hb => ?_, by rw [h1]; exact ht.1, by rw [h1]; exact ht.2.2, h1.symm, ?_, ch_good n r m _ hc.2 h2 fun y hy => hs y (List.mem_cons_of_mem _ hy)⟩
    · rcases hc.1 with e | e
      · rw [e, List.mem_singleton] at hb
        exact .inl (by rw [hb]; rfl)
      · rw [e.1] at hb; cases hb
    · cases r with
      | nil => exact .inl rfl
      | cons x r =>
        obtain ⟨g', w'⟩ := x
        rcases hc.2.1 with e | ⟨e, f⟩
        · refine .inr (.inl ?_)
          rw [e]; rfl
        · subst e
          rcases f with f | f | f | f
          · have := of_decide_eq_true f
            exact .inr (.inr (.inl (by rw [this]; rfl)))
          · exact .inr (.inl (by rw [f]; rfl))
          · exact .inr (.inl (by rw [f]; rfl))
          · exact .inr (.inl (by rw [f]; rfl))
theorem oneS_val {u : ByteArray} {t : ty60.D} (h : oneS u = some t) (h2 : t.1 = 2) : isW t.2.1 t.2.2.1 := by
  have one : ∀ m, (readV (u.extract 0 m)).2 = 0 → some (2, u.extract 0 m, (readV (u.extract 0 m)).1, 0, ()) = some t → isW t.2.1 t.2.2.1 := by
    intro m h0 h
    injection h with h
    rw [← h]
    exact readV_ok _ h0
  have cst : ∀ m, constS u m = some t → isW t.2.1 t.2.2.1 := by
    intro m hc
    unfold constS at hc
    split at hc
    · rename_i h0
      exact one m h0 hc
    · cases hc
  unfold oneS at h
  split at h
  · split at h
    · rename_i h0
      exact one _ h0 h
    · injection h with h
      rw [← h] at h2
      exact absurd (show (1 : Int) = 2 from h2) (by decide)
  · split at h
    · split at h
      · cases h
      · exact cst _ h
    · split at h
      · split at h
        · exact cst _ h
        · cases h
      · split at h
        · injection h with h
          rw [← h] at h2
          exact absurd (show (3 : Int) = 2 from h2) (by decide)
        · cases h
theorem tw_lex {s : ByteArray} (h : (lexS s).2.1 = 0) : TW (lexS s).2.2 ∧ 0 < (lexS s).2.2.length := by
  obtain ⟨h1, h2⟩ := lexS_tok s h
  obtain ⟨m, e, _, hs⟩ := lexS_self h
  refine ⟨⟨h1, fun i hi h2 => ?_⟩, h2⟩
  have hmem : tk (lexS s).2.2 i ∈ (lexS s).2.2 := by
    unfold tk
    rw [List.getD_eq_getElem?_getD, List.getElem?_eq_getElem hi]
    exact List.getElem_mem hi
  generalize tk (lexS s).2.2 i = t at h2 hmem
  rw [e] at hmem
  rcases List.mem_append.1 hmem with g | g
  · exact oneS_val (t := stT t) (hs t g).2.2 h2
  · rw [List.mem_singleton.1 g] at h2
    exact absurd (show (4 : Int) = 2 from h2) (by decide)
theorem rule_words {s : ByteArray} (hw : (rRule s).2.2.2.2.2.2.1 = 0) : RuleOk (ruleT (rRule s)) ∧ (lexS s).2.1 = 0 ∧ ∃ m, (lexS s).2.2 = m ++ [endT s] ∧ (∀ t ∈ m, SelfT s.size t) ∧ m.length ≤ s.size ∧ mp (ruleW (ruleT (rRule s))) = tx m := by
  have h0 : (lexS s).2.1 = 0 := by
    by_cases h : (lexS s).2.1 = 0
    · exact h
    · unfold rRule at hw
      rw [if_pos h] at hw
      exact absurd hw h
  have e : rRule s = rTok (lexS s).2.2 := by unfold rRule; rw [if_neg (by rw [h0]; decide)]
  rw [e] at hw ⊢
  obtain ⟨t1, t2⟩ := tw_lex h0
  obtain ⟨r1, c, r2⟩ := eat_tok t1 t2 hw
  obtain ⟨m, e2, e3, hs⟩ := lexS_self h0
  refine ⟨r1, h0, m, e2, hs, e3, ?_⟩
  rw [e2] at r2
  unfold tx at r2 ⊢
  rw [List.map_append] at r2
  rw [e2]
  exact (List.append_inj' r2 rfl).1.symm
theorem print_same {s T : ByteArray} (hw : (rRule s).2.2.2.2.2.2.1 = 0) (hT : T.size ≤ 300) (hc : T.data.toList = catL [] (ruleW (ruleT (rRule s)))) : zR (rRule s) = zR (rRule T) := by
  obtain ⟨_, h0, m, h1, h2, _, h4⟩ := rule_words hw
  obtain ⟨m', g1, g2⟩ := lexS_cat hT hc (ch_good s.size _ m true (Ch.rule _) h4 h2)
  unfold rRule
  rw [if_neg (by rw [h0]; decide), h1, g1, if_neg (by simp)]
  refine rTok_sl ?_
  show sl (m ++ [endT s]) = sl (m' ++ [endT T])
  unfold sl at g2 ⊢
  rw [List.map_append, List.map_append, g2]
  rfl
end Go.Proofs.YtnnbinmomendnaaGreatDoor.E
namespace Go.Proofs.YtnnbinmomendnaaGreatDoor.E
open Go.RowKit
variable {R : Type}
set_option maxRecDepth 100000
noncomputable def eqD {α : Type} (a b : α) : Bool := @decide (a = b) (Classical.propDecidable _)
theorem eqD_iff {α : Type} {a b : α} : eqD a b = true ↔ a = b := @decide_eq_true_iff _ (Classical.propDecidable _)
theorem eqD_no {α : Type} {a b : α} (h : a ≠ b) : eqD a b = false := by cases e : eqD a b with
  | false => rfl
  | true => exact absurd (eqD_iff.1 e) h
theorem eqD_refl {α : Type} (a : α) : eqD a a = true := eqD_iff.2 rfl
theorem beqE (a b : ByteArray) : (a.toList == b.toList) = eqD a b := by rw [beqB, Bool.eq_iff_iff, decide_eq_true_eq, eqD_iff]
theorem all_eq {α : Type} (z : α) {a b : List α} (h : a.length = b.length) : ((List.range a.length).all fun i => eqD (a.getD i z) (b.getD i z)) = eqD (a) (b) := by
  rw [Bool.eq_iff_iff, List.all_eq_true, eqD_iff]
  constructor
  · intro hh
    refine List.ext_getElem h fun i h1 h2 => ?_
    have := eqD_iff.1 (hh i (List.mem_range.2 h1))
    rw [List.getD_eq_getElem?_getD, List.getD_eq_getElem?_getD, List.getElem?_eq_getElem h1, List.getElem?_eq_getElem h2] at this
    exact this
  · rintro rfl i _
    exact eqD_refl _
theorem ite_not {b : Bool} {p q : Option R} : (if (!b) = true then p else q) = if b = true then q else p := by cases b <;> rfl
theorem len_ne {a b : Nat} (h : a ≠ b) : ((a : Int) != (b : Int)) = true := by rw [bne_iff_ne]; omega
theorem len_eq {a b : Nat} (h : a = b) : ((a : Int) != (b : Int)) = false := by rw [bne_eq_false_iff_eq]; omega
theorem tmEq (x y : ty48.D) : ((x.1.toList == y.1.toList) && ((x.2.1 == y.2.1) && (((x.2.2.1.1 == y.2.2.1.1) && ((x.2.2.1.2.1 == y.2.2.1.2.1) && ((x.2.2.1.2.2.1 == y.2.2.1.2.2.1) && ((x.2.2.1.2.2.2.1.toList == y.2.2.1.2.2.2.1.toList) && true)))) && true))) = eqD (x) (y) := by
  obtain ⟨a, b, ⟨c, d, e, f, ⟨⟩⟩, ⟨⟩⟩ := x
  obtain ⟨a', b', ⟨c', d', e', f', ⟨⟩⟩, ⟨⟩⟩ := y
  rw [Bool.eq_iff_iff]
  simp only [beqE, Bool.and_eq_true, eqD_iff, beq_iff_eq, Bool.and_true, Prod.mk.injEq, and_true, and_assoc]
theorem eqStr_F (n : Nat) (a b : List ByteArray) (ha : a.length ≤ 1000) (hn : 2000 < n) (k : Bool → Option R) : zAY_F n a b k = k (eqD (a) (b)) := by
  rw [zAY_e]
  unfold zAY_Fi
  by_cases hl : a.length = b.length
  · rw [if_neg (by rw [len_eq hl]; decide)]
    refine (runC_all (R := R) (step := zAY_l4 n) (fun b1 => k b1.1, fun b1 => k true, ()) (k false) (k true) (fun i => eqD (a.getD i ByteArray.empty) (b.getD i ByteArray.empty)) (fun i => (a, b, (a.length : Int), (i : Int), ())) a.length (fun i hi k1 => ?_) (fun k1 => ?_) (n := n) (by omega)).trans ?_
    · have c1 : (i : Int) < (a.length : Int) := by omega
      have c2 : (0 : Int) ≤ (i : Int) ∧ (i : Int) < (a.length : Int) := by omega
      have c3 : (0 : Int) ≤ (i : Int) ∧ (i : Int) < (b.length : Int) := by omega
      have e : ∀ l : List ByteArray, l.getD i (Ty.z .str) = l.getD i ByteArray.empty := fun _ => rfl
      simp only [zAY_l4, zAY_s4, c1, c2, c3, decide_true, if_true, and_self, Int.toNat_natCast, beqE, e, zDO i (by omega)]
      exact ite_not
    · simp [zAY_l4, zAY_s4]
    · rw [all_eq ByteArray.empty hl]
      cases eqD (a) (b) <;> rfl
  · rw [if_pos (len_ne hl), eqD_no (fun e => hl (by rw [e]))]
theorem eqTm_F (n : Nat) (a b : List ty48.D) (ha : a.length ≤ 1000) (hn : 2000 < n) (k : Bool → Option R) : zAZ_F n a b k = k (eqD (a) (b)) := by
  rw [zAZ_e]
  unfold zAZ_Fi
  by_cases hl : a.length = b.length
  · rw [if_neg (by rw [len_eq hl]; decide)]
    refine (runC_all (R := R) (step := zAZ_l4 n) (fun b1 => k b1.1, fun b1 => k true, ()) (k false) (k true) (fun i => eqD (a.getD i (Ty.z ty48)) (b.getD i (Ty.z ty48))) (fun i => (a, b, (a.length : Int), (i : Int), ())) a.length (fun i hi k1 => ?_) (fun k1 => ?_) (n := n) (by omega)).trans ?_
    · have c1 : (i : Int) < (a.length : Int) := by omega
      have c2 : (0 : Int) ≤ (i : Int) ∧ (i : Int) < (a.length : Int) := by omega
      have c3 : (0 : Int) ≤ (i : Int) ∧ (i : Int) < (b.length : Int) := by omega
      simp only [zAZ_l4, zAZ_s4, c1, c2, c3, decide_true, if_true, and_self, Int.toNat_natCast, zDO i (by omega)]
      exact (congrArg (fun q => if (!q) = true then k false else k1 (a, b, (a.length : Int), ((i + 1 : Nat) : Int), ())) (tmEq _ _)).trans ite_not
    · simp [zAZ_l4, zAZ_s4]
    · rw [all_eq (Ty.z ty48) hl]
      cases eqD (a) (b) <;> rfl
  · rw [if_pos (len_ne hl), eqD_no (fun e => hl (by rw [e]))]
theorem litEq (a b : ty51.D) : eqD (a) (b) = (eqD (a.1) (b.1) && (eqD (a.2.1) (b.2.1) && (eqD (a.2.2.2.1) (b.2.2.2.1) && eqD (a.2.2.1) (b.2.2.1)))) := by
  obtain ⟨a1, a2, a3, a4, ⟨⟩⟩ := a
  obtain ⟨b1, b2, b3, b4, ⟨⟩⟩ := b
  rw [Bool.eq_iff_iff]
  simp only [eqD_iff, Bool.and_eq_true, Prod.mk.injEq, and_true]
  constructor
  · rintro ⟨h1, h2, h3, h4⟩; exact ⟨h1, h2, h4, h3⟩
  · rintro ⟨h1, h2, h3, h4⟩; exact ⟨h1, h2, h4, h3⟩
theorem beq_dec {α : Type} [BEq α] [LawfulBEq α] (a b : α) : (a == b) = eqD (a) (b) := by rw [Bool.eq_iff_iff, beq_iff_eq, eqD_iff]
theorem bne_dec {α : Type} [BEq α] [LawfulBEq α] (a b : α) : (a != b) = !eqD (a) (b) := by rw [bne, beq_dec]
theorem litP2_F (n : Nat) (a b : ty51.D) (ha : a.2.2.1.length ≤ 1000) (hn : 2000 < n) (k : Bool → Option R) : zCM_F n a b k = k (eqD (a) (b)) := by
  rw [zCM_e]
  unfold zCM_Fi
  rw [litEq, eqTm_F n _ _ ha hn]
  simp only [beqE]
  simp only [beq_dec]
  cases eqD (a.1) (b.1) <;> cases eqD (a.2.1) (b.2.1) <;> cases eqD (a.2.2.2.1) (b.2.2.2.1) <;> rfl
theorem eqLit_F (n : Nat) (a b : List ty51.D) (ha : a.length ≤ 1000) (ha2 : ∀ x ∈ a, x.2.2.1.length ≤ 1000) (hn : 2000 < n) (k : Bool → Option R) : zAL_F n a b k = k (eqD (a) (b)) := by
  rw [zAL_e]
  unfold zAL_Fi
  by_cases hl : a.length = b.length
  · rw [if_neg (by rw [len_eq hl]; decide)]
    refine (runC_all (R := R) (step := zAL_l4 n) (fun b2 => k b2.1, fun b2 => k true, ()) (k false) (k true) (fun i => eqD (a.getD i (Ty.z ty51)) (b.getD i (Ty.z ty51))) (fun i => (b, a, (a.length : Int), (i : Int), ())) a.length (fun i hi k1 => ?_) (fun k1 => ?_) (n := n) (by omega)).trans ?_
    · have c1 : (i : Int) < (a.length : Int) := by omega
      have c2 : (0 : Int) ≤ (i : Int) ∧ (i : Int) < (a.length : Int) := by omega
      have c3 : (0 : Int) ≤ (i : Int) ∧ (i : Int) < (b.length : Int) := by omega
      have hm : a.getD i (Ty.z ty51) ∈ a := by rw [List.getD_eq_getElem?_getD, List.getElem?_eq_getElem hi]; exact List.getElem_mem hi
      simp only [zAL_l4, zAL_s4, c1, c2, c3, decide_true, if_true, and_self, Int.toNat_natCast, zDO i (by omega)]
      rw [litP2_F n _ _ (ha2 _ hm) hn]
      exact ite_not
    · simp [zAL_l4, zAL_s4]
    · rw [all_eq (Ty.z ty51) hl]
      cases eqD (a) (b) <;> rfl
  · rw [if_pos (len_ne hl), eqD_no (fun e => hl (by rw [e]))]
structure Small (x : ty25.D) : Prop where
  hd : x.2.2.1.length ≤ 1000
  bd : x.2.2.2.2.2.2.1.length ≤ 1000
  ar : ∀ y ∈ x.2.2.2.2.2.2.1, y.2.2.1.length ≤ 1000
theorem ruleEq (a b : ty25.D) : eqD (a) (b) = (eqD (a.1) (b.1) && (eqD (a.2.1) (b.2.1) && (eqD (a.2.2.2.1) (b.2.2.2.1) && (eqD (a.2.2.2.2.1) (b.2.2.2.2.1) && (eqD (a.2.2.2.2.2.1) (b.2.2.2.2.2.1) && (eqD (a.2.2.1) (b.2.2.1) && eqD (a.2.2.2.2.2.2.1) (b.2.2.2.2.2.2.1))))))) := by
  obtain ⟨a1, a2, a3, a4, a5, a6, a7, ⟨⟩⟩ := a
  obtain ⟨b1, b2, b3, b4, b5, b6, b7, ⟨⟩⟩ := b
  rw [Bool.eq_iff_iff]
  simp only [eqD_iff, Bool.and_eq_true, Prod.mk.injEq, and_true]
  constructor
  · rintro ⟨h1, h2, h3, h4, h5, h6, h7⟩; exact ⟨h1, h2, h4, h5, h6, h3, h7⟩
  · rintro ⟨h1, h2, h4, h5, h6, h3, h7⟩; exact ⟨h1, h2, h3, h4, h5, h6, h7⟩
theorem sameP_F (n : Nat) (a b : ty25.D) (ha : Small a) (hn : 2000 < n) (k : Bool → Option R) : zDA_F n a b k = k (eqD (a) (b)) := by
  rw [zDA_e]
  unfold zDA_Fi
  rw [ruleEq, eqStr_F n _ _ ha.hd hn]
  simp only [eqLit_F n _ _ ha.bd ha.ar hn, beqE]
  simp only [beq_dec]
  cases eqD (a.1) (b.1) <;> cases eqD (a.2.1) (b.2.1) <;> cases eqD (a.2.2.2.1) (b.2.2.2.1) <;> cases eqD (a.2.2.2.2.1) (b.2.2.2.2.1) <;> cases eqD (a.2.2.2.2.2.1) (b.2.2.2.2.2.1) <;> cases eqD (a.2.2.1) (b.2.2.1) <;> rfl
theorem litR_F (n : Nat) (a b : ty51.D) (ha : a.2.2.1.length ≤ 1000) (hn : 2000 < n) (k : Bool → Option R) : zAD_F n a b k = k (eqD a b) := by
  rw [zAD_e]
  unfold zAD_Fi
  rw [litEq]
  simp only [beqE]
  simp only [beq_dec, bne_dec]
  cases eqD a.1 b.1 with
  | false => rfl
  | true =>
  cases eqD a.2.1 b.2.1 with
  | false => rfl
  | true =>
  cases eqD a.2.2.2.1 b.2.2.2.1 with
  | false => rfl
  | true =>
  simp only [Bool.not_true, Bool.false_eq_true, if_false, Bool.true_and]
  by_cases hl : a.2.2.1.length = b.2.2.1.length
  · have e0 : eqD (a.2.2.1.length : Int) (b.2.2.1.length : Int) = true := eqD_iff.2 (by rw [hl])
    rw [e0]
    simp only [Bool.not_true, Bool.false_eq_true, if_false]
    refine (runC_all (R := R) (step := zAD_l4 n) (fun b1 => k b1.1, fun b1 => k true, ()) (k false) (k true) (fun i => eqD (a.2.2.1.getD i (Ty.z ty48)) (b.2.2.1.getD i (Ty.z ty48))) (fun i => ((i : Int), a.1, a.2.1, a.2.2.1, a.2.2.2.1, b.1, b.2.1, b.2.2.1, b.2.2.2.1, ())) a.2.2.1.length (fun i hi k1 => ?_) (fun k1 => ?_) (n := n) (by omega)).trans ?_
    · have c1 : (i : Int) < (a.2.2.1.length : Int) := by omega
      have c2 : (0 : Int) ≤ (i : Int) ∧ (i : Int) < (a.2.2.1.length : Int) := by omega
      have c3 : (0 : Int) ≤ (i : Int) ∧ (i : Int) < (b.2.2.1.length : Int) := by omega
      simp only [zAD_l4, zAD_s4, c1, c2, c3, decide_true, if_true, and_self, Int.toNat_natCast, zDO i (by omega)]
      exact (congrArg (fun q => if (!q) = true then k false else k1 (((i + 1 : Nat) : Int), a.1, a.2.1, a.2.2.1, a.2.2.2.1, b.1, b.2.1, b.2.2.1, b.2.2.2.1, ())) (tmEq _ _)).trans ite_not
    · simp [zAD_l4, zAD_s4]
    · rw [all_eq (Ty.z ty48) hl]
      cases eqD a.2.2.1 b.2.2.1 <;> rfl
  · have e0 : eqD (a.2.2.1.length : Int) (b.2.2.1.length : Int) = false := eqD_no (by omega)
    rw [e0, eqD_no (show a.2.2.1 ≠ b.2.2.1 from fun e => hl (by rw [e]))]
    rfl
theorem sameR_F (n : Nat) (a b : ty25.D) (ha : Small a) (hn : 2000 < n) (k : Bool → Option R) : zW_F n a b k = k (eqD a b) := by
  rw [zW_e]
  unfold zW_Fi
  rw [ruleEq]
  simp only [beqE]
  simp only [bne_dec]
  cases eqD a.1 b.1 with
  | false => rfl
  | true =>
  cases eqD a.2.1 b.2.1 with
  | false => rfl
  | true =>
  cases eqD a.2.2.2.1 b.2.2.2.1 with
  | false => rfl
  | true =>
  cases eqD a.2.2.2.2.1 b.2.2.2.2.1 with
  | false => rfl
  | true =>
  cases eqD a.2.2.2.2.2.1 b.2.2.2.2.2.1 with
  | false => rfl
  | true =>
  simp only [Bool.not_true, Bool.false_eq_true, if_false, Bool.true_and]
  by_cases hl : a.2.2.1.length = b.2.2.1.length
  rotate_left
  · have e0 : eqD (a.2.2.1.length : Int) (b.2.2.1.length : Int) = false := eqD_no (by omega)
    rw [e0, eqD_no (show a.2.2.1 ≠ b.2.2.1 from fun e => hl (by rw [e]))]
    rfl
  have e0 : eqD (a.2.2.1.length : Int) (b.2.2.1.length : Int) = true := eqD_iff.2 (by rw [hl])
  rw [e0]
  simp only [Bool.not_true, Bool.false_eq_true, if_false]
  by_cases hl2 : a.2.2.2.2.2.2.1.length = b.2.2.2.2.2.2.1.length
  rotate_left
  · have e1 : eqD (a.2.2.2.2.2.2.1.length : Int) (b.2.2.2.2.2.2.1.length : Int) = false := eqD_no (by omega)
    rw [e1, eqD_no (show a.2.2.2.2.2.2.1 ≠ b.2.2.2.2.2.2.1 from fun e => hl2 (by rw [e]))]
    cases eqD a.2.2.1 b.2.2.1 <;> rfl
  have e1 : eqD (a.2.2.2.2.2.2.1.length : Int) (b.2.2.2.2.2.2.1.length : Int) = true := eqD_iff.2 (by rw [hl2])
  rw [e1]
  simp only [Bool.not_true, Bool.false_eq_true, if_false]
  have h1 := ha.hd
  have h2 := ha.bd
  refine (runC_all (R := R) (step := zW_l4 n) _ (k false) (if eqD a.2.2.2.2.2.2.1 b.2.2.2.2.2.2.1 = true then k true else k false) (fun i => eqD (a.2.2.1.getD i ByteArray.empty) (b.2.2.1.getD i ByteArray.empty)) (fun i => ((i : Int), a.1, a.2.1, a.2.2.1, a.2.2.2.1, a.2.2.2.2.1, a.2.2.2.2.2.1, a.2.2.2.2.2.2.1, b.1, b.2.1, b.2.2.1, b.2.2.2.1, b.2.2.2.2.1, b.2.2.2.2.2.1, b.2.2.2.2.2.2.1, ())) a.2.2.1.length (fun i hi k1 => ?_) (fun k1 => ?_) (n := n) (by omega)).trans ?_
  · have c1 : (i : Int) < (a.2.2.1.length : Int) := by omega
    have c2 : (0 : Int) ≤ (i : Int) ∧ (i : Int) < (a.2.2.1.length : Int) := by omega
    have c3 : (0 : Int) ≤ (i : Int) ∧ (i : Int) < (b.2.2.1.length : Int) := by omega
    have e : ∀ l : List ByteArray, l.getD i (Ty.z .str) = l.getD i ByteArray.empty := fun _ => rfl
    simp only [zW_l4, zW_s4, c1, c2, c3, decide_true, if_true, and_self, Int.toNat_natCast, beqE, e, zDO i (by omega)]
    exact ite_not
  · have c1 : ¬ (a.2.2.1.length : Int) < (a.2.2.1.length : Int) := by omega
    simp only [zW_l4, zW_s4]
    rw [if_neg (by simp)]
    refine (runC_all (R := R) (step := zW_l9 n) (fun b17 => k b17.1, fun b17 => k true, ()) (k false) (k true) (fun i => eqD (a.2.2.2.2.2.2.1.getD i (Ty.z ty51)) (b.2.2.2.2.2.2.1.getD i (Ty.z ty51))) (fun i => ((i : Int), a.1, a.2.1, a.2.2.1, a.2.2.2.1, a.2.2.2.2.1, a.2.2.2.2.2.1, a.2.2.2.2.2.2.1, b.1, b.2.1, b.2.2.1, b.2.2.2.1, b.2.2.2.2.1, b.2.2.2.2.2.1, b.2.2.2.2.2.2.1, ())) a.2.2.2.2.2.2.1.length (fun i hi k1 => ?_) (fun k1 => ?_) (n := n) (by omega)).trans ?_
    · have c1 : (i : Int) < (a.2.2.2.2.2.2.1.length : Int) := by omega
      have c2 : (0 : Int) ≤ (i : Int) ∧ (i : Int) < (a.2.2.2.2.2.2.1.length : Int) := by omega
      have c3 : (0 : Int) ≤ (i : Int) ∧ (i : Int) < (b.2.2.2.2.2.2.1.length : Int) := by omega
      have hm : a.2.2.2.2.2.2.1.getD i (Ty.z ty51) ∈ a.2.2.2.2.2.2.1 := by rw [List.getD_eq_getElem?_getD, List.getElem?_eq_getElem hi]; exact List.getElem_mem hi
      simp only [zW_l9, zW_s9, c1, c2, c3, decide_true, if_true, and_self, Int.toNat_natCast, zDO i (by omega)]
      rw [litR_F n _ _ (ha.ar _ hm) hn]
      exact ite_not
    · simp [zW_l9, zW_s9]
    · rw [all_eq (Ty.z ty51) hl2]
  · rw [all_eq ByteArray.empty hl]
    cases eqD a.2.2.1 b.2.2.1 <;> cases eqD a.2.2.2.2.2.2.1 b.2.2.2.2.2.2.1 <;> rfl
theorem small_rule (s : ByteArray) : Small (ruleT (rRule s)) := by
  obtain ⟨h1, h2, h3⟩ := rRule_rng s
  exact ⟨Nat.le_trans h1 (by decide), Nat.le_trans h2 (by decide), fun y hy => Nat.le_trans (h3 y hy) (by decide)⟩
theorem ruleP2_F (n : Nat) (s : ByteArray) (k : ty25.D → Int → Int → Option R) : zDK_F n s k = k (ruleT (rRule s)) (rRule s).2.2.2.2.2.1 (rRule s).2.2.2.2.2.2.1 := by
  rw [zDK_e]
  unfold zDK_Fi
  rw [if_pos trivial]
  rfl
def flat (r : Ws) : List UInt8 := catL [] r
theorem flat_app : ∀ a b : Ws, flat (a ++ b) = flat a ++ flat b
  | [], b => rfl
  | (g, w) :: a, b => by
    show g ++ (w.data.toList ++ flat (a ++ b)) = (g ++ (w.data.toList ++ flat a)) ++ flat b
    rw [flat_app a b]; simp
def H0 (x : Ws) : Prop := ∃ w r, x = ([], w) :: r
theorem flat_sp {r : Ws} (h : H0 r) : flat (sp r) = 32 :: flat r := by
  obtain ⟨w, r, rfl⟩ := h
  rfl
theorem H0.sep {x : Ws} {L : List Ws} (h : H0 x) : H0 (sepP (x :: L)) := by
  obtain ⟨w, r, rfl⟩ := h
  cases L with
  | nil => exact ⟨w, r, rfl⟩
  | cons y L => exact ⟨w, r ++ ([], commaB) :: sp (sepP (y :: L)), rfl⟩
theorem flat_two (x y : Ws) (L : List Ws) (hy : H0 y) : flat (sepP (x :: y :: L)) = flat x ++ (44 :: 32 :: flat (sepP (y :: L))) := by
  show flat (x ++ ([], commaB) :: sp (sepP (y :: L))) = _
  rw [flat_app]
  show flat x ++ (44 :: flat (sp (sepP (y :: L)))) = _
  rw [flat_sp hy.sep]
theorem flat_sepP : ∀ {L : List Ws}, (∀ x ∈ L, H0 x) → flat (sepP L) = Lib.join (L.map flat) [44, 32]
  | [], _ => rfl
  | [x], _ => by rw [List.map_cons, List.map_nil, Lib.join_one]; rfl
  | x :: y :: L, h => by
    rw [flat_two x y L (h y (by simp)), flat_sepP (fun z hz => h z (List.mem_cons_of_mem _ hz))]
    rw [List.map_cons, List.map_cons, Lib.join_cons, Lib.join_cons]
    simp [Lib.joinTail]
theorem sep_mem : ∀ {L : List Ws}, (∀ x ∈ L, H0 x) → ∀ y ∈ L, (flat y).length ≤ (flat (sepP L)).length
  | [], _, y, hy => by cases hy
  | [x], _, y, hy => by rw [List.mem_singleton.1 hy]; exact Nat.le_refl _
  | x :: z :: L, h, y, hy => by
    rw [flat_two x z L (h z (by simp))]
    simp only [List.length_append, List.length_cons]
    rcases List.mem_cons.1 hy with e | e
    · rw [e]; omega
    · have := sep_mem (fun q hq => h q (List.mem_cons_of_mem _ hq)) y e
      omega
theorem sep_len : ∀ {L : List Ws}, (∀ x ∈ L, H0 x) → L.length ≤ (flat (sepP L)).length + 1
  | [], _ => by simp
  | [x], _ => by simp
  | x :: z :: L, h => by
    rw [flat_two x z L (h z (by simp))]
    have := sep_len (L := z :: L) (fun q hq => h q (List.mem_cons_of_mem _ hq))
    simp only [List.length_append, List.length_cons] at this ⊢
    omega
def mkW (r : Ws) : ByteArray := ⟨(flat r).toArray⟩
theorem mkW_l (r : Ws) : (mkW r).data.toList = flat r := rfl
theorem mkW_size (r : Ws) : (mkW r).size = (flat r).length := by rw [zDV]; rfl
theorem mkW_nm (w : ByteArray) : mkW (nmP w) = w := by
  apply ba_eq
  rw [mkW_l]
  show [] ++ (w.data.toList ++ []) = _
  simp
theorem tmI_map (ts : List ty48.D) : (tmI ts).map mkW = ts.map tmW := by
  unfold tmI
  rw [List.map_map]
  exact List.map_congr_left fun t _ => mkW_nm _
theorem tmI_H0 (ts : List ty48.D) : ∀ x ∈ tmI ts, H0 x := fun x hx => by
  obtain ⟨t, _, rfl⟩ := List.mem_map.1 hx
  exact ⟨_, _, rfl⟩
theorem join_mk {L : List Ws} (h : ∀ x ∈ L, H0 x) : joinB (L.map mkW) (⟨#[44, 32]⟩ : ByteArray) = mkW (sepP L) := by
  apply ba_eq
  rw [mkW_l, flat_sepP h]
  show Lib.join ((L.map mkW).map (·.data.toList)) [44, 32] = _
  rw [List.map_map]
  rfl
theorem listP_F (n : Nat) (L : List Ws) (h : ∀ x ∈ L, H0 x) (hs : (flat (sepP L)).length ≤ 1000000) (k : ByteArray → Option R) : zCK_F n (L.map mkW) k = k (mkW (sepP L)) := by
  have := sep_len h
  rw [zCK_e]
  unfold zCK_Fi
  rw [zDL_e]
  unfold zDL_Fi
  rw [join_mk h, mkW_size, List.length_map, if_pos ⟨by omega, by omega⟩]
theorem termP2_F (n : Nat) (t : ty48.D) (h : TmOk t) (k : ByteArray → Option R) : zCR_F n t k = k (tmW t) := by
  rw [zCR_e]
  unfold zCR_Fi tmW
  by_cases h1 : t.2.1 = true
  · rw [if_pos h1, if_pos h1]; rfl
  · rw [if_neg h1, if_neg h1, beqB]
    by_cases h2 : t.1 = (⟨#[]⟩ : ByteArray)
    · rw [if_neg (by rw [decide_eq_true h2]; decide), if_neg (fun h => h h2), showP_F n _ h]
    · rw [if_pos (by rw [decide_eq_false h2]; rfl), if_pos h2]
theorem sgnL_F (n : Nat) (op : Int) (k : ByteArray → Option R) : zDM_F n op k = k (sgnP op) := by
  rw [zDM_e]
  unfold zDM_Fi
  rw [if_pos trivial]
theorem sgn_ne {op : Int} (h1 : 1 ≤ op) (h6 : op ≤ 6) : sgnP op ≠ (⟨#[]⟩ : ByteArray) := by
  have key : ∀ i : Fin 6, sgnP ((i.val : Int) + 1) ≠ (⟨#[]⟩ : ByteArray) := by decide +kernel
  have := key ⟨(op - 1).toNat, by omega⟩
  rw [show (((op - 1).toNat : Nat) : Int) + 1 = op by omega] at this
  exact this
theorem take_map (ts : List ty48.D) (j : Nat) (hj : j < ts.length) : (ts.take (j + 1)).map tmW = (ts.take j).map tmW ++ [tmW (ts.getD j (Ty.z ty48))] := by
  rw [List.take_succ_eq_append_getElem hj, List.map_append, List.getD_eq_getElem?_getD, List.getElem?_eq_getElem hj]
  rfl
theorem lit_loop (n : Nat) (ts : List ty48.D) (b : Bool) (nm : ByteArray) (ts2 : List ty48.D) (op : Int) (h : ∀ t ∈ ts, TmOk t) (hl : ts.length ≤ 100000) (m : Nat) (hm : ts.length < m) (k2 : exK R (zAH_dx 3)) :
    runC (zAH_l3 n) m (ts, (ts.length : Int), (0 : Int), b, nm, ts2, op, ([] : List ByteArray), ()) k2 = k2.1 (b, nm, ts2, op, ts.map tmW, ()) := by
  have := runC_st (R := R) (step := zAH_l3 n) k2 (k2.1 (b, nm, ts2, op, ts.map tmW, ())) (fun j => (ts, (ts.length : Int), (j : Int), b, nm, ts2, op, (ts.take j).map tmW, ())) ts.length (fun j hj => .inl fun k1 => ?_) (fun k1 => ?_) (n := m) hm
  · exact this
  · have c1 : (j : Int) < (ts.length : Int) := by omega
    have c2 : (0 : Int) ≤ (j : Int) ∧ (j : Int) < (ts.length : Int) := by omega
    have hmem : TmOk (ts.getD j (Ty.z ty48)) := h _ (by rw [List.getD_eq_getElem?_getD, List.getElem?_eq_getElem hj]; exact List.getElem_mem hj)
    have hlen : (((ts.take j).map tmW).length + 1) * 16 ≤ 140737488355328 := by rw [List.length_map, List.length_take]; omega
    rw [take_map ts j hj]
    unfold zAH_l3 zAH_s3
    simp only [Int.toNat_natCast, zDO j (by omega)]
    rw [if_pos (decide_eq_true c1), if_pos c2]
    refine (termP2_F n (ts.getD j (Ty.z ty48)) hmem _).trans ?_
    exact if_pos hlen
  · have e : (ts.take ts.length).map tmW = ts.map tmW := by rw [List.take_of_length_le (Nat.le_refl _)]
    rw [← e]
    unfold zAH_l3 zAH_s3
    rw [if_neg (by simp)]
theorem lit_par (x : ty51.D) (h : x.2.2.2.1 = 0) : mkW (litP x) = ((((if x.1 = true then (⟨#[110, 111, 116, 32]⟩ : ByteArray) ++ x.2.1 else x.2.1) ++ (⟨#[40]⟩ : ByteArray)) ++ mkW (sepP (tmI x.2.2.1))) ++ (⟨#[41]⟩ : ByteArray)) := by
  apply ba_eq
  rw [mkW_l]
  unfold litP
  rw [if_neg (fun g => g h), flat_app]
  have e : ∀ r : Ws, flat (([], lparB) :: r) = 40 :: flat r := fun _ => rfl
  have e2 : flat [([], rparB)] = [41] := rfl
  rw [e, flat_app, e2]
  by_cases hn : x.1 = true
  · rw [if_pos hn, if_pos hn]
    have e3 : flat (([], notB) :: [([32], x.2.1)]) = [110, 111, 116] ++ (32 :: (x.2.1.data.toList ++ [])) := rfl
    rw [e3]
    simp [mkW_l]
  · rw [if_neg hn, if_neg hn]
    have e3 : flat [([], x.2.1)] = x.2.1.data.toList ++ [] := rfl
    rw [e3]
    simp [mkW_l]
theorem lit_cmp (x : ty51.D) (h : x.2.2.2.1 ≠ 0) : mkW (litP x) = (((tmW (x.2.2.1.getD 0 (Ty.z ty48)) ++ (⟨#[32]⟩ : ByteArray)) ++ sgnP x.2.2.2.1) ++ (⟨#[32]⟩ : ByteArray)) ++ tmW (x.2.2.1.getD 1 (Ty.z ty48)) := by
  apply ba_eq
  rw [mkW_l]
  unfold litP
  rw [if_pos h]
  have e : ∀ a b c : ByteArray, flat [([], a), ([32], b), ([32], c)] = [] ++ (a.data.toList ++ ([32] ++ (b.data.toList ++ ([32] ++ (c.data.toList ++ []))))) := fun _ _ _ => rfl
  rw [e]
  simp
theorem litW_F (n : Nat) (x : ty51.D) (ho : LitOk x) (hs : (mkW (litP x)).size ≤ 1000000) (hl : x.2.2.1.length ≤ 100000) (hn : x.2.2.1.length < n) (k : ByteArray → Option R) : zAH_F n x k = k (mkW (litP x)) := by
  have s1 : (⟨#[32]⟩ : ByteArray).size = 1 := rfl
  have s2 : (⟨#[40]⟩ : ByteArray).size = 1 := rfl
  have s3 : (⟨#[41]⟩ : ByteArray).size = 1 := rfl
  have s4 : (⟨#[110, 111, 116, 32]⟩ : ByteArray).size = 4 := rfl
  rw [zAH_e]
  unfold zAH_Fi
  refine (lit_loop n x.2.2.1 x.1 x.2.1 x.2.2.1 x.2.2.2.1 ho.1 hl n hn _).trans ?_
  dsimp only
  rw [sgnL_F]
  by_cases h0 : x.2.2.2.1 = 0
  · rw [lit_par x h0] at hs ⊢
    rw [if_neg (by rw [h0]; decide), zAH_e1000009]
    unfold zAH_li1000009 zAH_s1000009
    dsimp only
    rw [if_neg (by decide), if_neg (by rw [h0]; decide)]
    have hlist : ∀ k, zCK_F (R := R) n (x.2.2.1.map tmW) k = k (mkW (sepP (tmI x.2.2.1))) := fun k => by
      rw [← tmI_map]
      refine listP_F n _ (tmI_H0 _) ?_ k
      rw [← mkW_size]
      simp only [ByteArray.size_append] at hs
      omega
    by_cases hx : x.1 = true
    · rw [if_pos hx] at hs ⊢
      simp only [ByteArray.size_append, s2, s3, s4] at hs
      rw [if_pos hx, if_pos (by rw [s4]; omega), if_pos (by simp only [ByteArray.size_append, s2, s4]; omega), hlist, if_pos (by simp only [ByteArray.size_append, s2, s4]; omega), if_pos (by simp only [ByteArray.size_append, s2, s3, s4]; omega)]
    · rw [if_neg hx] at hs ⊢
      simp only [ByteArray.size_append, s2, s3] at hs
      rw [if_neg hx, if_pos (by rw [s2]; omega), hlist, if_pos (by simp only [ByteArray.size_append, s2]; omega), if_pos (by simp only [ByteArray.size_append, s2, s3]; omega)]
  · obtain ⟨o1, o6, o2⟩ := ho.2 h0
    have hb : (x.2.2.2.1 != 0) = true := by simpa using h0
    rw [lit_cmp x h0] at hs ⊢
    simp only [ByteArray.size_append, s1] at hs
    rw [if_pos hb, beqB, decide_eq_false (sgn_ne o1 o6), if_neg (by decide), zAH_e1000009]
    unfold zAH_li1000009 zAH_s1000009
    dsimp only
    have hlen : (x.2.2.1.map tmW).length = 2 := by rw [List.length_map]; exact o2
    have g0 : (x.2.2.1.map tmW).getD (Int.toNat 0) (Ty.z .str) = tmW (x.2.2.1.getD 0 (Ty.z ty48)) := by
      rw [List.getD_eq_getElem?_getD, List.getD_eq_getElem?_getD, List.getElem?_map]
      show ((x.2.2.1[0]?).map tmW).getD _ = _
      rw [List.getElem?_eq_getElem (by omega)]
      rfl
    have g1 : (x.2.2.1.map tmW).getD (Int.toNat 1) (Ty.z .str) = tmW (x.2.2.1.getD 1 (Ty.z ty48)) := by
      rw [List.getD_eq_getElem?_getD, List.getD_eq_getElem?_getD, List.getElem?_map]
      show ((x.2.2.1[1]?).map tmW).getD _ = _
      rw [List.getElem?_eq_getElem (by omega)]
      rfl
    rw [hlen, g0, g1]
    rw [if_neg (by decide), if_pos hb, if_pos (by decide), if_pos (by decide), if_pos (by rw [s1]; omega), if_pos (by simp only [ByteArray.size_append, s1]; omega), if_pos (by simp only [ByteArray.size_append, s1]; omega), if_pos (by decide), if_pos (by decide), if_pos (by simp only [ByteArray.size_append, s1]; omega)]
theorem pwordP_F (n : Nat) (a : Int) (l : List ByteArray) (h0 : 0 ≤ a) (h1 : a < (l.length : Int)) (k : ByteArray → Option R) : zCS_F n a l k = k (l.getD a.toNat (⟨#[]⟩ : ByteArray)) := by
  rw [zCS_e]
  unfold zCS_Fi
  rw [if_neg (by simpa using h0), if_neg (by simpa using h1), if_pos ⟨h0, h1⟩]
  rfl
theorem headI_map (hd : List ByteArray) (ag : Int) (of_ : ByteArray) : (headI hd ag of_).map mkW = hd ++ (if ag = 0 then [] else [mkW (aggP ag of_)]) := by
  unfold headI
  rw [List.map_append, List.map_map]
  congr 1
  · conv => rhs; rw [← List.map_id hd]
    exact List.map_congr_left fun w _ => mkW_nm w
  · split <;> rfl
theorem headI_H0 (hd : List ByteArray) (ag : Int) (of_ : ByteArray) : ∀ x ∈ headI hd ag of_, H0 x := fun x hx => by
  unfold headI at hx
  rcases List.mem_append.1 hx with hx | hx
  · obtain ⟨t, _, rfl⟩ := List.mem_map.1 hx
    exact ⟨_, _, rfl⟩
  · split at hx
    · cases hx
    · rw [List.mem_singleton.1 hx]; exact ⟨_, _, rfl⟩
theorem agg_mk (ag : Int) (of_ : ByteArray) : mkW (aggP ag of_) = if 1 < ag then aggW.getD ag.toNat (⟨#[]⟩ : ByteArray) ++ ((⟨#[32]⟩ : ByteArray) ++ of_) else aggW.getD ag.toNat (⟨#[]⟩ : ByteArray) := by
  apply ba_eq
  rw [mkW_l]
  unfold aggP
  by_cases h : 1 < ag
  · rw [if_pos h, if_pos h]
    show [] ++ ((aggW.getD ag.toNat (⟨#[]⟩ : ByteArray)).data.toList ++ ([32] ++ (of_.data.toList ++ []))) = _
    simp
  · rw [if_neg h, if_neg h]
    show [] ++ ((aggW.getD ag.toNat (⟨#[]⟩ : ByteArray)).data.toList ++ []) = _
    simp
theorem headW_F (n : Nat) (x : ty25.D) (h0 : 0 ≤ x.2.2.2.1) (h4 : x.2.2.2.1 ≤ 4) (hs : (mkW (sepP (headI x.2.2.1 x.2.2.2.1 x.2.2.2.2.1))).size ≤ 1000000) (k : ByteArray → Option R) : zDD_F n x k = k (mkW (sepP (headI x.2.2.1 x.2.2.2.1 x.2.2.2.2.1))) := by
  have hH := headI_H0 x.2.2.1 x.2.2.2.1 x.2.2.2.2.1
  rw [mkW_size] at hs
  have hlen := sep_len hH
  have hlist : ∀ k, zCK_F (R := R) n (x.2.2.1 ++ (if x.2.2.2.1 = 0 then [] else [mkW (aggP x.2.2.2.1 x.2.2.2.2.1)])) k = k (mkW (sepP (headI x.2.2.1 x.2.2.2.1 x.2.2.2.2.1))) := fun k => by
    rw [← headI_map]
    exact listP_F n _ hH hs k
  have hl1 : x.2.2.1.length + 1 ≤ 1000002 := by
    have : x.2.2.1.length ≤ (headI x.2.2.1 x.2.2.2.1 x.2.2.2.2.1).length := by unfold headI; rw [List.length_append, List.length_map]; omega
    omega
  have s1 : (⟨#[32]⟩ : ByteArray).size = 1 := rfl
  have hof : x.2.2.2.1 ≠ 0 → 1 < x.2.2.2.1 → x.2.2.2.2.1.size + (aggW.getD x.2.2.2.1.toNat (⟨#[]⟩ : ByteArray)).size ≤ 1000000 := by
    intro g1 g2
    have := sep_mem hH (aggP x.2.2.2.1 x.2.2.2.2.1) (by unfold headI; rw [if_neg g1]; simp)
    rw [← mkW_size, agg_mk, if_pos g2] at this
    simp only [ByteArray.size_append] at this
    omega
  rw [zDD_e]
  unfold zDD_Fi
  rw [if_pos (show (List.length ([] : List ByteArray) + List.length x.2.2.1) * 16 ≤ 140737488355328 by simp only [List.length_nil]; omega)]
  by_cases ha : x.2.2.2.1 = 0
  · rw [if_neg (by rw [ha]; decide)]
    have := hlist k
    rw [if_pos ha, List.append_nil] at this
    exact this
  · rw [if_pos (by simpa using ha)]
    have h5 : x.2.2.2.1 < ((aggW.length : Nat) : Int) := Int.lt_of_le_of_lt h4 (by decide)
    refine (pwordP_F n x.2.2.2.1 aggW h0 h5 _).trans ?_
    by_cases h1 : 1 < x.2.2.2.1
    · have := hof ha h1
      have hk := hlist k
      rw [if_neg ha, agg_mk, if_pos h1] at hk
      rw [if_pos (decide_eq_true h1), if_pos (by rw [s1]; omega), if_pos (by simp only [ByteArray.size_append, s1]; omega), if_pos (by simp only [List.nil_append, List.length_cons, List.length_nil]; omega)]
      exact hk
    · have hk := hlist k
      rw [if_neg ha, agg_mk, if_neg h1] at hk
      rw [if_neg (by simpa using h1), if_pos (by simp only [List.nil_append, List.length_cons, List.length_nil]; omega)]
      exact hk
theorem takeL_map (ls : List ty51.D) (j : Nat) (hj : j < ls.length) : (ls.take (j + 1)).map (fun y => mkW (litP y)) = (ls.take j).map (fun y => mkW (litP y)) ++ [mkW (litP (ls.getD j (Ty.z ty51)))] := by
  rw [List.take_succ_eq_append_getElem hj, List.map_append, List.getD_eq_getElem?_getD, List.getElem?_eq_getElem hj]
  rfl
def LitSz (n : Nat) (y : ty51.D) : Prop := LitOk y ∧ (mkW (litP y)).size ≤ 1000000 ∧ y.2.2.1.length ≤ 100000 ∧ y.2.2.1.length < n
theorem rule_loop (n : Nat) (s : ByteArray) (ls : List ty51.D) (kind : Int) (nm : ByteArray) (hd : List ByteArray) (ag : Int) (of_ : ByteArray) (lim : Int) (bd : List ty51.D) (h : ∀ y ∈ ls, LitSz n y) (hl : ls.length ≤ 100000) (m : Nat) (hm : ls.length < m) (k2 : exK R (zBG_dx 6)) :
    runC (zBG_l6 n) m (s, ls, (ls.length : Int), (0 : Int), kind, nm, hd, ag, of_, lim, bd, ([] : List ByteArray), ()) k2 = k2.1 (s, kind, nm, hd, ag, of_, lim, bd, ls.map (fun y => mkW (litP y)), ()) := by
  have := runC_st (R := R) (step := zBG_l6 n) k2 (k2.1 (s, kind, nm, hd, ag, of_, lim, bd, ls.map (fun y => mkW (litP y)), ())) (fun j => (s, ls, (ls.length : Int), (j : Int), kind, nm, hd, ag, of_, lim, bd, (ls.take j).map (fun y => mkW (litP y)), ())) ls.length (fun j hj => .inl fun k1 => ?_) (fun k1 => ?_) (n := m) hm
  · exact this
  · have c1 : (j : Int) < (ls.length : Int) := by omega
    have c2 : (0 : Int) ≤ (j : Int) ∧ (j : Int) < (ls.length : Int) := by omega
    obtain ⟨g1, g2, g3, g4⟩ := h (ls.getD j (Ty.z ty51)) (by rw [List.getD_eq_getElem?_getD, List.getElem?_eq_getElem hj]; exact List.getElem_mem hj)
    have hlen : (((ls.take j).map (fun y => mkW (litP y))).length + 1) * 16 ≤ 140737488355328 := by rw [List.length_map, List.length_take]; omega
    rw [takeL_map ls j hj]
    unfold zBG_l6 zBG_s6
    simp only [Int.toNat_natCast, zDO j (by omega)]
    rw [if_pos (decide_eq_true c1), if_pos c2]
    refine (litW_F n (ls.getD j (Ty.z ty51)) g1 g2 g3 g4 _).trans ?_
    exact if_pos hlen
  · have e : (ls.take ls.length).map (fun y => mkW (litP y)) = ls.map (fun y => mkW (litP y)) := by rw [List.take_of_length_le (Nat.le_refl _)]
    rw [← e]
    unfold zBG_l6 zBG_s6
    rw [if_neg (by simp)]
def knW (k : Int) : ByteArray := [(⟨#[]⟩ : ByteArray), (⟨#[100, 101, 110, 121]⟩ : ByteArray), (⟨#[118, 105, 101, 119]⟩ : ByteArray), (⟨#[113, 117, 111, 116, 97]⟩ : ByteArray)].getD k.toNat (⟨#[]⟩ : ByteArray)
def prA (x : ty25.D) : ByteArray := (((((knW x.1 ++ (⟨#[32]⟩ : ByteArray)) ++ x.2.1) ++ (⟨#[40]⟩ : ByteArray)) ++ mkW (sepP (headI x.2.2.1 x.2.2.2.1 x.2.2.2.2.1))) ++ (⟨#[41]⟩ : ByteArray))
def prB (x : ty25.D) : ByteArray := if x.1 = 3 then prA x ++ ((⟨#[32, 108, 105, 109, 105, 116, 32]⟩ : ByteArray) ++ fmtB x.2.2.2.2.2.1) else prA x
def prS (x : ty25.D) : ByteArray := prB x ++ ((⟨#[32, 105, 102, 32]⟩ : ByteArray) ++ mkW (sepP (x.2.2.2.2.2.2.1.map litP)))
structure PrOk (n : Nat) (x : ty25.D) : Prop where
  k0 : 0 ≤ x.1
  k3 : x.1 ≤ 3
  a0 : 0 ≤ x.2.2.2.1
  a4 : x.2.2.2.1 ≤ 4
  lim : inR x.2.2.2.2.2.1
  size : (prS x).size ≤ 1000000
  lits : ∀ y ∈ x.2.2.2.2.2.2.1, LitOk y ∧ y.2.2.1.length ≤ 100000 ∧ y.2.2.1.length < n
  small : Small x
theorem litP_H0 (ls : List ty51.D) : ∀ y ∈ ls.map litP, H0 y := fun y hy => by
  obtain ⟨t, _, rfl⟩ := List.mem_map.1 hy
  unfold litP
  split
  · exact ⟨_, _, rfl⟩
  · split
    · exact ⟨_, _, rfl⟩
    · exact ⟨_, _, rfl⟩
theorem fmtW_F (n : Nat) (x : Int) (h : inR x) (k : ByteArray → Option R) : zBS_F n x 10 k = k (fmtB x) := by
  rw [zBS_e]
  unfold zBS_Fi
  rw [if_pos ⟨rfl, h.1, h.2⟩]
noncomputable def prK (x : ty25.D) (k : ByteArray → Int → Option R) : Option R :=
  if (prS x).size > 300 then k (⟨#[]⟩ : ByteArray) 9 else if (rRule (prS x)).2.2.2.2.2.2.1 ≠ 0 then k (⟨#[]⟩ : ByteArray) 7 else if eqD x (ruleT (rRule (prS x))) = true then k (prS x) 0 else k (⟨#[]⟩ : ByteArray) 7
theorem prRule_F (n : Nat) (hn : 2000 < n) (x : ty25.D) (h : PrOk n x) (k : ByteArray → Int → Option R) : zBG_F n x k = prK x k := by
  have s1 : (⟨#[32]⟩ : ByteArray).size = 1 := rfl
  have s2 : (⟨#[40]⟩ : ByteArray).size = 1 := rfl
  have s3 : (⟨#[41]⟩ : ByteArray).size = 1 := rfl
  have s4 : (⟨#[32, 108, 105, 109, 105, 116, 32]⟩ : ByteArray).size = 7 := rfl
  have s5 : (⟨#[32, 105, 102, 32]⟩ : ByteArray).size = 4 := rfl
  have hs := h.size
  have hB : (prA x).size ≤ (prB x).size := by
    unfold prB
    split
    · rw [ByteArray.size_append]; omega
    · exact Nat.le_refl _
  have hS : (prS x).size = (prB x).size + (4 + (mkW (sepP (x.2.2.2.2.2.2.1.map litP))).size) := by unfold prS; rw [ByteArray.size_append, ByteArray.size_append, s5]
  have hA : (prA x).size = (knW x.1).size + 1 + x.2.1.size + 1 + (mkW (sepP (headI x.2.2.1 x.2.2.2.1 x.2.2.2.2.1))).size + 1 := by
    unfold prA
    simp only [ByteArray.size_append, s1, s2, s3]
  have hLH := litP_H0 x.2.2.2.2.2.2.1
  have hlits : ∀ y ∈ x.2.2.2.2.2.2.1, LitSz n y := fun y hy => by
    obtain ⟨g1, g2, g3⟩ := h.lits y hy
    refine ⟨g1, ?_, g2, g3⟩
    have := sep_mem hLH (litP y) (List.mem_map_of_mem hy)
    rw [mkW_size] at hS ⊢
    omega
  have hblen : x.2.2.2.2.2.2.1.length ≤ 1000 := h.small.bd
  have hlist : ∀ k, zCK_F (R := R) n (x.2.2.2.2.2.2.1.map (fun y => mkW (litP y))) k = k (mkW (sepP (x.2.2.2.2.2.2.1.map litP))) := fun k => by
    have := listP_F (R := R) n (x.2.2.2.2.2.2.1.map litP) hLH (by rw [mkW_size] at hS; omega) k
    rw [List.map_map] at this
    exact this
  have last : ∀ (b : ByteArray), b = prB x → ∀ K : exK R (zBG_dx 6), K = (fun b13 => zCK_F n b13.2.2.2.2.2.2.2.2.1 (fun y14 => if (⟨#[32, 105, 102, 32]⟩ : ByteArray).size + y14.size ≤ 9223372036854775807 then (if b13.1.size + ((⟨#[32, 105, 102, 32]⟩ : ByteArray) ++ y14).size ≤ 9223372036854775807 then (if (decide (((b13.1 ++ ((⟨#[32, 105, 102, 32]⟩ : ByteArray) ++ y14)).size : Int) > 300)) = true then (k (⟨#[]⟩ : ByteArray) 9) else (zDK_F n (b13.1 ++ ((⟨#[32, 105, 102, 32]⟩ : ByteArray) ++ y14)) (fun y15 y16 y17 => if (y17 != 0) = true then (k (⟨#[]⟩ : ByteArray) 7) else (zDA_F n (b13.2.1, b13.2.2.1, b13.2.2.2.1, b13.2.2.2.2.1, b13.2.2.2.2.2.1, b13.2.2.2.2.2.2.1, b13.2.2.2.2.2.2.2.1, ()) y15 (fun y18 => if (!y18) = true then (k (⟨#[]⟩ : ByteArray) 7) else (k (b13.1 ++ ((⟨#[32, 105, 102, 32]⟩ : ByteArray) ++ y14)) 0)))))) else none) else none), ()) →
      runC (zBG_l6 n) n (b, x.2.2.2.2.2.2.1, (x.2.2.2.2.2.2.1.length : Int), (0 : Int), x.1, x.2.1, x.2.2.1, x.2.2.2.1, x.2.2.2.2.1, x.2.2.2.2.2.1, x.2.2.2.2.2.2.1, ([] : List ByteArray), ()) K = prK x k := by
    rintro b rfl K rfl
    refine (rule_loop n (prB x) x.2.2.2.2.2.2.1 x.1 x.2.1 x.2.2.1 x.2.2.2.1 x.2.2.2.2.1 x.2.2.2.2.2.1 x.2.2.2.2.2.2.1 hlits (by omega) n (by omega) _).trans ?_
    dsimp only
    rw [hlist, if_pos (by rw [s5]; omega), if_pos (by simp only [ByteArray.size_append, s5]; omega)]
    show (if decide (((prS x).size : Int) > 300) = true then _ else zDK_F n (prS x) _) = _
    rw [ruleP2_F]
    unfold prK
    by_cases hz : (prS x).size > 300
    · rw [if_pos (decide_eq_true (show ((prS x).size : Int) > 300 by omega)), if_pos hz]
    · rw [if_neg (fun g => hz (by have := of_decide_eq_true g; omega)), if_neg hz]
      by_cases hw : (rRule (prS x)).2.2.2.2.2.2.1 = 0
      · rw [if_neg (by rw [hw]; decide), if_neg (fun g => g hw)]
        refine (sameP_F n x (ruleT (rRule (prS x))) h.small hn _).trans ?_
        cases eqD x (ruleT (rRule (prS x))) <;> rfl
      · rw [if_pos (by simpa using hw), if_pos hw]
  rw [zBG_e]
  unfold zBG_Fi
  refine (pwordP_F n x.1 _ h.k0 (Int.lt_of_le_of_lt h.k3 (by decide)) _).trans ?_
  show (if (knW x.1).size + _ ≤ _ then _ else _) = _
  rw [if_pos (by rw [s1]; omega), if_pos (by show ((knW x.1) ++ _).size + _ ≤ _; simp only [ByteArray.size_append, s1]; omega), if_pos (by show (((knW x.1) ++ _) ++ _).size + _ ≤ _; simp only [ByteArray.size_append, s1, s2]; omega)]
  refine (headW_F n x h.a0 h.a4 (by omega) _).trans ?_
  rw [if_pos (by show ((((knW x.1) ++ _) ++ _) ++ _).size + _ ≤ _; simp only [ByteArray.size_append, s1, s2]; omega), if_pos (by show (((((knW x.1) ++ _) ++ _) ++ _) ++ _).size + _ ≤ _; simp only [ByteArray.size_append, s1, s2, s3]; omega)]
  by_cases h3 : x.1 = 3
  · have eB : prB x = prA x ++ ((⟨#[32, 108, 105, 109, 105, 116, 32]⟩ : ByteArray) ++ fmtB x.2.2.2.2.2.1) := by unfold prB; rw [if_pos h3]
    have hBs : (prB x).size = (prA x).size + (7 + (fmtB x.2.2.2.2.2.1).size) := by rw [eB, ByteArray.size_append, ByteArray.size_append, s4]
    rw [if_pos (by rw [h3]; decide), fmtW_F n _ h.lim, if_pos (by rw [s4]; omega), if_pos (by show (prA x).size + _ ≤ _; rw [ByteArray.size_append, s4]; omega)]
    exact last _ eB.symm _ rfl
  · have eB : prB x = prA x := by unfold prB; rw [if_neg h3]
    rw [if_neg (by simpa using h3)]
    exact last _ eB.symm _ rfl
theorem flat_cons (g : List UInt8) (w : ByteArray) (r : Ws) : flat ((g, w) :: r) = g ++ (w.data.toList ++ flat r) := rfl
theorem kn_kind {k : Int} (h1 : 1 ≤ k) (h3 : k ≤ 3) : knW k = kindW k := by
  have : k = 1 ∨ k = 2 ∨ k = 3 := by omega
  rcases this with h | h | h <;> subst h <;> rfl
theorem prS_mk (x : ty25.D) (h : RuleOk x) : prS x = mkW (ruleW x) := by
  apply ba_eq
  obtain ⟨y, L, hb⟩ : ∃ y L, x.2.2.2.2.2.2.1 = y :: L := by
    cases e : x.2.2.2.2.2.2.1 with
    | nil => exact absurd e h.some
    | cons y L => exact ⟨y, L, rfl⟩
  have hs : flat (sp (sepP (x.2.2.2.2.2.2.1.map litP))) = 32 :: flat (sepP (x.2.2.2.2.2.2.1.map litP)) := by
    refine flat_sp ?_
    have := litP_H0 x.2.2.2.2.2.2.1
    rw [hb, List.map_cons] at this ⊢
    exact (this _ (List.mem_cons_self ..)).sep
  rw [mkW_l]
  unfold ruleW prS prB prA
  rw [kn_kind h.k1 h.k3]
  have l1 : lparB.data.toList = [40] := rfl
  have l2 : rparB.data.toList = [41] := rfl
  have l3 : limitB.data.toList = [108, 105, 109, 105, 116] := rfl
  have l4 : ifB.data.toList = [105, 102] := rfl
  have l5 : flat [] = [] := rfl
  simp only [flat_cons, flat_app, hs, l1, l2, l4]
  by_cases h3 : x.1 = 3
  · rw [if_pos h3, if_pos h3]
    simp [flat_cons, l3, l5, mkW_l]
  · rw [if_neg h3, if_neg h3]
    simp [l5, mkW_l]
theorem ch_len : ∀ {r : Ws} {p : Bool}, Ch p r → ∀ {b : Nat}, (∀ w ∈ mp r, w.size ≤ b) → (flat r).length ≤ (mp r).length * (b + 1)
  | [], _, _, _, _ => Nat.zero_le _
  | (g, w) :: r, p, h, b, hb => by
    have h1 := hb w (List.mem_cons_self ..)
    have h2 := ch_len h.2 (b := b) fun x hx => hb x (List.mem_cons_of_mem _ hx)
    have hg : g.length ≤ 1 := by
      rcases h.1 with e | e
      · rw [e]; decide
      · rw [e.1]; decide
    rw [flat_cons]
    simp only [List.length_append, ← zDV, mp, List.map_cons, List.length_cons] at h2 ⊢
    rw [Nat.add_mul]
    omega
theorem tx_len {s : ByteArray} (h0 : (lexS s).2.1 = 0) : s.size ≤ 300 := by
  unfold lexS at h0
  split at h0
  · cases h0
  · omega
theorem read_ok (n : Nat) (hn : 2000 < n) {s : ByteArray} (hw : (rRule s).2.2.2.2.2.2.1 = 0) : PrOk n (ruleT (rRule s)) ∧ (prS (ruleT (rRule s))).data.toList = catL [] (ruleW (ruleT (rRule s))) := by
  obtain ⟨h1, h0, m, _, h3, h4, h5⟩ := rule_words hw
  have hz := tx_len h0
  have hmk := prS_mk _ h1
  have hsm := small_rule s
  refine ⟨⟨by have := h1.k1; exact Int.le_trans (by decide) this, h1.k3, h1.a0, h1.a4, h1.lim, ?_, fun y hy => ⟨h1.lits y hy, by have := hsm.ar y hy; omega, by have := hsm.ar y hy; omega⟩, hsm⟩, ?_⟩
  · rw [hmk, mkW_size]
    have := ch_len (Ch.rule (ruleT (rRule s))) (b := 300) (fun w hw => by
      rw [h5] at hw
      obtain ⟨t, ht, rfl⟩ := List.mem_map.1 hw
      exact Nat.le_trans (h3 t ht).2.1 hz)
    rw [h5] at this
    have hl : (tx m).length ≤ 300 := by unfold tx; rw [List.length_map]; omega
    have : (tx m).length * 301 ≤ 300 * 301 := Nat.mul_le_mul_right _ hl
    omega
  · rw [hmk]; rfl
theorem print_back {s : ByteArray} (hw : (rRule s).2.2.2.2.2.2.1 = 0) (hz : ¬ (prS (ruleT (rRule s))).size > 300) : zR (rRule s) = zR (rRule (prS (ruleT (rRule s)))) :=
  print_same hw (by omega) (read_ok 2001 (by decide) hw).2
theorem prK_back {s : ByteArray} (hw : (rRule s).2.2.2.2.2.2.1 = 0) (hz : ¬ (prS (ruleT (rRule s))).size > 300) (k : ByteArray → Int → Option R) : prK (ruleT (rRule s)) k = k (prS (ruleT (rRule s))) 0 := by
  have hr := print_back hw hz
  have e1 : ruleT (rRule (prS (ruleT (rRule s)))) = ruleT (rRule s) := (congrArg ruleT hr).symm
  have e2 : (rRule (prS (ruleT (rRule s)))).2.2.2.2.2.2.1 = (rRule s).2.2.2.2.2.2.1 := (congrArg (fun x : RR => x.2.2.2.2.2.2.1) hr).symm
  unfold prK
  rw [if_neg hz, if_neg (by rw [e2, hw]; decide), e1, eqD_refl, if_pos rfl]
noncomputable def lexX (n : Nat) (s : ByteArray) : Int × Int × Toks := (zAJ_F (R := Int × Int × Toks) n s (fun a b c => some (a, b, c))).getD (0, 0, [])
theorem lexX_eq (n : Nat) (hn : 2000 < n) (s : ByteArray) : lexX n s = lexS s := by
  unfold lexX
  rw [refLex_F n s hn]
  rfl
noncomputable def rulX (n : Nat) (s : ByteArray) : RR := if (lexX n s).2.1 ≠ 0 then rErr (lexX n s).1 (lexX n s).2.1 else rTok (lexX n s).2.2
theorem rulX_eq (n : Nat) (hn : 2000 < n) (s : ByteArray) : rulX n s = rRule s := by
  unfold rulX rRule
  rw [lexX_eq n hn]
def s13 : ByteArray := ⟨#[100, 101, 110, 121, 32, 100, 40, 32, 97, 32, 41, 105, 102, 32, 104, 40, 32, 97, 32, 41, 44, 97, 60, 51]⟩
def t13 : ByteArray := ⟨#[100, 101, 110, 121, 32, 100, 40, 97, 41, 32, 105, 102, 32, 104, 40, 97, 41, 44, 32, 97, 32, 60, 32, 51]⟩
def z13 : ty25.D := (0, (⟨#[]⟩ : ByteArray), [], 0, (⟨#[]⟩ : ByteArray), 0, [], ())
theorem s13_why : (rRule s13).2.2.2.2.2.2.1 = 0 := by
  rw [← rulX_eq 3000 (by decide)]
  show _ = _
  kernel_rfl
theorem s13_prS : prS (ruleT (rRule s13)) = t13 := by
  rw [← rulX_eq 3000 (by decide)]
  show _ = _
  kernel_rfl
theorem z13_why : (rRule (prS z13)).2.2.2.2.2.2.1 = 7 := by
  rw [← rulX_eq 3000 (by decide)]
  show _ = _
  kernel_rfl
theorem z13_ok (n : Nat) : PrOk n z13 := by
  refine ⟨by decide, by decide, by decide, by decide, inR0, by decide +kernel, fun y hy => (by cases hy), ⟨Nat.zero_le _, Nat.zero_le _, fun y hy => (by cases hy)⟩⟩
theorem known13_F (n : Nat) (hn : 2000 < n) (k : Bool → Option R) : zBK_F n k = k true := by
  rw [zBK_e]
  unfold zBK_Fi
  refine (rule_F n s13 hn _).trans ?_
  refine (prRule_F n hn (ruleT (rRule s13)) (read_ok n hn s13_why).1 _).trans ?_
  refine (prK_back s13_why (by rw [s13_prS]; decide) _).trans ?_
  refine (prRule_F n hn z13 (z13_ok n) _).trans ?_
  unfold prK
  rw [if_neg (by decide +kernel), if_pos (by rw [z13_why]; decide), s13_prS, s13_why]
  dsimp only
  rw [if_pos (by rfl), if_pos (by decide +kernel), if_pos (by rfl), if_pos (by rfl), zCR_e]
  unfold zCR_Fi
  rw [if_pos rfl]
  exact congrArg k (by decide +kernel)
theorem PrintBack_true (s : ByteArray) (_ : s.size ≤ 140737488351232) : ∃ n, zBF_F (R := Unit) n s (fun b => bif b then some () else none) = some () := by
  obtain ⟨n, hn⟩ : ∃ n : Nat, 2000 < n := ⟨3000, by omega⟩
  refine ⟨n, ?_⟩
  rw [zBF_e]
  unfold zBF_Fi
  refine (rule_F n s hn _).trans ?_
  by_cases hw : (rRule s).2.2.2.2.2.2.1 = 0
  rotate_left
  · rw [if_pos (by simpa using hw), known13_F n hn]
    rfl
  rw [if_neg (by rw [hw]; decide)]
  refine (prRule_F n hn (ruleT (rRule s)) (read_ok n hn hw).1 _).trans ?_
  by_cases hz : (prS (ruleT (rRule s))).size > 300
  · unfold prK
    rw [if_pos hz]
    dsimp only
    rw [if_pos (by rfl), if_pos (by rfl), if_pos (beq_self_eq_true _), known13_F n hn]
    rfl
  · have hr := print_back hw hz
    have e1 : ruleT (rRule (prS (ruleT (rRule s)))) = ruleT (rRule s) := (congrArg ruleT hr).symm
    have e2 : (rRule (prS (ruleT (rRule s)))).2.2.2.2.2.2.1 = 0 := (congrArg (fun x : RR => x.2.2.2.2.2.2.1) hr).symm.trans hw
    refine (prK_back hw hz _).trans ?_
    dsimp only
    rw [if_neg (by decide)]
    refine (rule_F n (prS (ruleT (rRule s))) hn _).trans ?_
    show zBG_F n (ruleT (rRule (prS (ruleT (rRule s))))) _ = _
    rw [e1]
    refine (prRule_F n hn (ruleT (rRule s)) (read_ok n hn hw).1 _).trans ?_
    refine (prK_back hw hz _).trans ?_
    rw [e2, if_pos (by rfl)]
    refine (sameR_F n (ruleT (rRule s)) (ruleT (rRule (prS (ruleT (rRule s))))) (small_rule s) hn _).trans ?_
    rw [e1, eqD_refl, if_pos rfl, if_pos (by simp), if_pos (by rfl), known13_F n hn]
    rfl
end Go.Proofs.YtnnbinmomendnaaGreatDoor.E
namespace Go.Proofs.YtnnbinmomendnaaGreatDoor
open Go.RowKit
theorem gt_pow10 : (Tryz.prog.globals[0]?).map (·.type) = some 132 := by kernel_rfl
theorem gt_syn : (Tryz.prog.globals[4]?).map (·.type) = some 116 := by kernel_rfl
theorem gt_rng : (Tryz.prog.globals[5]?).map (·.type) = some 116 := by kernel_rfl
theorem err_star : "*" ++ "errors.errorString" = "*errors.errorString" := by decide
theorem row_err (u : TypeId) (h : Tryz.prog.typeName? 3 u = some "*errors.errorString") : u = 168 :=
  typeName_ptr_named (nm := "errors.errorString") (by rw [err_star]; kernel_rfl) (by kernel_rfl) (by decide) u (by rw [err_star]; exact h)
theorem lt_of_var {w : World} {n : String} {g : Nat} {cs : Array Value} (hg : Tryz.prog.globalNamed n = some g) (h : w.var? Tryz.prog n = some cs) : g < w.heap.size := by
  unfold World.var? at h
  rw [hg] at h
  simp only [Option.bind_some] at h
  rcases Nat.lt_or_ge g w.heap.size with hl | hl
  · exact hl
  · rw [Array.getElem?_eq_none hl] at h; cases h
def laidList : List (String × DataW Unit) := [("math/bits.deBruijn32tab", Rows.laid_math_bits_deBruijn32tab), ("math/bits.deBruijn64tab", Rows.laid_math_bits_deBruijn64tab), ("internal/strconv.uint64pow10", Rows.laid_internal_strconv_uint64pow10), ("strconv.ErrRange", Rows.laid_strconv_ErrRange), ("strconv.ErrSyntax", Rows.laid_strconv_ErrSyntax)]
theorem laid_of {W : World} (h : laidMetH Tryz.prog laidList W) : Laid W := by
  have h0 : laidMet Tryz.prog laidList W := h
  have h3 := h0.tail.tail
  have p := Lib.tabIs_of_head (zs := Lib.pow10Tab) (k := .u64) g_pow10 gt_pow10 Tryz.underlying132 Tryz.underlying105 (by kernel_rfl) (by kernel_rfl) h3
  obtain ⟨a0, s0, hv0, -, -, -⟩ := laid_sentinel h3.tail g_rng gt_rng Tryz.underlying116 row_err Tryz.underlying168 Tryz.underlying170 rfl rfl Tryz.underlying9 (by kernel_rfl) (by kernel_rfl)
  obtain ⟨a1, s1, hv1, -, -, -⟩ := laid_sentinel h3.tail.tail g_syn gt_syn Tryz.underlying116 row_err Tryz.underlying168 Tryz.underlying170 rfl rfl Tryz.underlying9 (by kernel_rfl) (by kernel_rfl)
  exact ⟨p, ⟨_, _, hv1⟩, ⟨_, _, hv0⟩, .inr ⟨lt_of_var g_pow10 p, lt_of_var g_syn hv1, lt_of_var g_rng hv0⟩⟩
end Go.Proofs.YtnnbinmomendnaaGreatDoor
