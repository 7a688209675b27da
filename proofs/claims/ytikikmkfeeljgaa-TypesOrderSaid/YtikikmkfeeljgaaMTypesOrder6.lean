/- A text of the proof that the law TypesOrder returns true: nothing is assumed in it. -/
import Derived.Test.YtikikmkfeeljgaaMTypesOrder5
import Derived.KernelRfl
set_option linter.unusedVariables false
set_option linter.unusedSimpArgs false
namespace Go.Proofs.Ytikikmkfeeljgaa.E
open Go.RowKit
variable {R : Type}
/-! in another order -/
def okP (cols : ByteArray → Int × Cols) (first : Bool) : Cols → List ty41.D → Option Cols
  | L, [] => some L
  | L, x :: r => if selS x = first then (if (litS cols L x).1 = 0 then okP cols first (litS cols L x).2 r else none) else okP cols first L r
def asO {α β : Type} : α ⊕ β → Option α
  | .inl a => some a
  | .inr _ => none
theorem okP_fold (cols : ByteArray → Int × Cols) (first : Bool) : ∀ (l : List ty41.D) (i : Nat) (L : Cols), asO (foldL (passF cols first) i L l) = okP cols first L l
  | [], i, L => rfl
  | x :: l, i, L => by
    unfold foldL okP passF
    by_cases h1 : selS x = first
    · by_cases h2 : (litS cols L x).1 = 0
      · simp only [h1, h2, if_true]; exact okP_fold cols first l (i + 1) _
      · simp only [h1, h2, if_true, if_false]; rfl
    · simp only [h1, if_false]; exact okP_fold cols first l (i + 1) L
theorem okP_filter (cols : ByteArray → Int × Cols) (first : Bool) : ∀ (l : List ty41.D) (L : Cols), okP cols first L l = okP cols first L (l.filter fun x => selS x == first)
  | [], L => rfl
  | x :: l, L => by
    by_cases h1 : selS x = first
    · rw [List.filter_cons_of_pos (by simpa using h1)]
      unfold okP
      rw [if_pos h1, if_pos h1]
      split
      · exact okP_filter cols first l _
      · rfl
    · rw [List.filter_cons_of_neg (by simpa using h1)]
      conv => lhs; unfold okP
      rw [if_neg h1]
      exact okP_filter cols first l L
theorem arg_same (L : Cols) (t : ty38.D) (c : ty63.D) : (argS L t c false).2 = L := by
  unfold argS knownS
  split
  · rfl
  · split
    · rfl
    · split
      · split <;> rfl
      · rfl
theorem argsS_same (L : Cols) (l : List (ty38.D × ty63.D)) : (argsS false L l).2 = L := by
  have go : ∀ (l : List (ty38.D × ty63.D)) (i : Nat), foldL (argF false) i L l = .inl L ∨ foldL (argF false) i L l = .inr L := by
    intro l
    induction l with
    | nil => intro i; exact .inl rfl
    | cons q r ih =>
      intro i
      unfold foldL argF
      rw [arg_same]
      split
      · rename_i e
        split at e
        · injection e with e; rw [← e]; exact ih (i + 1)
        · cases e
      · rename_i e
        split at e
        · cases e
        · injection e with e; rw [← e]; exact .inr rfl
  unfold argsS
  rcases go l 0 with h | h <;> rw [h]
theorem lit_same (cols : ByteArray → Int × Cols) (L : Cols) (x : ty41.D) (h : selS x = false) : (litS cols L x).2 = L := by
  unfold litS
  split
  · rename_i h1
    have : x.1 = true := by simpa [selS, h1] using h
    unfold atomS
    split
    · rfl
    · split
      · rfl
      · rw [this]; exact argsS_same _ _
  · rfl
theorem okP_all (cols : ByteArray → Int × Cols) : ∀ (l : List ty41.D) (L : Cols), okP cols false L l = if (∀ x ∈ l, selS x = false → (litS cols L x).1 = 0) then some L else none
  | [], L => by simp [okP]
  | x :: l, L => by
    unfold okP
    by_cases h1 : selS x = false
    · rw [if_pos h1, lit_same cols L x h1, okP_all cols l L]
      by_cases h2 : (litS cols L x).1 = 0
      · rw [if_pos h2]
        have : (∀ y ∈ x :: l, selS y = false → (litS cols L y).1 = 0) ↔ ∀ y ∈ l, selS y = false → (litS cols L y).1 = 0 := by simp [h2]
        simp only [this]
      · rw [if_neg h2, if_neg fun h => h2 (h x (by simp) h1)]
    · rw [if_neg h1, okP_all cols l L]
      have h1' : selS x = true := by simpa using h1
      have : (∀ y ∈ x :: l, selS y = false → (litS cols L y).1 = 0) ↔ ∀ y ∈ l, selS y = false → (litS cols L y).1 = 0 := by simp [h1']
      simp only [this]
def okL (cols : ByteArray → Int × Cols) (l : List ty41.D) : Option Cols := (okP cols true [] l).bind fun L => okP cols false L l
theorem lits_ok (cols : ByteArray → Int × Cols) (l : List ty41.D) : asO (litsS cols l) = okL cols l := by
  unfold litsS okL
  rw [← okP_fold cols true l 0 []]
  cases foldL (passF cols true) 0 [] l with
  | inr y => rfl
  | inl L => exact okP_fold cols false l 0 L
def turnS (l : List ty41.D) : List ty41.D := l.filter selS ++ l.reverse.filter fun x => !selS x
theorem okL_turn (cols : ByteArray → Int × Cols) (l : List ty41.D) : okL cols (turnS l) = okL cols l := by
  unfold okL turnS
  have h1 : okP cols true [] (l.filter selS ++ l.reverse.filter fun x => !selS x) = okP cols true [] l := by
    rw [okP_filter cols true l, okP_filter cols true (l.filter selS ++ _), List.filter_append, List.filter_filter, List.filter_filter]
    have e1 : (l.filter fun a => (selS a == true) && selS a) = l.filter fun x => selS x == true := by congr 1; funext x; cases selS x <;> rfl
    have e2 : (l.reverse.filter fun a => (selS a == true) && !selS a) = [] := by rw [List.filter_eq_nil_iff]; intro x _; cases selS x <;> simp
    rw [e1, e2, List.append_nil]
  rw [h1]
  congr 1
  funext L
  rw [okP_all, okP_all]
  have : (∀ x ∈ l.filter selS ++ l.reverse.filter (fun x => !selS x), selS x = false → (litS cols L x).1 = 0) ↔ ∀ x ∈ l, selS x = false → (litS cols L x).1 = 0 := by
    constructor
    · intro h x hx hs
      exact h x (List.mem_append_right _ (List.mem_filter.2 ⟨List.mem_reverse.2 hx, by simp [hs]⟩)) hs
    · intro h x hx hs
      rcases List.mem_append.1 hx with hx | hx
      · exact h x (List.mem_filter.1 hx).1 hs
      · exact h x (List.mem_reverse.1 (List.mem_filter.1 hx).1) hs
  simp only [this]
theorem vars_ok (cols : ByteArray → Int × Cols) (l : List ty41.D) : (varsS cols l).2.2 = (okL cols l).getD [] ∧ ((varsS cols l).2.1 == 0) = (okL cols l).isSome := by
  rw [← lits_ok]
  unfold varsS
  cases h : litsS cols l with
  | inl L => exact ⟨rfl, rfl⟩
  | inr y => exact ⟨rfl, by simpa [asO] using lits_err cols l y h⟩
theorem many_app (l m : List ty41.D) : many (l ++ m) = many l + many m := by
  unfold many; rw [List.map_append, List.sum_append]
theorem many_filter (p : ty41.D → Bool) (l : List ty41.D) : many (l.filter p) ≤ many l := by
  induction l with
  | nil => simp [many]
  | cons a l ih =>
    unfold many at ih ⊢
    rw [List.filter_cons]
    split <;> simp only [List.map_cons, List.sum_cons] <;> omega
theorem many_rev (l : List ty41.D) : many l.reverse = many l := by
  unfold many; rw [List.map_reverse, List.sum_reverse]
theorem many_le (l : List ty41.D) (h : ∀ a ∈ l, a.2.2.1.length ≤ 100) : many l ≤ 100 * l.length := by
  induction l with
  | nil => simp [many]
  | cons a l ih =>
    have h1 := ih fun b hb => h b (List.mem_cons_of_mem _ hb)
    have h2 := h a (by simp)
    unfold many at h1 ⊢
    simp only [List.map_cons, List.sum_cons, List.length_cons]
    omega
theorem turn_len (l : List ty41.D) : (turnS l).length ≤ 2 * l.length := by
  unfold turnS
  rw [List.length_append]
  have h1 := List.length_filter_le selS l
  have h2 := List.length_filter_le (fun x => !selS x) l.reverse
  rw [List.length_reverse] at h2
  omega
theorem turn_many (l : List ty41.D) : many (turnS l) ≤ 2 * many l := by
  unfold turnS
  rw [many_app]
  have h1 := many_filter selS l
  have h2 := many_filter (fun x => !selS x) l.reverse
  rw [many_rev] at h2
  omega
theorem refSame_F (n : Nat) (l : Cols) (hn : l.length < n) (hl : n < 1000000000) (k : Bool → Option R) : verdererref14_Same_F n l l k = k true := by
  rw [verdererref14_Same_e]
  unfold verdererref14_Same_Fi
  exact same_refl n ((⟨#[]⟩ : ByteArray), l, ()) hn hl _
theorem fewV_ex (n : Nat) (l : List ty82.D) (hn : 100 < n) : ∃ b : Bool, (b = true → l.length ≤ 20) ∧ ∀ k : Bool → Option R, verdererlaw14_few_F n l k = k b := by
  rw [verdererlaw14_few_e]
  unfold verdererlaw14_few_Fi
  by_cases c1 : (l.length : Int) > 20
  · exact ⟨false, (fun h => by cases h), fun k => by simp [c1]⟩
  simp only [c1, decide_false, Bool.false_eq_true, if_false]
  have h4 := runC_ex (R := R) (step := verdererlaw14_few_l4 n) (γ := Bool) (fun y k2 => bif y then k2.2.1 () else k2.1 (false, ())) (fun _ _ => True)
    (fun i => (l, (i : Int), ())) l.length (fun i hi => ?_) ⟨true, trivial, fun k1 k2 => by simp [verdererlaw14_few_l4, verdererlaw14_few_s4]⟩ (n := n) (by omega)
  · obtain ⟨b, _, e⟩ := h4
    exact ⟨b, fun _ => by omega, fun k => (e _).trans (by cases b <;> rfl)⟩
  · by_cases c2 : ((l[i].2.1.length : Nat) : Int) > 60
    · exact .inr ⟨false, trivial, fun k1 k2 => by simp only [verdererlaw14_few_l4, verdererlaw14_few_s4, lt_nat, hi, in_nat hi, Int.toNat_natCast, getD_nat _ i hi, decide_true, if_true, c2]; rfl⟩
    · have h9 := runC_ex (R := R) (step := verdererlaw14_few_l9 n) (γ := Bool) (fun y k2 => bif y then k2.2.1 (l, (i : Int), ()) else k2.1 (false, ())) (fun _ _ => True)
        (fun j => (l, (i : Int), (j : Int), ())) l[i].2.1.length (fun j hj => ?_) ⟨true, trivial, fun k1 k2 => by simp [verdererlaw14_few_l9, verdererlaw14_few_s9, in_nat hi, hi]⟩ (n := n) (by omega)
      · obtain ⟨b, _, e⟩ := h9
        cases b with
        | true =>
          refine .inl ⟨fun k1 k2 => ?_, fun _ _ => trivial⟩
          simp only [verdererlaw14_few_l4, verdererlaw14_few_s4, lt_nat, hi, in_nat hi, Int.toNat_natCast, getD_nat _ i hi, decide_true, if_true, c2, decide_false, Bool.false_eq_true, if_false]
          refine (e _).trans ?_
          simp only [cond_true, wrap_succ i (by omega)]
        | false =>
          refine .inr ⟨false, trivial, fun k1 k2 => ?_⟩
          simp only [verdererlaw14_few_l4, verdererlaw14_few_s4, lt_nat, hi, in_nat hi, Int.toNat_natCast, getD_nat _ i hi, decide_true, if_true, c2, decide_false, Bool.false_eq_true, if_false]
          exact (e _).trans rfl
      · by_cases d1 : (l[i].2.1[j]).2.1 < 1
        · exact .inr ⟨false, trivial, fun k1 k2 => by simp only [verdererlaw14_few_l9, verdererlaw14_few_s9, lt_nat, hi, hj, in_nat hi, in_nat hj, Int.toNat_natCast, getD_nat _ i hi, getD_nat _ j hj, decide_true, if_true, d1]; rfl⟩
        · by_cases d2 : (l[i].2.1[j]).2.1 > 3
          · exact .inr ⟨false, trivial, fun k1 k2 => by simp only [verdererlaw14_few_l9, verdererlaw14_few_s9, lt_nat, hi, hj, in_nat hi, in_nat hj, Int.toNat_natCast, getD_nat _ i hi, getD_nat _ j hj, decide_true, if_true, d1, d2, decide_false, Bool.false_eq_true, if_false]; rfl⟩
          · exact .inl ⟨fun k1 k2 => by simp only [verdererlaw14_few_l9, verdererlaw14_few_s9, lt_nat, hi, hj, in_nat hi, in_nat hj, Int.toNat_natCast, getD_nat _ i hi, getD_nat _ j hj, decide_true, if_true, d1, d2, decide_false, Bool.false_eq_true, if_false, wrap_succ j (by omega)], fun _ _ => trivial⟩
end Go.Proofs.Ytikikmkfeeljgaa.E
namespace Go.Proofs.Ytikikmkfeeljgaa.E
open Go.RowKit
variable {R : Type}
def kindsK : List ty82.D := [((⟨#[112, 111, 100]⟩ : ByteArray), [((⟨#[105, 109, 97, 103, 101]⟩ : ByteArray), 3, false, ()), ((⟨#[99, 112, 117]⟩ : ByteArray), 2, false, ()), ((⟨#[110, 111, 100, 101]⟩ : ByteArray), 3, true, ())], ()), ((⟨#[104, 111, 115, 116]⟩ : ByteArray), [((⟨#[117, 112]⟩ : ByteArray), 1, false, ())], ())]
theorem kindsK_ok : chkE kindsK = 0 := by kernel_rfl
theorem kindsK_F (n : Nat) (k : List ty82.D → Option R) : verdererlaw08_Kinds_F n k = k kindsK := by
  rw [verdererlaw08_Kinds_e]
  rfl
theorem kindsK_len : kindsK.length = 2 := rfl
theorem kindsK_cols : ∀ x ∈ kindsK, x.2.1.length ≤ 1000000 := by
  intro x hx
  simp only [kindsK, List.mem_cons, List.not_mem_nil, or_false] at hx
  rcases hx with rfl | rfl <;> simp
/-- the literals that are taken first -/
theorem l7_F (n : Nat) (l : List ty41.D) (hn : l.length < n) (hl : l.length < 1000000) (x0 : List ty82.D) (x1 x3 : Int) (x4 : ByteArray) (x5 : List ByteArray) (x6 : Int) (x7 : ByteArray) (x8 : Int) (x10 : List ty82.D) (x11 : Int) (x12 : ByteArray) (x13 : List ByteArray) (x14 : Int) (x15 : ByteArray) (x16 : Int) (k2 : exK R (verdererlaw14_TypesOrder_dx 7)) :
    runC (verdererlaw14_TypesOrder_l7 n) n (x0, x1, (0 : Int), x3, x4, x5, x6, x7, x8, l, x10, x11, x12, x13, x14, x15, x16, ([] : List ty41.D), ()) k2 = k2.1 (x0, x1, x3, x4, x5, x6, x7, x8, l, x10, x11, x12, x13, x14, x15, x16, l.filter selS, ()) := by
  refine runC_st (R := R) (step := verdererlaw14_TypesOrder_l7 n) _ _ (fun i => (x0, x1, (i : Int), x3, x4, x5, x6, x7, x8, l, x10, x11, x12, x13, x14, x15, x16, (l.take i).filter selS, ())) l.length (fun i hi => .inl fun k1 => ?_) (fun k1 => ?_) hn
  · have hfl := List.length_filter_le selS (l.take i)
    rw [List.length_take] at hfl
    simp only [verdererlaw14_TypesOrder_l7, verdererlaw14_TypesOrder_s7, lt_nat, hi, in_nat hi, Int.toNat_natCast, getD_nat _ i hi, decide_true, if_true, wrap_succ i (by omega), take_snoc _ i hi, List.filter_append, List.length_cons, List.length_nil]
    by_cases h1 : l[i].2.2.2.1 = 0
    · have hb : (l[i].2.2.2.1 == 0) = true := beq_iff_eq.2 h1
      simp only [hb, if_true]
      cases h2 : l[i].1 with
      | false =>
        simp only [Bool.not_false, if_true]
        rw [if_pos (by omega)]
        simp [selS, h1, h2]
      | true => simp [selS, h1, h2]
    · have hb : (l[i].2.2.2.1 == 0) = false := beq_eq_false_iff_ne.2 h1
      simp only [hb, Bool.false_eq_true, if_false]
      simp [selS, h1]
  · simp [verdererlaw14_TypesOrder_l7, verdererlaw14_TypesOrder_s7]
/-- the others, from the last one on -/
theorem l12_F (n : Nat) (l acc : List ty41.D) (hn : l.length < n) (hl : l.length < 1000000) (ha : acc.length < 1000000) (x0 : List ty82.D) (x1 x3 : Int) (x4 : ByteArray) (x5 : List ByteArray) (x6 : Int) (x7 : ByteArray) (x8 : Int) (x10 : List ty82.D) (x11 : Int) (x12 : ByteArray) (x13 : List ByteArray) (x14 : Int) (x15 : ByteArray) (x16 : Int) (k2 : exK R (verdererlaw14_TypesOrder_dx 12)) :
    runC (verdererlaw14_TypesOrder_l12 n) n (x0, x1, (l.length : Int), x3, x4, x5, x6, x7, x8, l, x10, x11, x12, x13, x14, x15, x16, acc, ()) k2 = k2.1 (x0, x1, x3, x4, x5, x6, x7, x8, l, x10, x11, x12, x13, x14, x15, x16, acc ++ l.reverse.filter (fun x => !selS x), ()) := by
  have := runC_st (R := R) (step := verdererlaw14_TypesOrder_l12 n) k2 (k2.1 (x0, x1, x3, x4, x5, x6, x7, x8, l, x10, x11, x12, x13, x14, x15, x16, acc ++ l.reverse.filter (fun x => !selS x), ())) (fun i => (x0, x1, ((l.length - i : Nat) : Int), x3, x4, x5, x6, x7, x8, l, x10, x11, x12, x13, x14, x15, x16, acc ++ (l.reverse.take i).filter (fun x => !selS x), ())) l.length (fun i hi => .inl fun k1 => ?_) (fun k1 => ?_) hn
  · simpa using this
  · have hfl := List.length_filter_le (fun x => !selS x) (l.reverse.take i)
    rw [List.length_take, List.length_reverse] at hfl
    have hw : IntKind.i64.wrap (((l.length - i : Nat) : Int) - 1) = ((l.length - (i + 1) : Nat) : Int) := by
      rw [wrap_i64 (by omega) (by omega)]; omega
    have hp : ((l.length - i : Nat) : Int) > 0 := by omega
    have hi2 : l.length - (i + 1) < l.length := by omega
    have hir : i < l.reverse.length := by rw [List.length_reverse]; exact hi
    have hrev : l.reverse[i] = l[l.length - (i + 1)] := by rw [List.getElem_reverse]; congr 1; omega
    simp only [verdererlaw14_TypesOrder_l12, verdererlaw14_TypesOrder_s12, hw, hp, in_nat hi2, Int.toNat_natCast, getD_nat _ _ hi2, decide_true, if_true, take_snoc _ i hir, List.filter_append, List.length_cons, List.length_nil, List.length_append, hrev]
    by_cases h1 : l[l.length - (i + 1)].2.2.2.1 = 0
    · have hb : (l[l.length - (i + 1)].2.2.2.1 != 0) = false := by simp [h1]
      simp only [hb, Bool.false_eq_true, if_false]
      cases h2 : l[l.length - (i + 1)].1 with
      | false => simp [selS, h1, h2]
      | true =>
        simp only [if_true]
        rw [if_pos (by omega)]
        simp [selS, h1, h2]
    · have hb : (l[l.length - (i + 1)].2.2.2.1 != 0) = true := by simp [h1]
      simp only [hb, if_true]
      rw [if_pos (by omega)]
      simp [selS, h1]
  · have : l.reverse.take l.length = l.reverse := by rw [← List.length_reverse ]; exact List.take_length
    simp only [verdererlaw14_TypesOrder_l12, verdererlaw14_TypesOrder_s12, Nat.sub_self, this]
    rfl
theorem order_T (n : Nat) (hm : 20000 ≤ n) (hM : n < 100000000) (hk : ∀ k2 : Bool → Option R, verdererlaw14_known_F n k2 = k2 true) (a0 : ty25.D) (a1 : List ty82.D) (k : Bool → Option R) : verdererlaw14_TypesOrder_F n a0 a1 k = k true := by
  obtain ⟨b, h1, hb⟩ := few_ex (R := R) n a0 (by omega)
  obtain ⟨c, h2, hc⟩ := fewV_ex (R := R) n a1 (by omega)
  rw [verdererlaw14_TypesOrder_e]
  unfold verdererlaw14_TypesOrder_Fi
  rw [hb]
  cases b with
  | false => exact hk k
  | true =>
    obtain ⟨hh, hl, ha⟩ := h1 rfl
    simp only [Bool.not_true, Bool.false_eq_true, if_false]
    rw [hc]
    cases c with
    | false => exact hk k
    | true =>
      have hv := h2 rfl
      have hma := many_le _ ha
      have htl := turn_len a0.2.2.2.2.2.2.1
      have htm := turn_many a0.2.2.2.2.2.2.1
      simp only [Bool.not_true, Bool.false_eq_true, if_false]
      rw [verdererlaw14_TypesOrder_e1000003]
      unfold verdererlaw14_TypesOrder_li1000003 verdererlaw14_TypesOrder_s1000003
      simp only []
      rw [kindsK_F, new_F _ _ (by omega), if_pos kindsK_ok]
      have okk : Okay n a1 kindsK := ⟨by omega, by rw [kindsK_len]; omega, by omega, kindsK_cols⟩
      have hfl := List.length_filter_le selS a0.2.2.2.2.2.2.1
      refine (l7_F n a0.2.2.2.2.2.2.1 (by omega) (by omega) _ _ _ _ _ _ _ _ _ _ _ _ _ _ _ _).trans ?_
      simp only []
      refine (l12_F n a0.2.2.2.2.2.2.1 _ (by omega) (by omega) (by omega) _ _ _ _ _ _ _ _ _ _ _ _ _ _ _ _).trans ?_
      simp only []
      change _ ≤ _ at htl
      rw [Vars_F okk _ ⟨by show a0.2.2.2.2.2.2.1.length < _; omega, by show many a0.2.2.2.2.2.2.1 < _; omega, by show 2 * many a0.2.2.2.2.2.2.1 ≤ _; omega, by omega⟩ (by show 2 * many a0.2.2.2.2.2.2.1 < _; omega)]
      have e2 : a0.2.2.2.2.2.2.1.filter selS ++ a0.2.2.2.2.2.2.1.reverse.filter (fun x => !selS x) = turnS a0.2.2.2.2.2.2.1 := rfl
      rw [e2, Vars_F okk _ ⟨by show (turnS a0.2.2.2.2.2.2.1).length < _; omega, by show many (turnS a0.2.2.2.2.2.2.1) < _; omega, by show 2 * many (turnS a0.2.2.2.2.2.2.1) ≤ _; omega, by omega⟩ (by show 2 * many (turnS a0.2.2.2.2.2.2.1) < _; omega)]
      show (if ((0 : Int) == 0) = true then if (((varsS (colsV kindsK a1) a0.2.2.2.2.2.2.1).2.1 == 0) == ((varsS (colsV kindsK a1) (turnS a0.2.2.2.2.2.2.1)).2.1 == 0)) = true then verdererref14_Same_F n (varsS (colsV kindsK a1) a0.2.2.2.2.2.2.1).2.2 (varsS (colsV kindsK a1) (turnS a0.2.2.2.2.2.2.1)).2.2 (fun y51 => if y51 = true then verdererlaw14_known_F n (fun y52 => k y52) else k false) else k false else k false) = k true
      obtain ⟨v1, v2⟩ := vars_ok (colsV kindsK a1) a0.2.2.2.2.2.2.1
      obtain ⟨v3, v4⟩ := vars_ok (colsV kindsK a1) (turnS a0.2.2.2.2.2.2.1)
      rw [v1, v2, v3, v4, okL_turn, if_pos (by decide), if_pos (by simp)]
      have hlen : ((okL (colsV kindsK a1) a0.2.2.2.2.2.2.1).getD []).length ≤ 2 * many a0.2.2.2.2.2.2.1 := by
        rw [← v1]
        unfold varsS
        cases hf : litsS (colsV kindsK a1) a0.2.2.2.2.2.2.1 with
        | inl L => exact lits_len _ _ _ hf
        | inr y => exact Nat.zero_le _
      rw [refSame_F _ _ (by omega) (by omega)]
      simp only [if_true]
      exact hk k
theorem TypesOrder_true (a0 : ty25.D) (a1 : List ty82.D) (w0 : Fine ty25 a0) (w1 : Fine (.sl ty82) a1) : ∃ n, verdererlaw14_TypesOrder_F (R := Unit) n a0 a1 (fun b => bif b then some () else none) = some () :=
  ⟨21000, order_T 21000 (by omega) (by omega) (known14 20000) a0 a1 _⟩
end Go.Proofs.Ytikikmkfeeljgaa.E
