/- A text of the proof that the law TypesKinds returns true: nothing is assumed in it. -/
import Derived.Test.YtikikmkfeeljgaaMTypesKinds5
import Derived.KernelRfl
import Derived.Lib.ItoaNum
import Derived.Lib.ParseIntB
set_option linter.unusedVariables false
set_option linter.unusedSimpArgs false
namespace Go.Proofs.Ytikikmkfeeljgaa.E
open Go.RowKit
variable {R : Type}
/-! in another order -/
def okP (cols : ByteArray → Int × Cols) (first : Bool) : Cols → List ty41.D → Option Cols
  | L, [] => some L
  | L, x :: r => if selS x = first then (if (litS cols L x).1 = 0 then okP cols first (litS cols L x).2 r else none) else okP cols first L r
def asO {α β : Type} : α ⊕ β → Option α
  | .inl a => some a
  | .inr _ => none
theorem okP_fold (cols : ByteArray → Int × Cols) (first : Bool) : ∀ (l : List ty41.D) (i : Nat) (L : Cols), asO (foldL (passF cols first) i L l) = okP cols first L l
  | [], i, L => rfl
  | x :: l, i, L => by
    unfold foldL okP passF
    by_cases h1 : selS x = first
    · by_cases h2 : (litS cols L x).1 = 0
      · simp only [h1, h2, if_true]; exact okP_fold cols first l (i + 1) _
      · simp only [h1, h2, if_true, if_false]; rfl
    · simp only [h1, if_false]; exact okP_fold cols first l (i + 1) L
theorem okP_filter (cols : ByteArray → Int × Cols) (first : Bool) : ∀ (l : List ty41.D) (L : Cols), okP cols first L l = okP cols first L (l.filter fun x => selS x == first)
  | [], L => rfl
  | x :: l, L => by
    by_cases h1 : selS x = first
    · rw [List.filter_cons_of_pos (by simpa using h1)]
      unfold okP
      rw [if_pos h1, if_pos h1]
      split
      · exact okP_filter cols first l _
      · rfl
    · rw [List.filter_cons_of_neg (by simpa using h1)]
      conv => lhs; unfold okP
      rw [if_neg h1]
      exact okP_filter cols first l L
theorem arg_same (L : Cols) (t : ty38.D) (c : ty63.D) : (argS L t c false).2 = L := by
  unfold argS knownS
  split
  · rfl
  · split
    · rfl
    · split
      · split <;> rfl
      · rfl
theorem argsS_same (L : Cols) (l : List (ty38.D × ty63.D)) : (argsS false L l).2 = L := by
  have go : ∀ (l : List (ty38.D × ty63.D)) (i : Nat), foldL (argF false) i L l = .inl L ∨ foldL (argF false) i L l = .inr L := by
    intro l
    induction l with
    | nil => intro i; exact .inl rfl
    | cons q r ih =>
      intro i
      unfold foldL argF
      rw [arg_same]
      split
      · rename_i e
        split at e
        · injection e with e; rw [← e]; exact ih (i + 1)
        · cases e
      · rename_i e
        split at e
        · cases e
        · injection e with e; rw [← e]; exact .inr rfl
  unfold argsS
  rcases go l 0 with h | h <;> rw [h]
theorem lit_same (cols : ByteArray → Int × Cols) (L : Cols) (x : ty41.D) (h : selS x = false) : (litS cols L x).2 = L := by
  unfold litS
  split
  · rename_i h1
    have : x.1 = true := by simpa [selS, h1] using h
    unfold atomS
    split
    · rfl
    · split
      · rfl
      · rw [this]; exact argsS_same _ _
  · rfl
theorem okP_all (cols : ByteArray → Int × Cols) : ∀ (l : List ty41.D) (L : Cols), okP cols false L l = if (∀ x ∈ l, selS x = false → (litS cols L x).1 = 0) then some L else none
  | [], L => by simp [okP]
  | x :: l, L => by
    unfold okP
    by_cases h1 : selS x = false
    · rw [if_pos h1, lit_same cols L x h1, okP_all cols l L]
      by_cases h2 : (litS cols L x).1 = 0
      · rw [if_pos h2]
        have : (∀ y ∈ x :: l, selS y = false → (litS cols L y).1 = 0) ↔ ∀ y ∈ l, selS y = false → (litS cols L y).1 = 0 := by simp [h2]
        simp only [this]
      · rw [if_neg h2, if_neg fun h => h2 (h x (by simp) h1)]
    · rw [if_neg h1, okP_all cols l L]
      have h1' : selS x = true := by simpa using h1
      have : (∀ y ∈ x :: l, selS y = false → (litS cols L y).1 = 0) ↔ ∀ y ∈ l, selS y = false → (litS cols L y).1 = 0 := by simp [h1']
      simp only [this]
def okL (cols : ByteArray → Int × Cols) (l : List ty41.D) : Option Cols := (okP cols true [] l).bind fun L => okP cols false L l
theorem lits_ok (cols : ByteArray → Int × Cols) (l : List ty41.D) : asO (litsS cols l) = okL cols l := by
  unfold litsS okL
  rw [← okP_fold cols true l 0 []]
  cases foldL (passF cols true) 0 [] l with
  | inr y => rfl
  | inl L => exact okP_fold cols false l 0 L
def turnS (l : List ty41.D) : List ty41.D := l.filter selS ++ l.reverse.filter fun x => !selS x
theorem okL_turn (cols : ByteArray → Int × Cols) (l : List ty41.D) : okL cols (turnS l) = okL cols l := by
  unfold okL turnS
  have h1 : okP cols true [] (l.filter selS ++ l.reverse.filter fun x => !selS x) = okP cols true [] l := by
    rw [okP_filter cols true l, okP_filter cols true (l.filter selS ++ _), List.filter_append, List.filter_filter, List.filter_filter]
    have e1 : (l.filter fun a => (selS a == true) && selS a) = l.filter fun x => selS x == true := by congr 1; funext x; cases selS x <;> rfl
    have e2 : (l.reverse.filter fun a => (selS a == true) && !selS a) = [] := by rw [List.filter_eq_nil_iff]; intro x _; cases selS x <;> simp
    rw [e1, e2, List.append_nil]
  rw [h1]
  congr 1
  funext L
  rw [okP_all, okP_all]
  have : (∀ x ∈ l.filter selS ++ l.reverse.filter (fun x => !selS x), selS x = false → (litS cols L x).1 = 0) ↔ ∀ x ∈ l, selS x = false → (litS cols L x).1 = 0 := by
    constructor
    · intro h x hx hs
      exact h x (List.mem_append_right _ (List.mem_filter.2 ⟨List.mem_reverse.2 hx, by simp [hs]⟩)) hs
    · intro h x hx hs
      rcases List.mem_append.1 hx with hx | hx
      · exact h x (List.mem_filter.1 hx).1 hs
      · exact h x (List.mem_reverse.1 (List.mem_filter.1 hx).1) hs
  simp only [this]
theorem vars_ok (cols : ByteArray → Int × Cols) (l : List ty41.D) : (varsS cols l).2.2 = (okL cols l).getD [] ∧ ((varsS cols l).2.1 == 0) = (okL cols l).isSome := by
  rw [← lits_ok]
  unfold varsS
  cases h : litsS cols l with
  | inl L => exact ⟨rfl, rfl⟩
  | inr y => exact ⟨rfl, by simpa [asO] using lits_err cols l y h⟩
theorem many_app (l m : List ty41.D) : many (l ++ m) = many l + many m := by
  unfold many; rw [List.map_append, List.sum_append]
theorem many_filter (p : ty41.D → Bool) (l : List ty41.D) : many (l.filter p) ≤ many l := by
  induction l with
  | nil => simp [many]
  | cons a l ih =>
    unfold many at ih ⊢
    rw [List.filter_cons]
    split <;> simp only [List.map_cons, List.sum_cons] <;> omega
theorem many_rev (l : List ty41.D) : many l.reverse = many l := by
  unfold many; rw [List.map_reverse, List.sum_reverse]
theorem many_le (l : List ty41.D) (h : ∀ a ∈ l, a.2.2.1.length ≤ 100) : many l ≤ 100 * l.length := by
  induction l with
  | nil => simp [many]
  | cons a l ih =>
    have h1 := ih fun b hb => h b (List.mem_cons_of_mem _ hb)
    have h2 := h a (by simp)
    unfold many at h1 ⊢
    simp only [List.map_cons, List.sum_cons, List.length_cons]
    omega
theorem turn_len (l : List ty41.D) : (turnS l).length ≤ 2 * l.length := by
  unfold turnS
  rw [List.length_append]
  have h1 := List.length_filter_le selS l
  have h2 := List.length_filter_le (fun x => !selS x) l.reverse
  rw [List.length_reverse] at h2
  omega
theorem turn_many (l : List ty41.D) : many (turnS l) ≤ 2 * many l := by
  unfold turnS
  rw [many_app]
  have h1 := many_filter selS l
  have h2 := many_filter (fun x => !selS x) l.reverse
  rw [many_rev] at h2
  omega
theorem refSame_F (n : Nat) (l : Cols) (hn : l.length < n) (hl : n < 1000000000) (k : Bool → Option R) : verdererref14_Same_F n l l k = k true := by
  rw [verdererref14_Same_e]
  unfold verdererref14_Same_Fi
  exact same_refl n ((⟨#[]⟩ : ByteArray), l, ()) hn hl _
theorem fewV_ex (n : Nat) (l : List ty82.D) (hn : 100 < n) : ∃ b : Bool, (b = true → l.length ≤ 20) ∧ ∀ k : Bool → Option R, verdererlaw14_few_F n l k = k b := by
  rw [verdererlaw14_few_e]
  unfold verdererlaw14_few_Fi
  by_cases c1 : (l.length : Int) > 20
  · exact ⟨false, (fun h => by cases h), fun k => by simp [c1]⟩
  simp only [c1, decide_false, Bool.false_eq_true, if_false]
  have h4 := runC_ex (R := R) (step := verdererlaw14_few_l4 n) (γ := Bool) (fun y k2 => bif y then k2.2.1 () else k2.1 (false, ())) (fun _ _ => True)
    (fun i => (l, (i : Int), ())) l.length (fun i hi => ?_) ⟨true, trivial, fun k1 k2 => by simp [verdererlaw14_few_l4, verdererlaw14_few_s4]⟩ (n := n) (by omega)
  · obtain ⟨b, _, e⟩ := h4
    exact ⟨b, fun _ => by omega, fun k => (e _).trans (by cases b <;> rfl)⟩
  · by_cases c2 : ((l[i].2.1.length : Nat) : Int) > 60
    · exact .inr ⟨false, trivial, fun k1 k2 => by simp only [verdererlaw14_few_l4, verdererlaw14_few_s4, lt_nat, hi, in_nat hi, Int.toNat_natCast, getD_nat _ i hi, decide_true, if_true, c2]; rfl⟩
    · have h9 := runC_ex (R := R) (step := verdererlaw14_few_l9 n) (γ := Bool) (fun y k2 => bif y then k2.2.1 (l, (i : Int), ()) else k2.1 (false, ())) (fun _ _ => True)
        (fun j => (l, (i : Int), (j : Int), ())) l[i].2.1.length (fun j hj => ?_) ⟨true, trivial, fun k1 k2 => by simp [verdererlaw14_few_l9, verdererlaw14_few_s9, in_nat hi, hi]⟩ (n := n) (by omega)
      · obtain ⟨b, _, e⟩ := h9
        cases b with
        | true =>
          refine .inl ⟨fun k1 k2 => ?_, fun _ _ => trivial⟩
          simp only [verdererlaw14_few_l4, verdererlaw14_few_s4, lt_nat, hi, in_nat hi, Int.toNat_natCast, getD_nat _ i hi, decide_true, if_true, c2, decide_false, Bool.false_eq_true, if_false]
          refine (e _).trans ?_
          simp only [cond_true, wrap_succ i (by omega)]
        | false =>
          refine .inr ⟨false, trivial, fun k1 k2 => ?_⟩
          simp only [verdererlaw14_few_l4, verdererlaw14_few_s4, lt_nat, hi, in_nat hi, Int.toNat_natCast, getD_nat _ i hi, decide_true, if_true, c2, decide_false, Bool.false_eq_true, if_false]
          exact (e _).trans rfl
      · by_cases d1 : (l[i].2.1[j]).2.1 < 1
        · exact .inr ⟨false, trivial, fun k1 k2 => by simp only [verdererlaw14_few_l9, verdererlaw14_few_s9, lt_nat, hi, hj, in_nat hi, in_nat hj, Int.toNat_natCast, getD_nat _ i hi, getD_nat _ j hj, decide_true, if_true, d1]; rfl⟩
        · by_cases d2 : (l[i].2.1[j]).2.1 > 3
          · exact .inr ⟨false, trivial, fun k1 k2 => by simp only [verdererlaw14_few_l9, verdererlaw14_few_s9, lt_nat, hi, hj, in_nat hi, in_nat hj, Int.toNat_natCast, getD_nat _ i hi, getD_nat _ j hj, decide_true, if_true, d1, d2, decide_false, Bool.false_eq_true, if_false]; rfl⟩
          · exact .inl ⟨fun k1 k2 => by simp only [verdererlaw14_few_l9, verdererlaw14_few_s9, lt_nat, hi, hj, in_nat hi, in_nat hj, Int.toNat_natCast, getD_nat _ i hi, getD_nat _ j hj, decide_true, if_true, d1, d2, decide_false, Bool.false_eq_true, if_false, wrap_succ j (by omega)], fun _ _ => trivial⟩
end Go.Proofs.Ytikikmkfeeljgaa.E
namespace Go.Proofs.Ytikikmkfeeljgaa.E
open Go.RowKit
variable {R : Type}
def kindsK : List ty82.D := [((⟨#[112, 111, 100]⟩ : ByteArray), [((⟨#[105, 109, 97, 103, 101]⟩ : ByteArray), 3, false, ()), ((⟨#[99, 112, 117]⟩ : ByteArray), 2, false, ()), ((⟨#[110, 111, 100, 101]⟩ : ByteArray), 3, true, ())], ()), ((⟨#[104, 111, 115, 116]⟩ : ByteArray), [((⟨#[117, 112]⟩ : ByteArray), 1, false, ())], ())]
theorem kindsK_ok : chkE kindsK = 0 := by kernel_rfl
theorem kindsK_F (n : Nat) (k : List ty82.D → Option R) : verdererlaw08_Kinds_F n k = k kindsK := by
  rw [verdererlaw08_Kinds_e]
  rfl
theorem kindsK_len : kindsK.length = 2 := rfl
theorem kindsK_cols : ∀ x ∈ kindsK, x.2.1.length ≤ 1000000 := by
  intro x hx
  simp only [kindsK, List.mem_cons, List.not_mem_nil, or_false] at hx
  rcases hx with rfl | rfl <;> simp
/-- the literals that are taken first -/
theorem l7_F (n : Nat) (l : List ty41.D) (hn : l.length < n) (hl : l.length < 1000000) (x0 : List ty82.D) (x1 x3 : Int) (x4 : ByteArray) (x5 : List ByteArray) (x6 : Int) (x7 : ByteArray) (x8 : Int) (x10 : List ty82.D) (x11 : Int) (x12 : ByteArray) (x13 : List ByteArray) (x14 : Int) (x15 : ByteArray) (x16 : Int) (k2 : exK R (verdererlaw14_TypesOrder_dx 7)) :
    runC (verdererlaw14_TypesOrder_l7 n) n (x0, x1, (0 : Int), x3, x4, x5, x6, x7, x8, l, x10, x11, x12, x13, x14, x15, x16, ([] : List ty41.D), ()) k2 = k2.1 (x0, x1, x3, x4, x5, x6, x7, x8, l, x10, x11, x12, x13, x14, x15, x16, l.filter selS, ()) := by
  refine runC_st (R := R) (step := verdererlaw14_TypesOrder_l7 n) _ _ (fun i => (x0, x1, (i : Int), x3, x4, x5, x6, x7, x8, l, x10, x11, x12, x13, x14, x15, x16, (l.take i).filter selS, ())) l.length (fun i hi => .inl fun k1 => ?_) (fun k1 => ?_) hn
  · have hfl := List.length_filter_le selS (l.take i)
    rw [List.length_take] at hfl
    simp only [verdererlaw14_TypesOrder_l7, verdererlaw14_TypesOrder_s7, lt_nat, hi, in_nat hi, Int.toNat_natCast, getD_nat _ i hi, decide_true, if_true, wrap_succ i (by omega), take_snoc _ i hi, List.filter_append, List.length_cons, List.length_nil]
    by_cases h1 : l[i].2.2.2.1 = 0
    · have hb : (l[i].2.2.2.1 == 0) = true := beq_iff_eq.2 h1
      simp only [hb, if_true]
      cases h2 : l[i].1 with
      | false =>
        simp only [Bool.not_false, if_true]
        rw [if_pos (by omega)]
        simp [selS, h1, h2]
      | true => simp [selS, h1, h2]
    · have hb : (l[i].2.2.2.1 == 0) = false := beq_eq_false_iff_ne.2 h1
      simp only [hb, Bool.false_eq_true, if_false]
      simp [selS, h1]
  · simp [verdererlaw14_TypesOrder_l7, verdererlaw14_TypesOrder_s7]
/-- the others, from the last one on -/
theorem l12_F (n : Nat) (l acc : List ty41.D) (hn : l.length < n) (hl : l.length < 1000000) (ha : acc.length < 1000000) (x0 : List ty82.D) (x1 x3 : Int) (x4 : ByteArray) (x5 : List ByteArray) (x6 : Int) (x7 : ByteArray) (x8 : Int) (x10 : List ty82.D) (x11 : Int) (x12 : ByteArray) (x13 : List ByteArray) (x14 : Int) (x15 : ByteArray) (x16 : Int) (k2 : exK R (verdererlaw14_TypesOrder_dx 12)) :
    runC (verdererlaw14_TypesOrder_l12 n) n (x0, x1, (l.length : Int), x3, x4, x5, x6, x7, x8, l, x10, x11, x12, x13, x14, x15, x16, acc, ()) k2 = k2.1 (x0, x1, x3, x4, x5, x6, x7, x8, l, x10, x11, x12, x13, x14, x15, x16, acc ++ l.reverse.filter (fun x => !selS x), ()) := by
  have := runC_st (R := R) (step := verdererlaw14_TypesOrder_l12 n) k2 (k2.1 (x0, x1, x3, x4, x5, x6, x7, x8, l, x10, x11, x12, x13, x14, x15, x16, acc ++ l.reverse.filter (fun x => !selS x), ())) (fun i => (x0, x1, ((l.length - i : Nat) : Int), x3, x4, x5, x6, x7, x8, l, x10, x11, x12, x13, x14, x15, x16, acc ++ (l.reverse.take i).filter (fun x => !selS x), ())) l.length (fun i hi => .inl fun k1 => ?_) (fun k1 => ?_) hn
  · simpa using this
  · have hfl := List.length_filter_le (fun x => !selS x) (l.reverse.take i)
    rw [List.length_take, List.length_reverse] at hfl
    have hw : IntKind.i64.wrap (((l.length - i : Nat) : Int) - 1) = ((l.length - (i + 1) : Nat) : Int) := by
      rw [wrap_i64 (by omega) (by omega)]; omega
    have hp : ((l.length - i : Nat) : Int) > 0 := by omega
    have hi2 : l.length - (i + 1) < l.length := by omega
    have hir : i < l.reverse.length := by rw [List.length_reverse]; exact hi
    have hrev : l.reverse[i] = l[l.length - (i + 1)] := by rw [List.getElem_reverse]; congr 1; omega
    simp only [verdererlaw14_TypesOrder_l12, verdererlaw14_TypesOrder_s12, hw, hp, in_nat hi2, Int.toNat_natCast, getD_nat _ _ hi2, decide_true, if_true, take_snoc _ i hir, List.filter_append, List.length_cons, List.length_nil, List.length_append, hrev]
    by_cases h1 : l[l.length - (i + 1)].2.2.2.1 = 0
    · have hb : (l[l.length - (i + 1)].2.2.2.1 != 0) = false := by simp [h1]
      simp only [hb, Bool.false_eq_true, if_false]
      cases h2 : l[l.length - (i + 1)].1 with
      | false => simp [selS, h1, h2]
      | true =>
        simp only [if_true]
        rw [if_pos (by omega)]
        simp [selS, h1, h2]
    · have hb : (l[l.length - (i + 1)].2.2.2.1 != 0) = true := by simp [h1]
      simp only [hb, if_true]
      rw [if_pos (by omega)]
      simp [selS, h1]
  · have : l.reverse.take l.length = l.reverse := by rw [← List.length_reverse ]; exact List.take_length
    simp only [verdererlaw14_TypesOrder_l12, verdererlaw14_TypesOrder_s12, Nat.sub_self, this]
    rfl
theorem order_T (n : Nat) (hm : 20000 ≤ n) (hM : n < 100000000) (hk : ∀ k2 : Bool → Option R, verdererlaw14_known_F n k2 = k2 true) (a0 : ty25.D) (a1 : List ty82.D) (k : Bool → Option R) : verdererlaw14_TypesOrder_F n a0 a1 k = k true := by
  obtain ⟨b, h1, hb⟩ := few_ex (R := R) n a0 (by omega)
  obtain ⟨c, h2, hc⟩ := fewV_ex (R := R) n a1 (by omega)
  rw [verdererlaw14_TypesOrder_e]
  unfold verdererlaw14_TypesOrder_Fi
  rw [hb]
  cases b with
  | false => exact hk k
  | true =>
    obtain ⟨hh, hl, ha⟩ := h1 rfl
    simp only [Bool.not_true, Bool.false_eq_true, if_false]
    rw [hc]
    cases c with
    | false => exact hk k
    | true =>
      have hv := h2 rfl
      have hma := many_le _ ha
      have htl := turn_len a0.2.2.2.2.2.2.1
      have htm := turn_many a0.2.2.2.2.2.2.1
      simp only [Bool.not_true, Bool.false_eq_true, if_false]
      rw [verdererlaw14_TypesOrder_e1000003]
      unfold verdererlaw14_TypesOrder_li1000003 verdererlaw14_TypesOrder_s1000003
      simp only []
      rw [kindsK_F, new_F _ _ (by omega), if_pos kindsK_ok]
      have okk : Okay n a1 kindsK := ⟨by omega, by rw [kindsK_len]; omega, by omega, kindsK_cols⟩
      have hfl := List.length_filter_le selS a0.2.2.2.2.2.2.1
      refine (l7_F n a0.2.2.2.2.2.2.1 (by omega) (by omega) _ _ _ _ _ _ _ _ _ _ _ _ _ _ _ _).trans ?_
      simp only []
      refine (l12_F n a0.2.2.2.2.2.2.1 _ (by omega) (by omega) (by omega) _ _ _ _ _ _ _ _ _ _ _ _ _ _ _ _).trans ?_
      simp only []
      change _ ≤ _ at htl
      rw [Vars_F okk _ ⟨by show a0.2.2.2.2.2.2.1.length < _; omega, by show many a0.2.2.2.2.2.2.1 < _; omega, by show 2 * many a0.2.2.2.2.2.2.1 ≤ _; omega, by omega⟩ (by show 2 * many a0.2.2.2.2.2.2.1 < _; omega)]
      have e2 : a0.2.2.2.2.2.2.1.filter selS ++ a0.2.2.2.2.2.2.1.reverse.filter (fun x => !selS x) = turnS a0.2.2.2.2.2.2.1 := rfl
      rw [e2, Vars_F okk _ ⟨by show (turnS a0.2.2.2.2.2.2.1).length < _; omega, by show many (turnS a0.2.2.2.2.2.2.1) < _; omega, by show 2 * many (turnS a0.2.2.2.2.2.2.1) ≤ _; omega, by omega⟩ (by show 2 * many (turnS a0.2.2.2.2.2.2.1) < _; omega)]
      show (if ((0 : Int) == 0) = true then if (((varsS (colsV kindsK a1) a0.2.2.2.2.2.2.1).2.1 == 0) == ((varsS (colsV kindsK a1) (turnS a0.2.2.2.2.2.2.1)).2.1 == 0)) = true then verdererref14_Same_F n (varsS (colsV kindsK a1) a0.2.2.2.2.2.2.1).2.2 (varsS (colsV kindsK a1) (turnS a0.2.2.2.2.2.2.1)).2.2 (fun y51 => if y51 = true then verdererlaw14_known_F n (fun y52 => k y52) else k false) else k false else k false) = k true
      obtain ⟨v1, v2⟩ := vars_ok (colsV kindsK a1) a0.2.2.2.2.2.2.1
      obtain ⟨v3, v4⟩ := vars_ok (colsV kindsK a1) (turnS a0.2.2.2.2.2.2.1)
      rw [v1, v2, v3, v4, okL_turn, if_pos (by decide), if_pos (by simp)]
      have hlen : ((okL (colsV kindsK a1) a0.2.2.2.2.2.2.1).getD []).length ≤ 2 * many a0.2.2.2.2.2.2.1 := by
        rw [← v1]
        unfold varsS
        cases hf : litsS (colsV kindsK a1) a0.2.2.2.2.2.2.1 with
        | inl L => exact lits_len _ _ _ hf
        | inr y => exact Nat.zero_le _
      rw [refSame_F _ _ (by omega) (by omega)]
      simp only [if_true]
      exact hk k
theorem TypesOrder_true (a0 : ty25.D) (a1 : List ty82.D) (w0 : Fine ty25 a0) (w1 : Fine (.sl ty82) a1) : ∃ n, verdererlaw14_TypesOrder_F (R := Unit) n a0 a1 (fun b => bif b then some () else none) = some () :=
  ⟨21000, order_T 21000 (by omega) (by omega) (known14 20000) a0 a1 _⟩
end Go.Proofs.Ytikikmkfeeljgaa.E
namespace Go.Proofs.Ytikikmkfeeljgaa.E
open Go.RowKit
variable {R : Type}
/-! numbers and texts as words: what the document's layer 1 answers -/
theorem ba_eq {s t : ByteArray} (h : s.data.toList = t.data.toList) : s = t := ByteArray.ext (Array.toList_inj.1 h)
theorem ba_size (s : ByteArray) : s.size = s.data.toList.length := by simp
theorem mk_sz (l : List UInt8) : (⟨l.toArray⟩ : ByteArray).size = l.length := by show l.toArray.size = _; simp
theorem u64w (x : Int) (h0 : 0 ≤ x) (h1 : x < 18446744073709551616) : IntKind.u64.wrap x = x := by
  simp only [IntKind.wrap, IntKind.bits, IntKind.signed]
  simp
  omega
theorem u8w (x : Int) (h0 : 0 ≤ x) (h1 : x < 256) : IntKind.u8.wrap x = x := by
  simp only [IntKind.wrap, IntKind.bits, IntKind.signed]
  simp
  omega
theorem u64n (x : Nat) (h0 : 1 ≤ x) (h1 : x ≤ 9223372036854775808) : IntKind.u64.wrap (0 - (IntKind.u64.wrap (-(x : Int)))) = x := by
  simp only [IntKind.wrap, IntKind.bits, IntKind.signed]
  simp
  omega
def dval (acc : Nat) : List UInt8 → Nat
  | [] => acc
  | c :: r => dval (acc * 10 + (c.toNat - 48)) r
def dig (c : UInt8) : Prop := 48 ≤ c.toNat ∧ c.toNat ≤ 57
theorem dval_le : ∀ (l : List UInt8) (acc : Nat), acc ≤ dval acc l
  | [], _ => Nat.le_refl _
  | c :: r, acc => Nat.le_trans (by omega) (dval_le r (acc * 10 + (c.toNat - 48)))
theorem dval_app : ∀ (l m : List UInt8) (acc : Nat), dval acc (l ++ m) = dval (dval acc l) m
  | [], _, _ => rfl
  | c :: r, m, acc => dval_app r m _
theorem dec_dig (u : Nat) : ∀ c ∈ Lib.decDigits u, dig c := by
  induction u using Nat.strongRecOn with
  | _ u ih =>
    rw [Lib.decDigits]
    have h8 : ∀ j, j < 10 → dig (UInt8.ofNat (48 + j)) := by unfold dig; decide
    split
    · rename_i h
      intro c hc
      rw [List.mem_singleton] at hc; subst hc; exact h8 u h
    · rename_i h
      intro c hc
      rcases List.mem_append.1 hc with hc | hc
      · exact ih (u / 10) (by omega) c hc
      · rw [List.mem_singleton] at hc; subst hc; exact h8 (u % 10) (by omega)
theorem dval_dec (u : Nat) : dval 0 (Lib.decDigits u) = u := by
  induction u using Nat.strongRecOn with
  | _ u ih =>
    have h8 : ∀ j, j < 10 → (UInt8.ofNat (48 + j)).toNat = 48 + j := by decide
    rw [Lib.decDigits]
    split
    · rename_i h
      show 0 * 10 + ((UInt8.ofNat (48 + u)).toNat - 48) = u
      rw [h8 u h]; omega
    · rename_i h
      rw [dval_app, ih (u / 10) (by omega)]
      show u / 10 * 10 + ((UInt8.ofNat (48 + u % 10)).toNat - 48) = u
      rw [h8 (u % 10) (by omega)]; omega
theorem dec_ne (u : Nat) : Lib.decDigits u ≠ [] := by
  rw [Lib.decDigits]; split <;> simp
theorem dig_one (d : Nat) (h : d < 10) : (⟨#[48, 49, 50, 51, 52, 53, 54, 55, 56, 57]⟩ : ByteArray).extract d (d + 1) = ⟨#[UInt8.ofNat (48 + d)]⟩ := by
  have : ∀ d : Fin 10, ((⟨#[48, 49, 50, 51, 52, 53, 54, 55, 56, 57]⟩ : ByteArray).extract d.val (d.val + 1)).data.toList = [UInt8.ofNat (48 + d.val)] := by decide +kernel
  exact ba_eq (this ⟨d, h⟩)
theorem dig_step (n u : Nat) (acc : ByteArray) (i : Nat) (hu : u < 18446744073709551616) (hi : i < 20) (h0 : i = 0 ∨ 0 < u) (ha : acc.size ≤ i) (k1 : (verdererref01_digits_ds 3).D → Option R) (k2 : exK R (verdererref01_digits_dx 3)) :
    verdererref01_digits_l3 n ((u : Int), acc, (i : Int), ()) k1 k2 = k1 (((u / 10 : Nat) : Int), (⟨#[UInt8.ofNat (48 + u % 10)]⟩ ++ acc : ByteArray), ((i + 1 : Nat) : Int), ()) := by
  have e1 : Int.tmod (u : Int) 10 = ((u % 10 : Nat) : Int) := by rw [Int.tmod_eq_emod_of_nonneg (by omega)]; omega
  have e2 : Int.tdiv (u : Int) 10 = ((u / 10 : Nat) : Int) := by rw [Int.tdiv_eq_ediv_of_nonneg (by omega)]; omega
  have e3 : IntKind.u64.wrap (((u % 10 : Nat) : Int) + 1) = ((u % 10 + 1 : Nat) : Int) := by rw [u64w _ (by omega) (by omega)]; omega
  have e4 : IntKind.u64.wrap ((u / 10 : Nat) : Int) = ((u / 10 : Nat) : Int) := u64w _ (by omega) (by omega)
  have s0 : (⟨#[48, 49, 50, 51, 52, 53, 54, 55, 56, 57]⟩ : ByteArray).size = 10 := rfl
  have s1 : (⟨#[UInt8.ofNat (48 + u % 10)]⟩ : ByteArray).size = 1 := rfl
  have c1 : ((i : Int) < 20) := by omega
  have c2 : (0 : Int) ≤ ((u % 10 + 1 : Nat) : Int) ∧ ((u % 10 + 1 : Nat) : Int) ≤ ((10 : Nat) : Int) := by omega
  have c3 : (0 : Int) ≤ ((u % 10 : Nat) : Int) ∧ ((u % 10 : Nat) : Int) ≤ ((u % 10 + 1 : Nat) : Int) := by omega
  have c4 : 1 + acc.size ≤ 9223372036854775807 := by omega
  simp only [verdererref01_digits_l3, verdererref01_digits_s3, e1, e2, e3, e4, wrap_succ i (by omega), Int.toNat_natCast, dig_one (u % 10) (by omega), s0, s1, c1, c2, c3, c4, decide_true, if_true, and_self]
  by_cases hz : i = 0
  · have : ((i : Int) == 0) = true := by simp [hz]
    rw [if_pos this]
  · have : ((i : Int) == 0) = false := by simp [hz]
    have hp : (u : Int) > 0 := by omega
    rw [if_neg (by rw [this]; decide), if_pos (decide_eq_true hp)]
theorem dig_end (n : Nat) (acc : ByteArray) (i : Nat) (hi : 1 ≤ i) (k1 : (verdererref01_digits_ds 3).D → Option R) (k2 : exK R (verdererref01_digits_dx 3)) : verdererref01_digits_l3 n ((0 : Int), acc, (i : Int), ()) k1 k2 = k2.1 (acc, ()) := by
  simp only [verdererref01_digits_l3, verdererref01_digits_s3]
  by_cases h : (i : Int) < 20
  · have : ((i : Int) == 0) = false := by simp; omega
    rw [if_pos (decide_eq_true h), if_neg (by rw [this]; decide), if_neg (by simp)]
  · rw [if_neg (by simpa using h)]
theorem digits_l (k2 : exK R (verdererref01_digits_dx 3)) (n : Nat) : ∀ (j u : Nat) (acc : ByteArray) (m i : Nat), 1 ≤ j → i + j = 20 → u < 10 ^ j → u < 18446744073709551616 → (i = 0 ∨ 0 < u) → acc.size ≤ i → j < m →
    runC (verdererref01_digits_l3 n) m ((u : Int), acc, (i : Int), ()) k2 = k2.1 ((⟨(Lib.decDigits u).toArray⟩ ++ acc : ByteArray), ())
  | 0, u, acc, m, i, h, _, _, _, _, _, _ => by omega
  | j + 1, u, acc, m, i, _, hij, hp, hu, h0, ha, hm => by
    obtain ⟨m, rfl⟩ : ∃ q, m = q + 1 := ⟨m - 1, by omega⟩
    show verdererref01_digits_l3 n ((u : Int), acc, (i : Int), ()) (fun b => runC (verdererref01_digits_l3 n) m b k2) k2 = _
    rw [dig_step n u acc i hu (by omega) h0 ha]
    by_cases hz : u / 10 = 0
    · obtain ⟨m, rfl⟩ : ∃ q, m = q + 1 := ⟨m - 1, by omega⟩
      rw [hz]
      show verdererref01_digits_l3 n ((0 : Int), _, ((i + 1 : Nat) : Int), ()) (fun b => runC (verdererref01_digits_l3 n) m b k2) k2 = _
      rw [dig_end n _ (i + 1) (by omega), Lib.decDigits, dif_pos (by omega), show u % 10 = u by omega]
    · have hj : 1 ≤ j := by
        rcases Nat.eq_zero_or_pos j with e | e
        · subst e; simp at hp; omega
        · exact e
      rw [digits_l k2 n j (u / 10) _ m (i + 1) hj (by omega) (by rw [Nat.pow_succ] at hp; omega) (by omega) (Or.inr (by omega)) (by
        have : (⟨#[UInt8.ofNat (48 + u % 10)]⟩ ++ acc : ByteArray).size = 1 + acc.size := by rw [ByteArray.size_append]; rfl
        omega) (by omega)]
      have : Lib.decDigits u = Lib.decDigits (u / 10) ++ [UInt8.ofNat (48 + u % 10)] := by
        conv => lhs; rw [Lib.decDigits]
        rw [dif_neg (by omega)]
      have e2 : (⟨(Lib.decDigits (u / 10)).toArray⟩ ++ (⟨#[UInt8.ofNat (48 + u % 10)]⟩ ++ acc) : ByteArray) = ⟨(Lib.decDigits (u / 10) ++ [UInt8.ofNat (48 + u % 10)]).toArray⟩ ++ acc := by
        apply ByteArray.ext
        simp
      rw [this, e2]
theorem digits_F (n u : Nat) (hu : u < 18446744073709551616) (hn : 20 < n) (k : ByteArray → Option R) : verdererref01_digits_F n (u : Int) k = k ⟨(Lib.decDigits u).toArray⟩ := by
  rw [verdererref01_digits_e]
  unfold verdererref01_digits_Fi
  have := digits_l (R := R) (fun b1 => k b1.1, ()) n 20 u ⟨#[]⟩ n 0 (by omega) (by omega) (by omega) hu (Or.inl rfl) (by decide) (by omega)
  refine this.trans ?_
  have e2 : (⟨(Lib.decDigits u).toArray⟩ ++ ⟨#[]⟩ : ByteArray) = ⟨(Lib.decDigits u).toArray⟩ := by
    apply ByteArray.ext
    simp
  simp only [e2]
theorem nd_le : ∀ (k u : Nat), 1 ≤ k → u < 10 ^ k → Lib.nDigits u ≤ k
  | 0, _, h, _ => by omega
  | k + 1, u, _, hu => by
    rw [Lib.nDigits]
    split
    · omega
    · rename_i h
      have hk : 1 ≤ k := by
        rcases Nat.eq_zero_or_pos k with e | e
        · subst e; simp at hu; omega
        · exact e
      have := nd_le k (u / 10) hk (by rw [Nat.pow_succ] at hu; omega)
      omega
/-- a number of 64 bits -/
def inR (x : Int) : Prop := -9223372036854775808 ≤ x ∧ x ≤ 9223372036854775807
/-- a number as a word -/
def numS (x : Int) : ByteArray := ⟨(Lib.itoa x).toArray⟩
theorem dec_len (u : Nat) (h : u < 100000000000000000000) : (Lib.decDigits u).length ≤ 20 := by rw [Lib.decDigits_length]; exact nd_le 20 _ (by omega) (by omega)
theorem num_F (n : Nat) (x : Int) (h : inR x) (hn : 20 < n) (k : ByteArray → Option R) : verdererref01_Num_F n x k = k (numS x) := by
  obtain ⟨h0, h1⟩ := h
  rw [verdererref01_Num_e]
  unfold verdererref01_Num_Fi numS Lib.itoa
  by_cases h : x < 0
  · rw [if_pos (decide_eq_true h), if_pos h]
    have e : IntKind.u64.wrap (0 - (IntKind.u64.wrap x)) = ((x.natAbs : Nat) : Int) := by
      have := u64n x.natAbs (by omega) (by omega)
      rw [show -((x.natAbs : Nat) : Int) = x by omega] at this; exact this
    rw [e, digits_F n _ (by omega) hn]
    have hl := dec_len x.natAbs (by omega)
    simp only [mk_sz]
    rw [if_pos (by show 1 + _ ≤ _; omega)]
    congr 1
  · rw [if_neg (by simpa using h), if_neg h]
    have e : IntKind.u64.wrap x = ((x.toNat : Nat) : Int) := by rw [u64w _ (by omega) (by omega)]; omega
    rw [e, digits_F n _ (by omega) hn]
theorem numS_size (x : Int) (h : inR x) : (numS x).size ≤ 20 := by
  obtain ⟨h0, h1⟩ := h
  unfold numS Lib.itoa
  rw [mk_sz]
  split
  · have : (Lib.decDigits x.natAbs).length ≤ 19 := by rw [Lib.decDigits_length]; exact nd_le 19 _ (by omega) (by omega)
    simp; omega
  · exact dec_len _ (by omega)
end Go.Proofs.Ytikikmkfeeljgaa.E
namespace Go.Proofs.Ytikikmkfeeljgaa.E
open Go.RowKit
variable {R : Type}
theorem byteAt_nat (s : ByteArray) (i : Nat) (h : i < s.data.toList.length) : byteAt s (i : Int) = ((s.data.toList[i]).toNat : Int) := by
  unfold byteAt
  rw [Int.toNat_natCast, List.getD_eq_getElem?_getD, List.getElem?_eq_getElem h]
  rfl
theorem byteAt_q (s : ByteArray) (i : Nat) (c : UInt8) (h : s.data.toList[i]? = some c) : byteAt s (i : Int) = (c.toNat : Int) := by
  obtain ⟨h1, h2⟩ := List.getElem?_eq_some_iff.1 h
  rw [byteAt_nat s i h1, h2]
theorem byteAt_rng (s : ByteArray) (i : Int) : 0 ≤ byteAt s i ∧ byteAt s i < 256 := by
  unfold byteAt
  have := (s.data.toList.getD i.toNat 0).toNat_lt
  omega
def hexd (i : Nat) : UInt8 := ([48, 49, 50, 51, 52, 53, 54, 55, 56, 57, 97, 98, 99, 100, 101, 102] : List UInt8).getD i 0
/-- what a byte of a quoted text is written as -/
def qByte (c : UInt8) : List UInt8 := if c = 34 ∨ c = 92 then [92, c] else if c < 32 ∨ c > 126 then [92, 120, hexd (c.toNat / 16), hexd (c.toNat % 16)] else [c]
def quotedL (l : List UInt8) : List UInt8 := 34 :: (l.flatMap qByte ++ [34])
theorem qByte_cases (c : UInt8) : (qByte c = [92, c] ∧ (c = 34 ∨ c = 92)) ∨ (qByte c = [92, 120, hexd (c.toNat / 16), hexd (c.toNat % 16)]) ∨ (qByte c = [c] ∧ c ≠ 92 ∧ c ≠ 34) := by
  unfold qByte
  by_cases h : c = 34 ∨ c = 92
  · exact Or.inl ⟨if_pos h, h⟩
  · by_cases h2 : c < 32 ∨ c > 126
    · exact Or.inr (Or.inl (by rw [if_neg h, if_pos h2]))
    · exact Or.inr (Or.inr ⟨by rw [if_neg h, if_neg h2], fun e => h (Or.inr e), fun e => h (Or.inl e)⟩)
theorem qByte_len (c : UInt8) : (qByte c).length ≤ 4 := by rcases qByte_cases c with ⟨e, h⟩ | e | ⟨e, h, _⟩ <;> rw [e] <;> simp
theorem flat_len (t : List UInt8) : (t.flatMap qByte).length ≤ 4 * t.length := by
  induction t with
  | nil => simp
  | cons c t ih =>
    rw [List.flatMap_cons, List.length_append]
    have := qByte_len c
    simp only [List.length_cons]; omega
theorem hexd_nat (i : Nat) (h : i < 16) : (hexd i).toNat = if i < 10 then 48 + i else 87 + i := by
  have : ∀ i : Fin 16, (hexd i.val).toNat = if i.val < 10 then 48 + i.val else 87 + i.val := by decide +kernel
  exact this ⟨i, h⟩
theorem hex_one (d : Nat) (h : d < 16) : (⟨#[48, 49, 50, 51, 52, 53, 54, 55, 56, 57, 97, 98, 99, 100, 101, 102]⟩ : ByteArray).extract d (d + 1) = ⟨#[hexd d]⟩ := by
  have : ∀ d : Fin 16, ((⟨#[48, 49, 50, 51, 52, 53, 54, 55, 56, 57, 97, 98, 99, 100, 101, 102]⟩ : ByteArray).extract d.val (d.val + 1)).data.toList = [hexd d.val] := by decide +kernel
  exact ba_eq (this ⟨d, h⟩)
theorem ext_one (s : ByteArray) (i : Nat) (h : i < s.data.toList.length) : s.extract i (i + 1) = ⟨#[s.data.toList[i]]⟩ := by
  apply ba_eq
  simp only [ByteArray.data_extract, Array.toList_extract, List.extract_eq_take_drop, Nat.add_sub_cancel_left]
  rw [List.drop_eq_getElem_cons h, List.take_succ_cons, List.take_zero]
def mkB (l : List UInt8) : ByteArray := ⟨l.toArray⟩
theorem mkB_app (l m : List UInt8) : mkB l ++ mkB m = mkB (l ++ m) := by
  apply ByteArray.ext
  simp [mkB]
theorem mkB_size (l : List UInt8) : (mkB l).size = l.length := mk_sz l
theorem mkB_id (s : ByteArray) : mkB s.data.toList = s := by apply ByteArray.ext; simp [mkB]
/-- one byte more -/
theorem quoted_step (n : Nat) (t : ByteArray) (i : Nat) (hi : i < t.data.toList.length) (ht : t.size ≤ 1000000) (acc : List UInt8) (ha : acc.length ≤ 4 * i + 1) (k1 : (verdererref01_quoted_ds 3).D → Option R) (k2 : exK R (verdererref01_quoted_dx 3)) :
    verdererref01_quoted_l3 n (t, mkB acc, (i : Int), ()) k1 k2 = k1 (t, mkB (acc ++ qByte t.data.toList[i]), ((i + 1 : Nat) : Int), ()) := by
  have hsz := ba_size t
  have hb := byteAt_nat t i hi
  have hx := ext_one t i hi
  generalize t.data.toList[i] = c at hb hx
  have hc := c.toNat_lt
  have c1 : ((i : Int) < (t.size : Int)) := by omega
  have e34 : c = 34 ↔ c.toNat = 34 := by rw [← UInt8.toNat_inj]; rfl
  have e92 : c = 92 ↔ c.toNat = 92 := by rw [← UInt8.toNat_inj]; rfl
  have e32 : c < 32 ↔ c.toNat < 32 := by rw [UInt8.lt_iff_toNat_lt]; rfl
  have e126 : c > 126 ↔ 126 < c.toNat := by rw [gt_iff_lt, UInt8.lt_iff_toNat_lt]; rfl
  have j7 : ∀ (b : Bool) (k3 : exK R (verdererref01_quoted_dx 1000007)), b = decide (c = 34 ∨ c = 92) → verdererref01_quoted_l1000007 n (t, mkB acc, (i : Int), (c.toNat : Int), b, ()) k3 = k3.1 (t, mkB (acc ++ qByte c), (i : Int), ()) := by
    intro b k3 hbv
    rw [verdererref01_quoted_e1000007]
    unfold verdererref01_quoted_li1000007 verdererref01_quoted_s1000007
    have w1 : IntKind.i64.wrap ((i : Int) + 1) = ((i + 1 : Nat) : Int) := wrap_succ i (by omega)
    have b1 : (0 : Int) ≤ ((i + 1 : Nat) : Int) ∧ ((i + 1 : Nat) : Int) ≤ (t.size : Int) := by omega
    have b2 : (0 : Int) ≤ (i : Int) ∧ (i : Int) ≤ ((i + 1 : Nat) : Int) := by omega
    have s1 : (⟨#[c]⟩ : ByteArray) = mkB [c] := rfl
    have s2 : (⟨#[92]⟩ : ByteArray) = mkB [92] := rfl
    have s3 : (⟨#[92, 120]⟩ : ByteArray) = mkB [92, 120] := rfl
    simp only [w1, Int.toNat_natCast, b1, b2, and_self, if_true, hx, s1, s2, mkB_app, mkB_size, List.length_append, List.length_cons, List.length_nil]
    cases b with
    | true =>
      have h := of_decide_eq_true hbv.symm
      simp only [if_true]
      rw [if_pos (by omega), if_pos (by omega)]
      unfold qByte
      rw [if_pos h]
      simp
    | false =>
      have h : ¬ (c = 34 ∨ c = 92) := of_decide_eq_false hbv.symm
      simp only [Bool.false_eq_true, if_false]
      have j9 : ∀ (b : Bool) (k4 : exK R (verdererref01_quoted_dx 1000009)), b = decide (c < 32 ∨ c > 126) → verdererref01_quoted_l1000009 n (t, mkB acc, (i : Int), (c.toNat : Int), b, ()) k4 = k4.1 (t, mkB (acc ++ qByte c), (i : Int), ()) := by
        intro b k4 hb9
        rw [verdererref01_quoted_e1000009]
        unfold verdererref01_quoted_li1000009 verdererref01_quoted_s1000009
        have d1 : Int.tdiv (c.toNat : Int) 16 = ((c.toNat / 16 : Nat) : Int) := by rw [Int.tdiv_eq_ediv_of_nonneg (by omega)]; omega
        have d2 : Int.tmod (c.toNat : Int) 16 = ((c.toNat % 16 : Nat) : Int) := by rw [Int.tmod_eq_emod_of_nonneg (by omega)]; omega
        have d3 : IntKind.u8.wrap ((c.toNat / 16 : Nat) : Int) = ((c.toNat / 16 : Nat) : Int) := u8w _ (by omega) (by omega)
        have d4 : IntKind.u8.wrap (((c.toNat / 16 : Nat) : Int) + 1) = ((c.toNat / 16 + 1 : Nat) : Int) := by rw [u8w _ (by omega) (by omega)]; omega
        have d5 : IntKind.u8.wrap (((c.toNat % 16 : Nat) : Int) + 1) = ((c.toNat % 16 + 1 : Nat) : Int) := by rw [u8w _ (by omega) (by omega)]; omega
        have s0 : (⟨#[48, 49, 50, 51, 52, 53, 54, 55, 56, 57, 97, 98, 99, 100, 101, 102]⟩ : ByteArray).size = 16 := rfl
        have s4 : ∀ d, (⟨#[hexd d]⟩ : ByteArray) = mkB [hexd d] := fun d => rfl
        simp only [d1, d2, d3, d4, d5, w1, Int.toNat_natCast, b1, b2, and_self, if_true, hx, s0, s1, s3, hex_one (c.toNat / 16) (by omega), hex_one (c.toNat % 16) (by omega), s4, mkB_app, mkB_size, List.length_append, List.length_cons, List.length_nil]
        cases b with
        | true =>
          have h2 := of_decide_eq_true hb9.symm
          simp only [if_true]
          rw [if_pos (by omega), if_pos (by omega), if_pos (by omega), if_pos (by omega), if_pos (by omega), if_pos (by omega), if_pos (by omega)]
          unfold qByte
          rw [if_neg h, if_pos h2]
          simp
        | false =>
          have h2 : ¬ (c < 32 ∨ c > 126) := of_decide_eq_false hb9.symm
          simp only [Bool.false_eq_true, if_false]
          rw [if_pos (by omega)]
          unfold qByte
          rw [if_neg h, if_neg h2]
      by_cases h32 : (c.toNat : Int) < 32
      · rw [if_pos (decide_eq_true h32)]
        exact j9 true _ (decide_eq_true (Or.inl (e32.2 (by omega)))).symm
      · rw [if_neg (by simpa using h32)]
        refine j9 _ _ ?_
        rw [decide_eq_decide, e32, e126]
        omega
  simp only [verdererref01_quoted_l3, verdererref01_quoted_s3, c1, decide_true, if_true, hb, wrap_succ i (by omega)]
  rw [if_pos (by omega)]
  by_cases h34 : c.toNat = 34
  · have : ((c.toNat : Int) == 34) = true := by simp [h34]
    rw [if_pos this]
    refine (j7 true _ (decide_eq_true (Or.inl (e34.2 h34))).symm).trans ?_
    simp only [wrap_succ i (by omega)]
  · have : ((c.toNat : Int) == 34) = false := by simp; omega
    rw [if_neg (by rw [this]; decide)]
    refine (j7 _ _ ?_).trans ?_
    · rw [Bool.eq_iff_iff, decide_eq_true_eq, beq_iff_eq, e34, e92]
      omega
    · simp only [wrap_succ i (by omega)]
theorem quoted_F (n : Nat) (t : ByteArray) (ht : t.size ≤ 1000000) (hn : t.size < n) (k : ByteArray → Option R) : verdererref01_quoted_F n t k = k (mkB (quotedL t.data.toList)) := by
  rw [verdererref01_quoted_e]
  unfold verdererref01_quoted_Fi
  have hsz := ba_size t
  have hf := flat_len t.data.toList
  have e0 : (⟨#[34]⟩ : ByteArray) = mkB [34] := rfl
  rw [e0]
  refine runC_st (R := R) (step := verdererref01_quoted_l3 n) _ (k (mkB (quotedL t.data.toList))) (fun i => (t, mkB ([34] ++ (t.data.toList.take i).flatMap qByte), (i : Int), ())) t.data.toList.length (fun i hi => .inl fun k1 => ?_) (fun k1 => ?_) (n := n) (by omega)
  · have hfi := flat_len (t.data.toList.take i)
    rw [List.length_take] at hfi
    refine (quoted_step n t i hi ht ([34] ++ (t.data.toList.take i).flatMap qByte) (by simp only [List.length_append, List.length_cons, List.length_nil]; omega) k1 _).trans ?_
    rw [take_snoc _ i hi, List.flatMap_append]
    simp
  · simp only [verdererref01_quoted_l3, verdererref01_quoted_s3, ← hsz, Int.lt_irrefl, decide_false, Bool.false_eq_true, if_false, mkB_app, mkB_size]
    rw [if_pos (by simp only [List.length_append, List.length_cons, List.length_nil, List.length_take, hsz, List.take_length]; omega), hsz, List.take_length]
    simp [quotedL]
/-- can a value be? -/
def rightV (v : ty36.D) : Bool := decide ((v.1 = 0 ∧ v.2.1 = false ∧ v.2.2.1 = 0 ∧ v.2.2.2.1.size = 0) ∨ (v.1 = 1 ∧ v.2.2.1 = 0 ∧ v.2.2.2.1.size = 0) ∨ (v.1 = 2 ∧ v.2.1 = false ∧ v.2.2.2.1.size = 0) ∨ (v.1 = 3 ∧ v.2.1 = false ∧ v.2.2.1 = 0 ∧ v.2.2.2.1.size ≤ 60))
theorem nil_size (t : ByteArray) : (t = (⟨#[]⟩ : ByteArray)) ↔ t.size = 0 := ⟨fun h => by rw [h]; rfl, fun h => ByteArray.size_eq_zero_iff.1 h⟩
theorem refRightV_F (n : Nat) (v : ty36.D) (k : Bool → Option R) : verdererref01_Right_F n v k = k (rightV v) := by
  rw [verdererref01_Right_e]
  unfold verdererref01_Right_Fi rightV
  simp only [beqB, nil_size]
  generalize ha : v.1 = a
  generalize v.2.1 = b
  generalize v.2.2.1 = x
  generalize v.2.2.2.1.size = t
  clear ha
  change Int at a x
  change Bool at b
  by_cases h0 : a < 0
  · simp only [h0, decide_true, if_true]
    congr 1; symm; rw [decide_eq_false_iff_not]; rintro (⟨h, _⟩ | ⟨h, _⟩ | ⟨h, _⟩ | ⟨h, _⟩) <;> (rw [h] at h0; revert h0; decide)
  by_cases h3 : a > 3
  · simp only [h0, h3, decide_true, decide_false, Bool.false_eq_true, if_false, if_true]
    congr 1; symm; rw [decide_eq_false_iff_not]; rintro (⟨h, _⟩ | ⟨h, _⟩ | ⟨h, _⟩ | ⟨h, _⟩) <;> (rw [h] at h3; revert h3; decide)
  have ha : a = 0 ∨ a = 1 ∨ a = 2 ∨ a = 3 := by omega
  have hs : ((t : Int) ≤ 60) ↔ t ≤ 60 := by omega
  rcases ha with rfl | rfl | rfl | rfl <;> cases b <;> by_cases hx : x = 0 <;> by_cases ht : t = 0 <;> simp [hx, ht, hs]
/-- a value as a word -/
def showS (v : ty36.D) : ByteArray :=
  if rightV v = true then (if v.1 = 0 then ⟨#[110, 117, 108, 108]⟩ else if v.1 = 1 then (if v.2.1 = true then ⟨#[116, 114, 117, 101]⟩ else ⟨#[102, 97, 108, 115, 101]⟩) else if v.1 = 2 then numS v.2.2.1 else mkB (quotedL v.2.2.2.1.data.toList)) else ⟨#[]⟩
theorem right_size (v : ty36.D) (h : rightV v = true) : v.2.2.2.1.size ≤ 60 := by
  unfold rightV at h
  rw [decide_eq_true_eq] at h
  omega
theorem show_F (n : Nat) (v : ty36.D) (hv : inR v.2.2.1) (hn : 100 < n) (k : ByteArray → Option R) : verdererref01_Show_F n v k = k (showS v) := by
  rw [verdererref01_Show_e]
  unfold verdererref01_Show_Fi showS
  rw [refRightV_F]
  cases hr : rightV v with
  | false => simp
  | true =>
    have hs := right_size v hr
    simp only [Bool.not_true, Bool.false_eq_true, if_false, if_true]
    by_cases h0 : v.1 = 0
    · simp only [h0, beq_self_eq_true, if_true]
    have b0 : (v.1 == 0) = false := by simp [h0]
    by_cases h1 : v.1 = 1
    · have b1 : (v.1 == 1) = true := by simp [h1]
      simp only [b0, b1, h0, h1, Bool.false_eq_true, if_false, if_true]
      cases v.2.1 <;> simp
    have b1 : (v.1 == 1) = false := by simp [h1]
    by_cases h2 : v.1 = 2
    · have b2 : (v.1 == 2) = true := by simp [h2]
      simp only [b0, b1, b2, h0, h1, h2, Bool.false_eq_true, if_false, if_true]
      rw [num_F n _ hv (by omega)]
      rfl
    · have b2 : (v.1 == 2) = false := by simp [h2]
      simp only [b0, b1, b2, h0, h1, h2, Bool.false_eq_true, if_false]
      rw [quoted_F n _ (by omega) (by omega)]
end Go.Proofs.Ytikikmkfeeljgaa.E
namespace Go.Proofs.Ytikikmkfeeljgaa.E
open Go.RowKit
variable {R : Type}
theorem runC_upx {α β γ R : Type} {step : α → (α → Option R) → β → Option R} (out : γ → β → Option R) (Q : γ → Prop) (I : Nat → α → Prop) (m : Nat)
    (hs : ∀ i a, i < m → I i a → (∃ a', I (i + 1) a' ∧ ∀ k1 k2, step a k1 k2 = k1 a') ∨ ∃ y, Q y ∧ ∀ k1 k2, step a k1 k2 = out y k2) (he : ∀ a, I m a → ∃ y, Q y ∧ ∀ k1 k2, step a k1 k2 = out y k2) {n : Nat} {a : α} (hn : m < n) (ha : I 0 a) : ∃ y, Q y ∧ ∀ k2, runC step n a k2 = out y k2 := by
  have go : ∀ (d i n : Nat) (a : α), i + d = m → d < n → I i a → ∃ y, Q y ∧ ∀ k2, runC step n a k2 = out y k2 := by
    intro d
    induction d with
    | zero =>
      intro i n a hi hn ha
      obtain ⟨n, rfl⟩ : ∃ q, n = q + 1 := ⟨n - 1, by omega⟩
      have : i = m := by omega
      subst this
      obtain ⟨y, h1, h2⟩ := he a ha
      exact ⟨y, h1, fun k2 => h2 _ k2⟩
    | succ d ih =>
      intro i n a hi hn ha
      obtain ⟨n, rfl⟩ : ∃ q, n = q + 1 := ⟨n - 1, by omega⟩
      rcases hs i a (by omega) ha with ⟨a', h1, h2⟩ | ⟨y, h1, h2⟩
      · obtain ⟨y, h3, h4⟩ := ih (i + 1) n a' (by omega) (by omega) h1
        exact ⟨y, h3, fun k2 => (h2 _ k2).trans (h4 k2)⟩
      · exact ⟨y, h1, fun k2 => h2 _ k2⟩
  exact go m 0 n a (by omega) hn ha
/-! back -/
def hexS (x : Int) : Int := if 48 ≤ x ∧ x ≤ 57 then x - 48 else if 97 ≤ x ∧ x ≤ 102 then x - 87 else -1
theorem hex_F (n : Nat) (x : Int) (k : Int → Option R) : verdererref01_hex_F n x k = k (hexS x) := by
  rw [verdererref01_hex_e]
  unfold verdererref01_hex_Fi hexS
  by_cases h1 : 48 ≤ x
  · by_cases h2 : x ≤ 57
    · simp only [ge_iff_le, h1, h2, decide_true, if_true, and_self]
      rw [u8w _ (by omega) (by omega), wrap_i64 (by omega) (by omega)]
    · by_cases h3 : 97 ≤ x
      · by_cases h4 : x ≤ 102
        · simp only [ge_iff_le, h1, h2, h3, h4, decide_true, decide_false, Bool.false_eq_true, if_true, if_false, and_self, and_false]
          rw [u8w _ (by omega) (by omega), wrap_i64 (x := x - 97) (by omega) (by omega), wrap_i64 (by omega) (by omega)]
          congr 1; omega
        · simp only [ge_iff_le, h1, h2, h3, h4, decide_true, decide_false, Bool.false_eq_true, if_true, if_false, and_false]
      · simp only [ge_iff_le, h1, h2, h3, decide_true, decide_false, Bool.false_eq_true, if_true, if_false, and_false, false_and]
  · have h3 : ¬ 97 ≤ x := by omega
    simp only [ge_iff_le, h1, h3, decide_false, Bool.false_eq_true, if_false, false_and]
theorem hexS_d (i : Nat) (h : i < 16) : hexS ((hexd i).toNat : Int) = (i : Int) := by
  have e := hexd_nat i h
  unfold hexS
  split at e <;> rw [e]
  · rw [if_pos (by omega)]; omega
  · rw [if_neg (by omega), if_pos (by omega)]; omega
theorem w1 (i : Nat) (h : i ≤ 4000000) : IntKind.i64.wrap ((i : Int) + 1) = ((i + 1 : Nat) : Int) := wrap_succ i (by omega)
theorem w2 (i : Nat) (h : i ≤ 4000000) : IntKind.i64.wrap ((i : Int) + 2) = ((i + 2 : Nat) : Int) := by rw [wrap_i64 (by omega) (by omega)]; omega
theorem w3 (i : Nat) (h : i ≤ 4000000) : IntKind.i64.wrap ((i : Int) + 3) = ((i + 3 : Nat) : Int) := by rw [wrap_i64 (by omega) (by omega)]; omega
theorem wm (i : Nat) (h : i ≤ 4000000) : IntKind.i64.wrap ((i : Int) - 1) = (i : Int) - 1 := wrap_i64 (by omega) (by omega)
theorem w6 (x : Nat) (h : x < 256) : IntKind.u8.wrap (IntKind.i64.wrap ((IntKind.i64.wrap (16 * ((x / 16 : Nat) : Int))) + ((x % 16 : Nat) : Int))) = (x : Int) := by
  rw [wrap_i64 (x := 16 * ((x / 16 : Nat) : Int)) (by omega) (by omega), wrap_i64 (by omega) (by omega), u8w _ (by omega) (by omega)]
  omega
/-- it comes to an end -/
theorem unq_ex (n : Nat) (s : ByteArray) (hs : s.size ≤ 1000) (h1 : 1 ≤ s.size) (hn : s.size + 2 < n) : ∃ t : ByteArray, ∀ k : ByteArray → Option R, verdererref01_unquoted_F n s k = k t := by
  rw [verdererref01_unquoted_e]
  unfold verdererref01_unquoted_Fi
  have h := runC_upx (R := R) (step := verdererref01_unquoted_l3 n) (γ := ByteArray ⊕ List Int) (fun y k2 => match y with
      | .inl t => k2.1 (t, ())
      | .inr l => k2.2.1 (l, ())) (fun _ => True) (fun i a => ∃ (j : Nat) (acc : List Int), a = (s, (j : Int), acc, ()) ∧ i < j ∧ j ≤ s.size + 3 ∧ acc.length ≤ i) (s.size + 1) (fun i a hi ha => ?_) (fun a ha => ?_) (n := n) (a := (s, (1 : Int), [], ())) (by omega) ⟨1, [], rfl, by omega, by omega, by simp⟩
  · obtain ⟨y, _, hy⟩ := h
    cases y with
    | inl t => exact ⟨t, fun k => hy _⟩
    | inr l => exact ⟨strOfNums l, fun k => hy _⟩
  · obtain ⟨j, acc, rfl, hij, hj, hacc⟩ := ha
    simp only [verdererref01_unquoted_l3, verdererref01_unquoted_s3, wm s.size (by omega)]
    by_cases hlt : (j : Int) < (s.size : Int) - 1
    · have c0 : (0 : Int) ≤ (j : Int) := by omega
      have c1 : (j : Int) < (s.size : Int) := by omega
      simp only [hlt, decide_true, if_true, c0, c1]
      by_cases hb : byteAt s (j : Int) = 92
      · have : (byteAt s (j : Int) != 92) = false := by simp [hb]
        simp only [this, Bool.false_eq_true, if_false, w1 j (by omega)]
        have d0 : (0 : Int) ≤ ((j + 1 : Nat) : Int) := by omega
        have d1 : ((j + 1 : Nat) : Int) < (s.size : Int) := by omega
        simp only [d0, d1, if_true]
        by_cases hb2 : byteAt s ((j + 1 : Nat) : Int) = 120
        · have : (byteAt s ((j + 1 : Nat) : Int) != 120) = false := by rw [hb2]; rfl
          simp only [this, Bool.false_eq_true, if_false, w3 j (by omega), w2 j (by omega)]
          by_cases he : ((j + 3 : Nat) : Int) ≥ (s.size : Int) - 1
          · exact .inr ⟨.inl (strOfNums acc), trivial, fun k1 k2 => by rw [if_pos (decide_eq_true he)]⟩
          · have d2 : (0 : Int) ≤ ((j + 2 : Nat) : Int) := by omega
            have d3 : ((j + 2 : Nat) : Int) < (s.size : Int) := by omega
            have d4 : (0 : Int) ≤ ((j + 3 : Nat) : Int) := by omega
            have d5 : ((j + 3 : Nat) : Int) < (s.size : Int) := by omega
            refine .inl ⟨(s, ((j + 4 : Nat) : Int), acc ++ [IntKind.u8.wrap (IntKind.i64.wrap (IntKind.i64.wrap (16 * hexS (byteAt s ((j + 2 : Nat) : Int))) + hexS (byteAt s ((j + 3 : Nat) : Int))))], ()), ⟨j + 4, _, rfl, by omega, by omega, by simp; omega⟩, fun k1 k2 => ?_⟩
            rw [if_neg (by simpa using he)]
            simp only [d2, d3, d4, d5, if_true, hex_F, w1 (j + 3) (by omega), List.length_cons, List.length_nil]
            rw [if_pos (by omega)]
        · have : (byteAt s ((j + 1 : Nat) : Int) != 120) = true := bne_iff_ne.2 hb2
          refine .inl ⟨(s, ((j + 2 : Nat) : Int), acc ++ [byteAt s ((j + 1 : Nat) : Int)], ()), ⟨j + 2, _, rfl, by omega, by omega, by simp; omega⟩, fun k1 k2 => ?_⟩
          simp only [this, if_true, w1 (j + 1) (by omega), List.length_cons, List.length_nil]
          rw [if_pos (by omega)]
      · have : (byteAt s (j : Int) != 92) = true := by simp [hb]
        refine .inl ⟨(s, ((j + 1 : Nat) : Int), acc ++ [byteAt s (j : Int)], ()), ⟨j + 1, _, rfl, by omega, by omega, by simp; omega⟩, fun k1 k2 => ?_⟩
        simp only [this, if_true, w1 j (by omega), List.length_cons, List.length_nil]
        rw [if_pos (by omega)]
    · exact .inr ⟨.inr acc, trivial, fun k1 k2 => by rw [if_neg (by simpa using hlt)]⟩
  · obtain ⟨j, acc, rfl, hij, hj, hacc⟩ := ha
    have hlt : ¬ (j : Int) < (s.size : Int) - 1 := by omega
    exact ⟨.inr acc, trivial, fun k1 k2 => by simp only [verdererref01_unquoted_l3, verdererref01_unquoted_s3, wm s.size (by omega)]; rw [if_neg (by simpa using hlt)]⟩
theorem nums_back (t : List UInt8) : strOfNums (t.map (fun c => (c.toNat : Int))) = mkB t := by
  apply ba_eq
  rw [strOfNums_data, List.map_map]
  simp [Function.comp_def, mkB]
/-- a text that is quoted comes back -/
theorem unq_l (n : Nat) (s : ByteArray) (hs : s.size ≤ 1000000) (k2 : exK R (verdererref01_unquoted_dx 3)) : ∀ (t : List UInt8) (i m : Nat) (acc : List Int), s.data.toList.drop i = t.flatMap qByte ++ [34] → acc.length + t.length ≤ 1000000 → t.length < m →
    runC (verdererref01_unquoted_l3 n) m (s, (i : Int), acc, ()) k2 = k2.2.1 (acc ++ t.map (fun c => (c.toNat : Int)), ())
  | [], i, m, acc, hd, ha, hm => by
    have hl := congrArg List.length hd
    rw [List.length_drop, ← ba_size] at hl
    simp at hl
    obtain ⟨m, rfl⟩ : ∃ q, m = q + 1 := ⟨m - 1, by omega⟩
    show verdererref01_unquoted_l3 n (s, (i : Int), acc, ()) (fun b => runC (verdererref01_unquoted_l3 n) m b k2) k2 = _
    have hlt : ¬ (i : Int) < (s.size : Int) - 1 := by omega
    simp only [verdererref01_unquoted_l3, verdererref01_unquoted_s3, wm s.size (by omega)]
    rw [if_neg (by simpa using hlt)]
    simp
  | c :: t, i, m, acc, hd, ha, hm => by
    simp only [List.length_cons] at ha hm
    have hl := congrArg List.length hd
    rw [List.length_drop, ← ba_size] at hl
    have hb : ∀ (j : Nat) (d : UInt8), ((c :: t).flatMap qByte ++ [34])[j]? = some d → byteAt s ((i + j : Nat) : Int) = (d.toNat : Int) := by
      intro j d hj
      rw [← hd, List.getElem?_drop] at hj
      exact byteAt_q s (i + j) d hj
    obtain ⟨m, rfl⟩ : ∃ q, m = q + 1 := ⟨m - 1, by omega⟩
    show verdererref01_unquoted_l3 n (s, (i : Int), acc, ()) (fun b => runC (verdererref01_unquoted_l3 n) m b k2) k2 = _
    simp only [List.flatMap_cons, List.length_append, List.length_cons, List.length_nil] at hl
    simp only [List.flatMap_cons] at hb hd
    simp only [verdererref01_unquoted_l3, verdererref01_unquoted_s3, wm s.size (by omega)]
    rcases qByte_cases c with ⟨e, h⟩ | e | ⟨e, h, h'⟩
    · rw [e] at hl hb hd
      simp only [List.length_cons, List.length_nil] at hl
      have b0 : byteAt s (i : Int) = 92 := hb 0 92 rfl
      have b1 : byteAt s ((i + 1 : Nat) : Int) = (c.toNat : Int) := hb 1 c rfl
      have hne : ((c.toNat : Int) != 120) = true := by rcases h with rfl | rfl <;> decide
      rw [if_pos (decide_eq_true (by omega)), if_pos (by omega), if_pos (by omega), b0, if_neg (by decide), w1 i (by omega), if_pos (by omega), if_pos (by omega), b1, if_pos hne, if_pos (by omega), if_pos (by omega), if_pos (by simp only [List.length_cons, List.length_nil]; omega), w1 (i + 1) (by omega)]
      refine (unq_l n s hs k2 t (i + 2) m _ (by rw [← List.drop_drop, hd]; simp) (by simp; omega) (by omega)).trans ?_
      simp
    · rw [e] at hl hb hd
      simp only [List.length_cons, List.length_nil] at hl
      have b0 : byteAt s (i : Int) = 92 := hb 0 92 rfl
      have b1 : byteAt s ((i + 1 : Nat) : Int) = 120 := hb 1 120 rfl
      have b2 : byteAt s ((i + 2 : Nat) : Int) = ((hexd (c.toNat / 16)).toNat : Int) := hb 2 _ rfl
      have b3 : byteAt s ((i + 3 : Nat) : Int) = ((hexd (c.toNat % 16)).toNat : Int) := hb 3 _ rfl
      have hc : c.toNat < 256 := c.toNat_lt
      rw [if_pos (decide_eq_true (by omega)), if_pos (by omega), if_pos (by omega), b0, if_neg (by decide), w1 i (by omega), if_pos (by omega), if_pos (by omega), b1, if_neg (by decide), w3 i (by omega), if_neg (by simp; omega), w2 i (by omega), if_pos (by omega), if_pos (by omega), b2, hex_F, if_pos (by omega), if_pos (by omega), b3, hex_F,
        hexS_d _ (by omega), hexS_d _ (by omega), if_pos (by simp only [List.length_cons, List.length_nil]; omega), w1 (i + 3) (by omega), w6 _ hc]
      refine (unq_l n s hs k2 t (i + 4) m _ (by rw [← List.drop_drop, hd]; simp) (by simp; omega) (by omega)).trans ?_
      simp
    · rw [e] at hl hb hd
      simp only [List.length_cons, List.length_nil] at hl
      have b0 : byteAt s (i : Int) = (c.toNat : Int) := hb 0 c rfl
      have hne : ((c.toNat : Int) != 92) = true := by
        simp only [bne_iff_ne, ne_eq]
        intro h'
        exact h (UInt8.toNat_inj.1 (show c.toNat = 92 by omega))
      rw [if_pos (decide_eq_true (by omega)), if_pos (by omega), if_pos (by omega), b0, if_pos hne, if_pos (by omega), if_pos (by omega), if_pos (by simp only [List.length_cons, List.length_nil]; omega), w1 i (by omega)]
      refine (unq_l n s hs k2 t (i + 1) m _ (by rw [← List.drop_drop, hd]; simp) (by simp; omega) (by omega)).trans ?_
      simp
theorem unq_F (n : Nat) (t : ByteArray) (ht : t.size ≤ 1000) (hn : 1000 < n) (k : ByteArray → Option R) : verdererref01_unquoted_F n (mkB (quotedL t.data.toList)) k = k t := by
  have hf := flat_len t.data.toList
  have hsz := ba_size t
  have sz : (mkB (quotedL t.data.toList)).size = (t.data.toList.flatMap qByte).length + 2 := by rw [mkB_size]; simp [quotedL]
  rw [verdererref01_unquoted_e]
  unfold verdererref01_unquoted_Fi
  have := unq_l n (mkB (quotedL t.data.toList)) (by omega) (fun b3 => k b3.1, fun b4 => k (strOfNums b4.1), ()) t.data.toList 1 n [] (by simp [quotedL, mkB]) (by simp; omega) (by omega)
  refine this.trans ?_
  simp [nums_back, mkB_id]
end Go.Proofs.Ytikikmkfeeljgaa.E
namespace Go.Proofs.Ytikikmkfeeljgaa.E
open Go.RowKit
variable {R : Type}
theorem i64_rng (x : Int) : inR (IntKind.i64.wrap x) := by
  unfold inR
  simp only [IntKind.wrap, IntKind.bits, IntKind.signed]
  simp
  split <;> omega
theorem inR0 : inR 0 := by unfold inR; omega
/-! numbers back -/
theorem refNum_tail (n : Nat) (s : ByteArray) (x1 x2 : Int) (hn : 20 < n) (qr : Int → Bool → Option R) : (if (x2 == 1) = true then verdererref01_Num_F n (IntKind.i64.wrap (IntKind.u64.wrap (0 - x1))) (fun y6 => qr (IntKind.i64.wrap (IntKind.u64.wrap (0 - x1))) (y6.toList == s.toList)) else verdererref01_Num_F n (IntKind.i64.wrap x1) (fun y7 => qr (IntKind.i64.wrap x1) (y7.toList == s.toList)))
    = qr (if x2 = 1 then IntKind.i64.wrap (IntKind.u64.wrap (0 - x1)) else IntKind.i64.wrap x1) (decide (numS (if x2 = 1 then IntKind.i64.wrap (IntKind.u64.wrap (0 - x1)) else IntKind.i64.wrap x1) = s)) := by
  by_cases h : x2 = 1
  · have : (x2 == 1) = true := by simp [h]
    rw [if_pos this, if_pos h, num_F n _ (i64_rng _) hn, beqB]
  · have : (x2 == 1) = false := by simp [h]
    rw [if_neg (by rw [this]; decide), if_neg h, num_F n _ (i64_rng _) hn, beqB]
/-- the digits' loop, whatever stands there -/
theorem numl_ex (n : Nat) (s : ByteArray) (hs : s.size ≤ 1000) (hn : s.size + 2 < n) (x1 x2 : Int) (from_ : Nat) : ∃ y : Option Int, ∀ k2 : exK R (verdererref01_Number_dx 8), runC (verdererref01_Number_l8 n) n (s, x1, x2, (from_ : Int), ()) k2 = match y with
      | none => k2.1 (0, false, ())
      | some z => k2.2.1 (s, z, x2, ()) := by
  have h := runC_upx (R := R) (step := verdererref01_Number_l8 n) (γ := Option Int) (fun y k2 => match y with
      | none => k2.1 (0, false, ())
      | some z => k2.2.1 (s, z, x2, ())) (fun _ => True) (fun i a => ∃ (j : Nat) (acc : Int), a = (s, acc, x2, (j : Int), ()) ∧ i ≤ j ∧ (j ≤ 1000 ∨ j = from_)) (s.size + 1) (fun i a hi ha => ?_) (fun a ha => ?_) (n := n) (a := (s, x1, x2, (from_ : Int), ())) (by omega) ⟨from_, x1, rfl, by omega, .inr rfl⟩
  · obtain ⟨y, _, hy⟩ := h
    exact ⟨y, hy⟩
  · obtain ⟨j, acc, rfl, hij, hj⟩ := ha
    simp only [verdererref01_Number_l8, verdererref01_Number_s8]
    by_cases hlt : (j : Int) < (s.size : Int)
    · have c0 : (0 : Int) ≤ (j : Int) := by omega
      simp only [hlt, decide_true, if_true, c0]
      by_cases h1 : byteAt s (j : Int) < 48
      · exact .inr ⟨none, trivial, fun k1 k2 => by rw [if_pos (decide_eq_true h1)]⟩
      · by_cases h2 : byteAt s (j : Int) > 57
        · exact .inr ⟨none, trivial, fun k1 k2 => by rw [if_neg (by simpa using h1), if_pos (decide_eq_true h2)]⟩
        · exact .inl ⟨(s, _, x2, ((j + 1 : Nat) : Int), ()), ⟨j + 1, IntKind.u64.wrap ((IntKind.u64.wrap (acc * 10)) + (IntKind.u64.wrap (IntKind.u8.wrap ((byteAt s (j : Int)) - 48)))), rfl, by omega, by omega⟩, fun k1 k2 => by rw [if_neg (by simpa using h1), if_neg (by simpa using h2), w1 j (by omega)]⟩
    · exact .inr ⟨some acc, trivial, fun k1 k2 => by rw [if_neg (by simpa using hlt)]⟩
  · obtain ⟨j, acc, rfl, hij, hj⟩ := ha
    have hlt : ¬ (j : Int) < (s.size : Int) := by omega
    exact ⟨some acc, trivial, fun k1 k2 => by simp only [verdererref01_Number_l8, verdererref01_Number_s8]; rw [if_neg (by simpa using hlt)]⟩
/-- the digits' loop over digits -/
theorem numl_dig (n : Nat) (s : ByteArray) (hs : s.size ≤ 1000) (hn : s.size + 2 < n) (x2 : Int) (l : List UInt8) (f : Nat) (hd : s.data.toList.drop f = l) (hl : f + l.length = s.size) (hdig : ∀ c ∈ l, dig c) (hv : dval 0 l < 18446744073709551616) (k2 : exK R (verdererref01_Number_dx 8)) :
    runC (verdererref01_Number_l8 n) n (s, (0 : Int), x2, (f : Int), ()) k2 = k2.2.1 (s, (dval 0 l : Int), x2, ()) := by
  have := runC_st (R := R) (step := verdererref01_Number_l8 n) k2 (k2.2.1 (s, (dval 0 l : Int), x2, ())) (fun i => (s, (dval 0 (l.take i) : Int), x2, ((f + i : Nat) : Int), ())) l.length (fun i hi => .inl fun k1 => ?_) (fun k1 => ?_) (n := n) (by omega)
  · exact this
  · have hb : byteAt s ((f + i : Nat) : Int) = (l[i].toNat : Int) := byteAt_q s (f + i) l[i] (by rw [← List.getElem?_drop, hd]; exact List.getElem?_eq_getElem hi)
    have hc := hdig l[i] (List.getElem_mem hi)
    unfold dig at hc
    have hsn : dval 0 (l.take (i + 1)) = dval 0 (l.take i) * 10 + (l[i].toNat - 48) := by rw [take_snoc l i hi, dval_app]; rfl
    have hle : dval 0 (l.take (i + 1)) ≤ dval 0 l := by
      conv => rhs; rw [← List.take_append_drop (i + 1) l]
      rw [dval_app]
      exact dval_le _ _
    have c1 : ((f + i : Nat) : Int) < (s.size : Int) := by omega
    have c0 : (0 : Int) ≤ ((f + i : Nat) : Int) := by omega
    have e6 : IntKind.u64.wrap ((IntKind.u64.wrap ((dval 0 (l.take i) : Int) * 10)) + (IntKind.u64.wrap (IntKind.u8.wrap ((l[i].toNat : Int) - 48)))) = (dval 0 (l.take (i + 1)) : Int) := by
      rw [u8w _ (by omega) (by omega), u64w ((l[i].toNat : Int) - 48) (by omega) (by omega), u64w ((dval 0 (l.take i) : Int) * 10) (by omega) (by omega), u64w _ (by omega) (by omega)]
      omega
    have n1 : ¬ ((l[i].toNat : Int) < 48) := by omega
    have n2 : ¬ ((l[i].toNat : Int) > 57) := by omega
    simp only [verdererref01_Number_l8, verdererref01_Number_s8, c1, c0, decide_true, if_true, hb, n1, n2, decide_false, Bool.false_eq_true, if_false, e6, w1 (f + i) (by omega)]
    rfl
  · have : ¬ (((f + l.length : Nat) : Int) < (s.size : Int)) := by omega
    simp only [verdererref01_Number_l8, verdererref01_Number_s8]
    rw [if_neg (by simpa using this), List.take_length]
/-- a text as a number: it is one just if it is a number's word -/
theorem number_ex (n : Nat) (s : ByteArray) (hs : s.size ≤ 1000) (hn : 1100 < n) : ∃ (x : Int) (ok : Bool), inR x ∧ (ok = true → numS x = s) ∧ ∀ k : Int → Bool → Option R, verdererref01_Number_F n s k = k x ok := by
  rw [verdererref01_Number_e]
  unfold verdererref01_Number_Fi
  have join : ∀ f : Nat, f ≤ s.size → ∃ (x : Int) (ok : Bool), inR x ∧ (ok = true → numS x = s) ∧ ∀ k : exK R (verdererref01_Number_dx 1000005), verdererref01_Number_l1000005 n (s, (0 : Int), (f : Int), ()) k = k.1 (x, ok, ()) := by
    intro f hf
    rw [verdererref01_Number_e1000005]
    unfold verdererref01_Number_li1000005 verdererref01_Number_s1000005
    by_cases h1 : s.size = f
    · exact ⟨0, false, inR0, (fun h => by cases h), fun k => by rw [if_pos (by simp [h1])]⟩
    have hw : IntKind.i64.wrap ((s.size : Int) - (f : Int)) = (s.size : Int) - (f : Int) := wrap_i64 (by omega) (by omega)
    by_cases h2 : (s.size : Int) - (f : Int) > 19
    · exact ⟨0, false, inR0, (fun h => by cases h), fun k => by rw [if_neg (by simp; omega), hw, if_pos (decide_eq_true h2)]⟩
    obtain ⟨y, hy⟩ := numl_ex (R := R) n s hs (by omega) 0 (f : Int) f
    cases y with
    | none => exact ⟨0, false, inR0, (fun h => by cases h), fun k => by rw [if_neg (by simp; omega), hw, if_neg (by simpa using h2)]; exact hy _⟩
    | some z =>
      refine ⟨if (f : Int) = 1 then IntKind.i64.wrap (IntKind.u64.wrap (0 - z)) else IntKind.i64.wrap z, _, ?_, fun h => of_decide_eq_true h, fun k => ?_⟩
      · split <;> exact i64_rng _
      · rw [if_neg (by simp; omega), hw, if_neg (by simpa using h2)]
        refine (hy _).trans ?_
        exact refNum_tail n s z (f : Int) (by omega) (fun x0 x1 => k.1 (x0, x1, ()))
  by_cases h0 : (s.size : Int) > 0
  · have c0 : (0 : Int) < (s.size : Int) := by omega
    by_cases h1 : byteAt s 0 = 45
    · obtain ⟨x, ok, p1, p2, p3⟩ := join 1 (by omega)
      exact ⟨x, ok, p1, p2, fun k => by rw [if_pos (decide_eq_true h0), if_pos (Int.le_refl _), if_pos c0, if_pos (by rw [h1]; rfl)]; exact p3 _⟩
    · obtain ⟨x, ok, p1, p2, p3⟩ := join 0 (by omega)
      exact ⟨x, ok, p1, p2, fun k => by rw [if_pos (decide_eq_true h0), if_pos (Int.le_refl _), if_pos c0, if_neg (by simpa using h1)]; exact p3 _⟩
  · obtain ⟨x, ok, p1, p2, p3⟩ := join 0 (by omega)
    exact ⟨x, ok, p1, p2, fun k => by rw [if_neg (by simpa using h0)]; exact p3 _⟩
theorem number_F (n : Nat) (x : Int) (h : inR x) (hn : 1100 < n) (k : Int → Bool → Option R) : verdererref01_Number_F n (numS x) k = k x true := by
  rw [verdererref01_Number_e]
  unfold verdererref01_Number_Fi
  have hz := numS_size x h
  have join : ∀ (f : Nat) (l : List UInt8), (numS x).data.toList.drop f = l → f + l.length = (numS x).size → 1 ≤ l.length → l.length ≤ 19 → (∀ c ∈ l, dig c) → dval 0 l < 18446744073709551616 → (if (f : Int) = 1 then IntKind.i64.wrap (IntKind.u64.wrap (0 - (dval 0 l : Int))) else IntKind.i64.wrap (dval 0 l : Int)) = x →
      ∀ k : exK R (verdererref01_Number_dx 1000005), verdererref01_Number_l1000005 n (numS x, (0 : Int), (f : Int), ()) k = k.1 (x, true, ()) := by
    intro f l hd hl h1 h19 hdig hv hx k
    rw [verdererref01_Number_e1000005]
    unfold verdererref01_Number_li1000005 verdererref01_Number_s1000005
    have hw : IntKind.i64.wrap (((numS x).size : Int) - (f : Int)) = ((numS x).size : Int) - (f : Int) := wrap_i64 (by omega) (by omega)
    have h2 : ¬ (((numS x).size : Int) - (f : Int) > 19) := by omega
    rw [if_neg (by simp; omega), hw, if_neg (by simpa using h2)]
    refine (numl_dig (R := R) n (numS x) (by omega) (by omega) (f : Int) l f hd hl hdig hv _).trans ?_
    refine (refNum_tail n (numS x) (dval 0 l : Int) (f : Int) (by omega) (fun x0 x1 => k.1 (x0, x1, ()))).trans ?_
    simp only [hx, decide_true]
  obtain ⟨h0, h1⟩ := h
  by_cases hneg : x < 0
  · have hi : (numS x).data.toList = 45 :: Lib.decDigits x.natAbs := by unfold numS Lib.itoa; rw [if_pos hneg]
    have hl : (Lib.decDigits x.natAbs).length ≤ 19 := by rw [Lib.decDigits_length]; exact nd_le 19 _ (by omega) (by omega)
    have hne := dec_ne x.natAbs
    have hv := dval_dec x.natAbs
    have hlen : 1 ≤ (Lib.decDigits x.natAbs).length := by cases hc : Lib.decDigits x.natAbs with | nil => exact absurd hc hne | cons _ _ => simp
    have hsz : (numS x).size = (Lib.decDigits x.natAbs).length + 1 := by rw [ba_size, hi]; simp
    have hb : byteAt (numS x) 0 = 45 := byteAt_q (numS x) 0 45 (by rw [hi]; rfl)
    have e : IntKind.i64.wrap (IntKind.u64.wrap (0 - ((x.natAbs : Nat) : Int))) = x := by
      simp only [IntKind.wrap, IntKind.bits, IntKind.signed]
      simp
      split <;> omega
    rw [if_pos (decide_eq_true (by omega)), if_pos (Int.le_refl _), if_pos (by omega), if_pos (by rw [hb]; rfl)]
    exact join 1 (Lib.decDigits x.natAbs) (by rw [hi]; rfl) (by omega) hlen hl (dec_dig _) (by rw [hv]; omega) (by rw [hv, if_pos (by decide)]; exact e) _
  · have hi : (numS x).data.toList = Lib.decDigits x.toNat := by unfold numS Lib.itoa; rw [if_neg hneg]
    have hl : (Lib.decDigits x.toNat).length ≤ 19 := by rw [Lib.decDigits_length]; exact nd_le 19 _ (by omega) (by omega)
    have hne := dec_ne x.toNat
    have hv := dval_dec x.toNat
    have hdd := dec_dig x.toNat
    have hsz : (numS x).size = (Lib.decDigits x.toNat).length := by rw [ba_size, hi]
    have hlen : 1 ≤ (Lib.decDigits x.toNat).length := by cases hc : Lib.decDigits x.toNat with | nil => exact absurd hc hne | cons _ _ => simp
    have hb : byteAt (numS x) 0 ≠ 45 := by
      have h3 : (numS x).data.toList[0]? = some ((Lib.decDigits x.toNat)[0]) := by rw [hi]; exact List.getElem?_eq_getElem hlen
      rw [show (0 : Int) = ((0 : Nat) : Int) from rfl, byteAt_q (numS x) 0 _ h3]
      have := hdd _ (List.getElem_mem hlen)
      unfold dig at this
      omega
    have e : IntKind.i64.wrap ((x.toNat : Nat) : Int) = x := by rw [wrap_i64 (by omega) (by omega)]; omega
    rw [if_pos (decide_eq_true (by omega)), if_pos (Int.le_refl _), if_pos (by omega), if_neg (by simpa using hb)]
    exact join 0 (Lib.decDigits x.toNat) (by rw [hi]; rfl) (by omega) hlen hl hdd (by rw [hv]; omega) (by rw [hv, if_neg (by decide)]; exact e) _
theorem numS_inj {x y : Int} (hx : inR x) (hy : inR y) (h : numS x = numS y) : x = y := by
  have h1 := number_F (R := Int × Bool) 2000 x hx (by omega) (fun a b => some (a, b))
  have h2 := number_F (R := Int × Bool) 2000 y hy (by omega) (fun a b => some (a, b))
  rw [h, h2] at h1
  injection h1 with h1
  injection h1 with h1
  exact h1.symm
open Classical in
theorem number_all (n : Nat) (s : ByteArray) (hs : s.size ≤ 1000) (hn : 1100 < n) : ∃ (x : Int) (ok : Bool), inR x ∧ (ok = true → numS x = s) ∧ (∀ y, inR y → numS y = s → ok = true ∧ x = y) ∧ ∀ k : Int → Bool → Option R, verdererref01_Number_F n s k = k x ok := by
  by_cases h : ∃ y, inR y ∧ numS y = s
  · obtain ⟨y, hy, e⟩ := h
    exact ⟨y, true, hy, fun _ => e, fun z hz ez => ⟨rfl, numS_inj hy hz (e.trans ez.symm)⟩, fun k => by rw [← e]; exact number_F n y hy hn k⟩
  · obtain ⟨x, ok, h1, h2, h3⟩ := number_ex (R := R) n s hs hn
    exact ⟨x, ok, h1, h2, fun y hy e => absurd ⟨y, hy, e⟩ h, h3⟩
end Go.Proofs.Ytikikmkfeeljgaa.E
namespace Go.Proofs.Ytikikmkfeeljgaa.E
open Go.RowKit
variable {R : Type}
/-! a word as a value -/
def zV : ty36.D := (0, false, 0, (⟨#[]⟩ : ByteArray), ())
theorem right_cases {v : ty36.D} (h : rightV v = true) : v = zV ∨ (∃ b, v = (1, b, 0, (⟨#[]⟩ : ByteArray), ())) ∨ (∃ x : Int, v = (2, false, x, (⟨#[]⟩ : ByteArray), ())) ∨ (∃ t : ByteArray, t.size ≤ 60 ∧ v = (3, false, 0, t, ())) := by
  obtain ⟨a, b, x, t, u⟩ := v
  unfold rightV at h
  rw [decide_eq_true_eq] at h
  rcases h with ⟨h1, h2, h3, h4⟩ | ⟨h1, h3, h4⟩ | ⟨h1, h2, h4⟩ | ⟨h1, h2, h3, h4⟩
  · simp only at h1 h2 h3 h4
    rw [← nil_size] at h4
    subst h1 h2 h3 h4
    exact .inl rfl
  · simp only at h1 h3 h4
    rw [← nil_size] at h4
    subst h1 h3 h4
    exact .inr (.inl ⟨b, rfl⟩)
  · simp only at h1 h2 h4
    rw [← nil_size] at h4
    subst h1 h2 h4
    exact .inr (.inr (.inl ⟨x, rfl⟩))
  · simp only at h1 h2 h3 h4
    subst h1 h2 h3
    exact .inr (.inr (.inr ⟨t, h4, rfl⟩))
theorem show_null : showS zV = ⟨#[110, 117, 108, 108]⟩ := by unfold showS; rfl
theorem show_bool (b : Bool) : showS (1, b, 0, (⟨#[]⟩ : ByteArray), ()) = if b = true then ⟨#[116, 114, 117, 101]⟩ else ⟨#[102, 97, 108, 115, 101]⟩ := by unfold showS; cases b <;> rfl
theorem show_num (x : Int) : showS (2, false, x, (⟨#[]⟩ : ByteArray), ()) = numS x := by
  unfold showS
  have : rightV (2, false, x, (⟨#[]⟩ : ByteArray), ()) = true := by unfold rightV; exact decide_eq_true (.inr (.inr (.inl ⟨rfl, rfl, rfl⟩)))
  rw [if_pos this]
  rfl
theorem show_text (t : ByteArray) (h : t.size ≤ 60) : showS (3, false, 0, t, ()) = mkB (quotedL t.data.toList) := by
  unfold showS
  have : rightV (3, false, 0, t, ()) = true := by unfold rightV; exact decide_eq_true (.inr (.inr (.inr ⟨rfl, rfl, rfl, h⟩)))
  rw [if_pos this]
  rfl
theorem show_wrong (v : ty36.D) (h : rightV v = false) : showS v = ⟨#[]⟩ := by unfold showS; rw [h]; rfl
theorem ne_nil {s : ByteArray} (h : 0 < s.size) : s ≠ (⟨#[]⟩ : ByteArray) := fun e => by rw [e] at h; exact absurd h (by decide)
theorem numS_pos (x : Int) : 0 < (numS x).size := by
  unfold numS Lib.itoa
  rw [mk_sz]
  split
  · simp
  · cases hc : Lib.decDigits x.toNat with
    | nil => exact absurd hc (dec_ne _)
    | cons _ _ => simp
theorem show_ne {v : ty36.D} (h : rightV v = true) : showS v ≠ (⟨#[]⟩ : ByteArray) := by
  rcases right_cases h with rfl | ⟨b, rfl⟩ | ⟨x, rfl⟩ | ⟨t, ht, rfl⟩
  · rw [show_null]; exact ne_nil (by decide)
  · rw [show_bool]; cases b <;> exact ne_nil (by decide)
  · rw [show_num]; exact ne_nil (numS_pos x)
  · rw [show_text t ht]; exact ne_nil (by rw [mkB_size]; simp [quotedL])
theorem show_size (v : ty36.D) (hx : inR v.2.2.1) : (showS v).size ≤ 242 := by
  cases h : rightV v with
  | false => rw [show_wrong v h]; exact Nat.zero_le _
  | true =>
    rcases right_cases h with rfl | ⟨b, rfl⟩ | ⟨x, rfl⟩ | ⟨t, ht, rfl⟩
    · rw [show_null]; decide
    · rw [show_bool]; cases b <;> decide
    · rw [show_num]; have := numS_size x hx; omega
    · rw [show_text t ht, mkB_size]
      have := flat_len t.data.toList
      rw [ba_size] at ht
      simp only [quotedL, List.length_cons, List.length_append, List.length_nil]
      omega
/-- is a text a value's word? -/
def isW (s : ByteArray) (v : ty36.D) : Prop := rightV v = true ∧ inR v.2.2.1 ∧ showS v = s
open Classical in
/-- the value whose word a text is -/
noncomputable def readV (s : ByteArray) : ty36.D × Int := if h : ∃ v, isW s v then (h.choose, 0) else (zV, 7)
/-- a guess that finds each value by its word -/
def Guess (g : ByteArray → ty36.D) : Prop := ∀ s, s.size ≤ 1000 → inR (g s).2.2.1 ∧ ∀ v, isW s v → g s = v
theorem readV_guess {g : ByteArray → ty36.D} (hg : Guess g) (s : ByteArray) (hs : s.size ≤ 1000) : readV s = if s ≠ (⟨#[]⟩ : ByteArray) ∧ showS (g s) = s then (g s, 0) else (zV, 7) := by
  obtain ⟨h1, h2⟩ := hg s hs
  unfold readV
  by_cases h : ∃ v, isW s v
  · rw [dif_pos h]
    have hc := h.choose_spec
    have e := h2 _ hc
    have hs0 : s ≠ (⟨#[]⟩ : ByteArray) := by rw [← hc.2.2]; exact show_ne hc.1
    rw [if_pos ⟨hs0, by rw [e]; exact hc.2.2⟩, e]
  · rw [dif_neg h, if_neg]
    rintro ⟨h3, h4⟩
    refine h ⟨g s, ?_, h1, h4⟩
    cases hr : rightV (g s) with
    | true => rfl
    | false => rw [show_wrong _ hr] at h4; exact absurd h4.symm h3
theorem readV_show (v : ty36.D) (h : rightV v = true) (hx : inR v.2.2.1) {g : ByteArray → ty36.D} (hg : Guess g) : readV (showS v) = (v, 0) := by
  have hw : isW (showS v) v := ⟨h, hx, rfl⟩
  have hs := show_size v hx
  have := (hg (showS v) (by omega)).2 v hw
  rw [readV_guess hg _ (by omega), this, if_pos ⟨show_ne h, rfl⟩]
theorem readV_ok (s : ByteArray) (h : (readV s).2 = 0) : isW s (readV s).1 := by
  unfold readV at h ⊢
  by_cases hh : ∃ v, isW s v
  · rw [dif_pos hh]; exact hh.choose_spec
  · rw [dif_neg hh] at h; cases h
theorem readV_no (s : ByteArray) (h : (readV s).2 ≠ 0) : readV s = (zV, 7) := by
  unfold readV at h ⊢
  by_cases hh : ∃ v, isW s v
  · rw [dif_pos hh] at h; exact absurd rfl h
  · rw [dif_neg hh]
theorem readV_err (s : ByteArray) : (readV s).2 = 0 ∨ readV s = (zV, 7) := by
  by_cases h : (readV s).2 = 0
  · exact .inl h
  · exact .inr (readV_no s h)
theorem numS_ne (x : Int) (h : inR x) (s : ByteArray) (c : UInt8) (hs : s.data.toList.head? = some c) (hc : ¬ dig c ∧ c ≠ 45) : numS x ≠ s := by
  intro e
  rw [← e] at hs
  unfold numS Lib.itoa at hs
  simp only [List.toList_toArray] at hs
  split at hs
  · simp at hs; exact hc.2 hs.symm
  · have hd := dec_dig x.toNat
    cases hl : Lib.decDigits x.toNat with
    | nil => exact dec_ne _ hl
    | cons a r =>
      rw [hl] at hs hd
      simp at hs
      rw [← hs] at hc
      exact hc.1 (hd a (by simp))
def trueB : ByteArray := ⟨#[116, 114, 117, 101]⟩
def falseB : ByteArray := ⟨#[102, 97, 108, 115, 101]⟩
/-- reading, by the document -/
theorem refRead_F (n : Nat) (s : ByteArray) (hs : s.size ≤ 1000) (hn : 2000 < n) : ∃ g : ty36.D, (inR g.2.2.1 ∧ ∀ v, isW s v → g = v) ∧ ∀ k : ty36.D → Int → Option R, verdererref01_Read_F n s k = if s ≠ (⟨#[]⟩ : ByteArray) ∧ showS g = s then k g 0 else k zV 7 := by
  rw [verdererref01_Read_e]
  unfold verdererref01_Read_Fi
  obtain ⟨x, ok, hx, hok, hall, hN⟩ := number_all (R := R) n s hs (by omega)
  have join : ∀ (v : ty36.D) (hv : inR v.2.2.1) (k : exK R (verdererref01_Read_dx 1000009)), verdererref01_Read_l1000009 n (s, (0 : Int), false, (0 : Int), (⟨#[]⟩ : ByteArray), v.1, v.2.1, v.2.2.1, v.2.2.2.1, ()) k = if s ≠ (⟨#[]⟩ : ByteArray) ∧ showS v = s then k.1 (0, v.1, v.2.1, v.2.2.1, v.2.2.2.1, ()) else k.1 (7, 0, false, 0, (⟨#[]⟩ : ByteArray), ()) := by
    intro v hv k
    rw [verdererref01_Read_e1000009]
    unfold verdererref01_Read_li1000009 verdererref01_Read_s1000009
    simp only [beqB]
    by_cases h0 : s = (⟨#[]⟩ : ByteArray)
    · simp [h0]
    · simp only [h0, decide_false, Bool.false_eq_true, if_false, ne_eq, not_false_eq_true, true_and]
      rw [show_F n (v.1, v.2.1, v.2.2.1, v.2.2.2.1, ()) hv (by omega)]
      by_cases h1 : showS (v.1, v.2.1, v.2.2.1, v.2.2.2.1, ()) = s
      · have h1' : showS v = s := h1
        simp [h1, h1']
      · have h1' : ¬ showS v = s := h1
        simp [h1, h1']
  have tf : ∀ v, isW s v → (s = trueB → v = (1, true, 0, (⟨#[]⟩ : ByteArray), ())) ∧ (s = falseB → v = (1, false, 0, (⟨#[]⟩ : ByteArray), ())) := by
    rintro v ⟨h1, h2, h3⟩
    rcases right_cases h1 with rfl | ⟨b, rfl⟩ | ⟨y, rfl⟩ | ⟨t, ht, rfl⟩
    · rw [show_null] at h3
      exact ⟨fun e => absurd (h3.trans e) (by decide), fun e => absurd (h3.trans e) (by decide)⟩
    · rw [show_bool] at h3
      cases b
      · exact ⟨fun e => absurd (h3.trans e) (by decide), fun _ => rfl⟩
      · exact ⟨fun _ => rfl, fun e => absurd (h3.trans e) (by decide)⟩
    · rw [show_num] at h3
      exact ⟨fun e => absurd (h3.trans e) (numS_ne y h2 trueB 116 rfl (by unfold dig; decide)), fun e => absurd (h3.trans e) (numS_ne y h2 falseB 102 rfl (by unfold dig; decide))⟩
    · rw [show_text t ht] at h3
      have hq : (mkB (quotedL t.data.toList)).data.toList.head? = some 34 := rfl
      exact ⟨fun e => by rw [h3, e] at hq; exact absurd hq (by decide), fun e => by rw [h3, e] at hq; exact absurd hq (by decide)⟩
  have fin : ∀ (g : ty36.D) (k : ty36.D → Int → Option R), (if s ≠ (⟨#[]⟩ : ByteArray) ∧ showS g = s then k (g.1, g.2.1, g.2.2.1, g.2.2.2.1, ()) 0 else k (0, false, 0, (⟨#[]⟩ : ByteArray), ()) 7) = if s ≠ (⟨#[]⟩ : ByteArray) ∧ showS g = s then k g 0 else k zV 7 := fun g k => rfl
  by_cases ht : s = trueB
  · refine ⟨(1, true, 0, (⟨#[]⟩ : ByteArray), ()), ⟨inR0, fun v hv => ((tf v hv).1 ht).symm⟩, fun k => ?_⟩
    rw [hN]
    simp only [beqB]
    have ht' : s = (⟨#[116, 114, 117, 101]⟩ : ByteArray) := ht
    rw [if_pos (decide_eq_true ht'), decide_eq_true (show s = (⟨#[116, 114, 117, 101]⟩ : ByteArray) from ht)]
    exact (join (1, true, 0, (⟨#[]⟩ : ByteArray), ()) inR0 _).trans (fin _ k)
  by_cases hf : s = falseB
  · refine ⟨(1, false, 0, (⟨#[]⟩ : ByteArray), ()), ⟨inR0, fun v hv => ((tf v hv).2 hf).symm⟩, fun k => ?_⟩
    rw [hN]
    simp only [beqB]
    have ht' : ¬ s = (⟨#[116, 114, 117, 101]⟩ : ByteArray) := ht
    have hf' : s = (⟨#[102, 97, 108, 115, 101]⟩ : ByteArray) := hf
    rw [if_neg (by simpa using ht'), if_pos (decide_eq_true hf'), decide_eq_false ht']
    exact (join (1, false, 0, (⟨#[]⟩ : ByteArray), ()) inR0 _).trans (fin _ k)
  have ht' : ¬ s = (⟨#[116, 114, 117, 101]⟩ : ByteArray) := ht
  have hf' : ¬ s = (⟨#[102, 97, 108, 115, 101]⟩ : ByteArray) := hf
  cases ok with
  | true =>
    refine ⟨(2, false, x, (⟨#[]⟩ : ByteArray), ()), ⟨hx, fun v hv => ?_⟩, fun k => ?_⟩
    · have e := hok rfl
      obtain ⟨h1, h2, h3⟩ := hv
      rcases right_cases h1 with rfl | ⟨b, rfl⟩ | ⟨y, rfl⟩ | ⟨t, htt, rfl⟩
      · rw [show_null] at h3
        exact absurd (e.trans h3.symm) (numS_ne x hx _ 110 rfl (by unfold dig; decide))
      · rw [show_bool] at h3
        cases b
        · exact absurd h3.symm hf
        · exact absurd h3.symm ht
      · rw [show_num] at h3
        rw [(hall y h2 h3).2]
      · rw [show_text t htt] at h3
        exact absurd (e.trans h3.symm) (numS_ne x hx _ 34 rfl (by unfold dig; decide))
    · rw [hN]
      simp only [beqB]
      rw [if_neg (by simpa using ht'), if_neg (by simpa using hf'), if_pos trivial]
      exact (join (2, false, x, (⟨#[]⟩ : ByteArray), ()) hx _).trans (fin _ k)
  | false =>
    have nn : ∀ y, inR y → numS y ≠ s := fun y hy e => absurd (hall y hy e).1 (by decide)
    -- not a quoted text: null
    have nul : (¬ ∃ t : ByteArray, t.size ≤ 60 ∧ mkB (quotedL t.data.toList) = s) → ∀ v, isW s v → zV = v := by
      rintro hq v ⟨h1, h2, h3⟩
      rcases right_cases h1 with rfl | ⟨b, rfl⟩ | ⟨y, rfl⟩ | ⟨t, htt, rfl⟩
      · rfl
      · rw [show_bool] at h3
        cases b
        · exact absurd h3.symm hf
        · exact absurd h3.symm ht
      · rw [show_num] at h3
        exact absurd h3 (nn y h2)
      · rw [show_text t htt] at h3
        exact absurd ⟨t, htt, h3⟩ hq
    have qsz : ∀ t : ByteArray, t.size ≤ 60 → mkB (quotedL t.data.toList) = s → 2 ≤ s.size ∧ byteAt s 0 = 34 ∧ s.size ≤ 242 := by
      intro t htt e
      have := flat_len t.data.toList
      rw [ba_size] at htt
      rw [← e, mkB_size]
      refine ⟨by simp [quotedL], rfl, by simp only [quotedL, List.length_cons, List.length_append, List.length_nil]; omega⟩
    by_cases h2 : (s.size : Int) ≥ 2
    · by_cases h3 : byteAt s 0 = 34
      · by_cases h4 : (s.size : Int) ≤ 300
        · obtain ⟨t0, hT⟩ := unq_ex (R := R) n s hs (by omega) (by omega)
          have : ∃ t : ByteArray, (∀ t2 : ByteArray, t2.size ≤ 60 → mkB (quotedL t2.data.toList) = s → t = t2) ∧ ∀ k : ByteArray → Option R, verdererref01_unquoted_F n s k = k t := by
            by_cases hq : ∃ t : ByteArray, t.size ≤ 60 ∧ mkB (quotedL t.data.toList) = s
            · obtain ⟨t, htt, e⟩ := hq
              refine ⟨t, fun t2 h6 e2 => ?_, fun k => by rw [← e]; exact unq_F n t (by omega) (by omega) k⟩
              have a1 := unq_F (R := ByteArray) 2000 t (by omega) (by omega) some
              have a2 := unq_F (R := ByteArray) 2000 t2 (by omega) (by omega) some
              rw [e, ← e2, a2] at a1
              injection a1 with a1
              exact a1.symm
            · exact ⟨t0, fun t2 h6 e2 => absurd ⟨t2, h6, e2⟩ hq, hT⟩
          obtain ⟨t, ht2, hT⟩ := this
          refine ⟨(3, false, 0, t, ()), ⟨inR0, ?_⟩, fun k => ?_⟩
          · rintro v ⟨h5, h6, h7⟩
            rcases right_cases h5 with rfl | ⟨b, rfl⟩ | ⟨y, rfl⟩ | ⟨t2, htt, rfl⟩
            · rw [show_null] at h7
              rw [← h7] at h3
              exact absurd h3 (by decide)
            · rw [show_bool] at h7
              cases b
              · exact absurd h7.symm hf
              · exact absurd h7.symm ht
            · rw [show_num] at h7
              exact absurd h7 (nn y h6)
            · rw [show_text t2 htt] at h7
              rw [ht2 t2 htt h7]
          · rw [hN]
            simp only [beqB]
            rw [if_neg (by simpa using ht'), if_neg (by simpa using hf'), if_neg (by decide), if_pos (decide_eq_true h2), if_pos (Int.le_refl _), if_pos (by omega), if_pos (by rw [h3]; rfl), if_pos (decide_eq_true h4), hT]
            exact (join (3, false, 0, t, ()) inR0 _).trans (fin _ k)
        · refine ⟨zV, ⟨inR0, nul (fun ⟨t, h6, e⟩ => h4 (by have := (qsz t h6 e).2.2; omega))⟩, fun k => ?_⟩
          rw [hN]
          simp only [beqB]
          rw [if_neg (by simpa using ht'), if_neg (by simpa using hf'), if_neg (by decide), if_pos (decide_eq_true h2), if_pos (Int.le_refl _), if_pos (by omega), if_pos (by rw [h3]; rfl), if_neg (by simpa using h4)]
          exact (join zV inR0 _).trans (fin _ k)
      · refine ⟨zV, ⟨inR0, nul (fun ⟨t, h6, e⟩ => h3 (qsz t h6 e).2.1)⟩, fun k => ?_⟩
        rw [hN]
        simp only [beqB]
        rw [if_neg (by simpa using ht'), if_neg (by simpa using hf'), if_neg (by decide), if_pos (decide_eq_true h2), if_pos (Int.le_refl _), if_pos (by omega), if_neg (by simpa using h3)]
        exact (join zV inR0 _).trans (fin _ k)
    · refine ⟨zV, ⟨inR0, nul (fun ⟨t, h6, e⟩ => h2 (by have := (qsz t h6 e).1; omega))⟩, fun k => ?_⟩
      rw [hN]
      simp only [beqB]
      rw [if_neg (by simpa using ht'), if_neg (by simpa using hf'), if_neg (by decide), if_neg (by simpa using h2)]
      exact (join zV inR0 _).trans (fin _ k)
open Classical in
/-- what the document guesses -/
theorem refGuess (n : Nat) (hn : 2000 < n) : ∃ g : ByteArray → ty36.D, Guess g ∧ ∀ s : ByteArray, s.size ≤ 1000 → ∀ k : ty36.D → Int → Option R, verdererref01_Read_F n s k = if s ≠ (⟨#[]⟩ : ByteArray) ∧ showS (g s) = s then k (g s) 0 else k zV 7 := by
  have h : ∀ s : ByteArray, ∃ g : ty36.D, s.size ≤ 1000 → (inR g.2.2.1 ∧ ∀ v, isW s v → g = v) ∧ ∀ k : ty36.D → Int → Option R, verdererref01_Read_F n s k = if s ≠ (⟨#[]⟩ : ByteArray) ∧ showS g = s then k g 0 else k zV 7 := by
    intro s
    by_cases hs : s.size ≤ 1000
    · obtain ⟨g, h1⟩ := refRead_F (R := R) n s hs hn
      exact ⟨g, fun _ => h1⟩
    · exact ⟨zV, fun h => absurd h hs⟩
  exact ⟨fun s => (h s).choose, fun s hs => ((h s).choose_spec hs).1, fun s hs => ((h s).choose_spec hs).2⟩
theorem refReadV_F (n : Nat) (s : ByteArray) (hs : s.size ≤ 1000) (hn : 2000 < n) (k : ty36.D → Int → Option R) : verdererref01_Read_F n s k = k (readV s).1 (readV s).2 := by
  obtain ⟨g, hg, h⟩ := refGuess (R := R) n hn
  rw [h s hs, readV_guess hg s hs]
  split <;> rfl
theorem readV_back (v : ty36.D) (h : rightV v = true) (hx : inR v.2.2.1) : readV (showS v) = (v, 0) := by
  obtain ⟨g, hg, _⟩ := refGuess (R := Unit) 3000 (by omega)
  exact readV_show v h hx hg
end Go.Proofs.Ytikikmkfeeljgaa.E
namespace Go.Proofs.Ytikikmkfeeljgaa.E
open Go.RowKit
variable {R : Type}
/-! tokens, by the document -/
def scanN (p : Nat → Bool) : Nat → Nat → Nat
  | 0, i => i
  | f + 1, i => if p i = true then scanN p f (i + 1) else i
theorem scanN_le (p : Nat → Bool) : ∀ f i, i ≤ scanN p f i ∧ scanN p f i ≤ i + f
  | 0, i => ⟨Nat.le_refl _, Nat.le_refl _⟩
  | f + 1, i => by
    unfold scanN
    split
    · have := scanN_le p f (i + 1); omega
    · omega
theorem runC_span {α β R : Type} {step : α → (α → Option R) → β → Option R} (k : β) (p : Nat → Bool) (st : Nat → α) (m : Nat) (E : Nat → Option R)
    (hs : ∀ i, i < m → ∀ k1, step (st i) k1 k = if p i = true then k1 (st (i + 1)) else E i) (he : ∀ k1, step (st m) k1 k = E m) {n i : Nat} (hi : i ≤ m) (hn : m - i < n) : runC step n (st i) k = E (scanN p (m - i) i) := by
  have go : ∀ (d i n : Nat), i + d = m → d < n → runC step n (st i) k = E (scanN p d i) := by
    intro d
    induction d with
    | zero =>
      intro i n hi hn
      obtain ⟨n, rfl⟩ : ∃ q, n = q + 1 := ⟨n - 1, by omega⟩
      have : i = m := by omega
      subst this
      exact he _
    | succ d ih =>
      intro i n hi hn
      obtain ⟨n, rfl⟩ : ∃ q, n = q + 1 := ⟨n - 1, by omega⟩
      refine Eq.trans (show _ = step (st i) (fun b => runC step n b k) k from rfl) ((hs i (by omega) _).trans ?_)
      unfold scanN
      split
      · exact ih (i + 1) n (by omega) (by omega)
      · rfl
  exact go (m - i) i n (by omega) hn
/-- a byte of a text, as a number -/
def bt (s : ByteArray) (i : Nat) : Nat := (s.data.toList.getD i 0).toNat
theorem byteAt_bt (s : ByteArray) (i : Nat) : byteAt s (i : Int) = (bt s i : Int) := by unfold byteAt bt; rw [Int.toNat_natCast]
theorem byteAt_0 (s : ByteArray) : byteAt s 0 = (bt s 0 : Int) := byteAt_bt s 0
theorem byteAt_1 (s : ByteArray) : byteAt s 1 = (bt s 1 : Int) := byteAt_bt s 1
def letN (c : Nat) : Bool := decide (97 ≤ c) && decide (c ≤ 122)
def digN (c : Nat) : Bool := decide (48 ≤ c) && decide (c ≤ 57)
def wchN (s : ByteArray) (i : Nat) : Bool := letN (bt s i) || (decide (0 < i) && (digN (bt s i) || decide (bt s i = 95)))
def wordN (s : ByteArray) : Nat := scanN (wchN s) s.size 0
def numN (s : ByteArray) : Nat := scanN (fun i => digN (bt s i)) (s.size - (if bt s 0 = 45 then 1 else 0)) (if bt s 0 = 45 then 1 else 0)
def textN (s : ByteArray) : Nat → Nat → Nat
  | 0, _ => 0
  | f + 1, i => if i < s.size then (if bt s i = 92 then textN s f (i + 2) else if bt s i = 34 then i + 1 else textN s f (i + 1)) else 0
def signN (s : ByteArray) : Nat :=
  if 2 ≤ s.size ∧ bt s 1 = 61 ∧ (bt s 0 = 61 ∨ bt s 0 = 33 ∨ bt s 0 = 60 ∨ bt s 0 = 62) then 2
  else if bt s 0 = 40 ∨ bt s 0 = 41 ∨ bt s 0 = 44 ∨ bt s 0 = 95 ∨ bt s 0 = 60 ∨ bt s 0 = 62 then 1 else 0
theorem lt_int {a b : Nat} : ((a : Int) < (b : Int)) = (a < b) := by simp
theorem letF (n : Nat) (c : Nat) (k : Bool → Option R) : verdererref11_letter_F n (c : Int) k = k (letN c) := by
  rw [verdererref11_letter_e]
  unfold verdererref11_letter_Fi letN
  by_cases h : 97 ≤ c
  · have : (c : Int) ≥ 97 := by omega
    have e : ((c : Int) ≤ 122) ↔ c ≤ 122 := by omega
    simp [h, this, e]
  · have : ¬ (c : Int) ≥ 97 := by omega
    rw [if_neg (by simpa using this)]
    simp [h]
theorem digF (n : Nat) (c : Nat) (k : Bool → Option R) : verdererref11_digit_F n (c : Int) k = k (digN c) := by
  rw [verdererref11_digit_e]
  unfold verdererref11_digit_Fi digN
  by_cases h : 48 ≤ c
  · have : (c : Int) ≥ 48 := by omega
    have e : ((c : Int) ≤ 57) ↔ c ≤ 57 := by omega
    simp [h, this, e]
  · have : ¬ (c : Int) ≥ 48 := by omega
    rw [if_neg (by simpa using this)]
    simp [h]
theorem beq_nat (a b : Nat) : ((a : Int) == (b : Int)) = decide (a = b) := by
  rw [Bool.eq_iff_iff, beq_iff_eq, decide_eq_true_eq]; omega
theorem refWord_F (n : Nat) (s : ByteArray) (hs : s.size ≤ 1000) (hn : s.size < n) (k : Int → Option R) : verdererref11_word_F n s k = k (wordN s : Int) := by
  rw [verdererref11_word_e]
  unfold verdererref11_word_Fi
  refine (runC_span (R := R) (step := verdererref11_word_l2 n) (fun b3 => k b3.1, ()) (wchN s) (fun i => (s, (i : Int), ())) s.size (fun i => k (i : Int)) (fun i hi k1 => ?_) (fun k1 => ?_) (i := 0) (Nat.zero_le _) (by omega)).trans rfl
  · have c1 : (i : Int) < (s.size : Int) := by omega
    have c0 : (0 : Int) ≤ (i : Int) := by omega
    have e95 : ((bt s i : Int) == 95) = decide (bt s i = 95) := beq_nat _ 95
    have e0 : ((i : Int) > 0) ↔ 0 < i := by omega
    simp only [verdererref11_word_l2, verdererref11_word_s2, c1, c0, decide_true, if_true, byteAt_bt, letF, digF, wrap_succ i (by omega), e95, e0, wchN]
    by_cases h1 : letN (bt s i) = true
    · simp only [h1, if_true, Bool.true_or]
    · by_cases hi0 : 0 < i
      · by_cases h2 : digN (bt s i) = true
        · simp [h1, hi0, h2]
        · by_cases h95 : bt s i = 95 <;> simp [h1, hi0, h2, h95]
      · simp [h1, hi0]
  · simp [verdererref11_word_l2, verdererref11_word_s2]
theorem refNum_F (n : Nat) (s : ByteArray) (hs : s.size ≤ 1000) (h0 : 0 < s.size) (hn : s.size < n) (k : Int → Option R) : verdererref11_number_F n s k = k (numN s : Int) := by
  rw [verdererref11_number_e]
  unfold verdererref11_number_Fi numN
  have e45 : (byteAt s 0 == 45) = decide (bt s 0 = 45) := by rw [byteAt_0]; exact beq_nat _ 45
  have go : ∀ f, f ≤ s.size → runC (verdererref11_number_l4 n) n (s, (f : Int), ()) (fun b2 => k b2.1, ()) = k ((scanN (fun i => digN (bt s i)) (s.size - f) f : Nat) : Int) := by
    intro f hf
    refine runC_span (R := R) (step := verdererref11_number_l4 n) (fun b2 => k b2.1, ()) (fun i => digN (bt s i)) (fun i => (s, (i : Int), ())) s.size (fun i => k (i : Int)) (fun i hi k1 => ?_) (fun k1 => ?_) (i := f) hf (by omega)
    · have c1 : (i : Int) < (s.size : Int) := by omega
      have c0 : (0 : Int) ≤ (i : Int) := by omega
      simp only [verdererref11_number_l4, verdererref11_number_s4, c1, c0, decide_true, if_true, byteAt_bt, digF, wrap_succ i (by omega)]
    · simp [verdererref11_number_l4, verdererref11_number_s4]
  rw [if_pos (decide_eq_true (by omega)), if_pos (Int.le_refl _), if_pos (by omega), e45]
  by_cases h : bt s 0 = 45
  · rw [if_pos (decide_eq_true h), if_pos h]; exact go 1 (by omega)
  · rw [if_neg (by simpa using h), if_neg h]; exact go 0 (by omega)
theorem refText_F (n : Nat) (s : ByteArray) (hs : s.size ≤ 1000) (hn : s.size + 2 < n) (k : Int → Option R) : verdererref11_text_F n s k = k (textN s (s.size + 1) 1 : Int) := by
  rw [verdererref11_text_e]
  unfold verdererref11_text_Fi
  have go : ∀ (f i m : Nat), s.size ≤ i + f → f < m → i ≤ s.size + 2 → runC (verdererref11_text_l2 n) m (s, (i : Int), ()) (fun b1 => k b1.1, fun b1 => k 0, ()) = k (textN s (f + 1) i : Int) := by
    intro f
    induction f with
    | zero =>
      intro i m hi hm hi2
      obtain ⟨m, rfl⟩ : ∃ q, m = q + 1 := ⟨m - 1, by omega⟩
      show verdererref11_text_l2 n (s, (i : Int), ()) _ _ = _
      have : ¬ i < s.size := by omega
      have c : ¬ (i : Int) < (s.size : Int) := by omega
      simp only [verdererref11_text_l2, verdererref11_text_s2, textN, this, if_false]
      rw [if_neg (by simpa using c)]
      rfl
    | succ f ih =>
      intro i m hi hm hi2
      obtain ⟨m, rfl⟩ : ∃ q, m = q + 1 := ⟨m - 1, by omega⟩
      show verdererref11_text_l2 n (s, (i : Int), ()) _ _ = _
      by_cases h : i < s.size
      · have c1 : (i : Int) < (s.size : Int) := by omega
        have c0 : (0 : Int) ≤ (i : Int) := by omega
        have e92 : ((bt s i : Int) == 92) = decide (bt s i = 92) := beq_nat _ 92
        have e34 : ((bt s i : Int) == 34) = decide (bt s i = 34) := beq_nat _ 34
        rw [textN, if_pos h]
        simp only [verdererref11_text_l2, verdererref11_text_s2, c1, c0, decide_true, if_true, byteAt_bt, e92, e34, wrap_succ i (by omega), wrap_succ (i + 1) (by omega)]
        by_cases h92 : bt s i = 92
        · rw [if_pos (decide_eq_true h92), if_pos h92]
          exact ih (i + 2) m (by omega) (by omega) (by omega)
        · rw [if_neg (by simpa using h92), if_neg h92]
          by_cases h34 : bt s i = 34
          · rw [if_pos (decide_eq_true h34), if_pos h34]
          · rw [if_neg (by simpa using h34), if_neg h34]
            exact ih (i + 1) m (by omega) (by omega) (by omega)
      · have c : ¬ (i : Int) < (s.size : Int) := by omega
        rw [textN, if_neg h]
        simp only [verdererref11_text_l2, verdererref11_text_s2]
        rw [if_neg (by simpa using c)]
        rfl
  exact go s.size 1 n (by omega) (by omega) (by omega)
theorem refSign_F (n : Nat) (s : ByteArray) (h0 : 0 < s.size) (k : Int → Option R) : verdererref11_sign_F n s k = k (signN s : Int) := by
  rw [verdererref11_sign_e]
  unfold verdererref11_sign_Fi signN
  have b : ∀ (a : Nat) (b : Nat), ((a : Int) == (b : Int)) = decide (a = b) := beq_nat
  have e : ∀ j : Nat, ((bt s j : Int) == 61) = decide (bt s j = 61) ∧ ((bt s j : Int) == 33) = decide (bt s j = 33) ∧ ((bt s j : Int) == 60) = decide (bt s j = 60) ∧ ((bt s j : Int) == 62) = decide (bt s j = 62) ∧ ((bt s j : Int) == 40) = decide (bt s j = 40) ∧ ((bt s j : Int) == 41) = decide (bt s j = 41) ∧ ((bt s j : Int) == 44) = decide (bt s j = 44) ∧ ((bt s j : Int) == 95) = decide (bt s j = 95) := fun j => ⟨b _ 61, b _ 33, b _ 60, b _ 62, b _ 40, b _ 41, b _ 44, b _ 95⟩
  have c0 : (0 : Int) < (s.size : Int) := by omega
  have t1 : (0 : Int) ≤ 1 := by decide
  simp only [byteAt_0, byteAt_1, e, c0, Int.le_refl, if_true, t1]
  generalize bt s 0 = x
  generalize bt s 1 = y
  have tail : (if decide (x = 40) = true then k 1 else if decide (x = 41) = true then k 1 else if decide (x = 44) = true then k 1 else if decide (x = 95) = true then k 1 else if decide (x = 60) = true then k 1 else if decide (x = 62) = true then k 1 else k 0) = k ((if x = 40 ∨ x = 41 ∨ x = 44 ∨ x = 95 ∨ x = 60 ∨ x = 62 then 1 else 0 : Nat) : Int) := by
    by_cases h1 : x = 40 <;> by_cases h2 : x = 41 <;> by_cases h3 : x = 44 <;> by_cases h4 : x = 95 <;> by_cases h5 : x = 60 <;> by_cases h6 : x = 62 <;> simp [h1, h2, h3, h4, h5, h6]
  by_cases h2 : 2 ≤ s.size
  · have g2 : (s.size : Int) ≥ 2 := by omega
    have g1 : (1 : Int) < (s.size : Int) := by omega
    simp only [g2, g1, decide_true, if_true, h2, true_and]
    by_cases hy : y = 61
    · simp only [hy, decide_true, if_true, true_and]
      by_cases x1 : x = 61
      · simp [x1]
      · by_cases x2 : x = 33
        · simp [x1, x2]
        · by_cases x3 : x = 60
          · simp [x1, x2, x3]
          · by_cases x4 : x = 62
            · simp [x1, x2, x3, x4]
            · have hno : ¬ (x = 61 ∨ x = 33 ∨ x = 60 ∨ x = 62) := by omega
              rw [if_neg (by simpa using x1), if_neg (by simpa using x2), if_neg (by simpa using x3), if_neg (by simpa using x4), if_neg hno]
              exact tail
    · simp only [hy, decide_false, Bool.false_eq_true, if_false, false_and]
      exact tail
  · have g2 : ¬ (s.size : Int) ≥ 2 := by omega
    simp only [g2, decide_false, Bool.false_eq_true, if_false, h2, false_and]
    exact tail
end Go.Proofs.Ytikikmkfeeljgaa.E
namespace Go.Proofs.Ytikikmkfeeljgaa.E
open Go.RowKit
variable {R : Type}
noncomputable def constS (s : ByteArray) (m : Nat) : Option ty73.D := if (readV (s.extract 0 m)).2 = 0 then some (2, s.extract 0 m, (readV (s.extract 0 m)).1, 0, ()) else none
/-- the token with which a text goes on -/
noncomputable def oneS (s : ByteArray) : Option ty73.D :=
  if letN (bt s 0) = true then (if (readV (s.extract 0 (wordN s))).2 = 0 then some (2, s.extract 0 (wordN s), (readV (s.extract 0 (wordN s))).1, 0, ()) else some (1, s.extract 0 (wordN s), zV, 0, ()))
  else if digN (bt s 0) = true ∨ bt s 0 = 45 then (if numN s < s.size ∧ (letN (bt s (numN s)) = true ∨ bt s (numN s) = 95) then none else constS s (numN s))
  else if bt s 0 = 34 then (if 0 < textN s (s.size + 1) 1 then constS s (textN s (s.size + 1) 1) else none)
  else if 0 < signN s then some (3, s.extract 0 (signN s), zV, 0, ()) else none
theorem textN_le (s : ByteArray) : ∀ f i, textN s f i ≤ s.size
  | 0, i => Nat.zero_le _
  | f + 1, i => by
    unfold textN
    split
    · split
      · exact textN_le s f (i + 2)
      · split
        · omega
        · exact textN_le s f (i + 1)
    · exact Nat.zero_le _
theorem signN_le (s : ByteArray) (h : 0 < s.size) : signN s ≤ s.size := by
  unfold signN
  split
  · omega
  · split <;> omega
theorem numN_rng (s : ByteArray) (h : 0 < s.size) (h0 : digN (bt s 0) = true ∨ bt s 0 = 45) : 1 ≤ numN s ∧ numN s ≤ s.size := by
  unfold numN
  by_cases h1 : bt s 0 = 45
  · rw [if_pos h1]
    have := scanN_le (fun i => digN (bt s i)) (s.size - 1) 1
    omega
  · rw [if_neg h1]
    have hd := h0.resolve_right h1
    obtain ⟨m, hm⟩ : ∃ m, s.size - 0 = m + 1 := ⟨s.size - 1, by omega⟩
    rw [hm]
    unfold scanN
    rw [if_pos hd]
    have := scanN_le (fun i => digN (bt s i)) m (0 + 1)
    omega
theorem wordN_rng (s : ByteArray) (h : 0 < s.size) (h0 : letN (bt s 0) = true) : 1 ≤ wordN s ∧ wordN s ≤ s.size := by
  unfold wordN
  obtain ⟨m, hm⟩ : ∃ m, s.size = m + 1 := ⟨s.size - 1, by omega⟩
  rw [hm]
  unfold scanN
  rw [if_pos (by unfold wchN; rw [h0]; rfl)]
  have := scanN_le (wchN s) m (0 + 1)
  omega
theorem ext_size (s : ByteArray) (m : Nat) (h : m ≤ s.size) : (s.extract 0 m).size = m := by rw [ByteArray.size_extract]; omega
theorem readV_nullB : readV ⟨#[110, 117, 108, 108]⟩ = (zV, 0) := by
  have := readV_back zV (by unfold rightV; rfl) inR0
  rw [show_null] at this
  exact this
theorem refOne_F (n : Nat) (s : ByteArray) (hs : s.size ≤ 1000) (h0 : 0 < s.size) (hn : 2000 < n) : ∃ z : ty73.D, ∀ k : ty73.D → Bool → Option R, verdererref11_one_F n s k = match oneS s with
    | some t => k t true
    | none => k z false := by
  rw [verdererref11_one_e]
  unfold verdererref11_one_Fi
  have c0 : (0 : Int) < (s.size : Int) := by omega
  have b : ∀ (a : Nat) (b : Nat), ((a : Int) == (b : Int)) = decide (a = b) := beq_nat
  have e45 : ∀ j, ((bt s j : Int) == 45) = decide (bt s j = 45) := fun j => b _ 45
  have e34 : ∀ j, ((bt s j : Int) == 34) = decide (bt s j = 34) := fun j => b _ 34
  have e95 : ∀ j, ((bt s j : Int) == 95) = decide (bt s j = 95) := fun j => b _ 95
  have esz : ∀ m, m ≤ s.size → (s.extract 0 m).size ≤ 1000 := fun m hm => by rw [ext_size s m hm]; omega
  -- behind the number of bytes
  have join : ∀ m : Nat, m ≤ s.size → (m = 0 → bt s 0 = 34 ∨ (letN (bt s 0) = false ∧ digN (bt s 0) = false ∧ bt s 0 ≠ 45)) → ∃ z : ty73.D, ∀ k : exK R (verdererref11_one_dx 1000015), verdererref11_one_l1000015 n (s, (m : Int), (0 : Int), (⟨#[]⟩ : ByteArray), (0 : Int), false, (0 : Int), (⟨#[]⟩ : ByteArray), (0 : Int), ()) k = match (if 0 < m then constS s m else if bt s 0 = 34 then none else if 0 < signN s then some (3, s.extract 0 (signN s), zV, 0, ()) else none) with
      | some t => k.1 (true, t.1, t.2.1, t.2.2.1.1, t.2.2.1.2.1, t.2.2.1.2.2.1, t.2.2.1.2.2.2.1, t.2.2.2.1, ())
      | none => k.1 (false, z.1, z.2.1, z.2.2.1.1, z.2.2.1.2.1, z.2.2.1.2.2.1, z.2.2.1.2.2.2.1, z.2.2.2.1, ()) := by
    intro m hm hm0
    rw [verdererref11_one_e1000015]
    unfold verdererref11_one_li1000015 verdererref11_one_s1000015
    by_cases hp : 0 < m
    · refine ⟨(2, s.extract 0 m, (readV (s.extract 0 m)).1, 0, ()), fun k => ?_⟩
      have r1 : (0 : Int) ≤ (m : Int) ∧ (m : Int) ≤ (s.size : Int) := by omega
      have g : (m : Int) > 0 := by omega
      simp only [g, decide_true, if_true, r1, and_self, Int.toNat_natCast, hp]
      rw [refReadV_F n _ (esz m hm) hn]
      unfold constS
      by_cases hr : (readV (s.extract 0 m)).2 = 0
      · rw [if_pos hr]
        have : ((readV (s.extract 0 m)).2 == 0) = true := by simp [hr]
        simp only [this]
      · rw [if_neg hr]
        have : ((readV (s.extract 0 m)).2 == 0) = false := by simp [hr]
        simp only [this]
    · have hz : m = 0 := by omega
      subst hz
      have g : ¬ (((0 : Nat) : Int) > 0) := by omega
      simp only [g, decide_false, Bool.false_eq_true, if_false, Nat.lt_irrefl, Int.le_refl, if_true, c0, byteAt_0, e34]
      by_cases h34 : bt s 0 = 34
      · refine ⟨(0, (⟨#[]⟩ : ByteArray), zV, 0, ()), fun k => ?_⟩
        simp only [h34, decide_true, if_true]
        rfl
      · have hsg := signN_le s h0
        have r1 : (0 : Int) ≤ (signN s : Int) ∧ (signN s : Int) ≤ (s.size : Int) := by omega
        refine ⟨(3, s.extract 0 (signN s), zV, 0, ()), fun k => ?_⟩
        simp only [h34, decide_false, Bool.false_eq_true, if_false]
        rw [refSign_F n s h0, if_pos r1, Int.toNat_natCast]
        by_cases hp2 : 0 < signN s
        · have : (signN s : Int) > 0 := by omega
          rw [if_pos hp2, decide_eq_true this]
          rfl
        · have : ¬ (signN s : Int) > 0 := by omega
          rw [if_neg hp2, decide_eq_false this]
          rfl
  simp only [Int.le_refl, if_true, c0, byteAt_0, e45, e34]
  simp only [letF n (bt s 0), digF n (bt s 0)]
  unfold oneS
  by_cases hl : letN (bt s 0) = true
  · obtain ⟨w1, w2⟩ := wordN_rng s h0 hl
    refine ⟨(0, (⟨#[]⟩ : ByteArray), zV, 0, ()), fun k => ?_⟩
    rw [if_pos hl, if_pos hl, refWord_F n s hs (by omega)]
    have r1 : (0 : Int) ≤ (wordN s : Int) ∧ (wordN s : Int) ≤ (s.size : Int) := by omega
    rw [if_pos r1, Int.toNat_natCast, refReadV_F n _ (esz _ w2) hn, beqB]
    by_cases hr : (readV (s.extract 0 (wordN s))).2 = 0
    · have : ((readV (s.extract 0 (wordN s))).2 == 0) = true := by simp [hr]
      rw [if_pos hr, this, if_pos rfl]
      split <;> rfl
    · have : ((readV (s.extract 0 (wordN s))).2 == 0) = false := by simp [hr]
      rw [if_neg hr, this]
      rw [if_neg (fun e => hr (by rw [of_decide_eq_true e]; exact congrArg Prod.snd readV_nullB))]
      rfl
  rw [if_neg hl]
  have number : (digN (bt s 0) = true ∨ bt s 0 = 45) → ∃ z : ty73.D, ∀ k : ty73.D → Bool → Option R, verdererref11_number_F n s (fun y6 => if (decide (y6 < (s.size : Int))) = true then (if (0 : Int) ≤ y6 then if y6 < (s.size : Int) then (verdererref11_letter_F n (byteAt s y6) (fun y7 => if y7 = true then (k (0, (⟨#[]⟩ : ByteArray), (0, false, 0, (⟨#[]⟩ : ByteArray), ()), 0, ()) false) else (if (0 : Int) ≤ y6 then if y6 < (s.size : Int) then (if ((byteAt s y6) == 95) = true then (k (0, (⟨#[]⟩ : ByteArray), (0, false, 0, (⟨#[]⟩ : ByteArray), ()), 0, ()) false) else (verdererref11_one_l1000015 n (s, y6, 0, (⟨#[]⟩ : ByteArray), 0, false, 0, (⟨#[]⟩ : ByteArray), 0, ()) (fun b18 => k (b18.2.1, b18.2.2.1, (b18.2.2.2.1, b18.2.2.2.2.1, b18.2.2.2.2.2.1, b18.2.2.2.2.2.2.1, ()), b18.2.2.2.2.2.2.2.1, ()) b18.1, ()))) else none else none))) else none else none) else (verdererref11_one_l1000015 n (s, y6, 0, (⟨#[]⟩ : ByteArray), 0, false, 0, (⟨#[]⟩ : ByteArray), 0, ()) (fun b26 => k (b26.2.1, b26.2.2.1, (b26.2.2.2.1, b26.2.2.2.2.1, b26.2.2.2.2.2.1, b26.2.2.2.2.2.2.1, ()), b26.2.2.2.2.2.2.2.1, ()) b26.1, ()))) = match (if numN s < s.size ∧ (letN (bt s (numN s)) = true ∨ bt s (numN s) = 95) then none else constS s (numN s)) with
      | some t => k t true
      | none => k z false := by
    intro hd
    obtain ⟨n1, n2⟩ := numN_rng s h0 hd
    obtain ⟨z, hz⟩ := join (numN s) n2 (fun e => by omega)
    by_cases hlt : numN s < s.size
    · have d1 : (numN s : Int) < (s.size : Int) := by omega
      have d0 : (0 : Int) ≤ (numN s : Int) := by omega
      by_cases hbad : letN (bt s (numN s)) = true ∨ bt s (numN s) = 95
      · refine ⟨(0, (⟨#[]⟩ : ByteArray), zV, 0, ()), fun k => ?_⟩
        rw [refNum_F n s hs h0 (by omega)]
        simp only [d1, d0, decide_true, if_true, byteAt_bt, letF, e95]
        rw [show (if numN s < s.size ∧ (letN (bt s (numN s)) = true ∨ bt s (numN s) = 95) then none else constS s (numN s)) = none from if_pos ⟨hlt, hbad⟩]
        by_cases h1 : letN (bt s (numN s)) = true
        · rw [if_pos h1]; rfl
        · rw [if_neg h1, if_pos (decide_eq_true (hbad.resolve_left h1))]; rfl
      · refine ⟨z, fun k => ?_⟩
        rw [refNum_F n s hs h0 (by omega)]
        simp only [d1, d0, decide_true, if_true, byteAt_bt, letF, e95]
        rw [show (if numN s < s.size ∧ (letN (bt s (numN s)) = true ∨ bt s (numN s) = 95) then none else constS s (numN s)) = constS s (numN s) from if_neg (fun h => hbad h.2), if_neg (fun h => hbad (.inl h)), if_neg (fun h => hbad (.inr (of_decide_eq_true h)))]
        refine (hz _).trans ?_
        rw [if_pos (by omega)] <;> (cases constS s (numN s) <;> rfl)
    · refine ⟨z, fun k => ?_⟩
      rw [refNum_F n s hs h0 (by omega)]
      have d1 : ¬ (numN s : Int) < (s.size : Int) := by omega
      rw [show (if numN s < s.size ∧ (letN (bt s (numN s)) = true ∨ bt s (numN s) = 95) then none else constS s (numN s)) = constS s (numN s) from if_neg (fun h => hlt h.1), if_neg (by simpa using d1)]
      refine (hz _).trans ?_
      rw [if_pos (by omega)] <;> (cases constS s (numN s) <;> rfl)
  by_cases hd : digN (bt s 0) = true
  · obtain ⟨z, hz⟩ := number (.inl hd)
    refine ⟨z, fun k => ?_⟩
    rw [if_neg hl, if_pos hd, if_pos (Or.inl hd)]
    exact hz k
  by_cases h45 : bt s 0 = 45
  · obtain ⟨z, hz⟩ := number (.inr h45)
    refine ⟨z, fun k => ?_⟩
    rw [if_neg hl, if_neg hd, if_pos (decide_eq_true h45), if_pos (Or.inr h45)]
    exact hz k
  have hno : ¬ (digN (bt s 0) = true ∨ bt s 0 = 45) := fun h => h.elim hd h45
  have hl' : letN (bt s 0) = false := by simpa using hl
  have hd' : digN (bt s 0) = false := by simpa using hd
  by_cases h34 : bt s 0 = 34
  · obtain ⟨z, hz⟩ := join (textN s (s.size + 1) 1) (textN_le s _ _) (fun _ => .inl h34)
    refine ⟨z, fun k => ?_⟩
    rw [if_neg hl, if_neg hd, if_neg (by simpa using h45), if_pos (decide_eq_true h34), if_neg hno, if_pos h34, refText_F n s hs (by omega)]
    refine (hz _).trans ?_
    rw [if_pos h34] <;> cases (if 0 < textN s (s.size + 1) 1 then constS s (textN s (s.size + 1) 1) else none) <;> rfl
  · obtain ⟨z, hz⟩ := join 0 (Nat.zero_le _) (fun _ => .inr ⟨hl', hd', h45⟩)
    refine ⟨z, fun k => ?_⟩
    rw [if_neg hl, if_neg hd, if_neg (by simpa using h45), if_neg (by simpa using h34), if_neg hno, if_neg h34]
    refine (hz _).trans ?_
    rw [if_neg (Nat.lt_irrefl 0), if_neg h34] <;> cases (if 0 < signN s then some ((3, s.extract 0 (signN s), zV, 0, ()) : ty73.D) else none) <;> rfl
theorem constS_size {s : ByteArray} {m : Nat} (hm : m ≤ s.size) {t : ty73.D} (h : constS s m = some t) : t.2.1.size = m := by
  unfold constS at h
  split at h
  · injection h with h; rw [← h]; exact ext_size s m hm
  · cases h
theorem oneS_size {s : ByteArray} (h0 : 0 < s.size) {t : ty73.D} (h : oneS s = some t) : 1 ≤ t.2.1.size ∧ t.2.1.size ≤ s.size := by
  unfold oneS at h
  split at h
  · rename_i hl
    have := wordN_rng s h0 hl
    split at h <;> (injection h with h; rw [← h]; show _ ≤ (s.extract 0 (wordN s)).size ∧ (s.extract 0 (wordN s)).size ≤ _; rw [ext_size s _ this.2]; exact this)
  · split at h
    · rename_i hd
      have := numN_rng s h0 hd
      split at h
      · cases h
      · rw [constS_size this.2 h]; exact this
    · split at h
      · split at h
        · rw [constS_size (textN_le s _ _) h]; exact ⟨by omega, textN_le s _ _⟩
        · cases h
      · split at h
        · have := signN_le s h0
          injection h with h; rw [← h]; show _ ≤ (s.extract 0 (signN s)).size ∧ (s.extract 0 (signN s)).size ≤ _; rw [ext_size s _ this]; omega
        · cases h
end Go.Proofs.Ytikikmkfeeljgaa.E
namespace Go.Proofs.Ytikikmkfeeljgaa.E
open Go.RowKit
variable {R : Type}
abbrev Toks := List ty73.D
/-- the tokens of a text from a place on; or where it is wrong -/
noncomputable def lexL (s : ByteArray) : Nat → Nat → Toks → Nat ⊕ Toks
  | 0, _, l => .inr l
  | f + 1, i, l => if i < s.size then (if bt s i = 32 ∨ bt s i = 10 then lexL s f (i + 1) l else match oneS (s.extract i s.size) with
      | none => .inl i
      | some t => lexL s f (i + t.2.1.size) (l ++ [(t.1, t.2.1, t.2.2.1, (i : Int), ())])) else .inr l
def endT (s : ByteArray) : ty73.D := (4, (⟨#[]⟩ : ByteArray), zV, (s.size : Int), ())
noncomputable def lexS (s : ByteArray) : Int × Int × Toks := if 300 < s.size then (0, 9, []) else match lexL s (s.size + 1) 0 [] with
  | .inl i => ((i : Int), 7, [])
  | .inr l => (0, 0, l ++ [endT s])
theorem refLex_l (n : Nat) (s : ByteArray) (hs : s.size ≤ 300) (hn : 2000 < n) (k2 : exK R (verdererref11_Read_dx 5)) : ∀ (f i m : Nat) (l : Toks), s.size ≤ i + f → f < m → i ≤ s.size → l.length ≤ i →
    runC (verdererref11_Read_l5 n) m (s, (i : Int), l, ()) k2 = match lexL s (f + 1) i l with
      | .inl j => k2.1 ((j : Int), 7, [], ())
      | .inr l' => k2.2.1 (s, l', ())
  | f, i, m, l, hf, hm, hi, hl => by
    obtain ⟨m, rfl⟩ : ∃ q, m = q + 1 := ⟨m - 1, by omega⟩
    show verdererref11_Read_l5 n (s, (i : Int), l, ()) (fun b => runC (verdererref11_Read_l5 n) m b k2) k2 = _
    by_cases h : i < s.size
    · obtain ⟨f, rfl⟩ : ∃ q, f = q + 1 := ⟨f - 1, by omega⟩
      have c1 : (i : Int) < (s.size : Int) := by omega
      have c0 : (0 : Int) ≤ (i : Int) := by omega
      have e32 : ((bt s i : Int) == 32) = decide (bt s i = 32) := beq_nat _ 32
      have e10 : ((bt s i : Int) == 10) = decide (bt s i = 10) := beq_nat _ 10
      have r1 : (0 : Int) ≤ (i : Int) ∧ (i : Int) ≤ (s.size : Int) := by omega
      rw [lexL, if_pos h]
      simp only [verdererref11_Read_l5, verdererref11_Read_s5, c1, c0, decide_true, if_true, byteAt_bt, e32, e10, wrap_succ i (by omega), r1, and_self, Int.toNat_natCast]
      have go := refLex_l n s hs hn k2 f (i + 1) m l (by omega) (by omega) (by omega) (by omega)
      by_cases h32 : bt s i = 32
      · rw [if_pos (decide_eq_true h32), if_pos (Or.inl h32)]
        exact go
      · by_cases h10 : bt s i = 10
        · rw [if_neg (by simpa using h32), if_pos (decide_eq_true h10), if_pos (Or.inr h10)]
          exact go
        · rw [if_neg (by simpa using h32), if_neg (by simpa using h10), if_neg (fun h => h.elim h32 h10)]
          have hz : (s.extract i s.size).size = s.size - i := by rw [ByteArray.size_extract]; omega
          obtain ⟨z, ho⟩ := refOne_F (R := R) n (s.extract i s.size) (by omega) (by omega) hn
          rw [ho]
          cases he : oneS (s.extract i s.size) with
          | none => rfl
          | some t =>
            obtain ⟨t1, t2⟩ := oneS_size (by omega) he
            have hw : IntKind.i64.wrap ((i : Int) + (t.2.1.size : Int)) = ((i + t.2.1.size : Nat) : Int) := by rw [wrap_i64 (by omega) (by omega)]; omega
            simp only [Bool.not_true, Bool.false_eq_true, if_false, hw, List.length_cons, List.length_nil]
            rw [if_pos (by omega)]
            exact refLex_l n s hs hn k2 f (i + t.2.1.size) m _ (by omega) (by omega) (by omega) (by simp; omega)
    · have c : ¬ (i : Int) < (s.size : Int) := by omega
      rw [lexL, if_neg h]
      simp only [verdererref11_Read_l5, verdererref11_Read_s5]
      rw [if_neg (by simpa using c)]
theorem lexL_len (s : ByteArray) : ∀ (f i : Nat) (l l' : Toks), i ≤ s.size → l.length ≤ i → lexL s f i l = .inr l' → l'.length ≤ s.size
  | 0, i, l, l', hi, hl, h => by injection h with h; rw [← h]; omega
  | f + 1, i, l, l', hi, hl, h => by
    unfold lexL at h
    split at h
    · rename_i hlt
      split at h
      · exact lexL_len s f (i + 1) l l' (by omega) (by omega) h
      · split at h
        · cases h
        · rename_i t he
          have hz : (s.extract i s.size).size = s.size - i := by rw [ByteArray.size_extract]; omega
          obtain ⟨t1, t2⟩ := oneS_size (by omega) he
          exact lexL_len s f (i + t.2.1.size) _ l' (by omega) (by simp; omega) h
    · injection h with h; rw [← h]; omega
theorem refLex_F (n : Nat) (s : ByteArray) (hn : 2000 < n) (k : Int → Int → Toks → Option R) : verdererref11_Read_F n s k = k (lexS s).1 (lexS s).2.1 (lexS s).2.2 := by
  rw [verdererref11_Read_e]
  unfold verdererref11_Read_Fi lexS
  by_cases h : 300 < s.size
  · have : (s.size : Int) > 300 := by omega
    rw [if_pos (decide_eq_true this), if_pos h]
  · have : ¬ (s.size : Int) > 300 := by omega
    rw [if_neg (by simpa using this), if_neg h]
    refine (refLex_l (R := R) n s (by omega) hn _ s.size 0 n [] (by omega) (by omega) (by omega) (by simp)).trans ?_
    cases he : lexL s (s.size + 1) 0 [] with
    | inl j => rfl
    | inr l =>
      have := lexL_len s _ _ _ _ (Nat.zero_le _) (by simp) he
      simp only [List.length_cons, List.length_nil]
      rw [if_pos (by omega)]
      rfl
/-- the tokens of a text that has some: at least the end; few -/
theorem lexS_rng (s : ByteArray) (h : (lexS s).2.1 = 0) : ∃ l, (lexS s).2.2 = l ++ [endT s] ∧ l.length ≤ 300 := by
  unfold lexS at h ⊢
  split
  · rename_i h1; rw [if_pos h1] at h; cases h
  · rename_i h1
    rw [if_neg h1] at h
    cases he : lexL s (s.size + 1) 0 [] with
    | inl j => rw [he] at h; cases h
    | inr l => exact ⟨l, rfl, by have := lexL_len s _ _ _ _ (Nat.zero_le _) (by simp) he; omega⟩
end Go.Proofs.Ytikikmkfeeljgaa.E
namespace Go.Proofs.Ytikikmkfeeljgaa.E
open Go.RowKit
variable {R : Type}
/-! the document's reader: place, why it fails, where -/
abbrev RS := Nat × Int × Int
def zT : ty73.D := Ty.z ty73
def tk (l : Toks) (i : Nat) : ty73.D := l.getD i zT
def rIs (l : Toks) (w : ByteArray) (s : RS) : Bool := decide (s.2.1 = 0) && ((decide ((tk l s.1).1 = 1) || decide ((tk l s.1).1 = 3)) && decide ((tk l s.1).2.1 = w))
def rStep (l : Toks) (s : RS) : RS := (if s.1 + 1 < l.length then s.1 + 1 else s.1, s.2.1, s.2.2)
def rTake (l : Toks) (w : ByteArray) (s : RS) : Bool × RS := if rIs l w s = true then (true, rStep l s) else (false, s)
def rFail (e p : Int) (s : RS) : RS := if s.2.1 = 0 then (s.1, e, p) else s
def rMust (l : Toks) (w : ByteArray) (s : RS) : RS := if (rTake l w s).1 = true then (rTake l w s).2 else rFail 7 (tk l s.1).2.2.2.1 s
def resW : List ByteArray := [(⟨#[100, 101, 110, 121]⟩ : ByteArray), (⟨#[118, 105, 101, 119]⟩ : ByteArray), (⟨#[113, 117, 111, 116, 97]⟩ : ByteArray), (⟨#[108, 105, 109, 105, 116]⟩ : ByteArray), (⟨#[105, 102]⟩ : ByteArray), (⟨#[110, 111, 116]⟩ : ByteArray), (⟨#[99, 111, 117, 110, 116]⟩ : ByteArray), (⟨#[115, 117, 109]⟩ : ByteArray), (⟨#[108, 101, 97, 115, 116]⟩ : ByteArray), (⟨#[109, 111, 115, 116]⟩ : ByteArray)]
def resS (w : ByteArray) : Bool := resW.any fun x => decide (x = w)
def isName (t : ty73.D) : Bool := decide (t.1 = 1) && (nameS t.2.1 && !resS t.2.1)
def rNamed (l : Toks) (s : RS) : Bool := decide (s.2.1 = 0) && isName (tk l s.1)
def rName (l : Toks) (s : RS) : ByteArray × RS := if rNamed l s = true then ((tk l s.1).2.1, rStep l s) else ((⟨#[]⟩ : ByteArray), rFail 7 (tk l s.1).2.2.2.1 s)
theorem rStep_lt {l : Toks} {s : RS} (h : s.1 < l.length) : (rStep l s).1 < l.length := by unfold rStep; simp only []; split <;> omega
theorem rTake_lt {l : Toks} {s : RS} (w : ByteArray) (h : s.1 < l.length) : (rTake l w s).2.1 < l.length := by unfold rTake; split; exact rStep_lt h; exact h
theorem rFail_at (e p : Int) (s : RS) : (rFail e p s).1 = s.1 := by unfold rFail; split <;> rfl
theorem rFail_lt {l : Toks} {s : RS} (e p : Int) (h : s.1 < l.length) : (rFail e p s).1 < l.length := by rw [rFail_at]; exact h
theorem rMust_lt {l : Toks} {s : RS} (w : ByteArray) (h : s.1 < l.length) : (rMust l w s).1 < l.length := by unfold rMust; split; exact rTake_lt w h; exact rFail_lt _ _ h
theorem rName_lt {l : Toks} {s : RS} (h : s.1 < l.length) : (rName l s).2.1 < l.length := by unfold rName; split; exact rStep_lt h; exact rFail_lt _ _ h
theorem now_F (n : Nat) (l : Toks) (s : RS) (h : s.1 < l.length) (k : ty73.D → Int → Int → Int → Toks → Option R) : verdererref12_reader_now_F n (s.1 : Int) s.2.1 s.2.2 l k = k (tk l s.1) (s.1 : Int) s.2.1 s.2.2 l := by
  rw [verdererref12_reader_now_e]
  unfold verdererref12_reader_now_Fi tk zT
  rw [if_pos (by omega), Int.toNat_natCast, if_pos h]
theorem is_F (n : Nat) (w : ByteArray) (l : Toks) (s : RS) (h : s.1 < l.length) (k : Bool → Int → Int → Int → Toks → Option R) : verdererref12_reader_is_F n w (s.1 : Int) s.2.1 s.2.2 l k = k (rIs l w s) (s.1 : Int) s.2.1 s.2.2 l := by
  rw [verdererref12_reader_is_e]
  unfold verdererref12_reader_is_Fi
  rw [now_F n l s h]
  unfold rIs
  simp only [beqB]
  by_cases h0 : s.2.1 = 0
  · have b0 : (s.2.1 == 0) = true := by simp [h0]
    by_cases h1 : (tk l s.1).1 = 1
    · have b1 : ((tk l s.1).1 == 1) = true := beq_iff_eq.2 h1
      rw [if_pos b0, if_pos b1, decide_eq_true h0, decide_eq_true h1]
      simp
    · have b1 : ((tk l s.1).1 == 1) = false := beq_eq_false_iff_ne.2 h1
      rw [if_pos b0, if_neg (by rw [b1]; decide), decide_eq_true h0, decide_eq_false h1]
      by_cases h3 : (tk l s.1).1 = 3
      · have b3 : ((tk l s.1).1 == 3) = true := beq_iff_eq.2 h3
        rw [if_pos b3, decide_eq_true h3]
        simp
      · have b3 : ((tk l s.1).1 == 3) = false := beq_eq_false_iff_ne.2 h3
        rw [if_neg (by rw [b3]; decide), decide_eq_false h3]
        simp
  · have b0 : (s.2.1 == 0) = false := by simp [h0]
    rw [if_neg (by rw [b0]; decide), decide_eq_false h0]
    simp
theorem step_F (n : Nat) (l : Toks) (s : RS) (h : s.1 < l.length) (hl : l.length < 1000000) (k : Int → Int → Int → Toks → Option R) : verdererref12_reader_step_F n (s.1 : Int) s.2.1 s.2.2 l k = k ((rStep l s).1 : Int) (rStep l s).2.1 (rStep l s).2.2 l := by
  rw [verdererref12_reader_step_e]
  unfold verdererref12_reader_step_Fi rStep
  rw [wrap_succ _ (by omega)]
  by_cases h1 : s.1 + 1 < l.length
  · have : ((s.1 + 1 : Nat) : Int) < (l.length : Int) := by omega
    rw [if_pos (decide_eq_true this)]
    simp only [h1, if_true]
  · have : ¬ ((s.1 + 1 : Nat) : Int) < (l.length : Int) := by omega
    rw [if_neg (by simpa using this)]
    simp only [h1, if_false]
theorem take_F (n : Nat) (w : ByteArray) (l : Toks) (s : RS) (h : s.1 < l.length) (hl : l.length < 1000000) (k : Bool → Int → Int → Int → Toks → Option R) : verdererref12_reader_take_F n w (s.1 : Int) s.2.1 s.2.2 l k = k (rTake l w s).1 ((rTake l w s).2.1 : Int) (rTake l w s).2.2.1 (rTake l w s).2.2.2 l := by
  rw [verdererref12_reader_take_e]
  unfold verdererref12_reader_take_Fi rTake
  rw [is_F n w l s h, step_F n l s h hl]
  cases rIs l w s <;> simp
theorem fail_F (n : Nat) (e p : Int) (l : Toks) (s : RS) (k : Int → Int → Int → Toks → Option R) : verdererref12_reader_fail_F n e p (s.1 : Int) s.2.1 s.2.2 l k = k ((rFail e p s).1 : Int) (rFail e p s).2.1 (rFail e p s).2.2 l := by
  rw [verdererref12_reader_fail_e]
  unfold verdererref12_reader_fail_Fi rFail
  by_cases h0 : s.2.1 = 0
  · have b0 : (s.2.1 == 0) = true := by simp [h0]
    rw [if_pos b0, if_pos h0]
  · have b0 : (s.2.1 == 0) = false := by simp [h0]
    rw [if_neg (by rw [b0]; decide), if_neg h0]
theorem must_F (n : Nat) (w : ByteArray) (l : Toks) (s : RS) (h : s.1 < l.length) (hl : l.length < 1000000) (k : Int → Int → Int → Toks → Option R) : verdererref12_reader_must_F n w (s.1 : Int) s.2.1 s.2.2 l k = k ((rMust l w s).1 : Int) (rMust l w s).2.1 (rMust l w s).2.2 l := by
  rw [verdererref12_reader_must_e]
  unfold verdererref12_reader_must_Fi
  rw [take_F n w l s h hl]
  unfold rMust
  cases ht : (rTake l w s).1 with
  | true => simp
  | false =>
    have e : (rTake l w s).2 = s := by
      unfold rTake at ht ⊢
      split at ht
      · cases ht
      · rename_i hh; rw [if_neg hh]
    simp only [Bool.not_false, if_true, e, Bool.false_eq_true, if_false]
    rw [now_F n l s h, fail_F n 7 _ l s]
theorem reserved_F (n : Nat) (w : ByteArray) (hn : 20 < n) (k : Bool → Option R) : verdererref11_Reserved_F n w k = k (resS w) := by
  rw [verdererref11_Reserved_e]
  unfold verdererref11_Reserved_Fi
  refine (runC_all (R := R) (step := verdererref11_Reserved_l3 n) _ (k true) (k false) (fun i => !decide ((resW.getD i ByteArray.empty) = w)) (fun i => (w, (i : Int), resW, ())) resW.length (fun i hi k1 => ?_) (fun k1 => ?_) (by show 10 < n; omega)).trans ?_
  · have hi2 : (0 : Int) ≤ (i : Int) ∧ (i : Int) < (resW.length : Int) := by omega
    have e : resW.getD i (Ty.z .str) = resW.getD i ByteArray.empty := rfl
    have c : (i : Int) < (resW.length : Int) := by omega
    have hb : i < 10 := hi
    simp only [verdererref11_Reserved_l3, verdererref11_Reserved_s3, c, hi2, decide_true, if_true, and_self, Int.toNat_natCast, hi, beqB, e, wrap_succ i (by omega)]
    by_cases h : resW.getD i ByteArray.empty = w
    · simp [h]
    · simp [h]
  · simp [verdererref11_Reserved_l3, verdererref11_Reserved_s3]
  · have : ((List.range resW.length).all fun i => !decide ((resW.getD i ByteArray.empty) = w)) = !resS w := by
      rw [Bool.eq_iff_iff, List.all_eq_true]
      unfold resS
      rw [Bool.not_eq_true', List.any_eq_false]
      constructor
      · intro h x hx
        obtain ⟨i, hi, e⟩ := List.getElem_of_mem hx
        have := h i (List.mem_range.2 hi)
        rw [getD_nat _ i hi, e] at this
        simpa using this
      · intro h i hi
        have hi := List.mem_range.1 hi
        have := h _ (List.getElem_mem hi)
        rw [getD_nat _ i hi]
        simpa using this
    rw [this]
    cases resS w <;> rfl
theorem named_F (n : Nat) (l : Toks) (s : RS) (h : s.1 < l.length) (hn : 20 < n) (k : Bool → Int → Int → Int → Toks → Option R) : verdererref12_reader_named_F n (s.1 : Int) s.2.1 s.2.2 l k = k (rNamed l s) (s.1 : Int) s.2.1 s.2.2 l := by
  rw [verdererref12_reader_named_e]
  unfold verdererref12_reader_named_Fi
  rw [now_F n l s h]
  unfold rNamed isName
  by_cases h0 : s.2.1 = 0
  · have b0 : (s.2.1 == 0) = true := by simp [h0]
    by_cases h1 : (tk l s.1).1 = 1
    · have b1 : ((tk l s.1).1 == 1) = true := beq_iff_eq.2 h1
      rw [if_pos b0, if_pos b1, decide_eq_true h0, decide_eq_true h1, refName_F n _ (by omega), reserved_F n _ hn]
      cases nameS (tk l s.1).2.1 <;> simp
    · have b1 : ((tk l s.1).1 == 1) = false := beq_eq_false_iff_ne.2 h1
      rw [if_pos b0, if_neg (by rw [b1]; decide), decide_eq_true h0, decide_eq_false h1]
      simp
  · have b0 : (s.2.1 == 0) = false := by simp [h0]
    rw [if_neg (by rw [b0]; decide), decide_eq_false h0]
    simp
theorem name_F (n : Nat) (l : Toks) (s : RS) (h : s.1 < l.length) (hl : l.length < 1000000) (hn : 20 < n) (k : ByteArray → Int → Int → Int → Toks → Option R) : verdererref12_reader_name_F n (s.1 : Int) s.2.1 s.2.2 l k = k (rName l s).1 ((rName l s).2.1 : Int) (rName l s).2.2.1 (rName l s).2.2.2 l := by
  rw [verdererref12_reader_name_e]
  unfold verdererref12_reader_name_Fi
  rw [named_F n l s h hn]
  unfold rName
  cases rNamed l s with
  | true =>
    simp only [Bool.not_true, Bool.false_eq_true, if_false, if_true]
    rw [now_F n l s h, step_F n l s h hl]
  | false =>
    simp only [Bool.not_false, Bool.false_eq_true, if_false, if_true]
    rw [now_F n l s h, fail_F n 7 _ l s]
/-- an aggregate's words -/
def aggW : List ByteArray := [(⟨#[]⟩ : ByteArray), (⟨#[99, 111, 117, 110, 116]⟩ : ByteArray), (⟨#[115, 117, 109]⟩ : ByteArray), (⟨#[108, 101, 97, 115, 116]⟩ : ByteArray), (⟨#[109, 111, 115, 116]⟩ : ByteArray)]
/-- the aggregate that stands there; 0: none -/
def rAggI (l : Toks) (s : RS) : Nat := if rIs l (aggW.getD 1 ByteArray.empty) s = true then 1 else if rIs l (aggW.getD 2 ByteArray.empty) s = true then 2 else if rIs l (aggW.getD 3 ByteArray.empty) s = true then 3 else if rIs l (aggW.getD 4 ByteArray.empty) s = true then 4 else 0
/-- of a rule: what aggregate, and of what -/
def rAgg (l : Toks) (kind : Int) (s : RS) (ag : Int) (of_ : ByteArray) : Bool × RS × Int × ByteArray :=
  if rAggI l s = 0 then (false, s, ag, of_)
  else if kind = 1 ∨ kind = 3 ∧ 2 < rAggI l s then (true, rFail 7 (tk l s.1).2.2.2.1 s, ag, of_)
  else if 1 < rAggI l s then (true, (rName l (rStep l s)).2, (rAggI l s : Int), (rName l (rStep l s)).1)
  else (true, rStep l s, (rAggI l s : Int), of_)
theorem rAgg_lt {l : Toks} {s : RS} (kind : Int) (ag : Int) (of_ : ByteArray) (h : s.1 < l.length) : (rAgg l kind s ag of_).2.1.1 < l.length := by
  unfold rAgg
  split
  · exact h
  · split
    · exact rFail_lt _ _ h
    · split
      · exact rName_lt (rStep_lt h)
      · exact rStep_lt h
theorem agg_round (n : Nat) (l : Toks) (s : RS) (h : s.1 < l.length) (hl : l.length < 1000000) (hn : 20 < n) (i : Nat) (h1 : 1 ≤ i) (hi : i < 5) (kind : Int) (nm : ByteArray) (ag : Int) (of_ : ByteArray) (lim : Int) (hd : List ByteArray) (bd : List ty41.D) (k1 : (verdererref12_reader_agg_ds 3).D → Option R) (k2 : exK R (verdererref12_reader_agg_dx 3)) :
    verdererref12_reader_agg_l3 n ((i : Int), (s.1 : Int), s.2.1, s.2.2, l, kind, nm, ag, of_, lim, hd, bd, aggW, ()) k1 k2 = if rIs l (aggW.getD i ByteArray.empty) s = true then
        (if kind = 1 ∨ kind = 3 ∧ 2 < i then k2.1 (true, ((rFail 7 (tk l s.1).2.2.2.1 s).1 : Int), (rFail 7 (tk l s.1).2.2.2.1 s).2.1, (rFail 7 (tk l s.1).2.2.2.1 s).2.2, l, kind, nm, ag, of_, lim, hd, bd, ())
        else if 1 < i then k2.1 (true, ((rName l (rStep l s)).2.1 : Int), (rName l (rStep l s)).2.2.1, (rName l (rStep l s)).2.2.2, l, kind, nm, (i : Int), (rName l (rStep l s)).1, lim, hd, bd, ())
        else k2.1 (true, ((rStep l s).1 : Int), (rStep l s).2.1, (rStep l s).2.2, l, kind, nm, (i : Int), of_, lim, hd, bd, ()))
      else k1 (((i + 1 : Nat) : Int), (s.1 : Int), s.2.1, s.2.2, l, kind, nm, ag, of_, lim, hd, bd, aggW, ()) := by
  have hlen : aggW.length = 5 := rfl
  have c : (i : Int) < (aggW.length : Int) := by omega
  have hi2 : (0 : Int) ≤ (i : Int) ∧ (i : Int) < (aggW.length : Int) := by omega
  have hi3 : i < aggW.length := by omega
  have e : aggW.getD i (Ty.z .str) = aggW.getD i ByteArray.empty := rfl
  simp only [verdererref12_reader_agg_l3, verdererref12_reader_agg_s3, c, hi2, hi3, decide_true, if_true, and_self, Int.toNat_natCast, e, wrap_succ i (by omega)]
  rw [is_F n _ l s h]
  cases rIs l (aggW.getD i ByteArray.empty) s with
  | false => simp
  | true =>
    simp only [Bool.not_true, Bool.false_eq_true, if_false, if_true]
    have g1 : ((i : Int) > 1) ↔ 1 < i := by omega
    have g2 : ((i : Int) > 2) ↔ 2 < i := by omega
    have tail : (verdererref12_reader_step_F n (s.1 : Int) s.2.1 s.2.2 l (fun y24 y25 y26 y27 => if (decide ((i : Int) > 1)) = true then (verdererref12_reader_name_F n y24 y25 y26 y27 (fun y28 y29 y30 y31 y32 => k2.1 (true, y29, y30, y31, y32, kind, nm, (i : Int), y28, lim, hd, bd, ()))) else (k2.1 (true, y24, y25, y26, y27, kind, nm, (i : Int), of_, lim, hd, bd, ())))) = if 1 < i then k2.1 (true, ((rName l (rStep l s)).2.1 : Int), (rName l (rStep l s)).2.2.1, (rName l (rStep l s)).2.2.2, l, kind, nm, (i : Int), (rName l (rStep l s)).1, lim, hd, bd, ())
        else k2.1 (true, ((rStep l s).1 : Int), (rStep l s).2.1, (rStep l s).2.2, l, kind, nm, (i : Int), of_, lim, hd, bd, ()) := by
      rw [step_F n l s h hl]
      by_cases hg : 1 < i
      · rw [if_pos (decide_eq_true (g1.2 hg)), if_pos hg, name_F n l _ (rStep_lt h) hl hn]
      · rw [if_neg (by simpa [g1] using hg), if_neg hg]
    by_cases k1' : kind = 1
    · have b : (kind == 1) = true := by simp [k1']
      rw [if_pos b, if_pos (Or.inl k1'), now_F n l s h, fail_F n 7 _ l s]
    · have b : (kind == 1) = false := by simp [k1']
      rw [if_neg (by rw [b]; decide)]
      by_cases k3 : kind = 3
      · have b3 : (kind == 3) = true := by simp [k3]
        rw [if_pos b3]
        by_cases hg : 2 < i
        · rw [if_pos (decide_eq_true (g2.2 hg)), if_pos (Or.inr ⟨k3, hg⟩), now_F n l s h, fail_F n 7 _ l s]
        · rw [if_neg (by simpa [g2] using hg), if_neg (fun hh => hh.elim k1' (fun h => hg h.2))]
          exact tail
      · have b3 : (kind == 3) = false := by simp [k3]
        rw [if_neg (by rw [b3]; decide), if_neg (fun hh => hh.elim k1' (fun h => k3 h.1))]
        exact tail
theorem agg_F (n : Nat) (l : Toks) (s : RS) (h : s.1 < l.length) (hl : l.length < 1000000) (hn : 20 < n) (kind : Int) (nm : ByteArray) (ag : Int) (of_ : ByteArray) (lim : Int) (hd : List ByteArray) (bd : List ty41.D) (k : Bool → Int → Int → Int → Toks → Int → ByteArray → Int → ByteArray → Int → List ByteArray → List ty41.D → Option R) :
    verdererref12_reader_agg_F n (s.1 : Int) s.2.1 s.2.2 l kind nm ag of_ lim hd bd k = k (rAgg l kind s ag of_).1 ((rAgg l kind s ag of_).2.1.1 : Int) (rAgg l kind s ag of_).2.1.2.1 (rAgg l kind s ag of_).2.1.2.2 l kind nm (rAgg l kind s ag of_).2.2.1 (rAgg l kind s ag of_).2.2.2 lim hd bd := by
  rw [verdererref12_reader_agg_e]
  unfold verdererref12_reader_agg_Fi
  obtain ⟨m, rfl⟩ : ∃ m, n = m + 5 := ⟨n - 5, by omega⟩
  generalize hK : ((fun b53 => k b53.1 b53.2.1 b53.2.2.1 b53.2.2.2.1 b53.2.2.2.2.1 b53.2.2.2.2.2.1 b53.2.2.2.2.2.2.1 b53.2.2.2.2.2.2.2.1 b53.2.2.2.2.2.2.2.2.1 b53.2.2.2.2.2.2.2.2.2.1 b53.2.2.2.2.2.2.2.2.2.2.1 b53.2.2.2.2.2.2.2.2.2.2.2.1, fun b64 => k false b64.1 b64.2.1 b64.2.2.1 b64.2.2.2.1 b64.2.2.2.2.1 b64.2.2.2.2.2.1 b64.2.2.2.2.2.2.1 b64.2.2.2.2.2.2.2.1 b64.2.2.2.2.2.2.2.2.1 b64.2.2.2.2.2.2.2.2.2.1 b64.2.2.2.2.2.2.2.2.2.2.1, ()) : exK R (verdererref12_reader_agg_dx 3)) = K
  have r := fun i h1 hi k1 => agg_round (R := R) (m + 5) l s h hl hn i h1 hi kind nm ag of_ lim hd bd k1 K
  unfold rAgg rAggI
  show verdererref12_reader_agg_l3 (m + 5) (((1 : Nat) : Int), (s.1 : Int), s.2.1, s.2.2, l, kind, nm, ag, of_, lim, hd, bd, aggW, ()) (fun b => runC (verdererref12_reader_agg_l3 (m + 5)) (m + 4) b K) K = _
  rw [r 1 (by omega) (by omega)]
  by_cases h1 : rIs l (aggW.getD 1 ByteArray.empty) s = true
  · rw [if_pos h1]
    simp only [h1, if_true, ← hK]
    by_cases k1' : kind = 1
    · simp [k1']
    · simp [k1']
  rw [if_neg h1]
  show verdererref12_reader_agg_l3 (m + 5) (((2 : Nat) : Int), (s.1 : Int), s.2.1, s.2.2, l, kind, nm, ag, of_, lim, hd, bd, aggW, ()) (fun b => runC (verdererref12_reader_agg_l3 (m + 5)) (m + 3) b K) K = _
  rw [r 2 (by omega) (by omega)]
  by_cases h2 : rIs l (aggW.getD 2 ByteArray.empty) s = true
  · rw [if_pos h2]
    simp only [h1, h2, if_true, if_false, ← hK]
    by_cases k1' : kind = 1
    · simp [k1']
    · simp [k1']
  rw [if_neg h2]
  show verdererref12_reader_agg_l3 (m + 5) (((3 : Nat) : Int), (s.1 : Int), s.2.1, s.2.2, l, kind, nm, ag, of_, lim, hd, bd, aggW, ()) (fun b => runC (verdererref12_reader_agg_l3 (m + 5)) (m + 2) b K) K = _
  rw [r 3 (by omega) (by omega)]
  by_cases h3 : rIs l (aggW.getD 3 ByteArray.empty) s = true
  · rw [if_pos h3]
    simp only [h1, h2, h3, if_true, if_false, ← hK]
    by_cases k1' : kind = 1
    · simp [k1']
    · by_cases k3 : kind = 3 <;> simp [k1', k3]
  rw [if_neg h3]
  show verdererref12_reader_agg_l3 (m + 5) (((4 : Nat) : Int), (s.1 : Int), s.2.1, s.2.2, l, kind, nm, ag, of_, lim, hd, bd, aggW, ()) (fun b => runC (verdererref12_reader_agg_l3 (m + 5)) (m + 1) b K) K = _
  rw [r 4 (by omega) (by omega)]
  by_cases h4 : rIs l (aggW.getD 4 ByteArray.empty) s = true
  · rw [if_pos h4]
    simp only [h1, h2, h3, h4, if_true, if_false, ← hK]
    by_cases k1' : kind = 1
    · simp [k1']
    · by_cases k3 : kind = 3 <;> simp [k1', k3]
  rw [if_neg h4]
  show verdererref12_reader_agg_l3 (m + 5) (((5 : Nat) : Int), (s.1 : Int), s.2.1, s.2.2, l, kind, nm, ag, of_, lim, hd, bd, aggW, ()) (fun b => runC (verdererref12_reader_agg_l3 (m + 5)) m b K) K = _
  have hlen : aggW.length = 5 := rfl
  simp only [verdererref12_reader_agg_l3, verdererref12_reader_agg_s3]
  rw [if_neg (by rw [hlen]; simp)]
  simp only [h1, h2, h3, h4, Bool.false_eq_true, if_false, if_true, ← hK]
end Go.Proofs.Ytikikmkfeeljgaa.E
namespace Go.Proofs.Ytikikmkfeeljgaa.E
open Go.RowKit
variable {R : Type}
set_option maxRecDepth 100000
theorem runC_s {α β R : Type} (step : α → (α → Option R) → β → Option R) (m : Nat) (a : α) (k : β) : runC step (m + 1) a k = step a (fun b => runC step m b k) k := rfl
def commaB : ByteArray := ⟨#[44]⟩
def rparB : ByteArray := ⟨#[41]⟩
def lparB : ByteArray := ⟨#[40]⟩
def anyB : ByteArray := ⟨#[95]⟩
def notB : ByteArray := ⟨#[110, 111, 116]⟩
def atT (l : Toks) (s : RS) : Int := (tk l s.1).2.2.2.1
/-! the head -/
def rHeadL (l : Toks) (kind : Int) : Nat → RS → Int → ByteArray → List ByteArray → RS × Int × ByteArray × List ByteArray
  | 0, s, ag, of_, hd => (s, ag, of_, hd)
  | f + 1, s, ag, of_, hd =>
    if s.2.1 = 0 then
      (if (rAgg l kind s ag of_).1 = true then ((rAgg l kind s ag of_).2.1, (rAgg l kind s ag of_).2.2.1, (rAgg l kind s ag of_).2.2.2, hd)
      else if (rTake l commaB (if 40 ≤ hd.length then rFail 9 (atT l s) (rName l s).2 else (rName l s).2)).1 = true then rHeadL l kind f (rTake l commaB (if 40 ≤ hd.length then rFail 9 (atT l s) (rName l s).2 else (rName l s).2)).2 ag of_ (hd ++ [(rName l s).1])
      else ((rTake l commaB (if 40 ≤ hd.length then rFail 9 (atT l s) (rName l s).2 else (rName l s).2)).2, ag, of_, hd ++ [(rName l s).1]))
    else (s, ag, of_, hd)
def rHead (l : Toks) (kind : Int) (s : RS) (ag : Int) (of_ : ByteArray) (hd : List ByteArray) : RS × Int × ByteArray × List ByteArray :=
  if kind = 3 then
    ((if (rAgg l kind (rMust l commaB (rName l s).2) ag of_).1 = true then (rAgg l kind (rMust l commaB (rName l s).2) ag of_).2.1 else rFail 7 (atT l (rAgg l kind (rMust l commaB (rName l s).2) ag of_).2.1) (rAgg l kind (rMust l commaB (rName l s).2) ag of_).2.1),
     (rAgg l kind (rMust l commaB (rName l s).2) ag of_).2.2.1, (rAgg l kind (rMust l commaB (rName l s).2) ag of_).2.2.2, hd ++ [(rName l s).1])
  else rHeadL l kind 400 s ag of_ hd
theorem rAgg_no {l : Toks} {kind : Int} {s : RS} {ag : Int} {of_ : ByteArray} (h : (rAgg l kind s ag of_).1 = false) : rAgg l kind s ag of_ = (false, s, ag, of_) := by
  unfold rAgg at h ⊢
  split
  · rfl
  · rename_i h1
    rw [if_neg h1] at h
    split at h
    · cases h
    · split at h <;> cases h
theorem rHeadL_rng {l : Toks} (kind : Int) : ∀ (f : Nat) (s : RS) (ag : Int) (of_ : ByteArray) (hd : List ByteArray), s.1 < l.length → (rHeadL l kind f s ag of_ hd).1.1 < l.length ∧ (rHeadL l kind f s ag of_ hd).2.2.2.length ≤ hd.length + f
  | 0, s, ag, of_, hd, h => ⟨h, Nat.le_refl _⟩
  | f + 1, s, ag, of_, hd, h => by
    unfold rHeadL
    split
    · split
      · exact ⟨rAgg_lt kind ag of_ h, by simp only []; omega⟩
      · have ht : (rTake l commaB (if 40 ≤ hd.length then rFail 9 (atT l s) (rName l s).2 else (rName l s).2)).2.1 < l.length := by
          refine rTake_lt _ ?_
          split
          · exact rFail_lt _ _ (rName_lt h)
          · exact rName_lt h
        generalize rTake l commaB (if 40 ≤ hd.length then rFail 9 (atT l s) (rName l s).2 else (rName l s).2) = t at ht ⊢
        split
        · have := rHeadL_rng kind f t.2 ag of_ (hd ++ [(rName l s).1]) ht
          exact ⟨this.1, by have := this.2; simp at this; omega⟩
        · exact ⟨ht, by simp⟩
    · exact ⟨h, by simp only []; omega⟩
theorem rHead_rng {l : Toks} (kind : Int) (s : RS) (ag : Int) (of_ : ByteArray) (hd : List ByteArray) (h : s.1 < l.length) : (rHead l kind s ag of_ hd).1.1 < l.length ∧ (rHead l kind s ag of_ hd).2.2.2.length ≤ hd.length + 400 := by
  unfold rHead
  split
  · have ha := rAgg_lt (l := l) kind ag of_ (rMust_lt commaB (rName_lt h))
    refine ⟨?_, by simp⟩
    simp only []
    split
    · exact ha
    · exact rFail_lt _ _ ha
  · exact rHeadL_rng kind 400 s ag of_ hd h
theorem head_loop (n : Nat) (l : Toks) (hl : l.length < 1000000) (hn : 20 < n) (kind : Int) (nm : ByteArray) (lim : Int) (bd : List ty41.D) (K : exK R (verdererref12_reader_head_dx 6)) (ret : Int → Int → Int → Toks → Int → ByteArray → Int → ByteArray → Int → List ByteArray → List ty41.D → Option R)
    (hK1 : ∀ a b c d e f g h i j q, K.1 (a, b, c, d, e, f, g, h, i, j, q, ()) = ret a b c d e f g h i j q) (hK2 : ∀ a b c d e f g h i j q, K.2.1 (a, b, c, d, e, f, g, h, i, j, q, ()) = ret a b c d e f g h i j q) : ∀ (f i : Nat) (m : Nat) (s : RS) (ag : Int) (of_ : ByteArray) (hd : List ByteArray), s.1 < l.length → i + f = 400 → hd.length ≤ 1000 + i → f < m →
    runC (verdererref12_reader_head_l6 n) m ((i : Int), (s.1 : Int), s.2.1, s.2.2, l, kind, nm, ag, of_, lim, hd, bd, ()) K = ret ((rHeadL l kind f s ag of_ hd).1.1 : Int) (rHeadL l kind f s ag of_ hd).1.2.1 (rHeadL l kind f s ag of_ hd).1.2.2 l kind nm (rHeadL l kind f s ag of_ hd).2.1 (rHeadL l kind f s ag of_ hd).2.2.1 lim (rHeadL l kind f s ag of_ hd).2.2.2 bd
  | 0, i, m, s, ag, of_, hd, h, hf, hh, hm => by
    obtain ⟨m, rfl⟩ : ∃ q, m = q + 1 := ⟨m - 1, by omega⟩
    refine (runC_s _ _ _ _).trans ?_
    have : ¬ ((i : Int) < 400) := by omega
    simp only [verdererref12_reader_head_l6, verdererref12_reader_head_s6]
    rw [if_neg (by simpa using this)]
    exact hK2 _ _ _ _ _ _ _ _ _ _ _
  | f + 1, i, m, s, ag, of_, hd, h, hf, hh, hm => by
    obtain ⟨m, rfl⟩ : ∃ q, m = q + 1 := ⟨m - 1, by omega⟩
    refine (runC_s _ _ _ _).trans ?_
    have c : (i : Int) < 400 := by omega
    have w : IntKind.i64.wrap ((i : Int) + 1) = ((i + 1 : Nat) : Int) := wrap_succ _ (by omega)
    unfold rHeadL
    simp only [verdererref12_reader_head_l6, verdererref12_reader_head_s6, c, decide_true, if_true, w]
    by_cases h0 : s.2.1 = 0
    · have b0 : (s.2.1 == 0) = true := by simp [h0]
      rw [if_pos b0, if_pos h0, agg_F n l s h hl hn]
      cases ha : (rAgg l kind s ag of_).1 with
      | true =>
        simp only [if_true]
        exact hK1 _ _ _ _ _ _ _ _ _ _ _
      | false =>
        have hno := rAgg_no ha
        simp only [hno, Bool.false_eq_true, if_false]
        rw [now_F n l s h, name_F n l s h hl hn]
        have hnl := rName_lt (l := l) h
        have g : ((hd.length : Int) ≥ 40) ↔ 40 ≤ hd.length := by omega
        have gd : (List.length hd + List.length [(rName l s).1]) * 16 ≤ 140737488355328 := by simp only [List.length_cons, List.length_nil]; omega
        have rest : ∀ s2 : RS, s2.1 < l.length → verdererref12_reader_take_F n (⟨#[44]⟩ : ByteArray) (s2.1 : Int) s2.2.1 s2.2.2 l (fun y57 y58 y59 y60 y61 => if (!y57) = true then (K.1 (y58, y59, y60, y61, kind, nm, ag, of_, lim, (hd ++ [(rName l s).1]), bd, ())) else (runC (verdererref12_reader_head_l6 n) m (((i + 1 : Nat) : Int), y58, y59, y60, y61, kind, nm, ag, of_, lim, (hd ++ [(rName l s).1]), bd, ()) K))
            = if (rTake l commaB s2).1 = true then ret ((rHeadL l kind f (rTake l commaB s2).2 ag of_ (hd ++ [(rName l s).1])).1.1 : Int) (rHeadL l kind f (rTake l commaB s2).2 ag of_ (hd ++ [(rName l s).1])).1.2.1 (rHeadL l kind f (rTake l commaB s2).2 ag of_ (hd ++ [(rName l s).1])).1.2.2 l kind nm (rHeadL l kind f (rTake l commaB s2).2 ag of_ (hd ++ [(rName l s).1])).2.1 (rHeadL l kind f (rTake l commaB s2).2 ag of_ (hd ++ [(rName l s).1])).2.2.1 lim (rHeadL l kind f (rTake l commaB s2).2 ag of_ (hd ++ [(rName l s).1])).2.2.2 bd
              else ret ((rTake l commaB s2).2.1 : Int) (rTake l commaB s2).2.2.1 (rTake l commaB s2).2.2.2 l kind nm ag of_ lim (hd ++ [(rName l s).1]) bd := by
          intro s2 h2
          rw [take_F n _ l s2 h2 hl]
          show (if (!(rTake l commaB s2).1) = true then _ else _) = _
          cases ht : (rTake l commaB s2).1 with
          | false =>
            simp only [Bool.not_false, if_true, Bool.false_eq_true, if_false]
            exact hK1 _ _ _ _ _ _ _ _ _ _ _
          | true =>
            simp only [Bool.not_true, if_true, Bool.false_eq_true, if_false]
            exact head_loop n l hl hn kind nm lim bd K ret hK1 hK2 f (i + 1) m (rTake l commaB s2).2 ag of_ _ (rTake_lt _ h2) (by omega) (by simp; omega) (by omega)
        by_cases hg : 40 ≤ hd.length
        · rw [if_pos (decide_eq_true (g.2 hg)), fail_F n 9 _ l (rName l s).2, if_pos gd]
          simp only [hg, if_true]
          refine (rest _ (rFail_lt _ _ hnl)).trans ?_
          unfold atT
          split <;> rfl
        · rw [if_neg (by simpa [g] using hg), if_pos gd]
          simp only [hg, if_false]
          refine (rest _ hnl).trans ?_
          split <;> rfl
    · have b0 : (s.2.1 == 0) = false := by simp [h0]
      rw [if_neg (by rw [b0]; decide), if_neg h0]
      exact hK2 _ _ _ _ _ _ _ _ _ _ _
theorem head_F (n : Nat) (l : Toks) (s : RS) (h : s.1 < l.length) (hl : l.length < 1000000) (hn : 500 < n) (kind : Int) (nm : ByteArray) (ag : Int) (of_ : ByteArray) (lim : Int) (hd : List ByteArray) (hh : hd.length ≤ 1000) (bd : List ty41.D) (k : Int → Int → Int → Toks → Int → ByteArray → Int → ByteArray → Int → List ByteArray → List ty41.D → Option R) :
    verdererref12_reader_head_F n (s.1 : Int) s.2.1 s.2.2 l kind nm ag of_ lim hd bd k = k ((rHead l kind s ag of_ hd).1.1 : Int) (rHead l kind s ag of_ hd).1.2.1 (rHead l kind s ag of_ hd).1.2.2 l kind nm (rHead l kind s ag of_ hd).2.1 (rHead l kind s ag of_ hd).2.2.1 lim (rHead l kind s ag of_ hd).2.2.2 bd := by
  rw [verdererref12_reader_head_e]
  unfold verdererref12_reader_head_Fi rHead
  by_cases hk : kind = 3
  · have b : (kind == 3) = true := by simp [hk]
    have h1 := rName_lt (l := l) h
    have h2 := rMust_lt (l := l) commaB h1
    have h3 := rAgg_lt (l := l) kind ag of_ h2
    rw [if_pos b, if_pos hk, name_F n l s h hl (by omega)]
    rw [if_pos (by simp only [List.length_cons, List.length_nil]; omega)]
    rw [must_F n _ l _ h1 hl]
    refine (agg_F n l (rMust l commaB (rName l s).2) h2 hl (by omega) kind nm ag of_ lim _ bd _).trans ?_
    cases ha : (rAgg l kind (rMust l commaB (rName l s).2) ag of_).1 with
    | true => simp
    | false =>
      simp only [Bool.not_false, if_true, Bool.false_eq_true, if_false]
      rw [now_F n l _ h3, fail_F n 7 _ l]
      rfl
  · have b : (kind == 3) = false := by simp [hk]
    rw [if_neg (by rw [b]; decide), if_neg hk]
    exact head_loop n l hl (by omega) kind nm lim bd _ k (fun _ _ _ _ _ _ _ _ _ _ _ => rfl) (fun _ _ _ _ _ _ _ _ _ _ _ => rfl) 400 0 n s ag of_ hd h (by omega) (by omega) (by omega)
/-! terms and args -/
def rTerm (l : Toks) (s : RS) : ty38.D × RS := if s.2.1 = 0 ∧ (tk l s.1).1 = 2 then (((⟨#[]⟩ : ByteArray), false, (tk l s.1).2.2.1, ()), rStep l s) else (((rName l s).1, false, zV, ()), (rName l s).2)
theorem rTerm_lt {l : Toks} {s : RS} (h : s.1 < l.length) : (rTerm l s).2.1 < l.length := by unfold rTerm; split; exact rStep_lt h; exact rName_lt h
theorem term_F (n : Nat) (l : Toks) (s : RS) (h : s.1 < l.length) (hl : l.length < 1000000) (hn : 20 < n) (k : ty38.D → Int → Int → Int → Toks → Option R) : verdererref12_reader_term_F n (s.1 : Int) s.2.1 s.2.2 l k = k (rTerm l s).1 ((rTerm l s).2.1 : Int) (rTerm l s).2.2.1 (rTerm l s).2.2.2 l := by
  rw [verdererref12_reader_term_e]
  unfold verdererref12_reader_term_Fi
  rw [now_F n l s h]
  unfold rTerm
  by_cases h0 : s.2.1 = 0
  · have b0 : (s.2.1 == 0) = true := by simp [h0]
    rw [if_pos b0]
    by_cases h2 : (tk l s.1).1 = 2
    · have b2 : ((tk l s.1).1 == 2) = true := beq_iff_eq.2 h2
      rw [if_pos b2, if_pos ⟨h0, h2⟩, step_F n l s h hl]
    · have b2 : ((tk l s.1).1 == 2) = false := beq_eq_false_iff_ne.2 h2
      rw [if_neg (by rw [b2]; decide), if_neg (fun hh => h2 hh.2), name_F n l s h hl hn]
      rfl
  · have b0 : (s.2.1 == 0) = false := by simp [h0]
    rw [if_neg (by rw [b0]; decide), if_neg (fun hh => h0 hh.1), name_F n l s h hl hn]
    rfl
def anyT : ty38.D := ((⟨#[]⟩ : ByteArray), true, zV, ())
def rArg (l : Toks) (s : RS) : ty38.D × RS := if rIs l anyB s = true then (anyT, rStep l s) else rTerm l s
theorem rArg_lt {l : Toks} {s : RS} (h : s.1 < l.length) : (rArg l s).2.1 < l.length := by unfold rArg; split; exact rStep_lt h; exact rTerm_lt h
def rArgsL (l : Toks) : Nat → RS → List ty38.D → RS × List ty38.D
  | 0, s, acc => (s, acc)
  | f + 1, s, acc =>
    if s.2.1 = 0 then
      (if (rTake l commaB (if 40 < acc.length + 1 then rFail 9 (atT l s) (rArg l s).2 else (rArg l s).2)).1 = true then rArgsL l f (rTake l commaB (if 40 < acc.length + 1 then rFail 9 (atT l s) (rArg l s).2 else (rArg l s).2)).2 (acc ++ [(rArg l s).1])
      else (rMust l rparB (rTake l commaB (if 40 < acc.length + 1 then rFail 9 (atT l s) (rArg l s).2 else (rArg l s).2)).2, acc ++ [(rArg l s).1]))
    else (s, acc)
def rArgs (l : Toks) (s : RS) : RS × List ty38.D := if (rTake l rparB s).1 = true then ((rTake l rparB s).2, []) else rArgsL l 400 (rTake l rparB s).2 []
theorem rArgsL_rng {l : Toks} : ∀ (f : Nat) (s : RS) (acc : List ty38.D), s.1 < l.length → (rArgsL l f s acc).1.1 < l.length ∧ (rArgsL l f s acc).2.length ≤ acc.length + f
  | 0, s, acc, h => ⟨h, Nat.le_refl _⟩
  | f + 1, s, acc, h => by
    unfold rArgsL
    split
    · have ht : (rTake l commaB (if 40 < acc.length + 1 then rFail 9 (atT l s) (rArg l s).2 else (rArg l s).2)).2.1 < l.length := by
        refine rTake_lt _ ?_
        split
        · exact rFail_lt _ _ (rArg_lt h)
        · exact rArg_lt h
      generalize rTake l commaB (if 40 < acc.length + 1 then rFail 9 (atT l s) (rArg l s).2 else (rArg l s).2) = t at ht ⊢
      split
      · have := rArgsL_rng f t.2 (acc ++ [(rArg l s).1]) ht
        exact ⟨this.1, by have := this.2; simp at this; omega⟩
      · exact ⟨rMust_lt _ ht, by simp⟩
    · exact ⟨h, by simp only []; omega⟩
theorem rArgs_rng {l : Toks} (s : RS) (h : s.1 < l.length) : (rArgs l s).1.1 < l.length ∧ (rArgs l s).2.length ≤ 400 := by
  unfold rArgs
  split
  · exact ⟨rTake_lt _ h, by simp⟩
  · have := rArgsL_rng (l := l) 400 _ [] (rTake_lt rparB h)
    exact ⟨this.1, by simpa using this.2⟩
theorem args_loop (n : Nat) (l : Toks) (hl : l.length < 1000000) (hn : 20 < n) (K : exK R (verdererref12_reader_args_dx 5)) (ret : Int → Int → Int → Toks → List ty38.D → Option R)
    (hK1 : ∀ a b c d e, K.1 (a, b, c, d, e, ()) = ret a b c d e) (hK2 : ∀ a b c d e, K.2.1 (a, b, c, d, e, ()) = ret a b c d e) : ∀ (f i : Nat) (m : Nat) (s : RS) (acc : List ty38.D), s.1 < l.length → i + f = 400 → acc.length ≤ 1000 + i → f < m →
    runC (verdererref12_reader_args_l5 n) m ((i : Int), (s.1 : Int), s.2.1, s.2.2, l, acc, ()) K = ret ((rArgsL l f s acc).1.1 : Int) (rArgsL l f s acc).1.2.1 (rArgsL l f s acc).1.2.2 l (rArgsL l f s acc).2
  | 0, i, m, s, acc, h, hf, hh, hm => by
    obtain ⟨m, rfl⟩ : ∃ q, m = q + 1 := ⟨m - 1, by omega⟩
    refine (runC_s _ _ _ _).trans ?_
    have : ¬ ((i : Int) < 400) := by omega
    simp only [verdererref12_reader_args_l5, verdererref12_reader_args_s5]
    rw [if_neg (by simpa using this)]
    exact hK2 _ _ _ _ _
  | f + 1, i, m, s, acc, h, hf, hh, hm => by
    obtain ⟨m, rfl⟩ : ∃ q, m = q + 1 := ⟨m - 1, by omega⟩
    refine (runC_s _ _ _ _).trans ?_
    have c : (i : Int) < 400 := by omega
    have w : IntKind.i64.wrap ((i : Int) + 1) = ((i + 1 : Nat) : Int) := wrap_succ _ (by omega)
    unfold rArgsL
    simp only [verdererref12_reader_args_l5, verdererref12_reader_args_s5, c, decide_true, if_true, w]
    by_cases h0 : s.2.1 = 0
    · have b0 : (s.2.1 == 0) = true := by simp [h0]
      rw [if_pos b0, if_pos h0, now_F n l s h]
      refine (is_F n anyB l s h _).trans ?_
      have rest : ∀ (a : ty38.D) (s2 : RS), s2.1 < l.length → verdererref12_reader_take_F n (⟨#[44]⟩ : ByteArray) (s2.1 : Int) s2.2.1 s2.2.2 l (fun y24 y25 y26 y27 y28 => if (!y24) = true then (verdererref12_reader_must_F n (⟨#[41]⟩ : ByteArray) y25 y26 y27 y28 (fun y29 y30 y31 y32 => K.1 (y29, y30, y31, y32, (acc ++ [a]), ()))) else (runC (verdererref12_reader_args_l5 n) m (((i + 1 : Nat) : Int), y25, y26, y27, y28, (acc ++ [a]), ()) K))
          = if (rTake l commaB s2).1 = true then ret ((rArgsL l f (rTake l commaB s2).2 (acc ++ [a])).1.1 : Int) (rArgsL l f (rTake l commaB s2).2 (acc ++ [a])).1.2.1 (rArgsL l f (rTake l commaB s2).2 (acc ++ [a])).1.2.2 l (rArgsL l f (rTake l commaB s2).2 (acc ++ [a])).2
            else ret ((rMust l rparB (rTake l commaB s2).2).1 : Int) (rMust l rparB (rTake l commaB s2).2).2.1 (rMust l rparB (rTake l commaB s2).2).2.2 l (acc ++ [a]) := by
        intro a s2 h2
        rw [take_F n _ l s2 h2 hl]
        show (if (!(rTake l commaB s2).1) = true then _ else _) = _
        cases ht : (rTake l commaB s2).1 with
        | false =>
          simp only [Bool.not_false, if_true, Bool.false_eq_true, if_false]
          refine (must_F n rparB l (rTake l commaB s2).2 (rTake_lt _ h2) hl _).trans ?_
          exact hK1 _ _ _ _ _
        | true =>
          simp only [Bool.not_true, if_true, Bool.false_eq_true, if_false]
          exact args_loop n l hl hn K ret hK1 hK2 f (i + 1) m (rTake l commaB s2).2 _ (rTake_lt _ h2) (by omega) (by simp; omega) (by omega)
      have tail : ∀ (a : ty38.D) (s2 : RS), s2.1 < l.length → (if (List.length acc + List.length [a]) * 64 ≤ 140737488355328 then (if (decide (((acc ++ [a]).length : Int) > 40)) = true then (verdererref12_reader_fail_F n 9 (tk l s.1).2.2.2.1 (s2.1 : Int) s2.2.1 s2.2.2 l (fun y20 y21 y22 y23 => verdererref12_reader_take_F n (⟨#[44]⟩ : ByteArray) y20 y21 y22 y23 (fun y24 y25 y26 y27 y28 => if (!y24) = true then (verdererref12_reader_must_F n (⟨#[41]⟩ : ByteArray) y25 y26 y27 y28 (fun y29 y30 y31 y32 => K.1 (y29, y30, y31, y32, (acc ++ [a]), ()))) else (runC (verdererref12_reader_args_l5 n) m (((i + 1 : Nat) : Int), y25, y26, y27, y28, (acc ++ [a]), ()) K)))) else (verdererref12_reader_take_F n (⟨#[44]⟩ : ByteArray) (s2.1 : Int) s2.2.1 s2.2.2 l (fun y24 y25 y26 y27 y28 => if (!y24) = true then (verdererref12_reader_must_F n (⟨#[41]⟩ : ByteArray) y25 y26 y27 y28 (fun y29 y30 y31 y32 => K.1 (y29, y30, y31, y32, (acc ++ [a]), ()))) else (runC (verdererref12_reader_args_l5 n) m (((i + 1 : Nat) : Int), y25, y26, y27, y28, (acc ++ [a]), ()) K)))) else none)
          = if (rTake l commaB (if 40 < acc.length + 1 then rFail 9 (atT l s) s2 else s2)).1 = true then ret ((rArgsL l f (rTake l commaB (if 40 < acc.length + 1 then rFail 9 (atT l s) s2 else s2)).2 (acc ++ [a])).1.1 : Int) (rArgsL l f (rTake l commaB (if 40 < acc.length + 1 then rFail 9 (atT l s) s2 else s2)).2 (acc ++ [a])).1.2.1 (rArgsL l f (rTake l commaB (if 40 < acc.length + 1 then rFail 9 (atT l s) s2 else s2)).2 (acc ++ [a])).1.2.2 l (rArgsL l f (rTake l commaB (if 40 < acc.length + 1 then rFail 9 (atT l s) s2 else s2)).2 (acc ++ [a])).2
            else ret ((rMust l rparB (rTake l commaB (if 40 < acc.length + 1 then rFail 9 (atT l s) s2 else s2)).2).1 : Int) (rMust l rparB (rTake l commaB (if 40 < acc.length + 1 then rFail 9 (atT l s) s2 else s2)).2).2.1 (rMust l rparB (rTake l commaB (if 40 < acc.length + 1 then rFail 9 (atT l s) s2 else s2)).2).2.2 l (acc ++ [a]) := by
        intro a s2 h2
        rw [if_pos (by simp only [List.length_cons, List.length_nil]; omega)]
        have g : (((acc ++ [a]).length : Int) > 40) ↔ 40 < acc.length + 1 := by simp only [List.length_append, List.length_cons, List.length_nil]; omega
        by_cases hg : 40 < acc.length + 1
        · rw [if_pos (decide_eq_true (g.2 hg)), fail_F n 9 _ l s2]
          simp only [hg, if_true]
          exact rest a (rFail 9 (atT l s) s2) (rFail_lt _ _ h2)
        · rw [if_neg (fun hh => hg (g.1 (of_decide_eq_true hh)))]
          simp only [hg, if_false]
          exact rest a s2 h2
      have hra : rArg l s = if rIs l anyB s = true then (anyT, rStep l s) else rTerm l s := rfl
      cases hi : rIs l anyB s with
      | true =>
        rw [hi, if_pos rfl] at hra
        simp only [if_true, hra]
        rw [step_F n l s h hl]
        refine (tail anyT (rStep l s) (rStep_lt h)).trans ?_
        generalize rTake l commaB (if 40 < acc.length + 1 then rFail 9 (atT l s) (rStep l s) else rStep l s) = t
        split <;> rfl
      | false =>
        rw [hi, if_neg (by decide)] at hra
        simp only [Bool.false_eq_true, if_false, hra]
        rw [term_F n l s h hl hn]
        refine (tail (rTerm l s).1 (rTerm l s).2 (rTerm_lt h)).trans ?_
        generalize rTake l commaB (if 40 < acc.length + 1 then rFail 9 (atT l s) (rTerm l s).2 else (rTerm l s).2) = t
        split <;> rfl
    · have b0 : (s.2.1 == 0) = false := by simp [h0]
      rw [if_neg (by rw [b0]; decide), if_neg h0]
      exact hK2 _ _ _ _ _
theorem args_F (n : Nat) (l : Toks) (s : RS) (h : s.1 < l.length) (hl : l.length < 1000000) (hn : 500 < n) (k : Int → Int → Int → Toks → List ty38.D → Option R) : verdererref12_reader_args_F n (s.1 : Int) s.2.1 s.2.2 l k = k ((rArgs l s).1.1 : Int) (rArgs l s).1.2.1 (rArgs l s).1.2.2 l (rArgs l s).2 := by
  rw [verdererref12_reader_args_e]
  unfold verdererref12_reader_args_Fi rArgs
  refine (take_F n rparB l s h hl _).trans ?_
  cases ht : (rTake l rparB s).1 with
  | true => simp only [if_true]
  | false =>
    simp only [Bool.false_eq_true, if_false]
    exact args_loop n l hl (by omega) _ k (fun _ _ _ _ _ => rfl) (fun _ _ _ _ _ => rfl) 400 0 n (rTake l rparB s).2 [] (rTake_lt _ h) (by omega) (by simp) (by omega)
end Go.Proofs.Ytikikmkfeeljgaa.E
namespace Go.Proofs.Ytikikmkfeeljgaa.E
open Go.RowKit
variable {R : Type}
set_option maxRecDepth 100000
/-! comparisons' signs -/
def sgnW : List ByteArray := [(⟨#[]⟩ : ByteArray), (⟨#[61, 61]⟩ : ByteArray), (⟨#[33, 61]⟩ : ByteArray), (⟨#[60]⟩ : ByteArray), (⟨#[60, 61]⟩ : ByteArray), (⟨#[62]⟩ : ByteArray), (⟨#[62, 61]⟩ : ByteArray)]
def opS (w : ByteArray) : Int := match (List.range 6).findSome? fun i => if sgnW.getD (i + 1) ByteArray.empty = w then some i else none with
  | none => 0
  | some i => ((i + 1 : Nat) : Int)
theorem sgn_F (n i : Nat) (h1 : 1 ≤ i) (h2 : i < 7) (k : ByteArray → Option R) : verdererref11_Sgn_F n (i : Int) k = k (sgnW.getD i ByteArray.empty) := by
  rw [verdererref11_Sgn_e]
  unfold verdererref11_Sgn_Fi
  have e : ([(⟨#[]⟩ : ByteArray), (⟨#[61, 61]⟩ : ByteArray), (⟨#[33, 61]⟩ : ByteArray), (⟨#[60]⟩ : ByteArray), (⟨#[60, 61]⟩ : ByteArray), (⟨#[62]⟩ : ByteArray), (⟨#[62, 61]⟩ : ByteArray)] : List ByteArray) = sgnW := rfl
  have hl : sgnW.length = 7 := rfl
  rw [e]
  have c1 : ¬ (i : Int) < 1 := by omega
  have c2 : ¬ (i : Int) ≥ (sgnW.length : Int) := by omega
  rw [if_neg (by simpa using c1), if_neg (fun h => c2 (of_decide_eq_true h)), if_pos (by omega), Int.toNat_natCast, if_pos (by omega)]
theorem op_F (n : Nat) (w : ByteArray) (hn : 20 < n) (k : Int → Option R) : verdererref11_Op_F n w k = k (opS w) := by
  rw [verdererref11_Op_e]
  unfold verdererref11_Op_Fi
  refine (runC_scan (R := R) (step := verdererref11_Op_l2 n) _ (fun i : Nat => k ((i + 1 : Nat) : Int)) (k 0) (fun i => if sgnW.getD (i + 1) ByteArray.empty = w then some i else none) (fun i => (w, ((i + 1 : Nat) : Int), ())) 6 (fun i hi k1 => ?_) (fun k1 => ?_) (by omega)).trans ?_
  · have c : ((i + 1 : Nat) : Int) ≤ 6 := by omega
    simp only [verdererref11_Op_l2, verdererref11_Op_s2, c, decide_true, if_true, wrap_succ (i + 1) (by omega)]
    rw [sgn_F n (i + 1) (by omega) (by omega), beqB]
    by_cases h : sgnW.getD (i + 1) ByteArray.empty = w
    · rw [if_pos (decide_eq_true h), if_pos h]
    · rw [if_neg (by simpa using h), if_neg h]
  · have c : ¬ ((6 + 1 : Nat) : Int) ≤ 6 := by omega
    simp only [verdererref11_Op_l2, verdererref11_Op_s2]
    rw [if_neg (by simp)]
  · unfold opS
    cases (List.range 6).findSome? (fun i => if sgnW.getD (i + 1) ByteArray.empty = w then some i else none) <;> rfl
theorem opS_rng (w : ByteArray) : 0 ≤ opS w ∧ opS w ≤ 6 := by
  unfold opS
  cases h : (List.range 6).findSome? (fun i => if sgnW.getD (i + 1) ByteArray.empty = w then some i else none) with
  | none => simp
  | some i =>
    obtain ⟨j, hj, e⟩ := List.exists_of_findSome?_eq_some h
    have := List.mem_range.1 hj
    split at e
    · injection e with e
      simp only []
      omega
    · cases e
/-! a literal -/
def rLone (l : Toks) (p : Int) (s : RS) : RS := if rIs l notB s = true ∨ rNamed l s = true ∨ (tk l s.1).1 = 2 then rFail 7 p (rFail 9 p s) else rFail 7 p s
theorem rLone_lt {l : Toks} {s : RS} (p : Int) (h : s.1 < l.length) : (rLone l p s).1 < l.length := by
  unfold rLone
  split
  · rw [rFail_at, rFail_at]; exact h
  · rw [rFail_at]; exact h
theorem lone_F (n : Nat) (p : Int) (l : Toks) (s : RS) (h : s.1 < l.length) (hn : 20 < n) (k : Int → Int → Int → Toks → Option R) : verdererref12_reader_lone_F n p (s.1 : Int) s.2.1 s.2.2 l k = k ((rLone l p s).1 : Int) (rLone l p s).2.1 (rLone l p s).2.2 l := by
  rw [verdererref12_reader_lone_e]
  unfold verdererref12_reader_lone_Fi
  rw [now_F n l s h]
  refine (is_F n notB l s h _).trans ?_
  unfold rLone
  by_cases h1 : rIs l notB s = true
  · rw [if_pos h1, if_pos (Or.inl h1), fail_F n 9 p l s, fail_F n 7 p l]
  · rw [if_neg h1, named_F n l s h hn]
    by_cases h2 : rNamed l s = true
    · rw [if_pos h2, if_pos (Or.inr (Or.inl h2)), fail_F n 9 p l s, fail_F n 7 p l]
    · rw [if_neg h2]
      by_cases h3 : (tk l s.1).1 = 2
      · have b : ((tk l s.1).1 == 2) = true := beq_iff_eq.2 h3
        rw [if_pos b, if_pos (Or.inr (Or.inr h3)), fail_F n 9 p l s, fail_F n 7 p l]
      · have b : ((tk l s.1).1 == 2) = false := beq_eq_false_iff_ne.2 h3
        rw [if_neg (by rw [b]; decide), if_neg (by rintro (h | h | h); exact h1 h; exact h2 h; exact h3 h), fail_F n 7 p l s]
/-- does a left bracket stand behind? -/
def rPar (l : Toks) (s : RS) : Bool := decide (s.1 + 1 < l.length) && (decide ((tk l (s.1 + 1)).1 = 3) && decide ((tk l (s.1 + 1)).2.1 = lparB))
def rAtomS (l : Toks) (atoms : Int) (not_ : Bool) (at_ : Int) (s : RS) : RS := if not_ = false ∧ 6 ≤ atoms then rFail 9 at_ (rMust l lparB (rName l s).2) else rMust l lparB (rName l s).2
def rAtom (l : Toks) (atoms : Int) (not_ : Bool) (at_ : Int) (s : RS) : ty41.D × RS := ((not_, (rName l s).1, (rArgs l (rAtomS l atoms not_ at_ s)).2, 0, ()), (rArgs l (rAtomS l atoms not_ at_ s)).1)
/-- a comparison: behind the left term -/
def rCmpS (l : Toks) (s : RS) : RS := if (tk l s.1).1 ≠ 3 ∨ opS (tk l s.1).2.1 = 0 then rFail 7 (atT l s) s else s
def rCmp (l : Toks) (not_ : Bool) (s : RS) : ty41.D × RS :=
  ((not_, (⟨#[]⟩ : ByteArray), [(rTerm l s).1, (rTerm l (rStep l (rCmpS l (rTerm l s).2))).1], opS (tk l (rTerm l s).2.1).2.1, ()), (rTerm l (rStep l (rCmpS l (rTerm l s).2))).2)
def rLit (l : Toks) (atoms : Int) (s : RS) : ty41.D × RS :=
  if rNamed l (rTake l notB s).2 = true ∧ ((rTake l notB s).1 = true ∨ rPar l (rTake l notB s).2 = true) then rAtom l atoms (rTake l notB s).1 (atT l (rTake l notB s).2) (rTake l notB s).2
  else rCmp l (rTake l notB s).1 (if (rTake l notB s).1 = true then rFail 7 (atT l (rTake l notB s).2) (rTake l notB s).2 else (rTake l notB s).2)
theorem rAtomS_lt {l : Toks} {s : RS} (atoms : Int) (not_ : Bool) (at_ : Int) (h : s.1 < l.length) : (rAtomS l atoms not_ at_ s).1 < l.length := by
  unfold rAtomS
  split
  · exact rFail_lt _ _ (rMust_lt _ (rName_lt h))
  · exact rMust_lt _ (rName_lt h)
theorem rCmpS_lt {l : Toks} {s : RS} (h : s.1 < l.length) : (rCmpS l s).1 < l.length := by unfold rCmpS; split; exact rFail_lt _ _ h; exact h
theorem rCmp_rng {l : Toks} {s : RS} (not_ : Bool) (h : s.1 < l.length) : (rCmp l not_ s).2.1 < l.length ∧ (rCmp l not_ s).1.2.2.1.length ≤ 400 := ⟨rTerm_lt (rStep_lt (rCmpS_lt (rTerm_lt h))), by simp [rCmp]⟩
theorem rLit_rng {l : Toks} {s : RS} (atoms : Int) (h : s.1 < l.length) : (rLit l atoms s).2.1 < l.length ∧ (rLit l atoms s).1.2.2.1.length ≤ 400 := by
  have ht := rTake_lt notB h
  unfold rLit
  split
  · exact rArgs_rng _ (rAtomS_lt _ _ _ ht)
  · refine rCmp_rng _ ?_
    split
    · exact rFail_lt _ _ ht
    · exact ht
theorem atom_part (n : Nat) (l : Toks) (s : RS) (h : s.1 < l.length) (hl : l.length < 1000000) (hn : 500 < n) (atoms : Int) (not_ : Bool) (at_ : Int) (k : ty41.D → Int → Int → Int → Toks → Option R) :
    verdererref12_reader_name_F n (s.1 : Int) s.2.1 s.2.2 l (fun y16 y17 y18 y19 y20 => verdererref12_reader_must_F n (⟨#[40]⟩ : ByteArray) y17 y18 y19 y20 (fun y21 y22 y23 y24 => if (!not_) = true then (if (decide (atoms ≥ 6)) = true then (verdererref12_reader_fail_F n 9 at_ y21 y22 y23 y24 (fun y25 y26 y27 y28 => verdererref12_reader_args_F n y25 y26 y27 y28 (fun y29 y30 y31 y32 y33 => k (not_, y16, y33, 0, ()) y29 y30 y31 y32))) else (verdererref12_reader_args_F n y21 y22 y23 y24 (fun y34 y35 y36 y37 y38 => k (not_, y16, y38, 0, ()) y34 y35 y36 y37))) else (verdererref12_reader_args_F n y21 y22 y23 y24 (fun y39 y40 y41 y42 y43 => k (not_, y16, y43, 0, ()) y39 y40 y41 y42))))
    = k (rAtom l atoms not_ at_ s).1 ((rAtom l atoms not_ at_ s).2.1 : Int) (rAtom l atoms not_ at_ s).2.2.1 (rAtom l atoms not_ at_ s).2.2.2 l := by
  have h1 := rName_lt (l := l) h
  have h2 := rMust_lt (l := l) lparB h1
  rw [name_F n l s h hl (by omega)]
  refine (must_F n lparB l _ h1 hl _).trans ?_
  unfold rAtom rAtomS
  cases not_ with
  | true =>
    simp only [Bool.not_true, Bool.false_eq_true, if_false, Bool.true_eq_false, false_and]
    rw [args_F n l _ h2 hl hn]
  | false =>
    by_cases hg : 6 ≤ atoms
    · simp only [Bool.not_false, if_true, ge_iff_le, hg, decide_true, true_and]
      rw [fail_F n 9 at_ l, args_F n l _ (rFail_lt _ _ h2) hl hn]
    · simp only [Bool.not_false, if_true, ge_iff_le, hg, decide_false, Bool.false_eq_true, if_false, and_false]
      rw [args_F n l _ h2 hl hn]
theorem cmp_part (n : Nat) (l : Toks) (s : RS) (h : s.1 < l.length) (hl : l.length < 1000000) (hn : 500 < n) (x5 : List ty38.D) (x6 : Bool) (x7 : ByteArray) (x8 : Int) (not_ : Bool) (x11 : Int) (x12 : List ty38.D) (k : exK R (verdererref12_reader_lit_dx 1000012)) :
    verdererref12_reader_lit_l1000012 n ((s.1 : Int), s.2.1, s.2.2, l, x5, x6, x7, x8, not_, (⟨#[]⟩ : ByteArray), x11, x12, ()) k = k.1 (((rCmp l not_ s).2.1 : Int), (rCmp l not_ s).2.2.1, (rCmp l not_ s).2.2.2, l, (rCmp l not_ s).1.1, (rCmp l not_ s).1.2.1, (rCmp l not_ s).1.2.2.1, (rCmp l not_ s).1.2.2.2.1, ()) := by
  rw [verdererref12_reader_lit_e1000012]
  unfold verdererref12_reader_lit_li1000012 verdererref12_reader_lit_s1000012
  have h1 := rTerm_lt (l := l) h
  have j16 : ∀ (s2 : RS) (h2 : s2.1 < l.length) (op : Int) (t : ty38.D) (k3 : exK R (verdererref12_reader_lit_dx 1000016)), verdererref12_reader_lit_l1000016 n ((s2.1 : Int), s2.2.1, s2.2.2, l, x5, x6, x7, x8, not_, (⟨#[]⟩ : ByteArray), op, x12, t.1, t.2.1, t.2.2.1.1, t.2.2.1.2.1, t.2.2.1.2.2.1, t.2.2.1.2.2.2.1, ()) k3
      = k3.1 (((rTerm l (rStep l s2)).2.1 : Int), (rTerm l (rStep l s2)).2.2.1, (rTerm l (rStep l s2)).2.2.2, l, not_, (⟨#[]⟩ : ByteArray), [t, (rTerm l (rStep l s2)).1], op, ()) := by
    intro s2 h2 op t k3
    rw [verdererref12_reader_lit_e1000016]
    unfold verdererref12_reader_lit_li1000016 verdererref12_reader_lit_s1000016
    simp only []
    rw [step_F n l s2 h2 hl, term_F n l _ (rStep_lt h2) hl (by omega)]
  simp only []
  rw [term_F n l s h hl (by omega), now_F n l _ h1, op_F n _ (by omega)]
  unfold rCmp rCmpS
  rw [now_F n l _ h1]
  by_cases h3 : (tk l (rTerm l s).2.1).1 = 3
  · have b : ((tk l (rTerm l s).2.1).1 != 3) = false := by
      rw [bne_eq_false_iff_eq]; exact h3
    rw [if_neg (by rw [b]; decide)]
    by_cases h0 : opS (tk l (rTerm l s).2.1).2.1 = 0
    · have b0 : (opS (tk l (rTerm l s).2.1).2.1 == 0) = true := by simp [h0]
      rw [if_pos b0, now_F n l _ h1, fail_F n 7 _ l]
      simp only [h0, or_true, if_true]
      exact j16 _ (rFail_lt _ _ h1) _ _ _
    · have b0 : (opS (tk l (rTerm l s).2.1).2.1 == 0) = false := by simp [h0]
      rw [if_neg (by rw [b0]; decide), if_neg (by rintro (h | h); exact h h3; exact h0 h)]
      exact j16 _ h1 _ _ _
  · have b : ((tk l (rTerm l s).2.1).1 != 3) = true := bne_iff_ne.2 h3
    rw [if_pos b, now_F n l _ h1, fail_F n 7 _ l, if_pos (Or.inl h3)]
    exact j16 _ (rFail_lt _ _ h1) _ _ _
theorem lit_F (n : Nat) (l : Toks) (s : RS) (h : s.1 < l.length) (hl : l.length < 1000000) (hn : 500 < n) (atoms : Int) (k : ty41.D → Int → Int → Int → Toks → Option R) :
    verdererref12_reader_lit_F n atoms (s.1 : Int) s.2.1 s.2.2 l k = k (rLit l atoms s).1 ((rLit l atoms s).2.1 : Int) (rLit l atoms s).2.2.1 (rLit l atoms s).2.2.2 l := by
  rw [verdererref12_reader_lit_e]
  unfold verdererref12_reader_lit_Fi
  refine (take_F n notB l s h hl _).trans ?_
  unfold rLit
  have ht := rTake_lt (l := l) notB h
  generalize rTake l notB s = t at ht ⊢
  obtain ⟨nt, s1⟩ := t
  simp only at ht ⊢
  rw [now_F n l s1 ht, named_F n l s1 ht (by omega)]
  have j10 : ∀ k2 : exK R (verdererref12_reader_lit_dx 1000010), verdererref12_reader_lit_l1000010 n (atT l s1, (s1.1 : Int), s1.2.1, s1.2.2, l, ([] : List ty38.D), false, (⟨#[]⟩ : ByteArray), (0 : Int), nt, (⟨#[]⟩ : ByteArray), (0 : Int), ([] : List ty38.D), ()) k2
      = k2.1 (((rCmp l nt (if nt = true then rFail 7 (atT l s1) s1 else s1)).2.1 : Int), (rCmp l nt (if nt = true then rFail 7 (atT l s1) s1 else s1)).2.2.1, (rCmp l nt (if nt = true then rFail 7 (atT l s1) s1 else s1)).2.2.2, l, (rCmp l nt (if nt = true then rFail 7 (atT l s1) s1 else s1)).1.1, (rCmp l nt (if nt = true then rFail 7 (atT l s1) s1 else s1)).1.2.1, (rCmp l nt (if nt = true then rFail 7 (atT l s1) s1 else s1)).1.2.2.1, (rCmp l nt (if nt = true then rFail 7 (atT l s1) s1 else s1)).1.2.2.2.1, ()) := by
    intro k2
    rw [verdererref12_reader_lit_e1000010]
    unfold verdererref12_reader_lit_li1000010 verdererref12_reader_lit_s1000010
    simp only []
    cases nt with
    | true =>
      simp only [if_true]
      rw [fail_F n 7 _ l s1]
      exact cmp_part n l _ (rFail_lt _ _ ht) hl hn _ _ _ _ _ _ _ _
    | false =>
      simp only [Bool.false_eq_true, if_false]
      exact cmp_part n l s1 ht hl hn _ _ _ _ _ _ _ _
  have atomP := fun k => atom_part (R := R) n l s1 ht hl hn atoms nt (atT l s1) k
  by_cases hnm : rNamed l s1 = true
  · rw [if_pos hnm]
    cases nt with
    | true =>
      rw [if_pos rfl, if_pos ⟨hnm, Or.inl rfl⟩]
      exact atomP k
    | false =>
      rw [if_neg (by decide)]
      have w : IntKind.i64.wrap ((s1.1 : Int) + 1) = ((s1.1 + 1 : Nat) : Int) := wrap_succ _ (by omega)
      rw [w]
      by_cases hlt : s1.1 + 1 < l.length
      · have c : ((s1.1 + 1 : Nat) : Int) < (l.length : Int) := by omega
        have c2 : (0 : Int) ≤ ((s1.1 + 1 : Nat) : Int) ∧ ((s1.1 + 1 : Nat) : Int) < (l.length : Int) := by omega
        rw [if_pos (decide_eq_true c)]
        simp only [c2, and_self, if_true, Int.toNat_natCast, hlt, beqB]
        have hp : rPar l s1 = (decide ((tk l (s1.1 + 1)).1 = 3) && decide ((tk l (s1.1 + 1)).2.1 = lparB)) := by unfold rPar; rw [decide_eq_true hlt, Bool.true_and]
        by_cases h3 : (tk l (s1.1 + 1)).1 = 3
        · have b3 : ((l.getD (s1.1 + 1) (Ty.z ty73)).1 == 3) = true := beq_iff_eq.2 h3
          rw [if_pos b3]
          by_cases h4 : (tk l (s1.1 + 1)).2.1 = lparB
          · have hp' : rPar l s1 = true := by rw [hp, decide_eq_true h3, decide_eq_true h4]; rfl
            refine (if_pos (decide_eq_true h4)).trans ?_
            rw [if_pos ⟨hnm, Or.inr hp'⟩]
            exact atomP k
          · have hp' : ¬ rPar l s1 = true := by rw [hp, decide_eq_false h4, Bool.and_false]; decide
            refine (if_neg (fun hh => h4 (of_decide_eq_true hh))).trans ?_
            rw [if_neg (by rintro ⟨_, h | h⟩; exact absurd h (by decide); exact hp' h)]
            exact j10 _
        · have b3 : ((l.getD (s1.1 + 1) (Ty.z ty73)).1 == 3) = false := beq_eq_false_iff_ne.2 h3
          have hp' : ¬ rPar l s1 = true := by rw [hp, decide_eq_false h3, Bool.false_and]; decide
          rw [if_neg (by rw [b3]; decide), if_neg (by rintro ⟨_, h | h⟩; exact absurd h (by decide); exact hp' h)]
          exact j10 _
      · have c : ¬ ((s1.1 + 1 : Nat) : Int) < (l.length : Int) := by omega
        have hp' : ¬ rPar l s1 = true := by unfold rPar; rw [decide_eq_false hlt, Bool.false_and]; decide
        rw [if_neg (fun h => c (of_decide_eq_true h)), if_neg (by rintro ⟨_, h | h⟩; exact absurd h (by decide); exact hp' h)]
        exact j10 _
  · rw [if_neg hnm, if_neg (fun h => hnm h.1)]
    exact j10 _
end Go.Proofs.Ytikikmkfeeljgaa.E
namespace Go.Proofs.Ytikikmkfeeljgaa.E
open Go.RowKit
variable {R : Type}
set_option maxRecDepth 100000
/-! the body -/
def bodySt (l : Toks) (s : RS) (bd : List ty41.D) : RS := if 10 ≤ bd.length then rLone l (atT l s) s else s
def isAtom (x : ty41.D) : Bool := decide (x.2.2.2.1 = 0) && !x.1
def rBodyL (l : Toks) : Nat → Int → RS → List ty41.D → RS × List ty41.D
  | 0, _, s, bd => (s, bd)
  | f + 1, atoms, s, bd =>
    if s.2.1 = 0 then
      (if (rTake l commaB (rLit l atoms (bodySt l s bd)).2).1 = true then rBodyL l f (if isAtom (rLit l atoms (bodySt l s bd)).1 = true then atoms + 1 else atoms) (rTake l commaB (rLit l atoms (bodySt l s bd)).2).2 (bd ++ [(rLit l atoms (bodySt l s bd)).1])
      else ((rTake l commaB (rLit l atoms (bodySt l s bd)).2).2, bd ++ [(rLit l atoms (bodySt l s bd)).1]))
    else (s, bd)
theorem bodySt_lt {l : Toks} {s : RS} (bd : List ty41.D) (h : s.1 < l.length) : (bodySt l s bd).1 < l.length := by unfold bodySt; split; exact rLone_lt _ h; exact h
theorem rBodyL_rng {l : Toks} : ∀ (f : Nat) (atoms : Int) (s : RS) (bd : List ty41.D), s.1 < l.length → (∀ x ∈ bd, x.2.2.1.length ≤ 400) → (rBodyL l f atoms s bd).1.1 < l.length ∧ (rBodyL l f atoms s bd).2.length ≤ bd.length + f ∧ ∀ x ∈ (rBodyL l f atoms s bd).2, x.2.2.1.length ≤ 400
  | 0, atoms, s, bd, h, hb => ⟨h, Nat.le_refl _, hb⟩
  | f + 1, atoms, s, bd, h, hb => by
    unfold rBodyL
    split
    · obtain ⟨h1, h2⟩ := rLit_rng atoms (bodySt_lt bd h)
      have h3 := rTake_lt commaB h1
      have hb2 : ∀ x ∈ bd ++ [(rLit l atoms (bodySt l s bd)).1], x.2.2.1.length ≤ 400 := by
        intro x hx
        rcases List.mem_append.1 hx with hx | hx
        · exact hb x hx
        · rw [List.mem_singleton] at hx; rw [hx]; exact h2
      split
      · have := rBodyL_rng f (if isAtom (rLit l atoms (bodySt l s bd)).1 = true then atoms + 1 else atoms) _ _ h3 hb2
        exact ⟨this.1, by have := this.2.1; simp at this; omega, this.2.2⟩
      · exact ⟨h3, by simp, hb2⟩
    · exact ⟨h, by simp only []; omega, hb⟩
theorem body_loop (n : Nat) (l : Toks) (hl : l.length < 1000000) (hn : 500 < n) (kind : Int) (nm : ByteArray) (ag : Int) (of_ : ByteArray) (lim : Int) (hd : List ByteArray) (K : exK R (verdererref12_reader_body_dx 2)) (ret : Int → Int → Int → Toks → Int → ByteArray → Int → ByteArray → Int → List ByteArray → List ty41.D → Option R)
    (hK1 : ∀ a b c d e f g h i j q, K.1 (a, b, c, d, e, f, g, h, i, j, q, ()) = ret a b c d e f g h i j q) (hK2 : ∀ a b c d e f g h i j q, K.2.1 (a, b, c, d, e, f, g, h, i, j, q, ()) = ret a b c d e f g h i j q) : ∀ (f i a : Nat) (m : Nat) (s : RS) (bd : List ty41.D), s.1 < l.length → i + f = 400 → a ≤ i → bd.length ≤ 1000 + i → f < m →
    runC (verdererref12_reader_body_l2 n) m ((a : Int), (i : Int), (s.1 : Int), s.2.1, s.2.2, l, kind, nm, ag, of_, lim, hd, bd, ()) K = ret ((rBodyL l f (a : Int) s bd).1.1 : Int) (rBodyL l f (a : Int) s bd).1.2.1 (rBodyL l f (a : Int) s bd).1.2.2 l kind nm ag of_ lim hd (rBodyL l f (a : Int) s bd).2
  | 0, i, a, m, s, bd, h, hf, ha, hh, hm => by
    obtain ⟨m, rfl⟩ : ∃ q, m = q + 1 := ⟨m - 1, by omega⟩
    refine (runC_s _ _ _ _).trans ?_
    have : ¬ ((i : Int) < 400) := by omega
    simp only [verdererref12_reader_body_l2, verdererref12_reader_body_s2]
    rw [if_neg (by simpa using this)]
    exact hK2 _ _ _ _ _ _ _ _ _ _ _
  | f + 1, i, a, m, s, bd, h, hf, ha, hh, hm => by
    obtain ⟨m, rfl⟩ : ∃ q, m = q + 1 := ⟨m - 1, by omega⟩
    refine (runC_s _ _ _ _).trans ?_
    have c : (i : Int) < 400 := by omega
    have w : IntKind.i64.wrap ((i : Int) + 1) = ((i + 1 : Nat) : Int) := wrap_succ _ (by omega)
    have wa : IntKind.i64.wrap ((a : Int) + 1) = ((a + 1 : Nat) : Int) := wrap_succ _ (by omega)
    unfold rBodyL
    simp only [verdererref12_reader_body_l2, verdererref12_reader_body_s2, c, decide_true, if_true, w, wa]
    by_cases h0 : s.2.1 = 0
    · have b0 : (s.2.1 == 0) = true := by simp [h0]
      rw [if_pos b0, if_pos h0, now_F n l s h]
      have tail : ∀ s1 : RS, s1.1 < l.length → verdererref12_reader_lit_F n (a : Int) (s1.1 : Int) s1.2.1 s1.2.2 l (fun y10 y11 y12 y13 y14 => if (y10.2.2.2.1 == 0) = true then (if (!y10.1) = true then (if (List.length bd + List.length [y10]) * 56 ≤ 140737488355328 then (verdererref12_reader_take_F n (⟨#[44]⟩ : ByteArray) y11 y12 y13 y14 (fun y15 y16 y17 y18 y19 => if (!y15) = true then (K.1 (y16, y17, y18, y19, kind, nm, ag, of_, lim, hd, (bd ++ [y10]), ())) else (runC (verdererref12_reader_body_l2 n) m (((a + 1 : Nat) : Int), ((i + 1 : Nat) : Int), y16, y17, y18, y19, kind, nm, ag, of_, lim, hd, (bd ++ [y10]), ()) K))) else none) else (if (List.length bd + List.length [y10]) * 56 ≤ 140737488355328 then (verdererref12_reader_take_F n (⟨#[44]⟩ : ByteArray) y11 y12 y13 y14 (fun y20 y21 y22 y23 y24 => if (!y20) = true then (K.1 (y21, y22, y23, y24, kind, nm, ag, of_, lim, hd, (bd ++ [y10]), ())) else (runC (verdererref12_reader_body_l2 n) m ((a : Int), ((i + 1 : Nat) : Int), y21, y22, y23, y24, kind, nm, ag, of_, lim, hd, (bd ++ [y10]), ()) K))) else none)) else (if (List.length bd + List.length [y10]) * 56 ≤ 140737488355328 then (verdererref12_reader_take_F n (⟨#[44]⟩ : ByteArray) y11 y12 y13 y14 (fun y25 y26 y27 y28 y29 => if (!y25) = true then (K.1 (y26, y27, y28, y29, kind, nm, ag, of_, lim, hd, (bd ++ [y10]), ())) else (runC (verdererref12_reader_body_l2 n) m ((a : Int), ((i + 1 : Nat) : Int), y26, y27, y28, y29, kind, nm, ag, of_, lim, hd, (bd ++ [y10]), ()) K))) else none))
          = ret ((if (rTake l commaB (rLit l (a : Int) s1).2).1 = true then rBodyL l f (if isAtom (rLit l (a : Int) s1).1 = true then (a : Int) + 1 else (a : Int)) (rTake l commaB (rLit l (a : Int) s1).2).2 (bd ++ [(rLit l (a : Int) s1).1]) else ((rTake l commaB (rLit l (a : Int) s1).2).2, bd ++ [(rLit l (a : Int) s1).1])).1.1 : Int)
            (if (rTake l commaB (rLit l (a : Int) s1).2).1 = true then rBodyL l f (if isAtom (rLit l (a : Int) s1).1 = true then (a : Int) + 1 else (a : Int)) (rTake l commaB (rLit l (a : Int) s1).2).2 (bd ++ [(rLit l (a : Int) s1).1]) else ((rTake l commaB (rLit l (a : Int) s1).2).2, bd ++ [(rLit l (a : Int) s1).1])).1.2.1
            (if (rTake l commaB (rLit l (a : Int) s1).2).1 = true then rBodyL l f (if isAtom (rLit l (a : Int) s1).1 = true then (a : Int) + 1 else (a : Int)) (rTake l commaB (rLit l (a : Int) s1).2).2 (bd ++ [(rLit l (a : Int) s1).1]) else ((rTake l commaB (rLit l (a : Int) s1).2).2, bd ++ [(rLit l (a : Int) s1).1])).1.2.2 l kind nm ag of_ lim hd
            (if (rTake l commaB (rLit l (a : Int) s1).2).1 = true then rBodyL l f (if isAtom (rLit l (a : Int) s1).1 = true then (a : Int) + 1 else (a : Int)) (rTake l commaB (rLit l (a : Int) s1).2).2 (bd ++ [(rLit l (a : Int) s1).1]) else ((rTake l commaB (rLit l (a : Int) s1).2).2, bd ++ [(rLit l (a : Int) s1).1])).2 := by
        intro s1 h1
        rw [lit_F n l s1 h1 hl hn]
        obtain ⟨h2, _⟩ := rLit_rng (l := l) (a : Int) h1
        generalize rLit l (a : Int) s1 = x at h2 ⊢
        obtain ⟨x, s2⟩ := x
        simp only at h2 ⊢
        have gd : (List.length bd + List.length [x]) * 56 ≤ 140737488355328 := by simp only [List.length_cons, List.length_nil]; omega
        have h3 := rTake_lt (l := l) commaB h2
        have step : ∀ a2 : Nat, a2 ≤ i + 1 → verdererref12_reader_take_F n (⟨#[44]⟩ : ByteArray) (s2.1 : Int) s2.2.1 s2.2.2 l (fun y15 y16 y17 y18 y19 => if (!y15) = true then (K.1 (y16, y17, y18, y19, kind, nm, ag, of_, lim, hd, (bd ++ [x]), ())) else (runC (verdererref12_reader_body_l2 n) m ((a2 : Int), ((i + 1 : Nat) : Int), y16, y17, y18, y19, kind, nm, ag, of_, lim, hd, (bd ++ [x]), ()) K))
            = ret ((if (rTake l commaB s2).1 = true then rBodyL l f (a2 : Int) (rTake l commaB s2).2 (bd ++ [x]) else ((rTake l commaB s2).2, bd ++ [x])).1.1 : Int) (if (rTake l commaB s2).1 = true then rBodyL l f (a2 : Int) (rTake l commaB s2).2 (bd ++ [x]) else ((rTake l commaB s2).2, bd ++ [x])).1.2.1 (if (rTake l commaB s2).1 = true then rBodyL l f (a2 : Int) (rTake l commaB s2).2 (bd ++ [x]) else ((rTake l commaB s2).2, bd ++ [x])).1.2.2 l kind nm ag of_ lim hd (if (rTake l commaB s2).1 = true then rBodyL l f (a2 : Int) (rTake l commaB s2).2 (bd ++ [x]) else ((rTake l commaB s2).2, bd ++ [x])).2 := by
          intro a2 ha2
          refine (take_F n commaB l s2 h2 hl _).trans ?_
          cases ht : (rTake l commaB s2).1 with
          | false =>
            simp only [Bool.not_false, if_true, Bool.false_eq_true, if_false]
            exact hK1 _ _ _ _ _ _ _ _ _ _ _
          | true =>
            simp only [Bool.not_true, if_true, Bool.false_eq_true, if_false]
            exact body_loop n l hl hn kind nm ag of_ lim hd K ret hK1 hK2 f (i + 1) a2 m (rTake l commaB s2).2 _ h3 (by omega) ha2 (by simp; omega) (by omega)
        have ea : ((a : Int) + 1) = ((a + 1 : Nat) : Int) := rfl
        by_cases hx : x.2.2.2.1 = 0
        · have bx : (x.2.2.2.1 == 0) = true := by simp [hx]
          rw [if_pos bx]
          cases hx1 : x.1 with
          | false =>
            have : isAtom x = true := by unfold isAtom; rw [decide_eq_true hx, hx1]; rfl
            rw [if_pos (by decide), if_pos gd]
            simp only [this, if_true, ea]
            exact step (a + 1) (by omega)
          | true =>
            have : isAtom x = false := by unfold isAtom; rw [hx1]; simp
            rw [if_neg (by decide), if_pos gd]
            simp only [this, Bool.false_eq_true, if_false]
            exact step a (by omega)
        · have bx : (x.2.2.2.1 == 0) = false := by simp [hx]
          have : isAtom x = false := by unfold isAtom; rw [decide_eq_false hx]; rfl
          rw [if_neg (by rw [bx]; decide), if_pos gd]
          simp only [this, Bool.false_eq_true, if_false]
          exact step a (by omega)
      have g : ((bd.length : Int) ≥ 10) ↔ 10 ≤ bd.length := by omega
      have hbs : bodySt l s bd = if 10 ≤ bd.length then rLone l (atT l s) s else s := rfl
      by_cases hg : 10 ≤ bd.length
      · rw [if_pos hg] at hbs
        rw [if_pos (decide_eq_true (g.2 hg)), hbs, lone_F n _ l s h (by omega)]
        exact tail _ (rLone_lt _ h)
      · rw [if_neg hg] at hbs
        rw [if_neg (fun hh => hg (g.1 (of_decide_eq_true hh))), hbs]
        exact tail s h
    · have b0 : (s.2.1 == 0) = false := by simp [h0]
      rw [if_neg (by rw [b0]; decide), if_neg h0]
      exact hK2 _ _ _ _ _ _ _ _ _ _ _
def rBody (l : Toks) (s : RS) : RS × List ty41.D := rBodyL l 400 0 s []
theorem body_Fr (n : Nat) (l : Toks) (s : RS) (h : s.1 < l.length) (hl : l.length < 1000000) (hn : 500 < n) (kind : Int) (nm : ByteArray) (ag : Int) (of_ : ByteArray) (lim : Int) (hd : List ByteArray) (k : Int → Int → Int → Toks → Int → ByteArray → Int → ByteArray → Int → List ByteArray → List ty41.D → Option R) :
    verdererref12_reader_body_F n (s.1 : Int) s.2.1 s.2.2 l kind nm ag of_ lim hd [] k = k ((rBody l s).1.1 : Int) (rBody l s).1.2.1 (rBody l s).1.2.2 l kind nm ag of_ lim hd (rBody l s).2 := by
  rw [verdererref12_reader_body_e]
  unfold verdererref12_reader_body_Fi rBody
  exact body_loop n l hl hn kind nm ag of_ lim hd _ k (fun _ _ _ _ _ _ _ _ _ _ _ => rfl) (fun _ _ _ _ _ _ _ _ _ _ _ => rfl) 400 0 0 n s [] h (by omega) (by omega) (by simp) (by omega)
/-! the rule: kind, name, aggregate, of what, limit, where, why, head, body -/
abbrev RR := Int × ByteArray × Int × ByteArray × Int × Int × Int × List ByteArray × List ty41.D
def denyB : ByteArray := ⟨#[100, 101, 110, 121]⟩
def viewB : ByteArray := ⟨#[118, 105, 101, 119]⟩
def quotaB : ByteArray := ⟨#[113, 117, 111, 116, 97]⟩
def limitB : ByteArray := ⟨#[108, 105, 109, 105, 116]⟩
def ifB : ByteArray := ⟨#[105, 102]⟩
def rErr (p e : Int) : RR := (0, ⟨#[]⟩, 0, ⟨#[]⟩, 0, p, e, [], [])
/-- what the rule is -/
def rKind (l : Toks) (s : RS) : Int × RS :=
  if (rTake l denyB s).1 = true then (1, (rTake l denyB s).2)
  else if (rTake l viewB (rTake l denyB s).2).1 = true then (2, (rTake l viewB (rTake l denyB s).2).2)
  else if (rTake l quotaB (rTake l viewB (rTake l denyB s).2).2).1 = true then (3, (rTake l quotaB (rTake l viewB (rTake l denyB s).2).2).2)
  else (0, rFail 7 (atT l (rTake l quotaB (rTake l viewB (rTake l denyB s).2).2).2) (rTake l quotaB (rTake l viewB (rTake l denyB s).2).2).2)
/-- a limit -/
def rLimS (l : Toks) (s : RS) : RS := if s.2.1 = 0 ∧ ((tk l s.1).1 ≠ 2 ∨ (tk l s.1).2.2.1.1 ≠ 2) then rFail 7 (atT l s) s else s
def rLim (l : Toks) (kind : Int) (s : RS) : Int × RS := if kind = 3 then ((tk l (rLimS l (rMust l limitB s)).1).2.2.1.2.2.1, rStep l (rLimS l (rMust l limitB s))) else (0, s)
/-- from 'if' on -/
def rEndS (l : Toks) (s : RS) : RS := if (tk l s.1).1 ≠ 4 then rFail 7 (atT l s) s else s
def rEnd (l : Toks) (kind : Int) (nm : ByteArray) (ag : Int) (of_ : ByteArray) (lim : Int) (hd : List ByteArray) (s : RS) : RR :=
  if (rEndS l (rBody l (rMust l ifB s)).1).2.1 ≠ 0 then rErr (rEndS l (rBody l (rMust l ifB s)).1).2.2 (rEndS l (rBody l (rMust l ifB s)).1).2.1
  else (kind, nm, ag, of_, lim, 0, 0, hd, (rBody l (rMust l ifB s)).2)
def rHd (l : Toks) (kind : Int) (s : RS) : RS × Int × ByteArray × List ByteArray := rHead l kind (rMust l lparB (rName l s).2) 0 (⟨#[]⟩ : ByteArray) []
/-- behind the kind -/
def rRest (l : Toks) (kind : Int) (s : RS) : RR :=
  rEnd l kind (rName l s).1 (rHd l kind s).2.1 (rHd l kind s).2.2.1 (rLim l kind (rMust l rparB (rHd l kind s).1)).1 (rHd l kind s).2.2.2 (rLim l kind (rMust l rparB (rHd l kind s).1)).2
def rTok (l : Toks) : RR := rRest l (rKind l (0, 0, 0)).1 (rKind l (0, 0, 0)).2
noncomputable def rRule (s : ByteArray) : RR := if (lexS s).2.1 ≠ 0 then rErr (lexS s).1 (lexS s).2.1 else rTok (lexS s).2.2
theorem rLimS_lt {l : Toks} {s : RS} (h : s.1 < l.length) : (rLimS l s).1 < l.length := by unfold rLimS; split; exact rFail_lt _ _ h; exact h
theorem rLim_lt {l : Toks} {s : RS} (kind : Int) (h : s.1 < l.length) : (rLim l kind s).2.1 < l.length := by unfold rLim; split; exact rStep_lt (rLimS_lt (rMust_lt _ h)); exact h
theorem rKind_lt {l : Toks} {s : RS} (h : s.1 < l.length) : (rKind l s).2.1 < l.length := by
  have h1 := rTake_lt denyB h
  have h2 := rTake_lt viewB h1
  have h3 := rTake_lt quotaB h2
  unfold rKind
  split
  · exact h1
  · split
    · exact h2
    · split
      · exact h3
      · exact rFail_lt _ _ h3
theorem end_F (n : Nat) (l : Toks) (s : RS) (h : s.1 < l.length) (hl : l.length < 1000000) (hn : 500 < n) (kind : Int) (nm : ByteArray) (ag : Int) (of_ : ByteArray) (lim : Int) (hd : List ByteArray) (x0 : List ByteArray) (x1 : List ty41.D) (x2 : Int) (x3 : ByteArray) (x4 : Int) (x5 : ByteArray) (x6 : Int) (K : exK R (verdererref12_Rule_dx 1000023)) (ret : RR → Option R)
    (hK1 : ∀ r : RR, K.1 (r.2.2.2.2.2.1, r.2.2.2.2.2.2.1, r.1, r.2.1, r.2.2.1, r.2.2.2.1, r.2.2.2.2.1, r.2.2.2.2.2.2.2.1, r.2.2.2.2.2.2.2.2, ()) = ret r) (hK2 : ∀ r : RR, K.2.1 (r.2.2.2.2.2.1, r.2.2.2.2.2.2.1, r.1, r.2.1, r.2.2.1, r.2.2.2.1, r.2.2.2.2.1, r.2.2.2.2.2.2.2.1, r.2.2.2.2.2.2.2.2, ()) = ret r) :
    verdererref12_Rule_l1000023 n (x0, x1, x2, x3, x4, x5, x6, l, (s.1 : Int), s.2.1, s.2.2, kind, nm, ag, of_, lim, hd, [], ()) K = ret (rEnd l kind nm ag of_ lim hd s) := by
  rw [verdererref12_Rule_e1000023]
  unfold verdererref12_Rule_li1000023 verdererref12_Rule_s1000023
  simp only []
  have h1 := rMust_lt (l := l) ifB h
  refine (must_F n ifB l s h hl _).trans ?_
  rw [body_Fr n l _ h1 hl hn]
  have h2 := (rBodyL_rng (l := l) 400 0 _ [] h1 (by simp)).1
  change (rBody l (rMust l ifB s)).1.1 < l.length at h2
  rw [now_F n l _ h2]
  have hE : rEnd l kind nm ag of_ lim hd s = if (rEndS l (rBody l (rMust l ifB s)).1).2.1 ≠ 0 then rErr (rEndS l (rBody l (rMust l ifB s)).1).2.2 (rEndS l (rBody l (rMust l ifB s)).1).2.1
    else (kind, nm, ag, of_, lim, 0, 0, hd, (rBody l (rMust l ifB s)).2) := rfl
  have hS : rEndS l (rBody l (rMust l ifB s)).1 = if (tk l (rBody l (rMust l ifB s)).1.1).1 ≠ 4 then rFail 7 (atT l (rBody l (rMust l ifB s)).1) (rBody l (rMust l ifB s)).1 else (rBody l (rMust l ifB s)).1 := rfl
  generalize rBody l (rMust l ifB s) = b at h2 hE hS ⊢
  obtain ⟨b, bd⟩ := b
  simp only at h2 hE hS ⊢
  by_cases h4 : (tk l b.1).1 = 4
  · have e4 : ((tk l b.1).1 != 4) = false := by rw [bne_eq_false_iff_eq]; exact h4
    rw [if_neg (by rw [e4]; decide)]
    rw [if_neg (fun h => h h4)] at hS
    rw [hS] at hE
    by_cases h0 : b.2.1 = 0
    · have e0 : (b.2.1 != 0) = false := by simp [h0]
      rw [if_neg (by rw [e0]; decide), hE, if_neg (fun h => h h0)]
      exact hK2 (kind, nm, ag, of_, lim, 0, 0, hd, bd)
    · have e0 : (b.2.1 != 0) = true := by simp [h0]
      rw [if_pos e0, hE, if_pos h0]
      exact hK1 (rErr b.2.2 b.2.1)
  · have e4 : ((tk l b.1).1 != 4) = true := bne_iff_ne.2 h4
    rw [if_pos e4, now_F n l b h2, fail_F n 7 _ l b]
    rw [if_pos h4] at hS
    rw [hS] at hE
    generalize hg : rFail 7 (atT l b) b = g at hE ⊢
    have hg' : rFail 7 (tk l b.1).2.2.2.1 b = g := hg
    rw [hg']
    by_cases h0 : g.2.1 = 0
    · have e0 : (g.2.1 != 0) = false := by simp [h0]
      rw [if_neg (by rw [e0]; decide), hE, if_neg (fun h => h h0)]
      exact hK2 (kind, nm, ag, of_, lim, 0, 0, hd, bd)
    · have e0 : (g.2.1 != 0) = true := by simp [h0]
      rw [if_pos e0, hE, if_pos h0]
      exact hK1 (rErr g.2.2 g.2.1)
end Go.Proofs.Ytikikmkfeeljgaa.E
namespace Go.Proofs.Ytikikmkfeeljgaa.E
open Go.RowKit
variable {R : Type}
set_option maxRecDepth 100000
theorem rest_F (n : Nat) (l : Toks) (s : RS) (h : s.1 < l.length) (hl : l.length < 1000000) (hn : 500 < n) (kind : Int) (x0 : List ByteArray) (x1 : List ty41.D) (x2 : Int) (x3 : ByteArray) (x4 : Int) (x5 : ByteArray) (x6 : Int) (K : exK R (verdererref12_Rule_dx 1000013)) (ret : RR → Option R)
    (hK1 : ∀ r : RR, K.1 (r.2.2.2.2.2.1, r.2.2.2.2.2.2.1, r.1, r.2.1, r.2.2.1, r.2.2.2.1, r.2.2.2.2.1, r.2.2.2.2.2.2.2.1, r.2.2.2.2.2.2.2.2, ()) = ret r) (hK2 : ∀ r : RR, K.2.1 (r.2.2.2.2.2.1, r.2.2.2.2.2.2.1, r.1, r.2.1, r.2.2.1, r.2.2.2.1, r.2.2.2.2.1, r.2.2.2.2.2.2.2.1, r.2.2.2.2.2.2.2.2, ()) = ret r) :
    verdererref12_Rule_l1000013 n (x0, x1, x2, x3, x4, x5, x6, l, (s.1 : Int), s.2.1, s.2.2, kind, (⟨#[]⟩ : ByteArray), (0 : Int), (⟨#[]⟩ : ByteArray), (0 : Int), ([] : List ByteArray), ([] : List ty41.D), ()) K = ret (rRest l kind s) := by
  rw [verdererref12_Rule_e1000013]
  unfold verdererref12_Rule_li1000013 verdererref12_Rule_s1000013
  simp only []
  have h1 := rName_lt (l := l) h
  rw [name_F n l s h hl (by omega)]
  refine (must_F n lparB l _ h1 hl _).trans ?_
  have h2 := rMust_lt (l := l) lparB h1
  rw [head_F n l _ h2 hl hn kind _ 0 _ 0 [] (by simp)]
  have h3 := (rHead_rng (l := l) kind _ 0 (⟨#[]⟩ : ByteArray) [] h2).1
  refine (must_F n rparB l _ h3 hl _).trans ?_
  have h4 := rMust_lt (l := l) rparB h3
  have hR : rRest l kind s = rEnd l kind (rName l s).1 (rHd l kind s).2.1 (rHd l kind s).2.2.1 (rLim l kind (rMust l rparB (rHd l kind s).1)).1 (rHd l kind s).2.2.2 (rLim l kind (rMust l rparB (rHd l kind s).1)).2 := rfl
  have hd : rHd l kind s = rHead l kind (rMust l lparB (rName l s).2) 0 (⟨#[]⟩ : ByteArray) [] := rfl
  rw [← hd] at h4 ⊢
  rw [hR]
  generalize rHd l kind s = H at h4 ⊢
  generalize rMust l rparB H.1 = q at h4 ⊢
  have fin : ∀ (q2 : RS) (h5 : q2.1 < l.length) (lim : Int), verdererref12_Rule_l1000023 n (x0, x1, x2, x3, x4, x5, x6, l, (q2.1 : Int), q2.2.1, q2.2.2, kind, (rName l s).1, H.2.1, H.2.2.1, lim, H.2.2.2, [], ()) (fun b97 => K.1 (b97.1, b97.2.1, b97.2.2.1, b97.2.2.2.1, b97.2.2.2.2.1, b97.2.2.2.2.2.1, b97.2.2.2.2.2.2.1, b97.2.2.2.2.2.2.2.1, b97.2.2.2.2.2.2.2.2.1, ()), fun b106 => K.2.1 (b106.1, b106.2.1, b106.2.2.1, b106.2.2.2.1, b106.2.2.2.2.1, b106.2.2.2.2.2.1, b106.2.2.2.2.2.2.1, b106.2.2.2.2.2.2.2.1, b106.2.2.2.2.2.2.2.2.1, ()), ()) = ret (rEnd l kind (rName l s).1 H.2.1 H.2.2.1 lim H.2.2.2 q2) :=
    fun q2 h5 lim => end_F n l q2 h5 hl hn kind _ _ _ lim _ x0 x1 x2 x3 x4 x5 x6 _ ret (fun r => hK1 r) (fun r => hK2 r)
  by_cases hk : kind = 3
  · have b : (kind == 3) = true := by simp [hk]
    rw [if_pos b]
    refine (must_F n limitB l q h4 hl _).trans ?_
    have h5 := rMust_lt (l := l) limitB h4
    have hL : rLim l kind q = ((tk l (rLimS l (rMust l limitB q)).1).2.2.1.2.2.1, rStep l (rLimS l (rMust l limitB q))) := by unfold rLim; rw [if_pos hk]
    rw [hL]
    have hS : rLimS l (rMust l limitB q) = if (rMust l limitB q).2.1 = 0 ∧ ((tk l (rMust l limitB q).1).1 ≠ 2 ∨ (tk l (rMust l limitB q).1).2.2.1.1 ≠ 2) then rFail 7 (atT l (rMust l limitB q)) (rMust l limitB q) else rMust l limitB q := rfl
    have h6 := rLimS_lt (l := l) h5
    rw [hS] at h6 ⊢
    generalize rMust l limitB q = g at h5 h6 ⊢
    by_cases h0 : g.2.1 = 0
    · have b0 : (g.2.1 == 0) = true := by simp [h0]
      rw [if_pos b0, now_F n l g h5]
      by_cases hk2 : (tk l g.1).1 = 2
      · have e2 : ((tk l g.1).1 != 2) = false := by rw [bne_eq_false_iff_eq]; exact hk2
        rw [if_neg (by rw [e2]; decide), now_F n l g h5]
        by_cases hv : (tk l g.1).2.2.1.1 = 2
        · have e3 : ((tk l g.1).2.2.1.1 != 2) = false := by rw [bne_eq_false_iff_eq]; exact hv
          rw [if_neg (by rw [e3]; decide)]
          rw [if_neg (by rintro ⟨_, h | h⟩; exact h hk2; exact h hv)]
          rw [now_F n l g h5, step_F n l g h5 hl]
          exact fin _ (rStep_lt h5) _
        · have e3 : ((tk l g.1).2.2.1.1 != 2) = true := bne_iff_ne.2 hv
          rw [if_pos (show g.2.1 = 0 ∧ ((tk l g.1).1 ≠ 2 ∨ (tk l g.1).2.2.1.1 ≠ 2) from ⟨h0, Or.inr hv⟩)] at h6 ⊢
          rw [if_pos e3, now_F n l g h5, fail_F n 7 _ l g]
          refine (now_F n l (rFail 7 (atT l g) g) h6 _).trans ?_
          rw [step_F n l _ h6 hl]
          exact fin _ (rStep_lt h6) _
      · have e2 : ((tk l g.1).1 != 2) = true := bne_iff_ne.2 hk2
        rw [if_pos (show g.2.1 = 0 ∧ ((tk l g.1).1 ≠ 2 ∨ (tk l g.1).2.2.1.1 ≠ 2) from ⟨h0, Or.inl hk2⟩)] at h6 ⊢
        rw [if_pos e2, now_F n l g h5, fail_F n 7 _ l g]
        refine (now_F n l (rFail 7 (atT l g) g) h6 _).trans ?_
        rw [step_F n l _ h6 hl]
        exact fin _ (rStep_lt h6) _
    · have b0 : (g.2.1 == 0) = false := by simp [h0]
      rw [if_neg (show ¬ (g.2.1 = 0 ∧ ((tk l g.1).1 ≠ 2 ∨ (tk l g.1).2.2.1.1 ≠ 2)) from fun h => h0 h.1)]
      rw [if_neg (by rw [b0]; decide), now_F n l g h5, step_F n l g h5 hl]
      exact fin _ (rStep_lt h5) _
  · have b : (kind == 3) = false := by simp [hk]
    have hL : rLim l kind q = (0, q) := by unfold rLim; rw [if_neg hk]
    rw [if_neg (by rw [b]; decide), hL]
    exact fin q h4 0
theorem rule_F (n : Nat) (s : ByteArray) (hn : 2000 < n) (k : Int → ByteArray → Int → ByteArray → Int → Int → Int → List ByteArray → List ty41.D → Option R) :
    verdererref12_Rule_F n s k = k (rRule s).1 (rRule s).2.1 (rRule s).2.2.1 (rRule s).2.2.2.1 (rRule s).2.2.2.2.1 (rRule s).2.2.2.2.2.1 (rRule s).2.2.2.2.2.2.1 (rRule s).2.2.2.2.2.2.2.1 (rRule s).2.2.2.2.2.2.2.2 := by
  rw [verdererref12_Rule_e]
  unfold verdererref12_Rule_Fi rRule
  rw [refLex_F n s hn]
  by_cases he : (lexS s).2.1 = 0
  · have b : ((lexS s).2.1 != 0) = false := by simp [he]
    rw [if_neg (by rw [b]; decide), if_neg (fun h => h he)]
    obtain ⟨t, ht, htl⟩ := lexS_rng s he
    have hlen : (lexS s).2.2.length = t.length + 1 := by rw [ht]; simp
    generalize (lexS s).2.2 = l at hlen ⊢
    have h : (0, 0, 0).1 < l.length := by simp only []; omega
    have hl : l.length < 1000000 := by omega
    have hT : rTok l = rRest l (rKind l (0, 0, 0)).1 (rKind l (0, 0, 0)).2 := rfl
    have h1 := rTake_lt (l := l) (s := (0, 0, 0)) denyB h
    have h2 := rTake_lt (l := l) viewB h1
    have h3 := rTake_lt (l := l) quotaB h2
    have fin : ∀ (q : RS) (hq : q.1 < l.length) (kind : Int), verdererref12_Rule_l1000013 n (([] : List ByteArray), ([] : List ty41.D), (0 : Int), (⟨#[]⟩ : ByteArray), (0 : Int), (⟨#[]⟩ : ByteArray), (0 : Int), l, (q.1 : Int), q.2.1, q.2.2, kind, (⟨#[]⟩ : ByteArray), (0 : Int), (⟨#[]⟩ : ByteArray), (0 : Int), ([] : List ByteArray), ([] : List ty41.D), ())
        (fun b228 => k b228.2.2.1 b228.2.2.2.1 b228.2.2.2.2.1 b228.2.2.2.2.2.1 b228.2.2.2.2.2.2.1 b228.1 b228.2.1 b228.2.2.2.2.2.2.2.1 b228.2.2.2.2.2.2.2.2.1, fun b237 => k b237.2.2.1 b237.2.2.2.1 b237.2.2.2.2.1 b237.2.2.2.2.2.1 b237.2.2.2.2.2.2.1 b237.1 b237.2.1 b237.2.2.2.2.2.2.2.1 b237.2.2.2.2.2.2.2.2.1, ())
        = (fun r : RR => k r.1 r.2.1 r.2.2.1 r.2.2.2.1 r.2.2.2.2.1 r.2.2.2.2.2.1 r.2.2.2.2.2.2.1 r.2.2.2.2.2.2.2.1 r.2.2.2.2.2.2.2.2) (rRest l kind q) :=
      fun q hq kind => rest_F n l q hq hl (by omega) kind _ _ _ _ _ _ _ _ _ (fun _ => rfl) (fun _ => rfl)
    refine Eq.trans ?_ (show (fun r : RR => k r.1 r.2.1 r.2.2.1 r.2.2.2.1 r.2.2.2.2.1 r.2.2.2.2.2.1 r.2.2.2.2.2.2.1 r.2.2.2.2.2.2.2.1 r.2.2.2.2.2.2.2.2) (rRest l (rKind l (0, 0, 0)).1 (rKind l (0, 0, 0)).2) = _ by rw [hT])
    refine (take_F n denyB l (0, 0, 0) h hl _).trans ?_
    have hK : rKind l (0, 0, 0) = if (rTake l denyB (0, 0, 0)).1 = true then (1, (rTake l denyB (0, 0, 0)).2) else if (rTake l viewB (rTake l denyB (0, 0, 0)).2).1 = true then (2, (rTake l viewB (rTake l denyB (0, 0, 0)).2).2)
      else if (rTake l quotaB (rTake l viewB (rTake l denyB (0, 0, 0)).2).2).1 = true then (3, (rTake l quotaB (rTake l viewB (rTake l denyB (0, 0, 0)).2).2).2) else (0, rFail 7 (atT l (rTake l quotaB (rTake l viewB (rTake l denyB (0, 0, 0)).2).2).2) (rTake l quotaB (rTake l viewB (rTake l denyB (0, 0, 0)).2).2).2) := rfl
    generalize rTake l denyB (0, 0, 0) = t1 at h1 h2 h3 hK ⊢
    by_cases c1 : t1.1 = true
    · rw [if_pos c1]
      rw [if_pos c1] at hK
      rw [hK]
      exact fin _ h1 1
    · rw [if_neg c1]
      rw [if_neg c1] at hK
      refine (take_F n viewB l t1.2 h1 hl _).trans ?_
      generalize rTake l viewB t1.2 = t2 at h2 h3 hK ⊢
      by_cases c2 : t2.1 = true
      · rw [if_pos c2]
        rw [if_pos c2] at hK
        rw [hK]
        exact fin _ h2 2
      · rw [if_neg c2]
        rw [if_neg c2] at hK
        refine (take_F n quotaB l t2.2 h2 hl _).trans ?_
        generalize rTake l quotaB t2.2 = t3 at h3 hK ⊢
        by_cases c3 : t3.1 = true
        · rw [if_pos c3]
          rw [if_pos c3] at hK
          rw [hK]
          exact fin _ h3 3
        · rw [if_neg c3]
          rw [if_neg c3] at hK
          rw [now_F n l t3.2 h3, fail_F n 7 _ l t3.2, hK]
          exact fin (rFail 7 (atT l t3.2) t3.2) (rFail_lt _ _ h3) 0
  · have b : ((lexS s).2.1 != 0) = true := by simp [he]
    rw [if_pos b, if_pos he]
    rfl
/-- rules are not large -/
theorem rRule_rng (s : ByteArray) : (rRule s).2.2.2.2.2.2.2.1.length ≤ 401 ∧ (rRule s).2.2.2.2.2.2.2.2.length ≤ 400 ∧ ∀ x ∈ (rRule s).2.2.2.2.2.2.2.2, x.2.2.1.length ≤ 400 := by
  have err : ∀ p e : Int, (rErr p e).2.2.2.2.2.2.2.1.length ≤ 401 ∧ (rErr p e).2.2.2.2.2.2.2.2.length ≤ 400 ∧ ∀ x ∈ (rErr p e).2.2.2.2.2.2.2.2, x.2.2.1.length ≤ 400 := fun p e => ⟨Nat.zero_le _, Nat.zero_le _, fun x hx => by cases hx⟩
  unfold rRule
  split
  · exact err _ _
  · rename_i he
    obtain ⟨t, ht, htl⟩ := lexS_rng s (by simpa using he)
    have hlen : 0 < (lexS s).2.2.length := by rw [ht]; simp
    generalize (lexS s).2.2 = l at hlen ⊢
    unfold rTok
    have hk := rKind_lt (l := l) (s := (0, 0, 0)) hlen
    generalize rKind l (0, 0, 0) = kq at hk ⊢
    unfold rRest
    have h2 := rMust_lt (l := l) lparB (rName_lt (l := l) hk)
    have hh := rHead_rng (l := l) kq.1 _ 0 (⟨#[]⟩ : ByteArray) [] h2
    change (rHd l kq.1 kq.2).1.1 < _ ∧ (rHd l kq.1 kq.2).2.2.2.length ≤ _ at hh
    have h5 := rLim_lt (l := l) kq.1 (rMust_lt (l := l) rparB hh.1)
    unfold rEnd
    have hb := rBodyL_rng (l := l) 400 0 _ [] (rMust_lt (l := l) ifB h5) (by simp)
    split
    · exact err _ _
    · exact ⟨Nat.le_trans (by simpa using hh.2) (show 400 ≤ 401 by omega), by simpa [rBody] using hb.2.1, by simpa [rBody] using hb.2.2⟩
end Go.Proofs.Ytikikmkfeeljgaa.E
namespace Go.Proofs.Ytikikmkfeeljgaa.E
open Go.RowKit
variable {R : Type}
set_option maxRecDepth 100000
/-! the document's answer: the same list of columns -/
def fndI (L : Cols) (s : ByteArray) : Int := if fndC L s < L.length then (fndC L s : Int) else -1
theorem fndC_scan (L : Cols) (s : ByteArray) : (List.range L.length).findSome? (fun i => if (L.getD i zC).1 = s then some i else none) = if fndC L s < L.length then some (fndC L s) else none := by
  induction L with
  | nil => rfl
  | cons c r ih =>
    rw [List.length_cons, List.range_succ_eq_map, List.findSome?_cons, List.findSome?_map]
    simp only [List.getD_cons_zero]
    by_cases h : c.1 = s
    · rw [show fndC (c :: r) s = 0 from if_pos h]
      simp [h]
    · rw [show fndC (c :: r) s = fndC r s + 1 from if_neg h, if_neg h]
      simp only
      have e : (fun i => if ((c :: r).getD i zC).1 = s then some i else none) ∘ Nat.succ = fun i => (if (r.getD i zC).1 = s then some i else none).map Nat.succ := by
        funext i
        simp only [Function.comp, Nat.succ_eq_add_one, List.getD_cons_succ]
        split <;> rfl
      rw [e]
      have e2 : ∀ q : List Nat, q.findSome? (fun i => (if (r.getD i zC).1 = s then some i else none).map Nat.succ) = (q.findSome? fun i => if (r.getD i zC).1 = s then some i else none).map Nat.succ := by
        intro q
        induction q with
        | nil => rfl
        | cons i q ih2 =>
          rw [List.findSome?_cons, List.findSome?_cons, ih2]
          cases (if (r.getD i zC).1 = s then some i else none) <;> rfl
      rw [e2, ih]
      by_cases h2 : fndC r s < r.length
      · rw [if_pos h2, if_pos (by omega)]; rfl
      · rw [if_neg h2, if_neg (by omega)]; rfl
theorem refFnd_F (n : Nat) (s : ByteArray) (a1 a2 : List ty82.D) (L : Cols) (hn : L.length < n) (hl : n < 1000000000) (k : Int → List ty82.D → List ty82.D → Cols → Option R) : verdererref14_env_find_F n s a1 a2 L k = k (fndI L s) a1 a2 L := by
  rw [verdererref14_env_find_e]
  unfold verdererref14_env_find_Fi
  refine (runC_scan (R := R) (step := verdererref14_env_find_l2 n) _ (fun i : Nat => k (i : Int) a1 a2 L) (k (-1) a1 a2 L) (fun i => if (L.getD i zC).1 = s then some i else none) (fun i => (s, (i : Int), a1, a2, L, ())) L.length (fun i hi k1 => ?_) (fun k1 => ?_) hn).trans ?_
  · simp only [verdererref14_env_find_l2, verdererref14_env_find_s2, lt_nat, hi, in_nat hi, decide_true, if_true, Int.toNat_natCast, beqB, wrap_succ i (by omega)]
    have e : L.getD i (Ty.z ty63) = L.getD i zC := rfl
    rw [e]
    by_cases h : (L.getD i zC).1 = s
    · rw [if_pos (decide_eq_true h), if_pos h]
    · rw [if_neg (fun hh => h (of_decide_eq_true hh)), if_neg h]
  · simp only [verdererref14_env_find_l2, verdererref14_env_find_s2, lt_nat, Nat.lt_irrefl, decide_false, Bool.false_eq_true, if_false]
  · rw [fndC_scan]
    unfold fndI
    by_cases h : fndC L s < L.length
    · rw [if_pos h, if_pos h]
    · rw [if_neg h, if_neg h]
theorem refFnd2_F (n : Nat) (s : ByteArray) (a1 a2 : List ty82.D) (L : Cols) (hn : L.length < n) (hl : n < 1000000000) (k : Int → Cols → List ty82.D → List ty82.D → Option R) : verdererref14_env_find_v2_F n s L a1 a2 k = k (fndI L s) L a1 a2 := by
  rw [verdererref14_env_find_v2_e]
  unfold verdererref14_env_find_v2_Fi
  refine (runC_scan (R := R) (step := verdererref14_env_find_v2_l2 n) _ (fun i : Nat => k (i : Int) L a1 a2) (k (-1) L a1 a2) (fun i => if (L.getD i zC).1 = s then some i else none) (fun i => (s, (i : Int), L, a1, a2, ())) L.length (fun i hi k1 => ?_) (fun k1 => ?_) hn).trans ?_
  · simp only [verdererref14_env_find_v2_l2, verdererref14_env_find_v2_s2, lt_nat, hi, in_nat hi, decide_true, if_true, Int.toNat_natCast, beqB, wrap_succ i (by omega)]
    have e : L.getD i (Ty.z ty63) = L.getD i zC := rfl
    rw [e]
    by_cases h : (L.getD i zC).1 = s
    · rw [if_pos (decide_eq_true h), if_pos h]
    · rw [if_neg (fun hh => h (of_decide_eq_true hh)), if_neg h]
  · simp only [verdererref14_env_find_v2_l2, verdererref14_env_find_v2_s2, lt_nat, Nat.lt_irrefl, decide_false, Bool.false_eq_true, if_false]
  · rw [fndC_scan]
    unfold fndI
    by_cases h : fndC L s < L.length
    · rw [if_pos h, if_pos h]
    · rw [if_neg h, if_neg h]
theorem fndI_neg (L : Cols) (s : ByteArray) : (decide (fndI L s < 0)) = !decide (fndC L s < L.length) := by
  unfold fndI
  by_cases h : fndC L s < L.length
  · rw [if_pos h, decide_eq_true h]; simp
  · rw [if_neg h, decide_eq_false h]; rfl
theorem fndI_pos {L : Cols} {s : ByteArray} (h : fndC L s < L.length) : fndI L s = (fndC L s : Int) := if_pos h
theorem refColsV_F {n : Nat} {views kinds : List ty82.D} (ok : Okay n views kinds) (s : ByteArray) (L : Cols) (k0 : Int → (List ty82.D) → (List ty82.D) → Cols → (List ty63.D) → Option R) (k1 : (List ty63.D) → Int → (List ty82.D) → (List ty82.D) → Cols → Option R)
    (hk : ∀ c e, k1 c e kinds views L = k0 e kinds views L c) : verdererref14_env_columns_F n s kinds views L k0 k1 = k0 (colsV kinds views s).1 kinds views L (colsV kinds views s).2 := by
  rw [verdererref14_env_columns_e]
  unfold verdererref14_env_columns_Fi colsV
  have hok := ok.z
  have hokv := ok.v
  have hokk := ok.k
  rw [refColumns_F n s kinds ok.k (by omega) ok.c]
  by_cases h : s = tenS
  · rw [if_pos h, if_pos h]
    rfl
  · rw [if_neg h, if_neg h]
    cases hf : findS kinds s with
    | some x => rfl
    | none =>
      simp only
      rw [if_neg (by decide)]
      refine (runC_scan (R := R) (step := verdererref14_env_columns_l5 n) _ (fun i : Nat => k1 (views.getD i (Ty.z ty82)).2.1 0 kinds views L) (k0 20 kinds views L []) (fun i => if decide ((views.getD i (Ty.z ty82)).1 = s) = true then some i else none) (fun i => (s, (i : Int), kinds, views, L, ())) views.length (fun i hi k1 => ?_) (fun k1 => ?_) ok.v).trans ?_
      · simp only [verdererref14_env_columns_l5, verdererref14_env_columns_s5, lt_nat, hi, in_nat hi, decide_true, if_true, Int.toNat_natCast, beqB, wrap_succ i (by omega)]
        by_cases h : (views.getD i (Ty.z ty82)).1 = s
        · simp only [h, decide_true, if_true]
        · simp only [h, decide_false, Bool.false_eq_true, if_false]
      · simp only [verdererref14_env_columns_l5, verdererref14_env_columns_s5, lt_nat, Nat.lt_irrefl, decide_false, Bool.false_eq_true, if_false]
      · have h2 := range_find (fun x : ty82.D => decide (x.1 = s)) (Ty.z ty82) views
        cases hg : (List.range views.length).findSome? (fun i => if decide ((views.getD i (Ty.z ty82)).1 = s) = true then some i else none) with
        | none =>
          rw [hg] at h2
          have : findS views s = none := h2
          rw [this]
        | some i =>
          rw [hg] at h2
          have : findS views s = some (views.getD i (Ty.z ty82)) := h2.2
          rw [this]
          exact hk _ _
theorem setC_same (L : Cols) (i : Nat) (h : i < L.length) : L.set i ((L.getD i zC).1, (L.getD i zC).2.1, (L.getD i zC).2.2.1, ()) = L := by
  have e : ((L.getD i zC).1, (L.getD i zC).2.1, (L.getD i zC).2.2.1, ()) = L.getD i zC := rfl
  rw [e, getD_nat L i h]
  exact List.set_getElem_self h
theorem refArg_F {n : Nat} {views kinds : List ty82.D} (ok : Okay n views kinds) (t : ty38.D) (c : ty63.D) (bind : Bool) (L : Cols) (hL : L.length ≤ 1000000) (hn : L.length < n) (k : Int → List ty82.D → List ty82.D → Cols → Option R) :
    verdererref14_env_arg_F n t c bind kinds views L k = k (if (argS L t c bind).1 = true then 0 else 11) kinds views (argS L t c bind).2 := by
  rw [verdererref14_env_arg_e]
  unfold verdererref14_env_arg_Fi argS
  have hok := ok.z
  simp only [beqB]
  by_cases h1 : t.2.1 = true
  · simp only [h1, if_true]
  · have h1' : t.2.1 = false := by simpa using h1
    by_cases h2 : t.1 = (⟨#[]⟩ : ByteArray)
    · simp only [h1', h2, decide_true, Bool.false_eq_true, if_true, if_false]
      by_cases h3 : t.2.2.1.1 = c.2.1
      · have : (t.2.2.1.1 == c.2.1) = true := beq_iff_eq.2 h3
        rw [if_pos this, decide_eq_true h3]
        rfl
      · have : (t.2.2.1.1 == c.2.1) = false := beq_eq_false_iff_ne.2 h3
        rw [if_neg (by rw [this]; decide), decide_eq_false h3]
        by_cases h4 : t.2.2.1.1 = 0
        · have : (t.2.2.1.1 == 0) = true := beq_iff_eq.2 h4
          rw [if_pos this, decide_eq_true h4]
          cases c.2.2.1 <;> rfl
        · have : (t.2.2.1.1 == 0) = false := beq_eq_false_iff_ne.2 h4
          rw [if_neg (by rw [this]; decide), decide_eq_false h4]
          rfl
    · simp only [h1', h2, decide_false, Bool.false_eq_true, if_false]
      rw [refFnd_F n _ _ _ L hn hok, fndI_neg]
      unfold knownS
      by_cases h : fndC L t.1 < L.length
      · rw [decide_eq_true h, if_neg (by decide), if_pos h, fndI_pos h, if_pos (by omega), Int.toNat_natCast, if_pos h]
        have e : L.getD (fndC L t.1) (Ty.z ty63) = L.getD (fndC L t.1) zC := rfl
        rw [e]
        have hss := setC_same L _ h
        generalize L.getD (fndC L t.1) zC = x at hss ⊢
        by_cases h3 : x.2.1 = c.2.1
        · have b : (x.2.1 != c.2.1) = false := by rw [bne_eq_false_iff_eq]; exact h3
          rw [if_neg (by rw [b]; decide), if_pos h3]
          cases bind with
          | false => rfl
          | true =>
            cases hc : c.2.2.1 with
            | true =>
              simp only [Bool.not_true, Bool.false_eq_true, if_true, if_false, Bool.and_true, hss]
            | false =>
              have g : (0 : Int) ≤ (fndC L t.1 : Int) ∧ (fndC L t.1 : Int) < (L.length : Int) := by omega
              simp only [Bool.not_false, if_true, Bool.and_false, g, h, and_self]
        · have b : (x.2.1 != c.2.1) = true := bne_iff_ne.2 h3
          rw [if_pos b, if_neg h3]
          rfl
      · rw [decide_eq_false h, if_pos (by decide), if_neg h]
        cases bind with
        | false => rfl
        | true =>
          simp only [if_true, List.length_cons, List.length_nil]
          rw [if_pos (by omega)]
theorem refAtom_F {n : Nat} {views kinds : List ty82.D} (ok : Okay n views kinds) (x : ty41.D) (L : Cols) (hx : x.2.2.1.length < n) (hL : L.length + x.2.2.1.length ≤ 1000000) (hLn : L.length + x.2.2.1.length < n) (k : Int → List ty82.D → List ty82.D → Cols → Option R) :
    verdererref14_env_atom_F n x kinds views L k = k (atomS (colsV kinds views) L x).1 kinds views (atomS (colsV kinds views) L x).2 := by
  rw [verdererref14_env_atom_e]
  unfold verdererref14_env_atom_Fi atomS
  rw [refColsV_F ok _ _ _ _ (fun c e => rfl)]
  obtain ⟨e, hc⟩ : ∃ c, colsV kinds views x.2.1 = c := ⟨_, rfl⟩
  obtain ⟨e, c⟩ := e
  simp only [hc]
  have hok := ok.z
  by_cases h1 : e = 0
  · subst h1
    rw [if_neg (show ¬ ((0 : Int) != 0) = true by decide), if_neg (show ¬ ((0 : Int) ≠ 0) by decide)]
    by_cases h2 : c.length = x.2.2.1.length
    · rw [if_neg (show ¬ ((c.length : Int) != (x.2.2.1.length : Int)) = true by simp [h2]), if_neg (show ¬ (c.length ≠ x.2.2.1.length) by simp [h2])]
      have hz : (x.2.2.1.zip c).length = x.2.2.1.length := by rw [List.length_zip, h2, Nat.min_self]
      unfold argsS
      have := runC_fold (R := R) (step := verdererref14_env_atom_l7 n) (fun b13 => k b13.1 b13.2.1 b13.2.2.1 b13.2.2.2.1, fun b16 => k 0 b16.1 b16.2.1 b16.2.2.1, ()) (x.2.2.1.zip c) (argF (!x.1)) (fun i s => s.length ≤ L.length + i)
        (fun i s => (c, (i : Int), kinds, views, s, x.1, x.2.1, x.2.2.1, x.2.2.2.1, ())) (fun y => k 11 kinds views y) (fun s => k 0 kinds views s) (fun i hi s hI => ?_) (fun s hI k1 => ?_) (n := n) (by omega) (s0 := L) (by omega)
      · refine this.trans ?_
        cases foldL (argF (!x.1)) 0 L (x.2.2.1.zip c) <;> rfl
      · have hi1 : i < x.2.2.1.length := by omega
        have hi2 : i < c.length := by omega
        have step : ∀ k1, verdererref14_env_atom_l7 n (c, (i : Int), kinds, views, s, x.1, x.2.1, x.2.2.1, x.2.2.2.1, ()) k1 (fun b13 => k b13.1 b13.2.1 b13.2.2.1 b13.2.2.2.1, fun b16 => k 0 b16.1 b16.2.1 b16.2.2.1, ())
            = if (argS s x.2.2.1[i] c[i] (!x.1)).1 = true then k1 (c, ((i + 1 : Nat) : Int), kinds, views, (argS s x.2.2.1[i] c[i] (!x.1)).2, x.1, x.2.1, x.2.2.1, x.2.2.2.1, ()) else k 11 kinds views (argS s x.2.2.1[i] c[i] (!x.1)).2 := by
          intro k1
          simp only [verdererref14_env_atom_l7, verdererref14_env_atom_s7, lt_nat, hi1, hi2, in_nat hi1, in_nat hi2, Int.toNat_natCast, getD_nat _ i hi1, getD_nat _ i hi2, decide_true, if_true, wrap_succ i (by omega)]
          rw [refArg_F ok _ _ _ _ (by omega) (by omega)]
          show (if ((if (argS s x.2.2.1[i] c[i] (!x.1)).1 = true then (0 : Int) else 11) != 0) = true then k (if (argS s x.2.2.1[i] c[i] (!x.1)).1 = true then (0 : Int) else 11) kinds views (argS s x.2.2.1[i] c[i] (!x.1)).2 else _) = _
          cases (argS s x.2.2.1[i] c[i] (!x.1)).1 <;> rfl
        have hz2 : (x.2.2.1.zip c)[i] = (x.2.2.1[i], c[i]) := List.getElem_zip ..
        have hal := arg_len s x.2.2.1[i] c[i] (!x.1)
        rw [hz2]
        unfold argF
        simp only []
        cases hb : (argS s x.2.2.1[i] c[i] (!x.1)).1 with
        | true =>
          rw [if_pos rfl]
          simp only []
          exact ⟨by omega, fun k1 => by rw [step k1, hb, if_pos rfl]⟩
        | false =>
          rw [if_neg (by decide)]
          simp only []
          exact fun k1 => by rw [step k1, hb, if_neg (by decide)]
      · have : ¬ ((x.2.2.1.zip c).length < c.length) := by omega
        simp only [verdererref14_env_atom_l7, verdererref14_env_atom_s7, lt_nat, this, decide_false, Bool.false_eq_true, if_false]
    · rw [if_pos (show ((c.length : Int) != (x.2.2.1.length : Int)) = true by simp; omega), if_pos (show (c.length ≠ x.2.2.1.length) from h2)]
  · rw [if_pos (show (e != 0) = true by simp [h1]), if_pos h1]
theorem refKind_F (n : Nat) (t : ty38.D) (a1 a2 : List ty82.D) (L : Cols) (hn : L.length < n) (hl : n < 1000000000) (k : Int → List ty82.D → List ty82.D → Cols → Option R) : verdererref14_env_kind_F n t a1 a2 L k = k (kindS L t) a1 a2 L := by
  rw [verdererref14_env_kind_e]
  unfold verdererref14_env_kind_Fi kindS
  simp only [beqB]
  by_cases h1 : t.2.1 = true
  · simp only [h1, if_true]
  · simp only [h1, if_false, Bool.false_eq_true]
    by_cases h2 : t.1 = (⟨#[]⟩ : ByteArray)
    · simp only [h2, decide_true, if_true]
    · simp only [h2, decide_false, Bool.false_eq_true, if_false]
      rw [refFnd_F n _ _ _ L hn hl, fndI_neg]
      by_cases h3 : fndC L t.1 < L.length
      · rw [decide_eq_true h3, if_neg (by decide), if_pos h3, fndI_pos h3, if_pos (by omega), Int.toNat_natCast, if_pos h3]
        rfl
      · rw [decide_eq_false h3, if_pos (by decide), if_neg h3]
theorem refCmp_F (n : Nat) (x : ty41.D) (a1 a2 : List ty82.D) (L : Cols) (hn : L.length < n) (hl : n < 1000000000) (k : Int → List ty82.D → List ty82.D → Cols → Option R) : verdererref14_env_comparison_F n x a1 a2 L k = k (cmpS L x) a1 a2 L := by
  rw [verdererref14_env_comparison_e]
  unfold verdererref14_env_comparison_Fi cmpS
  by_cases h : x.2.2.1.length = 2
  · rw [if_neg (show ¬ ((x.2.2.1.length : Int) != 2) = true by simp [h]), if_neg (show ¬ (x.2.2.1.length ≠ 2) by simp [h])]
    rw [if_pos (by omega), refKind_F n _ _ _ L hn hl, if_pos (by omega), refKind_F n _ _ _ L hn hl]
    show (if (kindS L (x.2.2.1.getD 0 (Ty.z ty38)) != 0) = true then if (kindS L (x.2.2.1.getD 1 (Ty.z ty38)) != 0) = true then if (kindS L (x.2.2.1.getD 0 (Ty.z ty38)) != kindS L (x.2.2.1.getD 1 (Ty.z ty38))) = true then _ else _ else _ else _) = _
    generalize kindS L (x.2.2.1.getD 0 (Ty.z ty38)) = p
    generalize kindS L (x.2.2.1.getD 1 (Ty.z ty38)) = q
    by_cases h1 : p = 0 <;> by_cases h2 : q = 0 <;> by_cases h3 : p = q <;> simp [h1, h2, h3]
  · rw [if_pos (show ((x.2.2.1.length : Int) != 2) = true by simp; omega), if_pos (show x.2.2.1.length ≠ 2 from h)]
end Go.Proofs.Ytikikmkfeeljgaa.E
namespace Go.Proofs.Ytikikmkfeeljgaa.E
open Go.RowKit
variable {R : Type}
set_option maxRecDepth 100000
theorem refVars_F {n : Nat} {views kinds : List ty82.D} (ok : Okay n views kinds) (x : ty25.D) (ft : Fit n x.2.2.2.2.2.2.1) (h2 : 2 * many x.2.2.2.2.2.2.1 < n) (k : Int → Int → Cols → Option R) :
    verdererref14_Vars_F n x kinds views k = k (varsS (colsV kinds views) x.2.2.2.2.2.2.1).1 (varsS (colsV kinds views) x.2.2.2.2.2.2.1).2.1 (varsS (colsV kinds views) x.2.2.2.2.2.2.1).2.2 := by
  rw [verdererref14_Vars_e]
  unfold verdererref14_Vars_Fi varsS litsS
  obtain ⟨x0, x1, x2, x3, x4, x5, l, u⟩ := x
  have hz := ft.z
  have hm := ft.m
  have hc := ft.c
  have hok := ok.z
  simp only at hz hm hc h2 ⊢
  have p1 := runC_fold (R := R) (step := verdererref14_Vars_l3 n) (fun b7 => k b7.1 b7.2.1 b7.2.2.1, fun b17 => runC (verdererref14_Vars_l10 n) n (0, b17.1, b17.2.1, b17.2.2.1, b17.2.2.2.1, b17.2.2.2.2.1, b17.2.2.2.2.2.1, b17.2.2.2.2.2.2.1, b17.2.2.2.2.2.2.2.1, b17.2.2.2.2.2.2.2.2.1, b17.2.2.2.2.2.2.2.2.2.1, ()) (fun b28 => k b28.1 b28.2.1 b28.2.2.1, fun b31 => k 0 0 b31.1, ()), ()) l (passF (colsV kinds views) true) (fun i s => s.length ≤ many (l.take i))
    (fun i s => ((i : Int), x0, x1, x2, x3, x4, x5, l, s, kinds, views, ())) (fun y => k (y.1 : Int) y.2.1 []) (fun L => runC (verdererref14_Vars_l10 n) n (0, x0, x1, x2, x3, x4, x5, l, L, kinds, views, ()) (fun b28 => k b28.1 b28.2.1 b28.2.2.1, fun b31 => k 0 0 b31.1, ())) (fun i hi s hI => ?_) (fun s hI k1 => ?_) (n := n) (by omega) (s0 := []) (by simp)
  · refine p1.trans ?_
    cases hf : foldL (passF (colsV kinds views) true) 0 [] l with
    | inr y => rfl
    | inl L =>
      simp only []
      have hlen := foldL_inv (f := passF (colsV kinds views) true) (I := fun i s => s.length ≤ many (l.take i)) l 0 [] (by simp) (fun j hj s s' hI hh => by
        have := pass_len (colsV kinds views) true l j hj [] s s' (by simpa using hI) (by simpa using hh)
        simpa using this) L hf
      have hlen2 : L.length ≤ many l := by simpa using hlen
      have p2 := runC_fold (R := R) (step := verdererref14_Vars_l10 n) (fun b28 => k b28.1 b28.2.1 b28.2.2.1, fun b31 => k 0 0 b31.1, ()) l (passF (colsV kinds views) false) (fun i s => s.length ≤ L.length + many (l.take i))
        (fun i s => ((i : Int), x0, x1, x2, x3, x4, x5, l, s, kinds, views, ())) (fun y => k (y.1 : Int) y.2.1 []) (fun L => k 0 0 L) (fun i hi s hI => ?_) (fun s hI k1 => ?_) (n := n) (by omega) (s0 := L) (by simp)
      · refine p2.trans ?_
        cases foldL (passF (colsV kinds views) false) 0 L l <;> rfl
      · have hma := many_at l i hi
        have step : ∀ k1, verdererref14_Vars_l10 n ((i : Int), x0, x1, x2, x3, x4, x5, l, s, kinds, views, ()) k1 (fun b28 => k b28.1 b28.2.1 b28.2.2.1, fun b31 => k 0 0 b31.1, ()) = match passF (colsV kinds views) false i s l[i] with
            | .inl s' => k1 (((i + 1 : Nat) : Int), x0, x1, x2, x3, x4, x5, l, s', kinds, views, ())
            | .inr y => k (y.1 : Int) y.2.1 [] := by
          intro k1
          simp only [verdererref14_Vars_l10, verdererref14_Vars_s10, lt_nat, hi, in_nat hi, Int.toNat_natCast, getD_nat _ i hi, decide_true, if_true, wrap_succ i (by omega)]
          have hA := fun k => refAtom_F (R := R) ok l[i] s (by omega) (by omega) (by omega) k
          have hC := fun k => refCmp_F (R := R) n l[i] kinds views s (by omega) hok k
          simp only [hA, hC]
          unfold passF selS litS
          generalize atomS (colsV kinds views) s l[i] = at1
          generalize cmpS s l[i] = c1
          obtain ⟨a1, a2⟩ := at1
          clear hA hC hma
          generalize l[i] = y
          obtain ⟨y0, y1, y2, y3, u2⟩ := y
          simp only
          cases y0 <;> by_cases h1 : y3 = 0 <;> by_cases h3 : a1 = 0 <;> by_cases h4 : c1 = 0 <;> simp [h1, h3, h4]
        cases hf : passF (colsV kinds views) false i s l[i] with
        | inl s' => exact ⟨pass_len _ _ l i hi L s s' hI hf, fun k1 => by rw [step k1, hf]⟩
        | inr y => exact fun k1 => by rw [step k1, hf]
      · simp [verdererref14_Vars_l10, verdererref14_Vars_s10]
  · have hma := many_at l i hi
    have step : ∀ (k1 : (verdererref14_Vars_ds 3).D → Option R) (k2 : exK R (verdererref14_Vars_dx 3)), verdererref14_Vars_l3 n ((i : Int), x0, x1, x2, x3, x4, x5, l, s, kinds, views, ()) k1 k2 = match passF (colsV kinds views) true i s l[i] with
        | .inl s' => k1 (((i + 1 : Nat) : Int), x0, x1, x2, x3, x4, x5, l, s', kinds, views, ())
        | .inr y => k2.1 ((y.1 : Int), y.2.1, [], ()) := by
      intro k1 k2
      simp only [verdererref14_Vars_l3, verdererref14_Vars_s3, lt_nat, hi, in_nat hi, Int.toNat_natCast, getD_nat _ i hi, decide_true, if_true, wrap_succ i (by omega)]
      have hA := fun k => refAtom_F (R := R) ok l[i] s (by omega) (by omega) (by omega) k
      simp only [hA]
      unfold passF selS litS
      generalize atomS (colsV kinds views) s l[i] = at1
      obtain ⟨a1, a2⟩ := at1
      clear hA hma
      generalize l[i] = y
      obtain ⟨y0, y1, y2, y3, u2⟩ := y
      simp only
      cases y0 <;> by_cases h1 : y3 = 0 <;> by_cases h3 : a1 = 0 <;> simp [h1, h3]
    cases hf : passF (colsV kinds views) true i s l[i] with
    | inl s' => exact ⟨by simpa using pass_len _ _ l i hi [] s s' (by simpa using hI) hf, fun k1 => (step k1 _).trans (by rw [hf])⟩
    | inr y => exact fun k1 => (step k1 _).trans (by rw [hf])
  · simp [verdererref14_Vars_l3, verdererref14_Vars_s3]
/-! the columns of what a rule tells -/
def hdF (L : Cols) (_ : Nat) (acc : Cols) (s : ByteArray) : Cols ⊕ Unit := if fndC L s < L.length then .inl (acc ++ [L.getD (fndC L s) zC]) else .inr ()
def cntC : ty63.D := ((⟨#[99, 111, 117, 110, 116]⟩ : ByteArray), 2, false, ())
def tailS (kind ag : Int) (of_ : ByteArray) (out : Cols) : Int × Int × Cols :=
  if kind = 3 ∧ 0 < out.length ∧ ((out.getD 0 zC).2.1 ≠ 3 ∨ (out.getD 0 zC).2.2.1 = true) then (-1, 11, [])
  else (0, 0, if 2 ≤ ag then out ++ [(of_, 2, false, ())] else if ag = 1 then out ++ [cntC] else out)
def ofS (L : Cols) (kind ag : Int) (of_ : ByteArray) (out : Cols) : Int × Int × Cols :=
  if 2 ≤ ag then (if fndC L of_ < L.length then (if (L.getD (fndC L of_) zC).2.1 ≠ 2 ∨ (L.getD (fndC L of_) zC).2.2.1 = true then (-1, 11, []) else tailS kind ag of_ out) else (-1, 12, [])) else tailS kind ag of_ out
def headS (cols : ByteArray → Int × Cols) (x : ty25.D) : Int × Int × Cols :=
  if (varsS cols x.2.2.2.2.2.2.1).2.1 ≠ 0 then ((varsS cols x.2.2.2.2.2.2.1).1, (varsS cols x.2.2.2.2.2.2.1).2.1, [])
  else match foldL (hdF (varsS cols x.2.2.2.2.2.2.1).2.2) 0 [] x.2.2.1 with
    | .inr _ => (-1, 12, [])
    | .inl out => ofS (varsS cols x.2.2.2.2.2.2.1).2.2 x.1 x.2.2.2.1 x.2.2.2.2.1 out
theorem hd_len (L : Cols) (i : Nat) (acc acc' : Cols) (s : ByteArray) (h : hdF L i acc s = .inl acc') : acc'.length = acc.length + 1 := by
  unfold hdF at h
  split at h
  · injection h with h; rw [← h]; simp
  · cases h
theorem vars_zero {cols : ByteArray → Int × Cols} {l : List ty41.D} (h : (varsS cols l).2.1 = 0) : litsS cols l = .inl (varsS cols l).2.2 := by
  unfold varsS at h ⊢
  cases hf : litsS cols l with
  | inl L => rfl
  | inr y => rw [hf] at h; exact absurd h (lits_err cols l y hf)
/-- the last part of the program -/
theorem tail_F (n : Nat) (a2 : List ty82.D) (kind : Int) (nm : ByteArray) (hd : List ByteArray) (ag : Int) (of_ : ByteArray) (lim : Int) (bd : List ty41.D) (out : Cols) (ho : out.length ≤ 1000000) (last : ty63.D) (hlast : last = if 2 ≤ ag then (of_, 2, false, ()) else cntC) (K : exK R (types_Head_v1_dx 1000021)) (k : Int → Int → List ty82.D → Cols → Option R) (hK1 : ∀ a b c d, K.1 (a, b, c, d, ()) = k a b c d) (hK2 : ∀ a b c d, K.2.1 (a, b, c, d, ()) = k a b c d) :
    types_Head_v1_l1000021 n (a2, kind, nm, hd, ag, of_, lim, bd, out, last.1, last.2.1, last.2.2.1, ()) K = k (tailS kind ag of_ out).1 (tailS kind ag of_ out).2.1 a2 (tailS kind ag of_ out).2.2 := by
  rw [types_Head_v1_e1000021]
  unfold types_Head_v1_li1000021 types_Head_v1_s1000021 tailS
  have el : (last.1, last.2.1, last.2.2.1, ()) = last := rfl
  have e0 : out.getD 0 (Ty.z ty63) = out.getD 0 zC := rfl
  have t0 : Int.toNat 0 = 0 := rfl
  simp only [el, t0, e0, List.length_cons, List.length_nil]
  have fin : (if (decide (ag ≥ 1)) = true then (if (List.length out + (0 + 1)) * 32 ≤ 140737488355328 then (K.2.1 (0, 0, a2, (out ++ [last]), ())) else none) else (K.2.1 (0, 0, a2, out, ()))) = k 0 0 a2 (if 2 ≤ ag then out ++ [(of_, 2, false, ())] else if ag = 1 then out ++ [cntC] else out) := by
    by_cases h2 : 2 ≤ ag
    · have h1 : ag ≥ 1 := by omega
      rw [if_pos (decide_eq_true h1), if_pos (by omega), if_pos h2, hK2, hlast, if_pos h2]
    · by_cases h1 : ag ≥ 1
      · have h3 : ag = 1 := by omega
        rw [if_pos (decide_eq_true h1), if_pos (by omega), if_neg h2, if_pos h3, hK2, hlast, if_neg h2]
      · have h3 : ¬ ag = 1 := by omega
        rw [if_neg (fun h => h1 (of_decide_eq_true h)), if_neg h2, if_neg h3, hK2]
  by_cases hk : kind = 3
  · have b : (kind == 3) = true := by simp [hk]
    rw [if_pos b]
    by_cases hl : 0 < out.length
    · have c1 : (out.length : Int) > 0 := by omega
      have c2 : (0 : Int) < (out.length : Int) := by omega
      simp only [c1, c2, hl, hk, decide_true, if_true, Int.le_refl, true_and]
      by_cases h3 : (out.getD 0 zC).2.1 = 3
      · have b3 : ((out.getD 0 zC).2.1 != 3) = false := by rw [bne_eq_false_iff_eq]; exact h3
        rw [if_neg (by rw [b3]; decide)]
        by_cases h4 : (out.getD 0 zC).2.2.1 = true
        · rw [if_pos h4, if_pos (Or.inr h4)]
          exact hK1 _ _ _ _
        · rw [if_neg h4]
          refine fin.trans ?_
          rw [if_neg (show ¬ ((out.getD 0 zC).2.1 ≠ 3 ∨ (out.getD 0 zC).2.2.1 = true) by rintro (h | h); exact h h3; exact h4 h)]
      · have b3 : ((out.getD 0 zC).2.1 != 3) = true := bne_iff_ne.2 h3
        rw [if_pos b3, if_pos (Or.inl h3)]
        exact hK1 _ _ _ _
    · have c1 : ¬ (out.length : Int) > 0 := by omega
      rw [if_neg (fun h => c1 (of_decide_eq_true h))]
      refine fin.trans ?_
      rw [if_neg (show ¬ (kind = 3 ∧ 0 < out.length ∧ ((out.getD 0 zC).2.1 ≠ 3 ∨ (out.getD 0 zC).2.2.1 = true)) from fun h => hl h.2.1)]
  · have b : (kind == 3) = false := by simp [hk]
    rw [if_neg (by rw [b]; decide)]
    refine fin.trans ?_
    rw [if_neg (show ¬ (kind = 3 ∧ 0 < out.length ∧ ((out.getD 0 zC).2.1 ≠ 3 ∨ (out.getD 0 zC).2.2.1 = true)) from fun h => hk h.1)]
theorem Head_F {n : Nat} {views kinds : List ty82.D} (ok : Okay n views kinds) (x : ty25.D) (ft : Fit n x.2.2.2.2.2.2.1) (h2 : 2 * many x.2.2.2.2.2.2.1 < n) (hh : x.2.2.1.length < n) (hh2 : x.2.2.1.length ≤ 100000) (k : Int → Int → List ty82.D → Cols → Option R) :
    types_Head_v1_F n x views kinds k = k (headS (colsV kinds views) x).1 (headS (colsV kinds views) x).2.1 kinds (headS (colsV kinds views) x).2.2 := by
  rw [types_Head_v1_e]
  unfold types_Head_v1_Fi
  rw [types_read_v1_e]
  unfold types_read_v1_Fi
  have hok := ok.z
  rw [body_F ok _ ft.z ft.m ft.c ft.t]
  unfold headS
  have hv : varsS (colsV kinds views) x.2.2.2.2.2.2.1 = match litsS (colsV kinds views) x.2.2.2.2.2.2.1 with
    | .inl L => (0, 0, L)
    | .inr y => ((y.1 : Int), y.2.1, []) := rfl
  cases hf : litsS (colsV kinds views) x.2.2.2.2.2.2.1 with
  | inr y =>
    have he := lits_err _ _ _ hf
    rw [hf] at hv
    rw [hv]
    simp only []
    rw [if_pos (by simpa using he), if_pos he]
  | inl L =>
    have hlen := lits_len _ _ _ hf
    rw [hf] at hv
    rw [hv]
    simp only []
    rw [if_neg (by decide), if_neg (by simp)]
    have hml : (mapOf L).length = L.length := mapOf_len L
    obtain ⟨kind, nm, hd, ag, of_, lim, bd, u⟩ := x
    simp only at hh hh2 ⊢
    have p := runC_fold (R := R) (step := types_Head_v1_l6 n) (fun b10 => k b10.1 b10.2.1 b10.2.2.1 b10.2.2.2.1, fun b22 => if (decide (b22.2.2.2.2.1 ≥ 2)) = true then (if (mhas (kt := .str) (vt := ty63) b22.2.2.2.2.2.2.2.2.2.1 b22.2.2.2.2.2.1) = true then (if (midx (kt := .str) (vt := ty63) b22.2.2.2.2.2.2.2.2.2.1 b22.2.2.2.2.2.1) < b22.2.2.2.2.2.2.2.2.2.1.length then (if (((b22.2.2.2.2.2.2.2.2.2.1.getD (midx (kt := .str) (vt := ty63) b22.2.2.2.2.2.2.2.2.2.1 b22.2.2.2.2.2.1) (Ty.z .str, Ty.z ty63)).2).2.1 != 2) = true then (k (-1) 11 b22.1 ([] : List ty63.D)) else (if (midx (kt := .str) (vt := ty63) b22.2.2.2.2.2.2.2.2.2.1 b22.2.2.2.2.2.1) < b22.2.2.2.2.2.2.2.2.2.1.length then (if ((b22.2.2.2.2.2.2.2.2.2.1.getD (midx (kt := .str) (vt := ty63) b22.2.2.2.2.2.2.2.2.2.1 b22.2.2.2.2.2.1) (Ty.z .str, Ty.z ty63)).2).2.2.1 = true then (k (-1) 11 b22.1 ([] : List ty63.D)) else (types_Head_v1_l1000021 n (b22.1, b22.2.1, b22.2.2.1, b22.2.2.2.1, b22.2.2.2.2.1, b22.2.2.2.2.2.1, b22.2.2.2.2.2.2.1, b22.2.2.2.2.2.2.2.1, b22.2.2.2.2.2.2.2.2.2.2.2.1, b22.2.2.2.2.2.1, 2, false, ()) (fun b26 => k b26.1 b26.2.1 b26.2.2.1 b26.2.2.2.1, fun b30 => k b30.1 b30.2.1 b30.2.2.1 b30.2.2.2.1, ()))) else none)) else none) else (k (-1) 12 b22.1 ([] : List ty63.D))) else (types_Head_v1_l1000021 n (b22.1, b22.2.1, b22.2.2.1, b22.2.2.2.1, b22.2.2.2.2.1, b22.2.2.2.2.2.1, b22.2.2.2.2.2.2.1, b22.2.2.2.2.2.2.2.1, b22.2.2.2.2.2.2.2.2.2.2.2.1, (⟨#[99, 111, 117, 110, 116]⟩ : ByteArray), 2, false, ()) (fun b34 => k b34.1 b34.2.1 b34.2.2.1 b34.2.2.2.1, fun b38 => k b38.1 b38.2.1 b38.2.2.1 b38.2.2.2.1, ())), ())
      hd (hdF L) (fun i s => s.length = i) (fun i s => (hd, (hd.length : Int), (i : Int), kinds, kind, nm, hd, ag, of_, lim, bd, views, mapOf L, ordOf L, s, ())) (fun _ => k (-1) 12 kinds []) (fun out => k (ofS L kind ag of_ out).1 (ofS L kind ag of_ out).2.1 kinds (ofS L kind ag of_ out).2.2) (fun i hi s hI => ?_) (fun s hI k1 => ?_) (n := n) (by omega) (s0 := []) rfl
    · refine p.trans ?_
      cases foldL (hdF L) 0 [] hd <;> rfl
    · have step : ∀ (k1 : (types_Head_v1_ds 6).D → Option R) (k2 : exK R (types_Head_v1_dx 6)), types_Head_v1_l6 n (hd, (hd.length : Int), (i : Int), kinds, kind, nm, hd, ag, of_, lim, bd, views, mapOf L, ordOf L, s, ()) k1 k2 = match hdF L i s hd[i] with
          | .inl s' => k1 (hd, (hd.length : Int), ((i + 1 : Nat) : Int), kinds, kind, nm, hd, ag, of_, lim, bd, views, mapOf L, ordOf L, s', ())
          | .inr _ => k2.1 (-1, 12, kinds, [], ()) := by
        intro k1 k2
        simp only [types_Head_v1_l6, types_Head_v1_s6, lt_nat, hi, in_nat hi, Int.toNat_natCast, getD_nat _ i hi, decide_true, if_true, wrap_succ i (by omega), mhas_map, midx_map, hasC]
        unfold hdF
        by_cases h : fndC L hd[i] < L.length
        · simp only [hml, h, decide_true, if_true, map_getD L _ h, List.length_cons, List.length_nil]
          rw [if_pos (by omega)]
        · simp only [h, decide_false, Bool.false_eq_true, if_false]
      cases hf2 : hdF L i s hd[i] with
      | inl s' => exact ⟨by rw [hd_len L i s s' _ hf2, hI], fun k1 => (step k1 _).trans (by rw [hf2])⟩
      | inr y => exact fun k1 => (step k1 _).trans (by rw [hf2])
    · have ho : s.length ≤ 1000000 := by omega
      simp only [types_Head_v1_l6, types_Head_v1_s6, lt_nat, Nat.lt_irrefl, decide_false, Bool.false_eq_true, if_false, mhas_map, midx_map, hasC]
      unfold ofS
      by_cases h2 : 2 ≤ ag
      · rw [if_pos (decide_eq_true (show ag ≥ 2 from h2)), if_pos h2]
        by_cases h : fndC L of_ < L.length
        · simp only [hml, h, decide_true, if_true, map_getD L _ h]
          by_cases h3 : (L.getD (fndC L of_) zC).2.1 = 2
          · have b3 : ((L.getD (fndC L of_) zC).2.1 != 2) = false := by rw [bne_eq_false_iff_eq]; exact h3
            rw [if_neg (by rw [b3]; decide)]
            by_cases h4 : (L.getD (fndC L of_) zC).2.2.1 = true
            · rw [if_pos h4, if_pos (Or.inr h4)]
            · rw [if_neg h4, if_neg (by rintro (h | h); exact h h3; exact h4 h)]
              exact tail_F n kinds kind nm hd ag of_ lim bd s ho (of_, 2, false, ()) (by rw [if_pos h2]) _ k (fun _ _ _ _ => rfl) (fun _ _ _ _ => rfl)
          · have b3 : ((L.getD (fndC L of_) zC).2.1 != 2) = true := bne_iff_ne.2 h3
            rw [if_pos b3, if_pos (Or.inl h3)]
        · simp only [h, decide_false, Bool.false_eq_true, if_false]
      · rw [if_neg (fun h => h2 (of_decide_eq_true h)), if_neg h2]
        exact tail_F n kinds kind nm hd ag of_ lim bd s ho cntC (by rw [if_neg h2]) _ k (fun _ _ _ _ => rfl) (fun _ _ _ _ => rfl)
end Go.Proofs.Ytikikmkfeeljgaa.E
