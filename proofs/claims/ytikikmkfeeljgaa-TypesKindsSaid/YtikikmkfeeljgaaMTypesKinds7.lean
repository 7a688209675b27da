/- A text of the proof that the law TypesKinds returns true: nothing is assumed in it. -/
import Derived.Test.YtikikmkfeeljgaaMTypesKinds6
set_option linter.unusedVariables false
set_option linter.unusedSimpArgs false
namespace Go.Proofs.Ytikikmkfeeljgaa.E
open Go.RowKit
variable {R : Type}
set_option maxRecDepth 100000
theorem refTail_F (n : Nat) (kind : Int) (nm : ByteArray) (hd : List ByteArray) (ag : Int) (of_ : ByteArray) (lim : Int) (bd : List ty41.D) (out : Cols) (ho : out.length ≤ 1000000) (K : exK R (verdererref14_Head_dx 1000019)) (k : Int → Int → Cols → Option R) (hK1 : ∀ a b c, K.1 (a, b, c, ()) = k a b c) (hK2 : ∀ a b c, K.2.1 (a, b, c, ()) = k a b c) :
    verdererref14_Head_l1000019 n (kind, nm, hd, ag, of_, lim, bd, out, ()) K = k (tailS kind ag of_ out).1 (tailS kind ag of_ out).2.1 (tailS kind ag of_ out).2.2 := by
  rw [verdererref14_Head_e1000019]
  unfold verdererref14_Head_li1000019 verdererref14_Head_s1000019 tailS
  have e0 : out.getD 0 (Ty.z ty63) = out.getD 0 zC := rfl
  have t0 : Int.toNat 0 = 0 := rfl
  have ec : ((⟨#[99, 111, 117, 110, 116]⟩ : ByteArray), 2, false, ()) = cntC := rfl
  simp only [t0, e0, ec, List.length_cons, List.length_nil, List.length_append]
  have fin : (if (ag == 1) = true then (if (List.length out + (0 + 1)) * 32 ≤ 140737488355328 then (if (decide (ag ≥ 2)) = true then (if (List.length out + (0 + 1) + (0 + 1)) * 32 ≤ 140737488355328 then (K.2.1 (0, 0, ((out ++ [cntC]) ++ [(of_, 2, false, ())]), ())) else none) else (K.2.1 (0, 0, (out ++ [cntC]), ()))) else none) else (if (decide (ag ≥ 2)) = true then (if (List.length out + (0 + 1)) * 32 ≤ 140737488355328 then (K.2.1 (0, 0, (out ++ [(of_, 2, false, ())]), ())) else none) else (K.2.1 (0, 0, out, ())))) = k 0 0 (if 2 ≤ ag then out ++ [(of_, 2, false, ())] else if ag = 1 then out ++ [cntC] else out) := by
    by_cases h1 : ag = 1
    · have b : (ag == 1) = true := by simp [h1]
      have h2 : ¬ 2 ≤ ag := by omega
      have h2' : ¬ ag ≥ 2 := by omega
      rw [if_pos b, if_pos (by omega), if_neg (fun h => h2' (of_decide_eq_true h)), if_neg h2, if_pos h1, hK2]
    · have b : (ag == 1) = false := by simp [h1]
      rw [if_neg (by rw [b]; decide)]
      by_cases h2 : 2 ≤ ag
      · rw [if_pos (decide_eq_true (show ag ≥ 2 from h2)), if_pos (by omega), if_pos h2, hK2]
      · rw [if_neg (fun h => h2 (of_decide_eq_true h)), if_neg h2, if_neg h1, hK2]
  by_cases hk : kind = 3
  · have b : (kind == 3) = true := by simp [hk]
    rw [if_pos b]
    by_cases hl : 0 < out.length
    · have c1 : (out.length : Int) > 0 := by omega
      have c2 : (0 : Int) < (out.length : Int) := by omega
      simp only [c1, c2, hl, hk, decide_true, if_true, Int.le_refl, true_and]
      by_cases h3 : (out.getD 0 zC).2.1 = 3
      · have b3 : ((out.getD 0 zC).2.1 != 3) = false := by rw [bne_eq_false_iff_eq]; exact h3
        rw [if_neg (by rw [b3]; decide)]
        by_cases h4 : (out.getD 0 zC).2.2.1 = true
        · rw [if_pos h4, if_pos (Or.inr h4)]
          exact hK1 _ _ _
        · rw [if_neg h4]
          refine fin.trans ?_
          rw [if_neg (show ¬ ((out.getD 0 zC).2.1 ≠ 3 ∨ (out.getD 0 zC).2.2.1 = true) by rintro (h | h); exact h h3; exact h4 h)]
      · have b3 : ((out.getD 0 zC).2.1 != 3) = true := bne_iff_ne.2 h3
        rw [if_pos b3, if_pos (Or.inl h3)]
        exact hK1 _ _ _
    · have c1 : ¬ (out.length : Int) > 0 := by omega
      rw [if_neg (fun h => c1 (of_decide_eq_true h))]
      refine fin.trans ?_
      rw [if_neg (show ¬ (kind = 3 ∧ 0 < out.length ∧ ((out.getD 0 zC).2.1 ≠ 3 ∨ (out.getD 0 zC).2.2.1 = true)) from fun h => hl h.2.1)]
  · have b : (kind == 3) = false := by simp [hk]
    rw [if_neg (by rw [b]; decide)]
    refine fin.trans ?_
    rw [if_neg (show ¬ (kind = 3 ∧ 0 < out.length ∧ ((out.getD 0 zC).2.1 ≠ 3 ∨ (out.getD 0 zC).2.2.1 = true)) from fun h => hk h.1)]
theorem refHead_F {n : Nat} {views kinds : List ty82.D} (ok : Okay n views kinds) (x : ty25.D) (ft : Fit n x.2.2.2.2.2.2.1) (h2 : 2 * many x.2.2.2.2.2.2.1 < n) (hh : x.2.2.1.length < n) (hh2 : x.2.2.1.length ≤ 100000) (k : Int → Int → Cols → Option R) :
    verdererref14_Head_F n x kinds views k = k (headS (colsV kinds views) x).1 (headS (colsV kinds views) x).2.1 (headS (colsV kinds views) x).2.2 := by
  rw [verdererref14_Head_e]
  unfold verdererref14_Head_Fi
  have hok := ok.z
  rw [refVars_F ok x ft h2]
  unfold headS
  by_cases he : (varsS (colsV kinds views) x.2.2.2.2.2.2.1).2.1 = 0
  · have hl := lits_len _ _ _ (vars_zero he)
    have b : ((varsS (colsV kinds views) x.2.2.2.2.2.2.1).2.1 != 0) = false := by simp [he]
    rw [if_neg (by rw [b]; decide), if_neg (fun h => h he)]
    generalize (varsS (colsV kinds views) x.2.2.2.2.2.2.1).2.2 = L at hl ⊢
    have hc := ft.c
    obtain ⟨kind, nm, hd, ag, of_, lim, bd, u⟩ := x
    simp only at hh hh2 hl h2 hc ⊢
    have p := runC_fold (R := R) (step := verdererref14_Head_l7 n) (fun b10 => k b10.1 b10.2.1 b10.2.2.1, fun b22 => if (decide (b22.2.2.2.2.1 ≥ 2)) = true then (verdererref14_env_find_v2_F n b22.2.2.2.2.2.1 b22.2.2.2.2.2.2.2.2.2.2.1 b22.2.2.2.2.2.2.2.2.1 b22.2.2.2.2.2.2.2.2.2.1 (fun y23 y24 y25 y26 => if (decide (y23 < 0)) = true then (k (-1) 12 ([] : List ty63.D)) else (if (0 : Int) ≤ y23 ∧ y23 < (b22.1.length : Int) then (if ((b22.1.getD (Int.toNat y23) (Ty.z ty63)).2.1 != 2) = true then (k (-1) 11 ([] : List ty63.D)) else (if (0 : Int) ≤ y23 ∧ y23 < (b22.1.length : Int) then (if (b22.1.getD (Int.toNat y23) (Ty.z ty63)).2.2.1 = true then (k (-1) 11 ([] : List ty63.D)) else (verdererref14_Head_l1000019 n (b22.2.1, b22.2.2.1, b22.2.2.2.1, b22.2.2.2.2.1, b22.2.2.2.2.2.1, b22.2.2.2.2.2.2.1, b22.2.2.2.2.2.2.2.1, b22.2.2.2.2.2.2.2.2.2.2.2.1, ()) (fun b29 => k b29.1 b29.2.1 b29.2.2.1, fun b32 => k b32.1 b32.2.1 b32.2.2.1, ()))) else none)) else none))) else (verdererref14_Head_l1000019 n (b22.2.1, b22.2.2.1, b22.2.2.2.1, b22.2.2.2.2.1, b22.2.2.2.2.2.1, b22.2.2.2.2.2.2.1, b22.2.2.2.2.2.2.2.1, b22.2.2.2.2.2.2.2.2.2.2.2.1, ()) (fun b35 => k b35.1 b35.2.1 b35.2.2.1, fun b38 => k b38.1 b38.2.1 b38.2.2.1, ())), ())
      hd (hdF L) (fun i s => s.length = i) (fun i s => (L, (i : Int), kind, nm, hd, ag, of_, lim, bd, ([] : List ty82.D), ([] : List ty82.D), L, s, ())) (fun _ => k (-1) 12 []) (fun out => k (ofS L kind ag of_ out).1 (ofS L kind ag of_ out).2.1 (ofS L kind ag of_ out).2.2) (fun i hi s hI => ?_) (fun s hI k1 => ?_) (n := n) (by omega) (s0 := []) rfl
    · refine p.trans ?_
      cases foldL (hdF L) 0 [] hd <;> rfl
    · have step : ∀ (k1 : (verdererref14_Head_ds 7).D → Option R) (k2 : exK R (verdererref14_Head_dx 7)), verdererref14_Head_l7 n (L, (i : Int), kind, nm, hd, ag, of_, lim, bd, ([] : List ty82.D), ([] : List ty82.D), L, s, ()) k1 k2 = match hdF L i s hd[i] with
          | .inl s' => k1 (L, ((i + 1 : Nat) : Int), kind, nm, hd, ag, of_, lim, bd, ([] : List ty82.D), ([] : List ty82.D), L, s', ())
          | .inr _ => k2.1 (-1, 12, [], ()) := by
        intro k1 k2
        simp only [verdererref14_Head_l7, verdererref14_Head_s7, lt_nat, hi, in_nat hi, Int.toNat_natCast, getD_nat _ i hi, decide_true, if_true, wrap_succ i (by omega)]
        rw [refFnd2_F n _ _ _ L (by omega) hok, fndI_neg]
        unfold hdF
        by_cases h : fndC L hd[i] < L.length
        · rw [decide_eq_true h, if_neg (by decide), if_pos h, fndI_pos h, if_pos (by omega), if_pos (by simp only [List.length_cons, List.length_nil]; omega)]
          rfl
        · rw [decide_eq_false h, if_pos (by decide), if_neg h]
      cases hf2 : hdF L i s hd[i] with
      | inl s' => exact ⟨by rw [hd_len L i s s' _ hf2, hI], fun k1 => (step k1 _).trans (by rw [hf2])⟩
      | inr y => exact fun k1 => (step k1 _).trans (by rw [hf2])
    · have ho : s.length ≤ 1000000 := by omega
      simp only [verdererref14_Head_l7, verdererref14_Head_s7, lt_nat, Nat.lt_irrefl, decide_false, Bool.false_eq_true, if_false]
      unfold ofS
      by_cases h2 : 2 ≤ ag
      · rw [if_pos (decide_eq_true (show ag ≥ 2 from h2)), if_pos h2, refFnd2_F n _ _ _ L (by omega) hok, fndI_neg]
        by_cases h : fndC L of_ < L.length
        · rw [decide_eq_true h, if_neg (by decide), if_pos h, fndI_pos h]
          have g : (0 : Int) ≤ (fndC L of_ : Int) ∧ (fndC L of_ : Int) < (L.length : Int) := by omega
          have e : L.getD (fndC L of_) (Ty.z ty63) = L.getD (fndC L of_) zC := rfl
          simp only [g, and_self, if_true, Int.toNat_natCast, e]
          by_cases h3 : (L.getD (fndC L of_) zC).2.1 = 2
          · have b3 : ((L.getD (fndC L of_) zC).2.1 != 2) = false := by rw [bne_eq_false_iff_eq]; exact h3
            rw [if_neg (by rw [b3]; decide)]
            by_cases h4 : (L.getD (fndC L of_) zC).2.2.1 = true
            · rw [if_pos h4, if_pos (Or.inr h4)]
            · rw [if_neg h4, if_neg (by rintro (h | h); exact h h3; exact h4 h)]
              exact refTail_F n kind nm hd ag of_ lim bd s ho _ k (fun _ _ _ => rfl) (fun _ _ _ => rfl)
          · have b3 : ((L.getD (fndC L of_) zC).2.1 != 2) = true := bne_iff_ne.2 h3
            rw [if_pos b3, if_pos (Or.inl h3)]
        · rw [decide_eq_false h, if_pos (by decide), if_neg h]
      · rw [if_neg (fun h => h2 (of_decide_eq_true h)), if_neg h2]
        exact refTail_F n kind nm hd ag of_ lim bd s ho _ k (fun _ _ _ => rfl) (fun _ _ _ => rfl)
  · have b : ((varsS (colsV kinds views) x.2.2.2.2.2.2.1).2.1 != 0) = true := by simp [he]
    rw [if_pos b, if_pos he]
theorem head_len (cols : ByteArray → Int × Cols) (x : ty25.D) : (headS cols x).2.2.length ≤ x.2.2.1.length + 1 := by
  have ht : ∀ kind ag of_ (out : Cols), (tailS kind ag of_ out).2.2.length ≤ out.length + 1 := by
    intro kind ag of_ out
    unfold tailS
    split
    · simp
    · simp only []; split
      · simp
      · split <;> simp
  unfold headS
  split
  · simp
  · cases hf : foldL (hdF (varsS cols x.2.2.2.2.2.2.1).2.2) 0 [] x.2.2.1 with
    | inr _ => simp
    | inl out =>
      have hl := foldL_inv (f := hdF (varsS cols x.2.2.2.2.2.2.1).2.2) (I := fun i s => s.length = i) x.2.2.1 0 [] rfl (fun j hj s s' hI hh => by rw [hd_len _ _ _ _ _ hh, hI]) out hf
      simp only []
      unfold ofS
      split
      · split
        · split
          · simp
          · have := ht x.1 x.2.2.2.1 x.2.2.2.2.1 out; omega
        · simp
      · have := ht x.1 x.2.2.2.1 x.2.2.2.2.1 out; omega
theorem chk_cols {l : List ty82.D} (h : chkE l = 0) : l.length ≤ 8 ∧ ∀ x ∈ l, x.2.1.length ≤ 1000000 := by
  unfold chkE at h
  split at h
  · cases h
  · rename_i h8
    refine ⟨by omega, fun x hx => ?_⟩
    obtain ⟨i, hi, e⟩ := List.getElem_of_mem hx
    have hn : (List.range l.length).findSome? (schF l) = none := by
      cases hf : (List.range l.length).findSome? (schF l) with
      | none => rfl
      | some y =>
        rw [hf] at h
        obtain ⟨j, _, hj⟩ := List.exists_of_findSome?_eq_some hf
        exact absurd h (schF_ne l j y hj)
    have := List.findSome?_eq_none_iff.1 hn i (List.mem_range.2 hi)
    unfold schF at this
    rw [getD_nat l i hi, e] at this
    split at this
    · split at this
      · cases this
      · split at this
        · cases this
        · split at this
          · rename_i h0
            unfold colsE at h0
            split at h0
            · cases h0
            · omega
          · cases this
    · cases this
theorem kinds_T (n : Nat) (hm : 400000 ≤ n) (hM : n < 100000000) (hk : ∀ k2 : Bool → Option R, verdererlaw14_known_F n k2 = k2 true) (a0 : List ty82.D) (a1 : ByteArray) (k : Bool → Option R) : verdererlaw14_TypesKinds_F n a0 a1 k = k true := by
  rw [verdererlaw14_TypesKinds_e]
  unfold verdererlaw14_TypesKinds_Fi
  by_cases c1 : (a0.length : Int) > 20
  · rw [if_pos (decide_eq_true c1)]; exact hk k
  rw [if_neg (fun h => c1 (of_decide_eq_true h))]
  by_cases c2 : (a1.size : Int) > 1000
  · rw [if_pos (decide_eq_true c2)]; exact hk k
  rw [if_neg (fun h => c2 (of_decide_eq_true h)), rule_F n a1 (by omega), new_F n a0 (by omega)]
  obtain ⟨r1, r2, r3⟩ := rRule_rng a1
  generalize rRule a1 = r at r1 r2 r3 ⊢
  by_cases he : chkE a0 = 0
  · rw [if_pos he, if_neg (by decide)]
    obtain ⟨h8, hc⟩ := chk_cols he
    have okk : Okay n [] a0 := ⟨by omega, by omega, by simp; omega, hc⟩
    have hma : many r.2.2.2.2.2.2.2.2 ≤ 400 * 400 := by
      have : ∀ l : List ty41.D, (∀ a ∈ l, a.2.2.1.length ≤ 400) → many l ≤ 400 * l.length := by
        intro l h
        induction l with
        | nil => simp [many]
        | cons a l ih =>
          have h1 := ih fun b hb => h b (List.mem_cons_of_mem _ hb)
          have h2 := h a (by simp)
          unfold many at h1 ⊢
          simp only [List.map_cons, List.sum_cons, List.length_cons]
          omega
      have := this _ r3
      omega
    have ft : Fit n r.2.2.2.2.2.2.2.2 := ⟨by omega, by omega, by omega, by omega⟩
    rw [Head_F okk (r.1, r.2.1, r.2.2.2.2.2.2.2.1, r.2.2.1, r.2.2.2.1, r.2.2.2.2.1, r.2.2.2.2.2.2.2.2, ()) ft (by show 2 * many r.2.2.2.2.2.2.2.2 < n; omega) (by show r.2.2.2.2.2.2.2.1.length < n; omega) (by show r.2.2.2.2.2.2.2.1.length ≤ _; omega)]
    rw [refHead_F okk (r.1, r.2.1, r.2.2.2.2.2.2.2.1, r.2.2.1, r.2.2.2.1, r.2.2.2.2.1, r.2.2.2.2.2.2.2.2, ()) ft (by show 2 * many r.2.2.2.2.2.2.2.2 < n; omega) (by show r.2.2.2.2.2.2.2.1.length < n; omega) (by show r.2.2.2.2.2.2.2.1.length ≤ _; omega)]
    have hl := head_len (colsV a0 []) (r.1, r.2.1, r.2.2.2.2.2.2.2.1, r.2.2.1, r.2.2.2.1, r.2.2.2.2.1, r.2.2.2.2.2.2.2.2, ())
    change _ ≤ r.2.2.2.2.2.2.2.1.length + 1 at hl
    rw [refSame_F n _ (by omega) (by omega), if_pos rfl, if_pos (by simp), if_pos (by simp)]
    exact hk k
  · rw [if_neg he]
    have b : (chkE a0 != 0) = true := by simp [he]
    rw [if_pos b, refCheck_F n a0 (by omega), if_pos (by simp)]
    exact hk k
theorem TypesKinds_true (a0 : List ty82.D) (a1 : ByteArray) (w0 : Fine (.sl ty82) a0) (w1 : a1.size ≤ 140737488351232) : ∃ n, verdererlaw14_TypesKinds_F (R := Unit) n a0 a1 (fun b => bif b then some () else none) = some () :=
  ⟨500000, kinds_T 500000 (by omega) (by omega) (known14 499000) a0 a1 _⟩
end Go.Proofs.Ytikikmkfeeljgaa.E
