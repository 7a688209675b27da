/- The plain law of guard: few, has, bound. -/
import Derived.Test.YtikikmkfeeljgaaGx
namespace Go.Proofs.Ytikikmkfeeljgaa.Pure
open Go.RowKit Go.Proofs.Ytikikmkfeeljgaa.G Go.Proofs.YtikikmkfeeljgaaW.PrintWords Go.Proofs.YtikikmkfeeljgaaW.PrintLast Go.Proofs.YtikikmkfeeljgaaW.PrintMore
set_option linter.unusedVariables false
set_option linter.unusedSimpArgs false
theorem wr1 (i : Nat) (h : i < 1000000000000) : wrap64 ((i : Int) + 1) = ((i + 1 : Nat) : Int) := by unfold wrap64; omega
theorem rdOf_nat {α : Type} (z : α) (l : List α) (i : Nat) (h : i < l.length) : rdOf z l (i : Int) = l[i] := by unfold rdOf; simp [List.getD_eq_getElem?_getD, h]
theorem rd41_nat (l : List S41) (i : Nat) (h : i < l.length) : rd_T41 l (i : Int) = l[i] := by unfold rd_T41; simp [List.getD_eq_getElem?_getD, h]
theorem rd38_nat (l : List S38) (i : Nat) (h : i < l.length) : rd_T38 l (i : Int) = l[i] := by unfold rd_T38; simp [List.getD_eq_getElem?_getD, h]
theorem size_toList (s : ByteArray) : s.toList = s.data.toList := by
 cases s with | mk d => simp [ByteArray.toList_eq]
theorem ba_ext {s t : ByteArray} (h : s.toList = t.toList) : s = t := by
 rw [size_toList, size_toList] at h
 cases s; cases t
 simp at h
 rw [h]
def hasS (l : List ByteArray) (s : ByteArray) : Bool := l.any (fun x => decide (x = s))
theorem hasS_cons (x : ByteArray) (l : List ByteArray) (s : ByteArray) : hasS (x :: l) s = (decide (x = s) || hasS l s) := rfl
theorem ev_index (l : List ByteArray) (s : ByteArray) (hl : l.length ≤ 1000000) : ∀ (m i : Nat), m = l.length - i → i ≤ l.length →
  ∃ n : Int, Ev (fun k => slices_Index_string_string.l0 k l s (l.length : Int) (i : Int)) n ∧ (decide (n ≥ 0)) = hasS (l.drop i) s := by
 intro m
 induction m with
 | zero =>
  intro i hm hi
  have hz : i = l.length := by omega
  subst hz
  refine ⟨-1, Ev.step (f := fun _ => some (-1)) (fun k => ?_) (Ev.now _), by simp [hasS]⟩
  simp only [slices_Index_string_string.l0]
  rw [if_neg (by omega)]
 | succ m ih =>
  intro i hm hi
  have hlt : i < l.length := by omega
  have hd : l.drop i = l[i] :: l.drop (i + 1) := List.drop_eq_getElem_cons hlt
  by_cases hx : s.toList = (l[i]).toList
  ·
   refine ⟨i, Ev.step (f := fun _ => some (i : Int)) (fun k => ?_) (Ev.now _), ?_⟩
   ·
    simp only [slices_Index_string_string.l0]
    rw [if_pos (by omega), if_pos (by omega), if_pos (by omega), rdOf_nat _ _ _ hlt, if_pos hx]
   ·
    have : l[i] = s := ba_ext hx.symm
    rw [hd, hasS_cons, decide_eq_true this, Bool.true_or]
    simp
  ·
   obtain ⟨n, he, hn⟩ := ih (i + 1) (by omega) (by omega)
   refine ⟨n, Ev.step (fun k => ?_) he, ?_⟩
   ·
    simp only [slices_Index_string_string.l0]
    rw [if_pos (by omega), if_pos (by omega), if_pos (by omega), rdOf_nat _ _ _ hlt, if_neg hx, wr1 i (by omega)]
   ·
    have : ¬ l[i] = s := fun h => hx (by rw [h])
    rw [hn, hd, hasS_cons, decide_eq_false this, Bool.false_or]
theorem ev_contains (l : List ByteArray) (s : ByteArray) (hl : l.length ≤ 1000000) : Ev (fun k => slices_Contains_string_string.f k l s) (hasS l s) := by
 obtain ⟨n, he, hn⟩ := ev_index l s hl l.length 0 (by simp) (by simp)
 rw [List.drop_zero] at hn
 rw [← hn]
 exact Ev.bind he (Ev.now _)
theorem ev_has (l : List ByteArray) (s : ByteArray) (hl : l.length ≤ 1000000) : Ev (fun k => verdererref15_has.f k l s) (hasS l s) := by
 have key : ∀ (m i : Nat), m = l.length - i → i ≤ l.length → Ev (fun k => verdererref15_has.l0 k l s (i : Int)) (hasS (l.drop i) s) := by
  intro m
  induction m with
  | zero =>
   intro i hm hi
   have hz : i = l.length := by omega
   subst hz
   refine Ev.step (f := fun _ => some _) (fun k => ?_) (Ev.now _)
   simp only [verdererref15_has.l0]
   rw [if_neg (by omega)]
   simp [hasS]
  | succ m ih =>
   intro i hm hi
   have hlt : i < l.length := by omega
   have hd : l.drop i = l[i] :: l.drop (i + 1) := List.drop_eq_getElem_cons hlt
   by_cases hx : (l[i]).toList = s.toList
   ·
    refine Ev.step (f := fun _ => some _) (fun k => ?_) (Ev.now _)
    simp only [verdererref15_has.l0]
    have : l[i] = s := ba_ext hx
    rw [if_pos (by omega), if_pos (by omega), rdOf_nat _ _ _ hlt, if_pos hx, hd, hasS_cons, decide_eq_true this, Bool.true_or]
   ·
    refine Ev.step (f := fun k => verdererref15_has.l0 k l s ((i + 1 : Nat) : Int)) (fun k => ?_) ?_
    ·
     simp only [verdererref15_has.l0]
     rw [if_pos (by omega), if_pos (by omega), rdOf_nat _ _ _ hlt, if_neg hx, wr1 i (by omega)]
    ·
     have h2 := ih (i + 1) (by omega) (by omega)
     have : ¬ l[i] = s := fun h => hx (by rw [h])
     rw [hd, hasS_cons, decide_eq_false this, Bool.false_or]
     exact h2
 have h3 := key l.length 0 (by simp) (by simp)
 rw [List.drop_zero] at h3
 exact h3
/-! ### the variables of a literal -/
def varOk (t : S38) : Bool := !t.f1 && decide (t.f0.toList ≠ [])
def varsS (l : List S38) : List ByteArray := (l.filter varOk).map (·.f0)
theorem varsS_cons (t : S38) (l : List S38) : varsS (t :: l) = (if varOk t then [t.f0] else []) ++ varsS l := by
 unfold varsS; by_cases h : varOk t <;> simp [List.filter_cons, h]
theorem varsS_len (l : List S38) : (varsS l).length ≤ l.length := by unfold varsS; simpa using List.length_filter_le _ _
theorem ev_vars (l : List S38) (hl : l.length ≤ 10000) : ∀ (m i : Nat) (acc : List ByteArray), m = l.length - i → i ≤ l.length → acc.length ≤ i →
  Ev (fun k => guard_vars.l0 k acc l (l.length : Int) (i : Int)) (acc ++ varsS (l.drop i)) := by
 intro m
 induction m with
 | zero =>
  intro i acc hm hi ha
  have hz : i = l.length := by omega
  subst hz
  refine Ev.step (f := fun _ => some _) (fun k => ?_) (Ev.now _)
  simp only [guard_vars.l0]
  rw [if_neg (by omega)]
  simp [varsS]
 | succ m ih =>
  intro i acc hm hi ha
  have hlt : i < l.length := by omega
  have hd : l.drop i = l[i] :: l.drop (i + 1) := List.drop_eq_getElem_cons hlt
  rw [hd, varsS_cons]
  by_cases h1 : (l[i]).f1 = true
  ·
   have h2 := ih (i + 1) acc (by omega) (by omega) (by omega)
   refine Ev.step (fun k => ?_) (by simpa [varOk, h1] using h2)
   simp only [guard_vars.l0]
   rw [if_pos (by omega), if_pos (by omega), if_pos (by omega), rd38_nat _ _ hlt, if_pos h1, wr1 i (by omega)]
   rfl
  ·
   by_cases h3 : (l[i]).f0.toList = []
   ·
    have h2 := ih (i + 1) acc (by omega) (by omega) (by omega)
    refine Ev.step (fun k => ?_) (by simpa [varOk, h3] using h2)
    simp only [guard_vars.l0]
    rw [if_pos (by omega), if_pos (by omega), if_pos (by omega), rd38_nat _ _ hlt, if_neg h1, if_pos h3, wr1 i (by omega)]
    rfl
   ·
    have h2 := ih (i + 1) (acc ++ [(l[i]).f0]) (by omega) (by omega) (by simp; omega)
    refine Ev.step (fun k => ?_) (by simpa [varOk, h1, h3] using h2)
    simp only [guard_vars.l0]
    rw [if_pos (by omega), if_pos (by omega), if_pos (by omega), rd38_nat _ _ hlt, if_neg h1, if_neg h3, if_pos (by omega), wr1 i (by omega)]
    rfl
theorem ev_varsf (a : Bool) (b : ByteArray) (l : List S38) (c : Int) (hl : l.length ≤ 10000) : Ev (fun k => guard_vars.f k a b l c) (varsS l) := by
 have h := ev_vars l hl l.length 0 [] (by simp) (by simp) (by simp)
 rw [List.drop_zero, List.nil_append] at h
 exact h
/-! ### what atoms bind -/
def addS (acc : List ByteArray) (v : ByteArray) : List ByteArray := if hasS acc v then acc else acc ++ [v]
def stepS (acc : List ByteArray) (x : S41) : List ByteArray := if bindsB x then (varsS x.f2).foldl addS acc else acc
theorem addS_len (acc : List ByteArray) (v : ByteArray) : (addS acc v).length ≤ acc.length + 1 := by unfold addS; split <;> simp
theorem foldS_len : ∀ (l acc : List ByteArray), (l.foldl addS acc).length ≤ acc.length + l.length
 | [], acc => by simp
 | v :: l, acc => by
  have h1 := foldS_len l (addS acc v)
  have h2 := addS_len acc v
  simp only [List.foldl_cons, List.length_cons]
  omega
theorem stepS_len (acc : List ByteArray) (x : S41) (hx : x.f2.length ≤ 5000) : (stepS acc x).length ≤ acc.length + 5000 := by
 unfold stepS
 split
 ·
  have h1 := foldS_len (varsS x.f2) acc
  have h2 := varsS_len x.f2
  omega
 · omega
theorem binds_ev (x : S41) : guard_binds.f x.f0 x.f1 x.f2 x.f3 = some (bindsB x) := binds_eq x
theorem ev_bound1 (l : List S41) (n : Nat) (hl : l.length ≤ 41) (i : Nat) (hi : i < l.length) (R : List ByteArray) : ∀ (v : List ByteArray) (hv : v.length ≤ 5000) (m j : Nat) (acc : List ByteArray), m = v.length - j → j ≤ v.length → acc.length ≤ 300000 + j →
  (∀ acc', acc' = (v.drop j).foldl addS acc → Ev (fun k => guard_Bound.l0 k acc' l (l.length : Int) ((i + 1 : Nat) : Int)) R) →
  Ev (fun k => guard_Bound.l1 k acc l (l.length : Int) (i : Int) v (v.length : Int) (j : Int)) R := by
 intro v hv m
 induction m with
 | zero =>
  intro j acc hm hj ha hR
  have hz : j = v.length := by omega
  subst hz
  refine Ev.step (fun k => ?_) (hR acc (by simp))
  simp only [guard_Bound.l1]
  rw [if_neg (by omega), wr1 i (by omega)]
 | succ m ih =>
  intro j acc hm hj ha hR
  have hlt : j < v.length := by omega
  have hd : v.drop j = v[j] :: v.drop (j + 1) := List.drop_eq_getElem_cons hlt
  rw [hd] at hR
  have hlen := addS_len acc v[j]
  have h2 := ih (j + 1) (addS acc v[j]) (by omega) (by omega) (by omega) (fun acc' h => hR acc' (by rw [h]; rfl))
  refine Ev.step (f := fun k => (slices_Contains_string_string.f k acc v[j]).bind fun t => if t = true then guard_Bound.l1 k acc l (l.length : Int) (i : Int) v (v.length : Int) ((j + 1 : Nat) : Int) else guard_Bound.l1 k (acc ++ [v[j]]) l (l.length : Int) (i : Int) v (v.length : Int) ((j + 1 : Nat) : Int)) (fun k => ?_) (Ev.bind (ev_contains acc v[j] (by omega)) ?_)
  ·
   simp only [guard_Bound.l1]
   rw [if_pos (by omega), if_pos (by omega), if_pos (by omega), rdOf_nat _ _ _ hlt, wr1 j (by omega)]
   simp only [show acc.length < 8796093022208 by omega, if_true]
  ·
   unfold addS at h2
   cases hh : hasS acc v[j] with
   | true => rw [hh] at h2; simpa using h2
   | false => rw [hh] at h2; simpa using h2
theorem ev_bound0 (l : List S41) (hl : l.length ≤ 41) (hx : ∀ x ∈ l, x.f2.length ≤ 5000) : ∀ (m i : Nat) (acc : List ByteArray), m = l.length - i → i ≤ l.length → acc.length ≤ 5000 * i →
  Ev (fun k => guard_Bound.l0 k acc l (l.length : Int) (i : Int)) ((l.drop i).foldl stepS acc) := by
 intro m
 induction m with
 | zero =>
  intro i acc hm hi ha
  have hz : i = l.length := by omega
  subst hz
  refine Ev.step (f := fun _ => some _) (fun k => ?_) (Ev.now _)
  simp only [guard_Bound.l0]
  rw [if_neg (by omega)]
  simp
 | succ m ih =>
  intro i acc hm hi ha
  have hlt : i < l.length := by omega
  have hd : l.drop i = l[i] :: l.drop (i + 1) := List.drop_eq_getElem_cons hlt
  have hxl := hx l[i] (List.getElem_mem hlt)
  rw [hd, List.foldl_cons]
  have hlen := stepS_len acc l[i] hxl
  have h2 := ih (i + 1) (stepS acc l[i]) (by omega) (by omega) (by omega)
  cases hb : bindsB l[i] with
  | true =>
   refine Ev.step (f := fun k => (guard_vars.f k (l[i]).f0 (l[i]).f1 (l[i]).f2 (l[i]).f3).bind fun v => guard_Bound.l1 k acc l (l.length : Int) (i : Int) v (v.length : Int) 0) (fun k => ?_) (Ev.bind (ev_varsf (l[i]).f0 (l[i]).f1 (l[i]).f2 (l[i]).f3 (by omega)) ?_)
   ·
    simp only [guard_Bound.l0]
    rw [if_pos (by omega), if_pos (by omega), if_pos (by omega), rd41_nat _ _ hlt, binds_ev, hb]
    rfl
   ·
    have hvl := varsS_len (l[i]).f2
    refine ev_bound1 l 0 hl i hlt _ _ (by omega) _ 0 acc rfl (by omega) (by omega) (fun acc' h => ?_)
    rw [h, List.drop_zero]
    have : stepS acc l[i] = (varsS (l[i]).f2).foldl addS acc := by unfold stepS; rw [hb]; rfl
    rw [← this]
    exact h2
  | false =>
   have : stepS acc l[i] = acc := by unfold stepS; rw [hb]; rfl
   rw [this] at h2 ⊢
   refine Ev.step (fun k => ?_) h2
   simp only [guard_Bound.l0]
   rw [if_pos (by omega), if_pos (by omega), if_pos (by omega), rd41_nat _ _ hlt, binds_ev, hb, wr1 i (by omega)]
   rfl
def boundS (l : List S41) : List ByteArray := l.foldl stepS []
end Go.Proofs.Ytikikmkfeeljgaa.Pure
