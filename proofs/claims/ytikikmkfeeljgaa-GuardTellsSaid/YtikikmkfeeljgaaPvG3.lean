/- The plain law of guard: the first that is asked; is a rule so; few; the law. -/
import Derived.Test.YtikikmkfeeljgaaPvG2
namespace Go.Proofs.Ytikikmkfeeljgaa.Pure
open Go.RowKit Go.Proofs.Ytikikmkfeeljgaa.G Go.Proofs.YtikikmkfeeljgaaW.PrintWords Go.Proofs.YtikikmkfeeljgaaW.PrintLast Go.Proofs.YtikikmkfeeljgaaW.PrintMore
set_option linter.unusedVariables false
set_option linter.unusedSimpArgs false
theorem missS_cons (b : List ByteArray) (v : ByteArray) (l : List ByteArray) : missS b (v :: l) = if hasS b v then missS b l else some v := rfl
theorem ev_free2 (b : List ByteArray) (hb : b.length ≤ 300000) (l : List S41) (i : Nat) (hi : i < 1000) (v : List ByteArray) (hv : v.length ≤ 10000) (R : ByteArray × Int × Bool)
  (hR : Ev (fun k => guard_Free.l1 k b ⟨#[]⟩ 0 false l (l.length : Int) ((i + 1 : Nat) : Int)) R) : ∀ (m j : Nat), m = v.length - j → j ≤ v.length →
  Ev (fun k => guard_Free.l2 k b ⟨#[]⟩ 0 false (i : Int) l (l.length : Int) (i : Int) v (v.length : Int) (j : Int)) (match missS b (v.drop j) with | some s => (s, (i : Int), true) | none => R) := by
 intro m
 induction m with
 | zero =>
  intro j hm hj
  have hz : j = v.length := by omega
  subst hz
  simp only [List.drop_length, missS]
  refine Ev.step (fun k => ?_) hR
  simp only [guard_Free.l2]
  rw [if_neg (by omega), wr1 i (by omega)]
 | succ m ih =>
  intro j hm hj
  have hlt : j < v.length := by omega
  have hd : v.drop j = v[j] :: v.drop (j + 1) := List.drop_eq_getElem_cons hlt
  rw [hd, missS_cons]
  have h2 := ih (j + 1) (by omega) (by omega)
  refine Ev.step (f := fun k => (slices_Contains_string_string.f k b v[j]).bind fun t => if t = true then guard_Free.l2 k b ⟨#[]⟩ 0 false (i : Int) l (l.length : Int) (i : Int) v (v.length : Int) ((j + 1 : Nat) : Int) else some (v[j], (i : Int), true)) (fun k => ?_) (Ev.bind (ev_contains b v[j] (by omega)) ?_)
  ·
   simp only [guard_Free.l2]
   rw [if_pos (by omega), if_pos (by omega), if_pos (by omega), rdOf_nat _ _ _ hlt, wr1 j (by omega)]
  ·
   cases hh : hasS b v[j] with
   | true => simpa using h2
   | false => simpa using Ev.now _
theorem ev_free1 (b : List ByteArray) (hb : b.length ≤ 300000) (l : List S41) (hl : l.length ≤ 41) (hx : ∀ x ∈ l, x.f2.length ≤ 5000) : ∀ (m i : Nat), m = l.length - i → i ≤ l.length →
  Ev (fun k => guard_Free.l1 k b ⟨#[]⟩ 0 false l (l.length : Int) (i : Int)) (scanS b (l.drop i) i) := by
 intro m
 induction m with
 | zero =>
  intro i hm hi
  have hz : i = l.length := by omega
  subst hz
  refine Ev.step (f := fun _ => some _) (fun k => ?_) (Ev.now _)
  simp only [guard_Free.l1]
  rw [if_neg (by omega)]
  simp [scanS]
 | succ m ih =>
  intro i hm hi
  have hlt : i < l.length := by omega
  have hd : l.drop i = l[i] :: l.drop (i + 1) := List.drop_eq_getElem_cons hlt
  have hxl := hx l[i] (List.getElem_mem hlt)
  have h2 := ih (i + 1) (by omega) (by omega)
  rw [hd, scanS]
  cases hbi : bindsB l[i] with
  | true =>
   rw [if_pos rfl]
   refine Ev.step (fun k => ?_) h2
   simp only [guard_Free.l1]
   rw [if_pos (by omega), if_pos (by omega), if_pos (by omega), rd41_nat _ _ hlt, binds_ev, hbi, wr1 i (by omega)]
   rfl
  | false =>
   rw [if_neg (by decide)]
   refine Ev.step (f := fun k => (guard_vars.f k (l[i]).f0 (l[i]).f1 (l[i]).f2 (l[i]).f3).bind fun v => guard_Free.l2 k b ⟨#[]⟩ 0 false (i : Int) l (l.length : Int) (i : Int) v (v.length : Int) 0) (fun k => ?_) (Ev.bind (ev_varsf (l[i]).f0 (l[i]).f1 (l[i]).f2 (l[i]).f3 (by omega)) ?_)
   ·
    simp only [guard_Free.l1]
    rw [if_pos (by omega), if_pos (by omega), if_pos (by omega), rd41_nat _ _ hlt, binds_ev, hbi]
    rfl
   ·
    have hvl := varsS_len (l[i]).f2
    have h3 := ev_free2 b hb l i (by omega) (varsS (l[i]).f2) (by omega) _ h2 _ 0 rfl (by omega)
    rw [List.drop_zero] at h3
    exact h3
section
variable (a0 : Int) (a1 : ByteArray) (a2 : List ByteArray) (a3 : Int) (a4 : ByteArray) (a5 : Int)
theorem ev_free0 (b : List ByteArray) (hb : b.length ≤ 300000) (l : List S41) (hl : l.length ≤ 41) (hx : ∀ x ∈ l, x.f2.length ≤ 5000) (v : List ByteArray) (hv : v.length ≤ 10000) : ∀ (m j : Nat), m = v.length - j → j ≤ v.length →
  Ev (fun k => guard_Free.l0 k b v (v.length : Int) (j : Int) a0 a1 a2 a3 a4 a5 l) (match missS b (v.drop j) with | some s => (s, -1, true) | none => scanS b l 0) := by
 intro m
 induction m with
 | zero =>
  intro j hm hj
  have hz : j = v.length := by omega
  subst hz
  simp only [List.drop_length, missS]
  have h2 := ev_free1 b hb l hl hx l.length 0 (by simp) (by simp)
  rw [List.drop_zero] at h2
  refine Ev.step (fun k => ?_) h2
  simp only [guard_Free.l0]
  rw [if_neg (by omega)]
  rfl
 | succ m ih =>
  intro j hm hj
  have hlt : j < v.length := by omega
  have hd : v.drop j = v[j] :: v.drop (j + 1) := List.drop_eq_getElem_cons hlt
  rw [hd, missS_cons]
  have h2 := ih (j + 1) (by omega) (by omega)
  refine Ev.step (f := fun k => (slices_Contains_string_string.f k b v[j]).bind fun t => if t = true then guard_Free.l0 k b v (v.length : Int) ((j + 1 : Nat) : Int) a0 a1 a2 a3 a4 a5 l else some (v[j], -1, true)) (fun k => ?_) (Ev.bind (ev_contains b v[j] (by omega)) ?_)
  ·
   simp only [guard_Free.l0]
   rw [if_pos (by omega), if_pos (by omega), if_pos (by omega), rdOf_nat _ _ _ hlt, wr1 j (by omega)]
  ·
   cases hh : hasS b v[j] with
   | true => simpa using h2
   | false => simpa using Ev.now _
theorem told_eq (h2 : a2.length ≤ 900) (l : List S41) : guard_told.f a0 a1 a2 a3 a4 a5 l = some (toldS a2 a3 a4) := by
 unfold guard_told.f slices_Clone_string_string.f toldS
 rw [if_pos (by omega)]
 simp only [Option.bind_some, ge_iff_le, show a2.length < 8796093022208 by omega, if_true]
 by_cases h3 : 2 ≤ a3 <;> by_cases h4 : a3 ≤ 4 <;> simp [h3, h4]
theorem toldS_len (h2 : a2.length ≤ 900) : (toldS a2 a3 a4).length ≤ 1000 := by unfold toldS; split <;> simp <;> omega
theorem ev_free (l : List S41) (h2 : a2.length ≤ 900) (hl : l.length ≤ 41) (hx : ∀ x ∈ l, x.f2.length ≤ 5000) : Ev (fun k => guard_Free.f k a0 a1 a2 a3 a4 a5 l) (freeS a2 a3 a4 l) := by
 have hbl := boundS_len l hl hx
 refine Ev.bind (ev_bound a0 a1 a2 a3 a4 a5 l hl hx) ?_
 refine Ev.congr (f := fun k => guard_Free.l0 k (boundS l) (toldS a2 a3 a4) ((toldS a2 a3 a4).length : Int) 0 a0 a1 a2 a3 a4 a5 l) (fun k => by rw [told_eq a0 a1 a2 a3 a4 a5 h2 l]; rfl) ?_
 have h3 := ev_free0 a0 a1 a2 a3 a4 a5 (boundS l) (by omega) l (by omega) (fun x hm => by have := hx x hm; omega) (toldS a2 a3 a4) (by have := toldS_len a2 a3 a4 h2; omega) _ 0 rfl (by omega)
 rw [List.drop_zero] at h3
 exact h3
/-! the document's -/
theorem ev_rfree2 (b : List ByteArray) (hb : b.length ≤ 300000) (l : List S41) (hl : l.length ≤ 41) (i : Nat) (hi : i < l.length) (hv : (l[i]).f2.length ≤ 5000) (hbi : bindsB l[i] = false) (R : ByteArray × Int × Bool)
  (hR : Ev (fun k => verdererref15_Free.l1 k b ((i + 1 : Nat) : Int) a0 a1 a2 a3 a4 a5 l) R) : ∀ (m j : Nat), m = (l[i]).f2.length - j → j ≤ (l[i]).f2.length →
  Ev (fun k => verdererref15_Free.l2 k b (i : Int) (j : Int) a0 a1 a2 a3 a4 a5 l) (match missS b (varsS ((l[i]).f2.drop j)) with | some s => (s, (i : Int), true) | none => R) := by
 intro m
 induction m with
 | zero =>
  intro j hm hj
  have hz : j = (l[i]).f2.length := by omega
  subst hz
  have e : missS b (varsS ((l[i]).f2.drop (l[i]).f2.length)) = none := by simp [varsS, missS]
  rw [e]
  refine Ev.step (f := fun k => verdererref15_Free.j4 k b (i : Int) (((l[i]).f2.length : Nat) : Int) false a0 a1 a2 a3 a4 a5 l) (fun k => ?_) (Ev.step (fun k => ?_) hR)
  ·
   simp only [verdererref15_Free.l2]
   rw [if_pos (by omega), if_pos (by omega), rd41_nat _ _ hi, if_neg (by omega)]
  ·
   simp only [verdererref15_Free.j4]
   rw [if_neg (by decide), wr1 i (by omega)]
 | succ m ih =>
  intro j hm hj
  have hlt : j < (l[i]).f2.length := by omega
  have hd : (l[i]).f2.drop j = (l[i]).f2[j] :: (l[i]).f2.drop (j + 1) := List.drop_eq_getElem_cons hlt
  have h2 := ih (j + 1) (by omega) (by omega)
  rw [hd, varsS_cons]
  refine Ev.step (f := fun k => verdererref15_Free.j4 k b (i : Int) (j : Int) true a0 a1 a2 a3 a4 a5 l) (fun k => ?_) ?_
  ·
   simp only [verdererref15_Free.l2]
   rw [if_pos (by omega), if_pos (by omega), rd41_nat _ _ hi, if_pos (by omega), atom_ev, hbi]
   rfl
  ·
   by_cases h1 : ((l[i]).f2[j]).f1 = true
   ·
    have hv1 : varOk (l[i]).f2[j] = false := by simp [varOk, h1]
    rw [hv1]
    refine Ev.step (fun k => ?_) (show Ev _ _ from by simpa using h2)
    simp only [verdererref15_Free.j4]
    rw [if_pos trivial, if_pos (by omega), if_pos (by omega), if_pos (by omega), rd41_nat _ _ hi, if_pos (by omega), rd38_nat _ _ hlt, if_pos h1, wr1 j (by omega)]
    rfl
   ·
    by_cases h3 : ((l[i]).f2[j]).f0.toList = []
    ·
     have hv1 : varOk (l[i]).f2[j] = false := by simp [varOk, h3]
     rw [hv1]
     refine Ev.step (fun k => ?_) (show Ev _ _ from by simpa using h2)
     simp only [verdererref15_Free.j4]
     rw [if_pos trivial, if_pos (by omega), if_pos (by omega), if_pos (by omega), rd41_nat _ _ hi, if_pos (by omega), rd38_nat _ _ hlt, if_neg h1, if_pos h3, wr1 j (by omega)]
     rfl
    ·
     have hv1 : varOk (l[i]).f2[j] = true := by simp [varOk, h1, h3]
     rw [hv1]
     refine Ev.step (f := fun k => (verdererref15_has.f k b ((l[i]).f2[j]).f0).bind fun t => if t = true then verdererref15_Free.l2 k b (i : Int) ((j + 1 : Nat) : Int) a0 a1 a2 a3 a4 a5 l else some (((l[i]).f2[j]).f0, (i : Int), true)) (fun k => ?_) (Ev.bind (ev_has b ((l[i]).f2[j]).f0 (by omega)) ?_)
     ·
      simp only [verdererref15_Free.j4]
      rw [if_pos trivial, if_pos (by omega), if_pos (by omega), if_pos (by omega), rd41_nat _ _ hi, if_pos (by omega), rd38_nat _ _ hlt, if_neg h1, if_neg h3, wr1 j (by omega)]
     ·
      rw [if_pos rfl, List.singleton_append, missS_cons]
      cases hh : hasS b ((l[i]).f2[j]).f0 with
      | true => simpa using h2
      | false => simpa using Ev.now _
theorem ev_rfree1 (b : List ByteArray) (hb : b.length ≤ 300000) (l : List S41) (hl : l.length ≤ 41) (hx : ∀ x ∈ l, x.f2.length ≤ 5000) : ∀ (m i : Nat), m = l.length - i → i ≤ l.length →
  Ev (fun k => verdererref15_Free.l1 k b (i : Int) a0 a1 a2 a3 a4 a5 l) (scanS b (l.drop i) i) := by
 intro m
 induction m with
 | zero =>
  intro i hm hi
  have hz : i = l.length := by omega
  subst hz
  refine Ev.step (f := fun _ => some _) (fun k => ?_) (Ev.now _)
  simp only [verdererref15_Free.l1]
  rw [if_neg (by omega)]
  simp [scanS]
 | succ m ih =>
  intro i hm hi
  have hlt : i < l.length := by omega
  have hd : l.drop i = l[i] :: l.drop (i + 1) := List.drop_eq_getElem_cons hlt
  have hxl := hx l[i] (List.getElem_mem hlt)
  have h2 := ih (i + 1) (by omega) (by omega)
  rw [hd, scanS]
  refine Ev.step (f := fun k => verdererref15_Free.l2 k b (i : Int) ((0 : Nat) : Int) a0 a1 a2 a3 a4 a5 l) (fun k => ?_) ?_
  ·
   simp only [verdererref15_Free.l1]
   rw [if_pos (by omega)]
   rfl
  ·
   cases hbi : bindsB l[i] with
   | true =>
    rw [if_pos rfl]
    refine Ev.step (f := fun k => verdererref15_Free.j4 k b (i : Int) ((0 : Nat) : Int) false a0 a1 a2 a3 a4 a5 l) (fun k => ?_) (Ev.step (fun k => ?_) h2)
    ·
     simp only [verdererref15_Free.l2]
     rw [if_pos (by omega), if_pos (by omega), rd41_nat _ _ hlt]
     split
     · rw [atom_ev, hbi]; rfl
     · rfl
    ·
     simp only [verdererref15_Free.j4]
     rw [if_neg (by decide), wr1 i (by omega)]
   | false =>
    rw [if_neg (by decide)]
    have h3 := ev_rfree2 a0 a1 a2 a3 a4 a5 b hb l hl i hlt hxl hbi _ h2 _ 0 rfl (by omega)
    rw [List.drop_zero] at h3
    exact h3
theorem ev_rfree0 (b : List ByteArray) (hb : b.length ≤ 300000) (l : List S41) (hl : l.length ≤ 41) (hx : ∀ x ∈ l, x.f2.length ≤ 5000) (h2 : a2.length ≤ 900) : ∀ (m j : Nat), m = a2.length - j → j ≤ a2.length →
  Ev (fun k => verdererref15_Free.l0 k b (j : Int) a0 a1 a2 a3 a4 a5 l) (match missS b (a2.drop j ++ (if 2 ≤ a3 ∧ a3 ≤ 4 then [a4] else [])) with | some s => (s, -1, true) | none => scanS b l 0) := by
 intro m
 have hs := ev_rfree1 a0 a1 a2 a3 a4 a5 b hb l hl hx l.length 0 (by simp) (by simp)
 rw [List.drop_zero] at hs
 induction m with
 | zero =>
  intro j hm hj
  have hz : j = a2.length := by omega
  subst hz
  rw [List.drop_length, List.nil_append]
  by_cases hag : 2 ≤ a3 ∧ a3 ≤ 4
  ·
   rw [if_pos hag, missS_cons]
   refine Ev.step (f := fun k => (verdererref15_has.f k b a4).bind fun t => verdererref15_Free.j1 k b (!t) a0 a1 a2 a3 a4 a5 l) (fun k => ?_) (Ev.bind (ev_has b a4 (by omega)) ?_)
   ·
    simp only [verdererref15_Free.l0]
    rw [if_neg (by omega), if_pos (by omega), if_pos (by omega)]
   ·
    cases hh : hasS b a4 with
    | true =>
     refine Ev.step (fun k => ?_) (by simpa [missS] using hs)
     simp only [verdererref15_Free.j1]
     rfl
    | false =>
     refine Ev.step (f := fun _ => some _) (fun k => ?_) (Ev.now _)
     simp only [verdererref15_Free.j1]
     rfl
  ·
   rw [if_neg hag]
   refine Ev.step (f := fun k => verdererref15_Free.j1 k b false a0 a1 a2 a3 a4 a5 l) (fun k => ?_) (Ev.step (fun k => ?_) (by simpa [missS] using hs))
   ·
    simp only [verdererref15_Free.l0]
    rw [if_neg (by omega)]
    by_cases h3 : a3 ≥ 2
    · rw [if_pos h3, if_neg (by omega)]
    · rw [if_neg h3]
   ·
    simp only [verdererref15_Free.j1]
    rfl
 | succ m ih =>
  intro j hm hj
  have hlt : j < a2.length := by omega
  have hd : a2.drop j = a2[j] :: a2.drop (j + 1) := List.drop_eq_getElem_cons hlt
  rw [hd, List.cons_append, missS_cons]
  have h3 := ih (j + 1) (by omega) (by omega)
  refine Ev.step (f := fun k => (verdererref15_has.f k b a2[j]).bind fun t => if t = true then verdererref15_Free.l0 k b ((j + 1 : Nat) : Int) a0 a1 a2 a3 a4 a5 l else some (a2[j], -1, true)) (fun k => ?_) (Ev.bind (ev_has b a2[j] (by omega)) ?_)
  ·
   simp only [verdererref15_Free.l0]
   rw [if_pos (by omega), if_pos (by omega), rdOf_nat _ _ _ hlt, wr1 j (by omega)]
  ·
   cases hh : hasS b a2[j] with
   | true => simpa using h3
   | false => simpa using Ev.now _
theorem ev_rfree (l : List S41) (h2 : a2.length ≤ 900) (hl : l.length ≤ 41) (hx : ∀ x ∈ l, x.f2.length ≤ 5000) : Ev (fun k => verdererref15_Free.f k a0 a1 a2 a3 a4 a5 l) (freeS a2 a3 a4 l) := by
 have hbl := boundS_len l hl hx
 refine Ev.bind (ev_rbound a0 a1 a2 a3 a4 a5 l hl hx) ?_
 have h3 := ev_rfree0 a0 a1 a2 a3 a4 a5 (boundS l) (by omega) l hl hx h2 _ 0 rfl (by omega)
 rw [List.drop_zero] at h3
 exact h3
end
end Go.Proofs.Ytikikmkfeeljgaa.Pure
