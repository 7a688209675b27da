/- The plain law of guard: what the document binds, and asks. -/
import Derived.Test.YtikikmkfeeljgaaPvG1
namespace Go.Proofs.Ytikikmkfeeljgaa.Pure
open Go.RowKit Go.Proofs.Ytikikmkfeeljgaa.G Go.Proofs.YtikikmkfeeljgaaW.PrintWords Go.Proofs.YtikikmkfeeljgaaW.PrintLast Go.Proofs.YtikikmkfeeljgaaW.PrintMore
set_option linter.unusedVariables false
set_option linter.unusedSimpArgs false
theorem ev_bound (a0 : Int) (a1 : ByteArray) (a2 : List ByteArray) (a3 : Int) (a4 : ByteArray) (a5 : Int) (l : List S41) (hl : l.length ≤ 41) (hx : ∀ x ∈ l, x.f2.length ≤ 5000) : Ev (fun k => guard_Bound.f k a0 a1 a2 a3 a4 a5 l) (boundS l) := by
 have h := ev_bound0 l hl hx l.length 0 [] (by simp) (by simp) (by simp)
 rw [List.drop_zero] at h
 exact h
theorem atom_ev (x : S41) : verdererref15_atom.f x.f0 x.f1 x.f2 x.f3 = some (bindsB x) := by unfold verdererref15_atom.f bindsB; split <;> rfl
theorem foldS_cons (t : S38) (l : List S38) (acc : List ByteArray) : (varsS (t :: l)).foldl addS acc = (varsS l).foldl addS (if varOk t then addS acc t.f0 else acc) := by
 rw [varsS_cons]
 by_cases h : varOk t <;> simp [h]
section
variable (a0 : Int) (a1 : ByteArray) (a2 : List ByteArray) (a3 : Int) (a4 : ByteArray) (a5 : Int)
theorem ev_rbound1 (l : List S41) (hl : l.length ≤ 41) (i : Nat) (hi : i < l.length) (hv : (l[i]).f2.length ≤ 5000) (R : List ByteArray) : ∀ (m j : Nat) (acc : List ByteArray), m = (l[i]).f2.length - j → j ≤ (l[i]).f2.length → acc.length ≤ 300000 + j → bindsB l[i] = true →
  (∀ acc', acc' = (varsS ((l[i]).f2.drop j)).foldl addS acc → Ev (fun k => verdererref15_Bound.l0 k acc' ((i + 1 : Nat) : Int) a0 a1 a2 a3 a4 a5 l) R) →
  Ev (fun k => verdererref15_Bound.l1 k acc (i : Int) (j : Int) a0 a1 a2 a3 a4 a5 l) R := by
 intro m
 induction m with
 | zero =>
  intro j acc hm hj ha hb hR
  have hz : j = (l[i]).f2.length := by omega
  subst hz
  have h2 := hR acc (by simp [varsS])
  refine Ev.step (f := fun k => verdererref15_Bound.j2 k acc (i : Int) (((l[i]).f2.length : Nat) : Int) false a0 a1 a2 a3 a4 a5 l) (fun k => ?_) (Ev.step (fun k => ?_) h2)
  ·
   simp only [verdererref15_Bound.l1]
   rw [if_pos (by omega), if_pos (by omega), rd41_nat _ _ hi, if_neg (by omega)]
  ·
   simp only [verdererref15_Bound.j2]
   rw [if_neg (by decide), wr1 i (by omega)]
 | succ m ih =>
  intro j acc hm hj ha hb hR
  have hlt : j < (l[i]).f2.length := by omega
  have hd : (l[i]).f2.drop j = (l[i]).f2[j] :: (l[i]).f2.drop (j + 1) := List.drop_eq_getElem_cons hlt
  rw [hd] at hR
  have hlen := addS_len acc ((l[i]).f2[j]).f0
  refine Ev.step (f := fun k => verdererref15_Bound.j2 k acc (i : Int) (j : Int) true a0 a1 a2 a3 a4 a5 l) (fun k => ?_) ?_
  ·
   simp only [verdererref15_Bound.l1]
   rw [if_pos (by omega), if_pos (by omega), rd41_nat _ _ hi, if_pos (by omega), atom_ev, hb]
   rfl
  ·
   by_cases h1 : ((l[i]).f2[j]).f1 = true
   ·
    have hv1 : varOk (l[i]).f2[j] = false := by simp [varOk, h1]
    have h2 := ih (j + 1) acc (by omega) (by omega) (by omega) hb (fun acc' h => hR acc' (by rw [foldS_cons, hv1]; exact h))
    refine Ev.step (fun k => ?_) h2
    simp only [verdererref15_Bound.j2]
    rw [if_pos trivial, if_pos (by omega), if_pos (by omega), if_pos (by omega), rd41_nat _ _ hi, if_pos (by omega), rd38_nat _ _ hlt, if_pos h1, wr1 j (by omega)]
   ·
    by_cases h3 : ((l[i]).f2[j]).f0.toList = []
    ·
     have hv1 : varOk (l[i]).f2[j] = false := by simp [varOk, h3]
     have h2 := ih (j + 1) acc (by omega) (by omega) (by omega) hb (fun acc' h => hR acc' (by rw [foldS_cons, hv1]; exact h))
     refine Ev.step (fun k => ?_) h2
     simp only [verdererref15_Bound.j2]
     rw [if_pos trivial, if_pos (by omega), if_pos (by omega), if_pos (by omega), rd41_nat _ _ hi, if_pos (by omega), rd38_nat _ _ hlt, if_neg h1, if_pos h3, wr1 j (by omega)]
    ·
     have hv1 : varOk (l[i]).f2[j] = true := by simp [varOk, h1, h3]
     have h2 := ih (j + 1) (addS acc ((l[i]).f2[j]).f0) (by omega) (by omega) (by omega) hb (fun acc' h => hR acc' (by rw [foldS_cons, hv1]; exact h))
     refine Ev.step (f := fun k => (verdererref15_has.f k acc ((l[i]).f2[j]).f0).bind fun t => if t = true then verdererref15_Bound.l1 k acc (i : Int) ((j + 1 : Nat) : Int) a0 a1 a2 a3 a4 a5 l else verdererref15_Bound.l1 k (acc ++ [((l[i]).f2[j]).f0]) (i : Int) ((j + 1 : Nat) : Int) a0 a1 a2 a3 a4 a5 l) (fun k => ?_) (Ev.bind (ev_has acc ((l[i]).f2[j]).f0 (by omega)) ?_)
     ·
      simp only [verdererref15_Bound.j2]
      rw [if_pos trivial, if_pos (by omega), if_pos (by omega), if_pos (by omega), rd41_nat _ _ hi, if_pos (by omega), rd38_nat _ _ hlt, if_neg h1, if_neg h3, wr1 j (by omega)]
      simp only [show acc.length < 8796093022208 by omega, if_true]
     ·
      unfold addS at h2
      cases hh : hasS acc ((l[i]).f2[j]).f0 with
      | true => rw [hh] at h2; simpa using h2
      | false => rw [hh] at h2; simpa using h2
theorem ev_rbound0 (l : List S41) (hl : l.length ≤ 41) (hx : ∀ x ∈ l, x.f2.length ≤ 5000) : ∀ (m i : Nat) (acc : List ByteArray), m = l.length - i → i ≤ l.length → acc.length ≤ 5000 * i →
  Ev (fun k => verdererref15_Bound.l0 k acc (i : Int) a0 a1 a2 a3 a4 a5 l) ((l.drop i).foldl stepS acc) := by
 intro m
 induction m with
 | zero =>
  intro i acc hm hi ha
  have hz : i = l.length := by omega
  subst hz
  refine Ev.step (f := fun _ => some _) (fun k => ?_) (Ev.now _)
  simp only [verdererref15_Bound.l0]
  rw [if_neg (by omega)]
  simp
 | succ m ih =>
  intro i acc hm hi ha
  have hlt : i < l.length := by omega
  have hd : l.drop i = l[i] :: l.drop (i + 1) := List.drop_eq_getElem_cons hlt
  have hxl := hx l[i] (List.getElem_mem hlt)
  rw [hd, List.foldl_cons]
  have hlen := stepS_len acc l[i] hxl
  have h2 := ih (i + 1) (stepS acc l[i]) (by omega) (by omega) (by omega)
  refine Ev.step (f := fun k => verdererref15_Bound.l1 k acc (i : Int) ((0 : Nat) : Int) a0 a1 a2 a3 a4 a5 l) (fun k => ?_) ?_
  ·
   simp only [verdererref15_Bound.l0]
   rw [if_pos (by omega)]
   rfl
  ·
   cases hb : bindsB l[i] with
   | true =>
    refine ev_rbound1 a0 a1 a2 a3 a4 a5 l hl i hlt hxl _ _ 0 acc rfl (by omega) (by omega) hb (fun acc' h => ?_)
    rw [h, List.drop_zero]
    have : stepS acc l[i] = (varsS (l[i]).f2).foldl addS acc := by unfold stepS; rw [hb]; rfl
    rw [← this]
    exact h2
   | false =>
    have : stepS acc l[i] = acc := by unfold stepS; rw [hb]; rfl
    rw [this] at h2 ⊢
    refine Ev.step (f := fun k => verdererref15_Bound.j2 k acc (i : Int) ((0 : Nat) : Int) false a0 a1 a2 a3 a4 a5 l) (fun k => ?_) (Ev.step (fun k => ?_) h2)
    ·
     simp only [verdererref15_Bound.l1]
     rw [if_pos (by omega), if_pos (by omega), rd41_nat _ _ hlt]
     split
     · rw [atom_ev, hb]; rfl
     · rfl
    ·
     simp only [verdererref15_Bound.j2]
     rw [if_neg (by decide), wr1 i (by omega)]
theorem ev_rbound (l : List S41) (hl : l.length ≤ 41) (hx : ∀ x ∈ l, x.f2.length ≤ 5000) : Ev (fun k => verdererref15_Bound.f k a0 a1 a2 a3 a4 a5 l) (boundS l) := by
 have h := ev_rbound0 a0 a1 a2 a3 a4 a5 l hl hx l.length 0 [] (by simp) (by simp) (by simp)
 rw [List.drop_zero] at h
 exact h
end
theorem boundS_len (l : List S41) (hl : l.length ≤ 41) (hx : ∀ x ∈ l, x.f2.length ≤ 5000) : (boundS l).length ≤ 205000 := by
 have key : ∀ (l : List S41) (acc : List ByteArray), (∀ x ∈ l, x.f2.length ≤ 5000) → (l.foldl stepS acc).length ≤ acc.length + 5000 * l.length := by
  intro l
  induction l with
  | nil => intro acc _; simp
  | cons x l ih =>
   intro acc h
   have h1 := ih (stepS acc x) (fun y hy => h y (List.mem_cons_of_mem _ hy))
   have h2 := stepS_len acc x (h x List.mem_cons_self)
   simp only [List.foldl_cons, List.length_cons]
   omega
 have := key l [] hx
 unfold boundS
 simp at this
 omega
/-! ### the first that is asked, but not bound -/
/-- The first variable of some that isn't bound. -/
def missS (b : List ByteArray) : List ByteArray → Option ByteArray
 | [] => none
 | v :: l => if hasS b v then missS b l else some v
def scanS (b : List ByteArray) : List S41 → Nat → ByteArray × Int × Bool
 | [], _ => (⟨#[]⟩, 0, false)
 | x :: l, i => if bindsB x then scanS b l (i + 1) else match missS b (varsS x.f2) with
  | some v => (v, (i : Int), true)
  | none => scanS b l (i + 1)
def toldS (h : List ByteArray) (ag : Int) (og : ByteArray) : List ByteArray := h ++ (if 2 ≤ ag ∧ ag ≤ 4 then [og] else [])
def freeS (h : List ByteArray) (ag : Int) (og : ByteArray) (l : List S41) : ByteArray × Int × Bool :=
 match missS (boundS l) (toldS h ag og) with
 | some v => (v, -1, true)
 | none => scanS (boundS l) l 0
end Go.Proofs.Ytikikmkfeeljgaa.Pure
