/- The plain law of guard: is a rule so; few; the laws. -/
import Derived.Test.YtikikmkfeeljgaaPvG3
namespace Go.Proofs.Ytikikmkfeeljgaa.Pure
open Go.RowKit Go.Proofs.Ytikikmkfeeljgaa.G Go.Proofs.YtikikmkfeeljgaaW.PrintWords Go.Proofs.YtikikmkfeeljgaaW.PrintLast Go.Proofs.YtikikmkfeeljgaaW.PrintMore
set_option linter.unusedVariables false
set_option linter.unusedSimpArgs false
def checkS (h : List ByteArray) (ag : Int) (og : ByteArray) (l : List S41) : Int × Int :=
 if l.any bindsB = true then (if (freeS h ag og l).2.2 = true then ((freeS h ag og l).2.1, 12) else (0, 0)) else (-1, 12)
theorem ix_any (l : List S41) : ∀ i : Nat, (0 ≤ ixFrom bindsB l i ↔ l.any bindsB = true) := by
 induction l with
 | nil => intro i; simp [ixFrom]
 | cons x l ih =>
  intro i
  simp only [ixFrom, List.any_cons, Bool.or_eq_true]
  by_cases h : bindsB x = true
  · rw [if_pos h]; simp [h]
  · rw [if_neg h, ih (i + 1)]; simp [h]
section
variable (a0 : Int) (a1 : ByteArray) (a2 : List ByteArray) (a3 : Int) (a4 : ByteArray) (a5 : Int)
theorem ev_check (l : List S41) (h2 : a2.length ≤ 900) (hl : l.length ≤ 41) (hx : ∀ x ∈ l, x.f2.length ≤ 5000) : Ev (fun k => guard_Check.f k a0 a1 a2 a3 a4 a5 l) (checkS a2 a3 a4 l) := by
 unfold checkS
 by_cases hi : l.any bindsB = true
 ·
  rw [if_pos hi]
  refine Ev.congr (f := fun k => (guard_Free.f k a0 a1 a2 a3 a4 a5 l).bind fun t => (if t.2.2 = true then some (t.2.1, 12) else some (0, 0))) (fun k => ?_) (Ev.bind (ev_free a0 a1 a2 a3 a4 a5 l h2 hl hx) ?_)
  ·
   unfold guard_Check.f
   rw [if_pos ((ix_any l 0).2 hi)]
  ·
   split
   · exact Ev.now _
   · exact Ev.now _
 ·
  rw [if_neg hi]
  refine Ev.congr (f := fun k => some (-1, 12)) (fun k => ?_) (Ev.now _)
  unfold guard_Check.f
  rw [if_neg (fun hh => hi ((ix_any l 0).1 hh))]
theorem ev_rcheck0 (l : List S41) (h2 : a2.length ≤ 900) (hl : l.length ≤ 41) (hx : ∀ x ∈ l, x.f2.length ≤ 5000) : ∀ (m i : Nat) (s : Bool), m = l.length - i → i ≤ l.length →
  Ev (fun k => verdererref15_Check.l0 k s (i : Int) a0 a1 a2 a3 a4 a5 l) (if (s || (l.drop i).any bindsB) = true then (if (freeS a2 a3 a4 l).2.2 = true then ((freeS a2 a3 a4 l).2.1, 12) else (0, 0)) else (-1, 12)) := by
 intro m
 induction m with
 | zero =>
  intro i s hm hi
  have hz : i = l.length := by omega
  subst hz
  rw [List.drop_length, List.any_nil, Bool.or_false]
  cases s with
  | true =>
   rw [if_pos rfl]
   refine Ev.step (f := fun k => (verdererref15_Free.f k a0 a1 a2 a3 a4 a5 l).bind fun t => (if t.2.2 = true then some (t.2.1, 12) else some (0, 0))) (fun k => ?_) (Ev.bind (ev_rfree a0 a1 a2 a3 a4 a5 l h2 hl hx) ?_)
   ·
    simp only [verdererref15_Check.l0]
    rw [if_neg (by omega), if_pos trivial]
   ·
    split
    · exact Ev.now _
    · exact Ev.now _
  | false =>
   rw [if_neg (by decide)]
   refine Ev.step (f := fun k => some (-1, 12)) (fun k => ?_) (Ev.now _)
   simp only [verdererref15_Check.l0]
   rw [if_neg (by omega), if_neg (by decide)]
 | succ m ih =>
  intro i s hm hi
  have hlt : i < l.length := by omega
  have hd : l.drop i = l[i] :: l.drop (i + 1) := List.drop_eq_getElem_cons hlt
  rw [hd, List.any_cons]
  cases s with
  | true =>
   have h3 := ih (i + 1) true (by omega) (by omega)
   refine Ev.step (fun k => ?_) (show Ev _ _ from by simpa using h3)
   simp only [verdererref15_Check.l0]
   rw [if_pos (by omega), if_pos trivial, wr1 i (by omega)]
   rfl
  | false =>
   have h3 := ih (i + 1) (bindsB l[i]) (by omega) (by omega)
   rw [Bool.false_or]
   refine Ev.step (fun k => ?_) h3
   simp only [verdererref15_Check.l0]
   rw [if_pos (by omega), if_neg (by decide), if_pos (by omega), rd41_nat _ _ hlt, atom_ev, wr1 i (by omega)]
   rfl
theorem ev_rcheck (l : List S41) (h2 : a2.length ≤ 900) (hl : l.length ≤ 41) (hx : ∀ x ∈ l, x.f2.length ≤ 5000) : Ev (fun k => verdererref15_Check.f k a0 a1 a2 a3 a4 a5 l) (checkS a2 a3 a4 l) := by
 have h3 := ev_rcheck0 a0 a1 a2 a3 a4 a5 l h2 hl hx _ 0 false rfl (by omega)
 rw [List.drop_zero, Bool.false_or] at h3
 exact h3
end
theorem ev_texts (x : List ByteArray) (hx : x.length ≤ 1000000) : Ev (fun k => verdererref09_Texts.f k x x) true := by
 have key : ∀ (m i : Nat), m = x.length - i → i ≤ x.length → Ev (fun k => verdererref09_Texts.l0 k x x (i : Int)) true := by
  intro m
  induction m with
  | zero =>
   intro i hm hi
   refine Ev.step (f := fun _ => some true) (fun k => ?_) (Ev.now _)
   simp only [verdererref09_Texts.l0]
   rw [if_neg (by omega)]
  | succ m ih =>
   intro i hm hi
   refine Ev.step (fun k => ?_) (ih (i + 1) (by omega) (by omega))
   simp only [verdererref09_Texts.l0]
   rw [if_pos (by omega), if_pos (by omega), if_pos (by omega), if_pos trivial, wr1 i (by omega)]
 refine Ev.congr (fun k => ?_) (key _ 0 rfl (by omega))
 unfold verdererref09_Texts.f
 rw [if_pos rfl]
 rfl
/-! ### few -/
section
variable (a0 : Int) (a1 : ByteArray) (a2 : List ByteArray) (a3 : Int) (a4 : ByteArray) (a5 : Int)
theorem ev_few2 (l : List S41) (hl : l.length ≤ 40) (i : Nat) (hi : i < l.length) (hv : (l[i]).f2.length ≤ 100) (Q : Bool → Prop) (hQ : Q false) (hR : ∃ b, Q b ∧ Ev (fun k => verdererref13_Few.l1 k ((i + 1 : Nat) : Int) a0 a1 a2 a3 a4 a5 l) b) : ∀ (m j : Nat), m = (l[i]).f2.length - j → j ≤ (l[i]).f2.length →
  ∃ b, Q b ∧ Ev (fun k => verdererref13_Few.l2 k (i : Int) (j : Int) a0 a1 a2 a3 a4 a5 l) b := by
 intro m
 induction m with
 | zero =>
  intro j hm hj
  obtain ⟨b, hq, he⟩ := hR
  refine ⟨b, hq, Ev.step (fun k => ?_) he⟩
  simp only [verdererref13_Few.l2]
  rw [if_pos (by omega), if_pos (by omega), rd41_nat _ _ hi, if_neg (by omega), wr1 i (by omega)]
 | succ m ih =>
  intro j hm hj
  obtain ⟨b, hq, he⟩ := ih (j + 1) (by omega) (by omega)
  have hlt : j < (l[i]).f2.length := by omega
  by_cases h4 : ((((l[i]).f2[j]).f0).size : Int) > 400
  ·
   refine ⟨false, hQ, Ev.step (f := fun _ => some false) (fun k => ?_) (Ev.now _)⟩
   simp only [verdererref13_Few.l2]
   rw [if_pos (by omega), if_pos (by omega), rd41_nat _ _ hi, if_pos (by omega), if_pos (by omega), rd38_nat _ _ hlt, if_pos h4]
  ·
   refine ⟨b, hq, Ev.step (fun k => ?_) he⟩
   simp only [verdererref13_Few.l2]
   rw [if_pos (by omega), if_pos (by omega), rd41_nat _ _ hi, if_pos (by omega), if_pos (by omega), rd38_nat _ _ hlt, if_neg h4, wr1 j (by omega)]
theorem ev_few1 (l : List S41) (hl : l.length ≤ 40) : ∀ (m i : Nat), m = l.length - i → i ≤ l.length →
  ∃ b, (b = true → ∀ x ∈ l.drop i, x.f2.length ≤ 100) ∧ Ev (fun k => verdererref13_Few.l1 k (i : Int) a0 a1 a2 a3 a4 a5 l) b := by
 intro m
 induction m with
 | zero =>
  intro i hm hi
  have hz : i = l.length := by omega
  subst hz
  refine ⟨true, fun _ x hx => by simp at hx, Ev.step (f := fun _ => some true) (fun k => ?_) (Ev.now _)⟩
  simp only [verdererref13_Few.l1]
  rw [if_neg (by omega)]
 | succ m ih =>
  intro i hm hi
  have hlt : i < l.length := by omega
  have hd : l.drop i = l[i] :: l.drop (i + 1) := List.drop_eq_getElem_cons hlt
  by_cases h1 : ((l[i]).f2.length : Int) > 100
  ·
   refine ⟨false, (fun h => by cases h), Ev.step (f := fun k => verdererref13_Few.j3 k (i : Int) true a0 a1 a2 a3 a4 a5 l) (fun k => ?_) (Ev.step (f := fun _ => some false) (fun k => ?_) (Ev.now _))⟩
   ·
    simp only [verdererref13_Few.l1]
    rw [if_pos (by omega), if_pos (by omega), rd41_nat _ _ hlt, if_pos h1]
   ·
    simp only [verdererref13_Few.j3]
    rfl
  ·
   by_cases h4 : ((l[i]).f1.size : Int) > 400
   ·
    refine ⟨false, (fun h => by cases h), Ev.step (f := fun k => verdererref13_Few.j3 k (i : Int) true a0 a1 a2 a3 a4 a5 l) (fun k => ?_) (Ev.step (f := fun _ => some false) (fun k => ?_) (Ev.now _))⟩
    ·
     simp only [verdererref13_Few.l1]
     rw [if_pos (by omega), if_pos (by omega), rd41_nat _ _ hlt, if_neg h1, decide_eq_true h4]
    ·
     simp only [verdererref13_Few.j3]
     rfl
   ·
    obtain ⟨b, hq, he⟩ := ih (i + 1) (by omega) (by omega)
    obtain ⟨b2, hq2, he2⟩ := ev_few2 a0 a1 a2 a3 a4 a5 l hl i hlt (by omega) (fun b => b = true → ∀ x ∈ l.drop i, x.f2.length ≤ 100) (fun h => by cases h) ⟨b, fun hb x hx => by
     rw [hd] at hx
     rcases List.mem_cons.1 hx with rfl | hx
     · omega
     · exact hq hb x hx, he⟩ _ 0 rfl (by omega)
    refine ⟨b2, hq2, Ev.step (f := fun k => verdererref13_Few.j3 k (i : Int) false a0 a1 a2 a3 a4 a5 l) (fun k => ?_) (Ev.step (fun k => ?_) he2)⟩
    ·
     simp only [verdererref13_Few.l1]
     rw [if_pos (by omega), if_pos (by omega), rd41_nat _ _ hlt, if_neg h1, decide_eq_false h4]
    ·
     simp only [verdererref13_Few.j3]
     rfl
theorem ev_few0 (l : List S41) (hl : l.length ≤ 40) (h2 : a2.length ≤ 100) : ∀ (m i : Nat), m = a2.length - i → i ≤ a2.length →
  ∃ b, (b = true → ∀ x ∈ l, x.f2.length ≤ 100) ∧ Ev (fun k => verdererref13_Few.l0 k (i : Int) a0 a1 a2 a3 a4 a5 l) b := by
 intro m
 induction m with
 | zero =>
  intro i hm hi
  obtain ⟨b, hq, he⟩ := ev_few1 a0 a1 a2 a3 a4 a5 l hl _ 0 rfl (by omega)
  rw [List.drop_zero] at hq
  refine ⟨b, hq, Ev.step (fun k => ?_) he⟩
  simp only [verdererref13_Few.l0]
  rw [if_neg (by omega)]
  rfl
 | succ m ih =>
  intro i hm hi
  have hlt : i < a2.length := by omega
  obtain ⟨b, hq, he⟩ := ih (i + 1) (by omega) (by omega)
  by_cases h4 : ((a2[i]).size : Int) > 400
  ·
   refine ⟨false, (fun h => by cases h), Ev.step (f := fun _ => some false) (fun k => ?_) (Ev.now _)⟩
   simp only [verdererref13_Few.l0]
   rw [if_pos (by omega), if_pos (by omega), rdOf_nat _ _ _ hlt, if_pos h4]
  ·
   refine ⟨b, hq, Ev.step (fun k => ?_) he⟩
   simp only [verdererref13_Few.l0]
   rw [if_pos (by omega), if_pos (by omega), rdOf_nat _ _ _ hlt, if_neg h4, wr1 i (by omega)]
theorem ev_few (l : List S41) : ∃ b, (b = true → a2.length ≤ 100 ∧ l.length ≤ 40 ∧ ∀ x ∈ l, x.f2.length ≤ 100) ∧ Ev (fun k => verdererref13_Few.f k a0 a1 a2 a3 a4 a5 l) b := by
 have jt : Ev (fun k => verdererref13_Few.j0 k true a0 a1 a2 a3 a4 a5 l) false := Ev.step (f := fun _ => some false) (fun k => by simp only [verdererref13_Few.j0]; rfl) (Ev.now _)
 by_cases h1 : (a2.length : Int) > 100
 ·
  refine ⟨false, (fun h => by cases h), Ev.congr (fun k => ?_) jt⟩
  unfold verdererref13_Few.f
  rw [if_pos h1]
 ·
  by_cases h3 : (l.length : Int) > 40
  ·
   refine ⟨false, (fun h => by cases h), Ev.congr (fun k => ?_) jt⟩
   unfold verdererref13_Few.f
   rw [if_neg h1, if_pos h3]
  ·
   by_cases h4 : (wrap64 ((a1.size : Int) + (a4.size : Int))) > 400
   ·
    refine ⟨false, (fun h => by cases h), Ev.congr (fun k => ?_) jt⟩
    unfold verdererref13_Few.f
    rw [if_neg h1, if_neg h3, decide_eq_true h4]
   ·
    obtain ⟨b, hq, he⟩ := ev_few0 a0 a1 a2 a3 a4 a5 l (by omega) (by omega) _ 0 rfl (by omega)
    refine ⟨b, fun hb => ⟨by omega, by omega, hq hb⟩, Ev.congr (f := fun k => verdererref13_Few.j0 k false a0 a1 a2 a3 a4 a5 l) (fun k => ?_) (Ev.step (fun k => ?_) he)⟩
    ·
     unfold verdererref13_Few.f
     rw [if_neg h1, if_neg h3, decide_eq_false h4]
    ·
     simp only [verdererref13_Few.j0]
     rfl
theorem ev_known15 : Ev (fun k => verdererlaw15_known.f k) true := ⟨400, fun k hk => by show verdererlaw15_known.f k = some true; unfold verdererlaw15_known.f; rw [if_pos hk]⟩
end
end Go.Proofs.Ytikikmkfeeljgaa.Pure
