/- A text of the proof that the law GuardAll returns true: nothing is assumed in it. -/
import Derived.Test.YtikikmkfeeljgaaMGuardAll2
import Derived.Test.YtikikmkfeeljgaaProg
import Derived.KernelRfl
set_option linter.unusedVariables false
set_option linter.unusedSimpArgs false
namespace Go.Proofs.Ytikikmkfeeljgaa.E
open Go.RowKit
section
variable {R : Type} {P : Program} {r : R}
theorem mv_not {o : Oper} (h : isMv P o = false) : isHC P o = false ∧ isSt o = false := by
  unfold isMv at h
  simpa using h
theorem swap_rs {G : Gt R} (hG : GUni G) {ops : Array Oper} {i j : Nat} {oi oj : Oper} (hi : ops[i]? = some oi) (hj : ops[j]? = some oj) (hn : isMv P oi = false) (hc : commO P oi oj = true) (hap : Oper.apart ops oj oi = true) {S : St} (hs : SortedT S.t) (k : St → Option R) :
    oneD P G ops j S (fun S1 => oneD P G ops i S1 k) = oneD P G ops i S fun S1 => oneD P G ops j S1 k := by
  obtain ⟨h1, h2, h3⟩ := Oper.apart_spec hap
  unfold commO at hc
  rw [hn, (mv_not hn).2] at hc
  simp only [Bool.or_eq_true, Bool.and_eq_true, Bool.false_and, Bool.false_eq_true, or_false] at hc
  rcases hc with ⟨ri, rj⟩ | ⟨ri, rj⟩
  · exact swap_rd hG hi hj ri rj hap hs k
  · exact swap_st hG hi hj ri rj (fun t ht e => h3 t e ht) hs k
theorem comm_not {oi oj : Oper} (hn : isMv P oi = false) (hc : commO P oi oj = true) : isHC P oj = false ∧ isRs P oj = true ∧ isRk P oi = true := by
  unfold commO at hc
  rw [hn, (mv_not hn).2] at hc
  simp only [Bool.or_eq_true, Bool.and_eq_true, Bool.false_and, Bool.false_eq_true, or_false] at hc
  unfold isRs
  rcases hc with ⟨ri, rj⟩ | ⟨ri, rj⟩
  · exact ⟨hc_not (.inl rj), by simp [rj], ri⟩
  · exact ⟨hc_not (.inr rj), by simp [rj], pu_rd ri⟩
/-- one step as a state -/
theorem one_rs {G : Gt R} (hG : GUni G) {ops : Array Oper} {i : Nat} {o : Oper} (ho : ops[i]? = some o) (hr : isRs P o = true) (hn : isHC P o = false) : ∃ V : St → Option St, ∀ S, SortedT S.t → (∀ k, oneD P G ops i S k = (V S).bind k) ∧ ∀ S', V S = some S' → SortedT S'.t := by
  unfold isRs at hr
  rw [hn, Bool.or_false, Bool.or_eq_true] at hr
  rcases hr with hr | hr
  · obtain ⟨V, h1, _⟩ := one_rd (P := P) hG ho hr
    refine ⟨fun S => (V S).map fun x => putT S o.dst x, fun S hs => ⟨fun k => ?_, fun S' e => ?_⟩⟩
    · rw [h1 S k hs]; simp only []; cases V S <;> rfl
    · simp only [] at e; cases hv : V S with
      | none => rw [hv] at e; cases e
      | some x => rw [hv] at e; injection e with e; rw [← e]; exact put_sorted hs _ _
  · obtain ⟨V, h1, _⟩ := one_st (P := P) (G := G) ho hr
    refine ⟨fun S => (V S).map fun H => ⟨S.n, S.t, H⟩, fun S hs => ⟨fun k => ?_, fun S' e => ?_⟩⟩
    · rw [h1 S k hs]; simp only []; cases V S <;> rfl
    · simp only [] at e; cases hv : V S with
      | none => rw [hv] at e; cases e
      | some x => rw [hv] at e; injection e with e; rw [← e]; exact hs
theorem chk_not {ops : Array Oper} {B : List Nat} {i : Nat} {o : Oper} (ho : ops[i]? = some o) (hn : isMv P o = false) (S : St) : chkH P ops B i S = true := by
  unfold chkH
  rw [ho]
  simp only [hn, cond_false]
theorem oneC_not {G : Gt R} {ops : Array Oper} {B : List Nat} {i : Nat} {o : Oper} (ho : ops[i]? = some o) (hn : isMv P o = false) (S : St) (k : St → Option R) : oneC P G ops B i S k = oneD P G ops i S k := by
  unfold oneC
  rw [chk_not ho hn]
  rfl
theorem free_same {ops : Array Oper} {sel : List Nat} {S S' : St} {o : Oper} (h : ∀ u ∈ o.looksAt ops ++ o.dst.toList, look S'.t u = look S.t u) : freeO ops sel S' o = freeO ops sel S o := by
  unfold freeO
  have hl : ∀ u ∈ o.looksAt ops, look S'.t u = look S.t u := fun u hu => h u (List.mem_append_left _ hu)
  have e1 : (o.looksAt ops).all (fun u => frT sel (look S'.t u)) = (o.looksAt ops).all (fun u => frT sel (look S.t u)) := by
    rw [Bool.eq_iff_iff]
    simp only [List.all_eq_true]
    exact ⟨fun g u hu => by rw [← hl u hu]; exact g u hu, fun g u hu => by rw [hl u hu]; exact g u hu⟩
  rw [e1]
  congr 1
  · congr 1
    cases hd : o.dst with
    | none => rfl
    | some d => simp only []; rw [h d (by rw [hd]; simp)]
  · cases hop : o.op with
    | load t x =>
      have hρ := ev_same hl
      rw [hop] at hρ
      have hx : oc S'.t x = oc S.t x := by unfold oc; rw [hρ x (by simp [Op.operands])]
      simp only [hx]
    | _ => rfl
theorem mem_see {ops : Array Oper} {j q : Nat} {o : Oper} (hq : q ≤ j) (ho : ops[q]? = some o) {u : Nat} (hu : u ∈ o.looksAt ops ++ o.dst.toList) : u ∈ chkSee ops j := by
  unfold chkSee
  refine List.mem_flatMap.2 ⟨q, List.mem_range.2 (by omega), ?_⟩
  rw [ho]
  exact hu
theorem sel_same {G : Gt R} (hG : GUni G) {ops : Array Oper} {i : Nat} {o : Oper} (ho : ops[i]? = some o) (hr : isMv P o = true) {S S' : St} (hH : S'.H = S.H) (hl : ∀ t ∈ o.looksAt ops, look S'.t t = look S.t t) : hcSel P o S' = hcSel P o S := by
  obtain ⟨_, _, h, _⟩ := one_mv (P := P) hG ho hr
  exact (h S S' hH hl).2
/-- a check does not see what it does not look at -/
theorem chk_same {G : Gt R} (hG : GUni G) {ops : Array Oper} {B : List Nat} {j : Nat} {S S' : St} (hH : S'.H = S.H) (hl : ∀ u ∈ chkSee ops j, look S'.t u = look S.t u) : chkH P ops B j S' = chkH P ops B j S := by
  unfold chkH
  cases ho : ops[j]? with
  | none => rfl
  | some oj =>
    simp only []
    cases hm : isMv P oj with
    | false => rfl
    | true =>
      simp only [cond_true]
      have hsel : hcSel P oj S' = hcSel P oj S := sel_same hG ho hm hH fun t ht => hl t (mem_see (Nat.le_refl _) ho (List.mem_append_left _ ht))
      rw [Bool.eq_iff_iff]
      simp only [List.all_eq_true, List.mem_range]
      refine ⟨fun g q hq => ?_, fun g q hq => ?_⟩
      all_goals
        have g := g q hq
        revert g
        cases hoq : ops[q]? with
        | none => exact id
        | some oq =>
          simp only [hsel]
          cases hcSel P oj S with
          | none => exact id
          | some sel =>
            simp only []
            unfold chkJ
            rw [free_same (S := S) (S' := S') fun u hu => hl u (mem_see (Nat.le_of_lt hq) hoq hu)]
            exact id
/-- an operation that is ready goes first -/
theorem front_rs {G : Gt R} (hG : GUni G) {ops : Array Oper} {B : List Nat} {i : Nat} {oi : Oper} (hi : ops[i]? = some oi) (hn : isMv P oi = false) : ∀ (a : List Nat) {b : List Nat} {S : St} {k : St → Option R}, SortedT S.t →
    (∀ j ∈ a, ∃ oj, ops[j]? = some oj ∧ commO P oi oj = true ∧ Oper.apart ops oj oi = true ∧ seenO ops oi oj j = true) → seqC P G ops B (a ++ i :: b) S k = oneD P G ops i S fun S' => seqC P G ops B (a ++ b) S' k
  | [], b, S, k, hs, h => oneC_not hi hn S _
  | j :: a, b, S, k, hs, h => by
    obtain ⟨oj, hj, hc, hap, hsee⟩ := h j (by simp)
    obtain ⟨hnj, rj, rki⟩ := comm_not hn hc
    have hrest := fun q hq => h q (List.mem_cons_of_mem _ hq)
    obtain ⟨Vj, ej⟩ := one_rs (P := P) hG hj rj hnj
    obtain ⟨Vi, ei, _⟩ := one_rd (P := P) hG hi rki
    show oneC P G ops B j S (fun S1 => seqC P G ops B (a ++ i :: b) S1 k) = oneD P G ops i S fun S' => oneC P G ops B j S' fun S1 => seqC P G ops B (a ++ b) S1 k
    have hchk : ∀ x, chkH P ops B j (putT S oi.dst x) = chkH P ops B j S := by
      intro x
      unfold seenO at hsee
      rw [Bool.or_eq_true] at hsee
      rcases hsee with hsee | hsee
      · have : isMv P oj = false := by unfold isMv; rw [hnj]; simpa using hsee
        rw [chk_not hj this, chk_not hj this]
      · refine chk_same hG (put_H _ _ _).1 fun u hu => look_put hs fun e => ?_
        rw [e] at hsee
        simp only [Bool.not_eq_true'] at hsee
        rw [List.contains_iff_mem.2 hu] at hsee
        cases hsee
    unfold oneC
    rw [ei S _ hs]
    simp only [hchk]
    cases hck : chkH P ops B j S with
    | false =>
      simp only [cond_false]
      cases Vi S <;> rfl
    | true =>
      simp only [cond_true]
      rw [← ei S (fun S' => oneD P G ops j S' fun S1 => seqC P G ops B (a ++ b) S1 k) hs]
      have : oneD P G ops j S (fun S1 => seqC P G ops B (a ++ i :: b) S1 k) = oneD P G ops j S fun S1 => oneD P G ops i S1 fun S' => seqC P G ops B (a ++ b) S' k := by
        rw [(ej S hs).1, (ej S hs).1]
        cases hv : Vj S with
        | none => rfl
        | some S1 => exact front_rs hG hi hn a ((ej S hs).2 S1 hv) hrest
      rw [this]
      exact swap_rs hG hi hj hn hc hap hs _
theorem oneC_some {G : Gt R} {ops : Array Oper} {B : List Nat} {i : Nat} {S : St} {k : St → Option R} (h : oneC P G ops B i S k = some r) : chkH P ops B i S = true ∧ oneD P G ops i S k = some r := by
  unfold oneC at h
  cases hc : chkH P ops B i S with
  | false => rw [hc] at h; cases h
  | true => rw [hc] at h; exact ⟨rfl, h⟩
/-- a handed call that is ready goes first -/
theorem front_hc {G : Gt R} (hG : GUni G) {ops : Array Oper} {B : List Nat} {i : Nat} {oi : Oper} (hi : ops[i]? = some oi) (ri : isMv P oi = true) : ∀ (a : List Nat) {b : List Nat} {S : St} {k : St → Option R}, SortedT S.t →
    (∀ j ∈ a, j < i ∧ ahead ops B i j = false ∧ ∃ oj, ops[j]? = some oj ∧ (isPu oj = true ∨ isLd oj = true) ∧ Oper.apart ops oj oi = true) → a.Pairwise (· < ·) → seqC P G ops B (a ++ i :: b) S k = some r →
    ∃ Si : St, Si.H = S.H ∧ (∀ t, (∀ j ∈ a, ∀ oj, ops[j]? = some oj → oj.dst ≠ some t) → look Si.t t = look S.t t) ∧ chkH P ops B i Si = true ∧ oneD P G ops i S (fun S' => seqC P G ops B (a ++ b) S' k) = some r
  | [], b, S, k, hs, h, hp, e => by
    obtain ⟨h1, h2⟩ := oneC_some (show oneC P G ops B i S (fun S' => seqC P G ops B b S' k) = some r from e)
    exact ⟨S, rfl, fun _ _ => rfl, h1, h2⟩
  | j :: a, b, S, k, hs, h, hp, e => by
    obtain ⟨hji, hah, oj, hj, rj, hap⟩ := h j (by simp)
    obtain ⟨h1, h2, h3⟩ := Oper.apart_spec hap
    have hrk : isRk P oj = true := rj.elim pu_rd ld_rk
    have hnj : isMv P oj = false := by
      unfold isMv
      rw [hc_not (.inl hrk), Bool.false_or]
      cases hst : isSt oj with
      | false => rfl
      | true =>
        unfold isSt at hst
        split at hst
        · rename_i hop
          unfold isRk isRd at hrk
          rw [hop] at hrk
          cases hrk
        · cases hst
    obtain ⟨hpj, hpa⟩ := List.pairwise_cons.1 hp
    obtain ⟨_, e1⟩ := oneC_some (show oneC P G ops B j S (fun S1 => seqC P G ops B (a ++ i :: b) S1 k) = some r from e)
    obtain ⟨Vj, ej, _⟩ := one_rd (P := P) hG hj hrk
    rw [ej S _ hs] at e1
    obtain ⟨z0, hv, e1⟩ := Option.bind_eq_some_iff.1 e1
    have hs1 := put_sorted hs oj.dst z0
    obtain ⟨Si, hH, hlk, hchk, h4⟩ := front_hc hG hi ri a hs1 (fun q hq => h q (List.mem_cons_of_mem _ hq)) hpa e1
    obtain ⟨_, _, ci, _⟩ := one_mv (P := P) hG hi ri
    have hH1 : Si.H = S.H := hH.trans (put_H _ _ _).1
    have hlk1 : ∀ t, (∀ q ∈ j :: a, ∀ oq, ops[q]? = some oq → oq.dst ≠ some t) → look Si.t t = look S.t t := fun t ht =>
      (hlk t fun q hq => ht q (List.mem_cons_of_mem _ hq)).trans (look_put hs (ht j (by simp) oj hj))
    have hselS : hcSel P oi Si = hcSel P oi S := (ci S Si hH1 fun t ht => hlk1 t fun q hq oq hoq e => by
      obtain ⟨_, _, oq', hoq', _, hapq⟩ := h q hq
      rw [hoq] at hoq'
      injection hoq' with hoq'
      subst hoq'
      exact (Oper.apart_spec hapq).1 t e ht).2
    refine ⟨Si, hH1, hlk1, hchk, ?_⟩
    show oneD P G ops i S (fun S' => oneC P G ops B j S' fun S1 => seqC P G ops B (a ++ b) S1 k) = some r
    simp only [oneC_not hj hnj]
    by_cases hsp : isSt oi = true ∧ isPu oj = true
    · rw [swap_st hG hj hi hsp.2 hsp.1 (fun t ht e => (Oper.apart_spec hap).1 t e ht) hs, ej S _ hs, hv]
      exact h4
    -- what was seen behind all of them
    have hc := hchk
    unfold chkH at hc
    rw [hi] at hc
    simp only [ri, cond_true] at hc
    rw [hselS] at hc
    simp only [List.all_eq_true, List.mem_range] at hc
    have hcj := hc j hji
    rw [hah, Bool.false_or, hj] at hcj
    simp only [Bool.or_eq_true, Bool.and_eq_true] at hcj
    replace hcj := hcj.resolve_left hsp
    cases hsel : hcSel P oi S with
    | none => rw [hsel] at hcj; cases hcj
    | some sel =>
      rw [hsel] at hcj
      simp only at hcj
      unfold chkJ at hcj
      simp only [Bool.and_eq_true, List.all_eq_true, List.mem_range] at hcj
      obtain ⟨⟨hfree, _⟩, hall⟩ := hcj
      have hown : lateO ops oj oj = true := by
        have := hall j hji
        rw [hj] at this
        have hlt : Nat.blt j j = false := by cases h : Nat.blt j j with
          | false => rfl
          | true => exact absurd (Nat.le_of_ble_eq_true h) (Nat.lt_irrefl _)
        rw [hlt, Bool.false_or] at this
        simp only [Bool.and_eq_true] at this
        exact this.1
      have later : ∀ q ∈ a, ∀ oq, ops[q]? = some oq → lateO ops oq oj = true ∧ ∀ d, oj.dst = some d → oq.dst ≠ some d := by
        intro q hq oq hoq
        have hjq := hpj q hq
        have := hall q (h q (List.mem_cons_of_mem _ hq)).1
        rw [hoq] at this
        have hlt : Nat.blt q j = false := by cases h : Nat.blt q j with
          | false => rfl
          | true => have : q < j := Nat.le_of_ble_eq_true h; omega
        have hne : Nat.beq q j = false := by cases h : Nat.beq q j with
          | false => rfl
          | true => have := Nat.eq_of_beq_eq_true h; omega
        rw [hlt, hne, Bool.false_or] at this
        simp only [Bool.false_or, Bool.and_eq_true] at this
        refine ⟨this.1, fun d hd e => ?_⟩
        have h6 := this.2
        rw [hd] at h6
        simp [e] at h6
      have hl1 : ∀ u ∈ oj.looksAt ops, look Si.t u = look (putT S oj.dst z0).t u := fun u hu => hlk u fun q hq oq hoq => late_of (later q hq oq hoq).1 hu
      have hfree1 : freeO ops sel (putT S oj.dst z0) oj = true := by
        unfold freeO at hfree ⊢
        simp only [Bool.and_eq_true, List.all_eq_true] at hfree ⊢
        obtain ⟨⟨f1, f2⟩, f3⟩ := hfree
        refine ⟨⟨fun u hu => by rw [← hl1 u hu]; exact f1 u hu, ?_⟩, ?_⟩
        · cases hd : oj.dst with
          | none => rfl
          | some d =>
            rw [hd] at f2
            simp only at f2 ⊢
            have := hlk d fun q hq oq hoq => (later q hq oq hoq).2 d hd
            rw [hd] at this
            rw [← this]
            exact f2
        · cases hop : oj.op with
          | load t x =>
            rw [hop] at f3
            simp only at f3 ⊢
            have hρ := ev_same hl1
            rw [hop] at hρ
            have hx : oc Si.t x = oc (putT S oj.dst z0).t x := by unfold oc; rw [hρ x (by simp [Op.operands])]
            rw [← hx]
            exact f3
          | _ => rfl
      refine swap_hc hG hi hj ri rj hap hown hs hsel ?_
      rw [ej S _ hs, hv]
      simp only [Option.bind_some]
      rw [if_pos hfree1]
      exact h4
end
end Go.Proofs.Ytikikmkfeeljgaa.E
namespace Go.Proofs.Ytikikmkfeeljgaa.E
open Go.RowKit
section
variable {R : Type} {P : Program} {w0 w w' : World} {U : U0} {F F' : Nat → Prop} {hv : List Value} {H : List Blk} {r : R}
theorem guard_sorted {ops : Array Oper} {o : Oper} {S : St} {a : Act} (hR : Rel w0 U S a w F hv) {yes no : St → Option R} (h : guardK ops o S yes no = some r) :
    (Region.wanted o (yielded ops a.tmps) = true ∧ ∃ S', yes S' = some r ∧ Rel w0 U S' a w F hv ∧ (SortedT S.t → SortedT S'.t)) ∨ (Region.wanted o (yielded ops a.tmps) = false ∧ ∃ S', no S' = some r ∧ Rel w0 U S' a w F hv ∧ (SortedT S.t → SortedT S'.t)) := by
  classical
  have h2 : guardK ops o S (fun S' => if (SortedT S.t → SortedT S'.t) then yes S' else none) (fun S' => if (SortedT S.t → SortedT S'.t) then no S' else none) = some r := by
    have kn : ∀ d b, SortedT S.t → SortedT (knowT S d b).t := fun d b hs => sorted_ins hs _ _
    unfold guardK at h ⊢
    cases hg : o.guard with
    | none => rw [hg] at h; simp only at h ⊢; rw [if_pos (fun hs => hs)]; exact h
    | some q =>
      obtain ⟨j, want⟩ := q
      rw [hg] at h
      simp only at h ⊢
      cases hd : (ops[j]?).bind (·.dst) with
      | none => rw [hd] at h; cases h
      | some d =>
        rw [hd] at h
        simp only at h ⊢
        cases hl : look S.t d with
        | tu l => cases l with
          | nil => rw [hl] at h; simp only at h ⊢; rw [if_pos (fun hs => hs)]; exact h
          | cons => rw [hl] at h; cases h
        | a x => cases x with
          | ag => rw [hl] at h; cases h
          | c y =>
            cases y with
            | b x =>
              rw [hl] at h
              simp only at h ⊢
              cases x <;> cases want <;> simp only [if_true, Bool.false_eq_true, if_false] at h ⊢ <;> rw [if_pos (kn _ _)] <;> exact h
            | _ => rw [hl] at h; cases h
  rcases guardK_sound hR h2 with ⟨hw, S', h1, h3⟩ | ⟨hw, S', h1, h3⟩
  · split at h1
    · exact .inl ⟨hw, S', h1, h3, ‹_›⟩
    · cases h1
  · split at h1
    · exact .inr ⟨hw, S', h1, h3, ‹_›⟩
    · cases h1
theorem oneD_sound {G : Gt R} (hG : AllSound P G) (hU : GUni G) {ops : Array Oper} {i : Nat} {o : Oper} (ho : ops[i]? = some o) {S : St} {a : Act} (hR : Rel w0 U S a w F hv) {k : St → Option R} (h : oneD P G ops i S k = some r)
    {K : Act → World → Prop} {Q : Exit → Act → World → Prop} (hK : ∀ S' a' w' F' hv', k S' = some r → a'.tmps.size = a.tmps.size → Rel w0 U S' a' w' F' hv' → (isRs P o = true → SortedT S.t → SortedT S'.t) → K a' w') : wpOp P ops Q i K a w := by
  unfold oneD at h
  rw [ho] at h
  unfold wpOp
  rw [ho]
  rcases guard_sorted hR h with ⟨hw, S1, h1, hR1, hs1⟩ | ⟨hw, S1, h1, hR1, hs1⟩
  · simp only [hw, if_true]
    refine .inl ?_
    cases hr : isRk P o with
    | true =>
      rw [hr] at h1
      simp only [cond_true] at h1
      refine rdK_sound hG hR1 h1 fun x w' F' v h2 gr hx => ?_
      exact hK _ _ _ _ _ h2 (put_size _ _ _) ((hR1.grows gr).putT hx o.dst) fun _ hs => put_sorted (hs1 hs) _ _
    | false =>
      rw [hr] at h1
      simp only [cond_false] at h1
      classical
      have h2 : opK P G o S1 (fun x S' => if (isRs P o = true → SortedT S1.t → SortedT S'.t) then k (putT S' o.dst x) else none) = some r := by
        cases hst : isSt o with
        | true =>
          have hst2 := hst
          unfold isSt at hst2
          cases hop : o.op with
          | store t x y =>
            unfold opK at h1 ⊢
            rw [hop] at h1
            rw [hop]
            simp only at h1 ⊢
            split at h1
            · rename_i c z hc hz
              split at h1
              · rename_i cl hcl
                rw [storeK_bind] at h1
                rw [storeK_bind]
                simpa using h1
              · cases h1
            · cases h1
          | _ => rw [hop] at hst2; cases hst2
        | false =>
          cases hhc : isHC P o with
          | false =>
            have hn : isRs P o = false := by unfold isRs; rw [hr, hst, hhc]; rfl
            have e : (fun (x : T) (S' : St) => if (isRs P o = true → SortedT S1.t → SortedT S'.t) then k (putT S' o.dst x) else none) = fun x S' => k (putT S' o.dst x) := by
              funext x S'
              rw [if_pos (fun h => by rw [hn] at h; cases h)]
            rw [e]
            exact h1
          | true =>
            have hh := hhc
            unfold isHC at hh
            cases hop : o.op with
            | call c =>
              rw [hop] at hh
              simp only at hh
              obtain ⟨callee, args, argTypes⟩ := c
              cases callee with
              | value f =>
                unfold opK at h1 ⊢
                rw [hop] at h1
                rw [hop]
                simp only at h1 ⊢
                cases hy : oc S1.t f with
                | none => rw [hy] at h1; cases h1
                | some y =>
                  rw [hy] at h1
                  simp only at h1 ⊢
                  obtain ⟨W, hW, _⟩ := callK_bind (P := P) hU y args.toList
                  rw [hW] at h1 ⊢
                  cases hw2 : W S1.H (argsK S1.t args.toList) with
                  | none => rw [hw2] at h1; cases h1
                  | some q =>
                    rw [hw2] at h1
                    simp only [Option.bind_some] at h1 ⊢
                    rw [if_pos (fun _ hs => sorted_fg hs)]
                    exact h1
              | builtin b =>
                cases b with
                | append =>
                  unfold opK at h1 ⊢
                  rw [hop] at h1
                  rw [hop]
                  simp only at h1 ⊢
                  split at h1
                  · rename_i x y t u _ _
                    split at h1
                    · rename_i htu
                      rw [if_pos htu]
                      split at h1
                      · rename_i s z hs hz
                        rw [appendK_bind] at h1 ⊢
                        cases hw2 : appW P t s z S1.H with
                        | none => rw [hw2] at h1; cases h1
                        | some q =>
                          rw [hw2] at h1
                          simp only [Option.bind_some] at h1 ⊢
                          rw [if_pos (fun _ hs => sorted_map hs)]
                          exact h1
                      · cases h1
                    · cases h1
                  · cases h1
                | _ => cases hh
              | _ => cases hh
            | buildSlice t n ps =>
              unfold opK buildSliceK at h1 ⊢
              rw [hop] at h1
              rw [hop]
              simp only at h1 ⊢
              split at h1
              · split at h1
                · rename_i hc
                  rw [if_pos hc]
                  split at h1
                  · rw [if_pos (fun _ hs => hs)]
                    exact h1
                  · cases h1
                · cases h1
              · cases h1
            | _ => rw [hop] at hh; cases hh
      refine opK_sound hG hR1 h2 fun x S' w' F' hv' v h3 h4 hx => ?_
      split at h3
      · rename_i hst
        exact hK _ _ _ _ _ h3 (put_size _ _ _) (h4.putT hx o.dst) fun e hs => put_sorted (hst e (hs1 hs)) _ _
      · cases h3
  · simp only [hw]
    exact hK _ _ _ _ _ h1 (put_size _ _ _) (hR1.putT (v := undef) (x := .tu []) (show RepT w F hv undef (.tu []) from ⟨#[], rfl, trivial⟩) o.dst) fun _ hs => put_sorted (hs1 hs) _ _
def remaining (n : Nat) (listed : Array Bool) : List Nat := (List.range n).filter fun i => !listed.getD i true
theorem mem_remaining {n : Nat} {listed : Array Bool} {i : Nat} : i ∈ remaining n listed ↔ i < n ∧ listed.getD i true = false := by
  simp [remaining]
theorem remaining_set {n : Nat} {listed : Array Bool} {i : Nat} (hn : listed.size = n) : ∀ {a b : List Nat}, remaining n listed = a ++ i :: b → remaining n (listed.setIfInBounds i true) = a ++ b := by
  intro a b h
  have nd : (a ++ i :: b).Nodup := by rw [← h]; exact (List.nodup_range).filter _
  have hi : i < n := (mem_remaining.1 (by rw [h]; simp)).1
  have e : remaining n (listed.setIfInBounds i true) = (remaining n listed).filter fun j => !(j == i) := by
    unfold remaining
    rw [List.filter_filter]
    apply List.filter_congr
    intro j hj
    have hj' : j < n := List.mem_range.1 hj
    by_cases hji : i = j
    · subst hji
      simp [hn, hi]
    · have : (j == i) = false := by simpa using Ne.symm hji
      rw [getD_set_ne true hji, this]
      simp
  rw [e, h, List.filter_append, List.filter_cons]
  simp only [beq_self_eq_true, Bool.not_true, Bool.false_eq_true, if_false]
  have ha : ∀ j ∈ a, (!(j == i)) = true := fun j hj => by
    have : j ≠ i := by
      rintro rfl
      exact (List.nodup_append.1 nd).2.2 j hj j (by simp) rfl
    simpa using this
  have hb : ∀ j ∈ b, (!(j == i)) = true := fun j hj => by
    have : j ≠ i := by
      rintro rfl
      exact (List.nodup_cons.1 (List.nodup_append.1 nd).2.1).1 hj
    simpa using this
  rw [List.filter_eq_self.2 ha, List.filter_eq_self.2 hb]
def Shut (ops : Array Oper) (listed : Array Bool) : Prop := ∀ i o, ops[i]? = some o → listed.getD i true = true → ∀ d ∈ depsO o, listed.getD d true = true
theorem ahead_listed {ops : Array Oper} {B : List Nat} {listed : Array Bool} (hsh : Shut ops listed) (hB : ∀ i j, j < i → i < ops.size → Nat.testBit (B.getD i 0) j = true → ahead ops B i j = true) (hback : ∀ i o, ops[i]? = some o → ∀ d ∈ depsO o, d < i) (hlt : ∀ i, i < ops.size → B.getD i 0 < 2 ^ i) :
    ∀ (i : Nat) (o : Oper), ops[i]? = some o → (∀ d ∈ depsO o, listed.getD d true = true) → ∀ j, j < i → ahead ops B i j = true → listed.getD j true = true := by
  intro i
  induction i using Nat.strongRecOn with
  | _ i ih =>
    intro o ho hd j hji ha
    unfold ahead at ha
    rw [ho] at ha
    simp only [Bool.and_eq_true, List.any_eq_true, Bool.or_eq_true] at ha
    obtain ⟨_, d, hdm, h⟩ := ha
    rcases h with h | h
    · have := Nat.eq_of_beq_eq_true h
      subst this
      exact hd d hdm
    · have hdi := hback i o ho d hdm
      have hdl := hd d hdm
      have hds : d < ops.size := Nat.lt_trans hdi (Array.getElem?_eq_some_iff.1 ho).1
      have hod : ops[d]? = some ops[d] := Array.getElem?_eq_getElem hds
      by_cases hjd : j < d
      · exact ih d hdi _ hod (hsh d _ hod hdl) j hjd (hB d j hjd hds h)
      · have h1 := hlt d hds
        have h2 : 2 ^ d ≤ 2 ^ j := Nat.pow_le_pow_right (by decide) (Nat.le_of_not_lt hjd)
        rw [Nat.testBit_lt_two_pow (Nat.lt_of_lt_of_le h1 h2)] at h
        cases h
theorem regOk_spec {ops : Array Oper} (h : regOk P ops = true) {i : Nat} (hi : i < ops.size) : backOk ops i = true ∧ (befs ops.toList []).getD i 0 < 2 ^ i ∧ ∀ j, j < i → pairOk P ops (befs ops.toList []) i j = true := by
  simp only [regOk, List.all_eq_true, List.mem_range, Bool.and_eq_true] at h
  obtain ⟨⟨h1, h2⟩, h3⟩ := h i hi
  exact ⟨h1, Nat.le_of_ble_eq_true h2, h3⟩
theorem mem_deps {o : Oper} {d : Nat} : d ∈ depsO o ↔ ∃ e ∈ o.after, Region.binds .any e = true ∧ e.on = d := by
  simp [depsO, and_assoc]
theorem take_all {ops : Array Oper} {i : Nat} (h : (ops.toList.take (i + 1)).all (isRs P) = true) {j : Nat} (hj : j ≤ i) {o : Oper} (ho : ops[j]? = some o) : isRs P o = true := by
  refine List.all_eq_true.1 h o (List.mem_of_getElem? (i := j) ?_)
  rw [List.getElem?_take, if_pos (by omega)]
  simpa using ho
theorem any_sound {G : Gt R} (hG : AllSound P G) (hU : GUni G) {ops : Array Oper} (hreg : regOk P ops = true) {k : St → Option R} {Q : Exit → Act → World → Prop} {n : Nat}
    (hK : ∀ S' a' w' F' hv', k S' = some r → a'.tmps.size = n → Rel w0 U S' a' w' F' hv' → Q .normal a' w') :
    ∀ (m : Nat) (listed : Array Bool) (S : St) (a : Act) (w : World) (F : Nat → Prop) (hv : List Value), listed.size = ops.size → (remaining ops.size listed).length = m → Shut ops listed → (SortedT S.t ∨ ∀ i ∈ remaining ops.size listed, ¬ (ops.toList.take (i + 1)).all (isRs P) = true) →
      seqC P G ops (befs ops.toList []) (remaining ops.size listed) S k = some r → a.tmps.size = n → Rel w0 U S a w F hv → wpAny P .any ops Q m listed a w := by
  have hback : ∀ i o, ops[i]? = some o → ∀ d ∈ depsO o, d < i := by
    intro i o ho d hd
    have := (regOk_spec hreg (Array.getElem?_eq_some_iff.1 ho).1).1
    unfold backOk at this
    rw [ho] at this
    exact Nat.le_of_ble_eq_true (List.all_eq_true.1 this d hd)
  have hB : ∀ i j, j < i → i < ops.size → Nat.testBit ((befs ops.toList []).getD i 0) j = true → ahead ops (befs ops.toList []) i j = true := by
    intro i j hji hi ht
    have := (regOk_spec hreg hi).2.2 j hji
    unfold pairOk at this
    rw [ht] at this
    simpa using this
  have hlt : ∀ i, i < ops.size → (befs ops.toList []).getD i 0 < 2 ^ i := fun i hi => (regOk_spec hreg hi).2.1
  intro m
  induction m with
  | zero =>
    intro listed S a w F hv hls hm hsh hso h hn hR
    have h0 : remaining ops.size listed = [] := List.length_eq_zero_iff.1 hm
    rw [h0] at h
    refine ⟨?_, hK _ _ _ _ _ h hn hR⟩
    cases e : Region.ready .any ops listed with
    | nil => rfl
    | cons x xs =>
      have : x ∈ Region.ready .any ops listed := by rw [e]; simp
      obtain ⟨h1, o, ho, _⟩ := mem_ready.1 this
      have : x ∈ remaining ops.size listed := mem_remaining.2 ⟨(Array.getElem?_eq_some_iff.1 ho).1, h1⟩
      rw [h0] at this
      cases this
  | succ m ih =>
    intro listed S a w F hv hls hm hsh hso h hn hR
    refine ⟨fun hnil => ?_, fun i hi => ?_⟩
    · -- the first one that is left is ready
      cases hrem : remaining ops.size listed with
      | nil => rw [hrem] at hm; cases hm
      | cons i b =>
        exfalso
        have him := mem_remaining.1 (show i ∈ remaining ops.size listed by rw [hrem]; simp)
        have hmin : ∀ j, j < i → listed.getD j true = true := by
          intro j hj
          cases e : listed.getD j true with
          | true => rfl
          | false =>
            have hjm : j ∈ remaining ops.size listed := mem_remaining.2 ⟨Nat.lt_trans hj him.1, e⟩
            have hsort : (remaining ops.size listed).Pairwise (· < ·) := (List.pairwise_lt_range).filter _
            rw [hrem] at hjm hsort
            rcases List.mem_cons.1 hjm with rfl | hjm
            · omega
            · have := List.rel_of_pairwise_cons hsort hjm
              omega
        have : i ∈ Region.ready .any ops listed := mem_ready.2 ⟨him.2, _, Array.getElem?_eq_getElem him.1, fun e he hb => by
          have hd := hback i _ (Array.getElem?_eq_getElem him.1) e.on (mem_deps.2 ⟨e, he, hb, rfl⟩)
          have := hmin e.on hd
          have hlt2 : e.on < listed.size := by rw [hls]; omega
          rw [Array.getD_eq_getD_getElem?, Array.getElem?_eq_getElem hlt2] at this ⊢
          exact this⟩
        rw [hnil] at this
        cases this
    · obtain ⟨hiu, o, ho, hdeps⟩ := mem_ready.1 hi
      have his : i < ops.size := (Array.getElem?_eq_some_iff.1 ho).1
      have hdl : ∀ d ∈ depsO o, listed.getD d true = true := by
        intro d hd
        obtain ⟨e, he, hb, rfl⟩ := mem_deps.1 hd
        have := hdeps e he hb
        have hd2 := hback i o ho _ hd
        have hlt2 : e.on < listed.size := by rw [hls]; omega
        rw [Array.getD_eq_getD_getElem?, Array.getElem?_eq_getElem hlt2] at this ⊢
        exact this
      have him : i ∈ remaining ops.size listed := mem_remaining.2 ⟨his, hiu⟩
      obtain ⟨pre, post, hsplit⟩ := List.append_of_mem him
      have hsort : (remaining ops.size listed).Pairwise (· < ·) := (List.pairwise_lt_range).filter _
      have hpre : ∀ j ∈ pre, j < i ∧ ahead ops (befs ops.toList []) i j = false ∧ (ops.toList.take (i + 1)).all (isRs P) = true ∧ ∃ oj, ops[j]? = some oj ∧ Oper.apart ops oj o = true ∧ commO P o oj = true ∧ seenO ops o oj j = true := by
        intro j hj
        have hji : j < i := by
          rw [hsplit, List.pairwise_append] at hsort
          exact hsort.2.2 j hj i (by simp)
        have hju : listed.getD j true = false := (mem_remaining.1 (by rw [hsplit]; simp [hj])).2
        have hp := (regOk_spec hreg his).2.2 j hji
        unfold pairOk at hp
        have hah : ahead ops (befs ops.toList []) i j = false := by
          cases hp : ahead ops (befs ops.toList []) i j with
          | false => rfl
          | true =>
            have := ahead_listed hsh hB hback hlt i o ho hdl j hji hp
            rw [hju] at this
            cases this
        rw [Bool.or_eq_true] at hp
        rcases hp with hp | hp
        · rw [hah] at hp; cases hp
        · rw [Bool.and_eq_true] at hp
          have hp := hp.2
          rw [ho] at hp
          cases hoj : ops[j]? with
          | none => rw [hoj] at hp; cases hp
          | some oj =>
            rw [hoj] at hp
            simp only [Bool.and_eq_true] at hp
            exact ⟨hji, hah, hp.1.1.1, oj, rfl, hp.1.1.2, hp.1.2, hp.2⟩
      have hfront : oneD P G ops i S (fun S' => seqC P G ops (befs ops.toList []) (pre ++ post) S' k) = some r := by
        rw [hsplit] at h
        cases pre with
        | nil => exact (oneC_some (show oneC P G ops (befs ops.toList []) i S (fun S' => seqC P G ops (befs ops.toList []) post S' k) = some r from h)).2
        | cons j pre =>
          have hall : (ops.toList.take (i + 1)).all (isRs P) = true := (hpre j (by simp)).2.2.1
          have hs : SortedT S.t := hso.resolve_right fun hno => hno i him hall
          cases hhc : isMv P o with
          | false =>
            rw [← front_rs hU ho hhc (j :: pre) hs fun q hq => ?_]
            · exact h
            · obtain ⟨hqi, _, hal, oq, hoq, hap, hc, hse⟩ := hpre q hq
              exact ⟨oq, hoq, hc, hap, hse⟩
          | true =>
            have hpw : (j :: pre).Pairwise (· < ·) := by
              rw [hsplit, List.pairwise_append] at hsort
              exact hsort.1
            obtain ⟨_, _, _, _, hgo⟩ := front_hc hU ho hhc (j :: pre) hs (fun q hq => by
              obtain ⟨hqi, hah, hal, oq, hoq, hap, hc, _⟩ := hpre q hq
              refine ⟨hqi, hah, oq, hoq, ?_, hap⟩
              have hrk : isRk P o = false := by
                unfold isMv at hhc
                rw [Bool.or_eq_true] at hhc
                rcases hhc with hhc | hhc
                · unfold isRk; rw [hhc]; simp
                · unfold isSt at hhc
                  split at hhc
                  · rename_i hop; unfold isRk isRd; rw [hop]; rfl
                  · cases hhc
              have hpu : isPu o = false := by
                cases hpu : isPu o with
                | false => rfl
                | true => rw [pu_rd hpu] at hrk; cases hrk
              unfold commO at hc
              rw [hrk, hpu, hhc] at hc
              simp only [Bool.false_and, Bool.true_and, Bool.false_or, Bool.or_false, Bool.or_eq_true, Bool.and_eq_true] at hc
              rcases hc with hc | hc
              · exact .inl hc.2
              · exact hc) hpw h
            exact hgo
      have hrem2 := remaining_set hls hsplit
      refine oneD_sound hG hU ho hR hfront fun S' a' w' F' hv' h1 h2 h3 h4 => ?_
      refine ih (listed.setIfInBounds i true) S' a' w' F' hv' (by simpa using hls) ?_ ?_ ?_ (by rw [hrem2]; exact h1) (h2.trans hn) h3
      · rw [hrem2]
        rw [hsplit] at hm
        simp at hm ⊢
        omega
      · intro q oq hoq hl d hd
        by_cases hiq : i = q
        · subst hiq
          rw [ho] at hoq
          injection hoq with hoq
          subst hoq
          have := hdl d hd
          by_cases hid : i = d
          · have := hback i _ ho d hd; omega
          · rw [getD_set_ne true hid]; exact this
        · rw [getD_set_ne true hiq] at hl
          have := hsh q oq hoq hl d hd
          by_cases hid : i = d
          · subst hid
            have hlt2 : i < listed.size := by rw [hls]; exact his
            simp [hlt2]
          · rw [getD_set_ne true hid]; exact this
      · cases hr : isRs P o with
        | true =>
          rcases hso with hs | hno
          · exact .inl (h4 hr hs)
          · exact .inr fun q hq => hno q (by rw [hsplit]; rw [hrem2] at hq; rcases List.mem_append.1 hq with hq | hq <;> simp [hq])
        | false =>
          refine .inr fun q hq hal => ?_
          have hqm : q ∈ remaining ops.size listed := by rw [hsplit]; rw [hrem2] at hq; rcases List.mem_append.1 hq with hq | hq <;> simp [hq]
          by_cases hqi : q < i
          · have hqp : q ∈ pre := by
              rw [hsplit] at hqm hsort
              rcases List.mem_append.1 hqm with h | h
              · exact h
              · rw [List.pairwise_append] at hsort
                rcases List.mem_cons.1 h with rfl | h
                · omega
                · have := List.rel_of_pairwise_cons hsort.2.1 h; omega
            have := (hpre q hqp).2.2.1
            rw [take_all this (Nat.le_refl _) ho] at hr
            cases hr
          · rw [take_all hal (by omega) ho] at hr
            cases hr
theorem rel_drew {S : St} {a : Act} (h : Rel w0 U S a w F hv) : Rel w0 U S a { w with drawn := w.drawn + 1 } F hv :=
  h.grows (w' := { w with drawn := w.drawn + 1 }) ⟨rfl, rfl, rfl, Nat.le_refl _, fun _ _ => rfl, fun _ h => h, fun _ h => .inl h⟩
theorem drawK_ok {cx : Cx R} (hm : cx.P.follows .mixedOrders = true) (hG : AllSound cx.P cx.G) (hU : GUni cx.G) (hdk : cx.dk = drawK cx.P cx.G) : DrawOk cx := by
  intro r w0 U n id ops S k Q a w F hv h hn hR hK
  rw [hdk] at h
  unfold drawK at h
  cases e : regOk cx.P ops && sortedB S.t with
  | false => rw [e] at h; cases h
  | true =>
    rw [e] at h
    simp only [Bool.and_eq_true] at e
    have hrem : remaining ops.size (Array.replicate ops.size false) = List.range ops.size := by
      unfold remaining
      rw [List.filter_eq_self]
      intro i hi
      have : i < ops.size := List.mem_range.1 hi
      simp [this]
    refine wp_region_any hm (any_sound hG hU e.1 hK ops.size _ S a _ F hv (by simp) (by rw [hrem]; simp) ?_ (.inl (sortedB_spec e.2)) (by rw [hrem]; exact h) hn (rel_drew hR))
    intro i o ho hl
    have : i < ops.size := (Array.getElem?_eq_some_iff.1 ho).1
    simp [this] at hl
end
end Go.Proofs.Ytikikmkfeeljgaa.E
namespace Go.Proofs.Ytikikmkfeeljgaa.E
open Go.RowKit
/-! # 12b. A region's operations, listed in another order -/
def posN (l : List Nat) (i : Nat) : Nat := match pos l i with
  | some p => p
  | none => l.length
def permE (l : List Nat) (o : Oper) : Oper := { o with after := (o.after.toList.map fun e => { e with on := posN l e.on }).toArray, guard := match o.guard with
  | some (g, b) => some (posN l g, b)
  | none => none }
def permO (l : List Nat) (ops : Array Oper) : Array Oper := (l.map fun i => permE l (ops.getD i default)).toArray
def permOk (l : List Nat) (n : Nat) : Bool := Nat.beq l.length n && okSel l n && (List.range n).all fun i => memN l i
def readyN (ops : Array Oper) (done : List Nat) (i : Nat) : Bool := match ops[i]? with
  | some o => (depsO o).all (memN done)
  | none => false
def movesN (P : Program) (ops : Array Oper) (i : Nat) : Bool := match ops[i]? with
  | some o => isMv P o
  | none => false
/-- what moves nothing goes first -/
def schedN (P : Program) (ops : Array Oper) : Nat → List Nat → List Nat → List Nat
  | 0, _, done => done
  | n + 1, rem, done => match rem.find? (fun i => readyN ops done i && !movesN P ops i) with
    | some i => schedN P ops n (rem.filter fun j => !Nat.beq j i) (done ++ [i])
    | none => match rem.find? (readyN ops done) with
      | some i => schedN P ops n (rem.filter fun j => !Nat.beq j i) (done ++ [i])
      | none => done
def drawP {R : Type} (P : Program) (G : Gt R) (ops : Array Oper) (S : St) (k : St → Option R) : Option R :=
  bif regOk P ops then drawK P G ops S k else
    (match schedN P ops ops.size (List.range ops.size) [] with
      | l => bif permOk l ops.size then drawK P G (permO l ops) S k else none)
section
variable {P : Program} {ops : Array Oper} {Q : Exit → Act → World → Prop} {l : List Nat}
theorem memN_of : ∀ {l : List Nat} {h : Nat}, memN l h = true → h ∈ l
  | x :: r, h, e => by
    simp only [memN, Bool.or_eq_true] at e
    rcases e with e | e
    · rw [Nat.eq_of_beq_eq_true e]; simp
    · exact List.mem_cons_of_mem _ (memN_of e)
theorem permOk_spec {n : Nat} (h : permOk l n = true) : l.length = n ∧ l.Nodup ∧ (∀ i ∈ l, i < n) ∧ ∀ i, i < n → ∃ p, pos l i = some p ∧ l[p]? = some i := by
  simp only [permOk, Bool.and_eq_true, List.all_eq_true, List.mem_range] at h
  obtain ⟨⟨h1, h2⟩, h3⟩ := h
  obtain ⟨nd, lt⟩ := okSel_of h2
  refine ⟨Nat.eq_of_beq_eq_true h1, nd, lt, fun i hi => ?_⟩
  cases hp : pos l i with
  | none => exact absurd (memN_of (h3 i hi)) (pos_none hp)
  | some p => exact ⟨p, rfl, pos_get hp⟩
theorem permO_at {n : Nat} (hs : ops.size = n) (h : permOk l n = true) {i p : Nat} (hp : l[p]? = some i) : (permO l ops)[p]? = (ops[i]?).map (permE l) := by
  obtain ⟨_, _, lt, _⟩ := permOk_spec h
  have hi : i < ops.size := by rw [hs]; exact lt i (List.mem_of_getElem? hp)
  unfold permO
  simp [hp, hi]
theorem posN_at {n : Nat} (h : permOk l n = true) {i p : Nat} (hp : l[p]? = some i) : posN l i = p := by
  obtain ⟨_, nd, _, _⟩ := permOk_spec h
  unfold posN
  rw [get_pos nd hp]
theorem yielded_perm {n : Nat} (hs : ops.size = n) (h : permOk l n = true) (tmps : Array Value) (g : Nat) : yielded (permO l ops) tmps (posN l g) = yielded ops tmps g := by
  obtain ⟨hl, nd, lt, ex⟩ := permOk_spec h
  unfold yielded
  by_cases hg : g < n
  · obtain ⟨p, h1, h2⟩ := ex g hg
    rw [posN_at h h2, permO_at hs h h2]
    cases ops[g]? <;> rfl
  · have e1 : ops[g]? = none := by rw [Array.getElem?_eq_none_iff]; omega
    have e2 : pos l g = none := by
      cases hp : pos l g with
      | none => rfl
      | some p => exact absurd (lt g (List.mem_of_getElem? (pos_get hp))) hg
    have e3 : (permO l ops)[posN l g]? = none := by
      rw [Array.getElem?_eq_none_iff]
      unfold posN permO
      rw [e2]
      simp
    rw [e1, e3]
theorem wanted_perm {n : Nat} (hs : ops.size = n) (h : permOk l n = true) (tmps : Array Value) (o : Oper) : Region.wanted (permE l o) (yielded (permO l ops) tmps) = Region.wanted o (yielded ops tmps) := by
  unfold Region.wanted permE
  cases o.guard with
  | none => rfl
  | some q => obtain ⟨g, b⟩ := q; simp only [yielded_perm hs h]
/-- the marks of two lists -/
def Marks (l : List Nat) (n : Nat) (m m' : Array Bool) : Prop := m.size = n ∧ m'.size = n ∧ ∀ (p i : Nat), l[p]? = some i → m'[p]? = m[i]?
theorem ready_perm {n : Nat} (hs : ops.size = n) (h : permOk l n = true) {m m' : Array Bool} (hm : Marks l n m m') {i p : Nat} (hp : l[p]? = some i) : p ∈ Region.ready .any (permO l ops) m' ↔ i ∈ Region.ready .any ops m := by
  obtain ⟨hl, nd, lt, ex⟩ := permOk_spec h
  obtain ⟨h1, h2, h3⟩ := hm
  have hi : i < n := lt i (List.mem_of_getElem? hp)
  have gd : ∀ (d : Bool) (q : Nat), m'.getD (posN l q) d = m.getD q d := by
    intro d q
    by_cases hq : q < n
    · obtain ⟨r, e1, e2⟩ := ex q hq
      rw [posN_at h e2, Array.getD_eq_getD_getElem?, Array.getD_eq_getD_getElem?, h3 r q e2]
    · have e2 : pos l q = none := by
        cases hp : pos l q with
        | none => rfl
        | some p => exact absurd (lt q (List.mem_of_getElem? (pos_get hp))) hq
      have e3 : posN l q = n := by unfold posN; rw [e2]; exact hl
      rw [e3, Array.getD_eq_getD_getElem?, Array.getD_eq_getD_getElem?, Array.getElem?_eq_none (by omega), Array.getElem?_eq_none (by omega)]
  rw [mem_ready, mem_ready, permO_at hs h hp]
  have g0 := gd true i
  rw [posN_at h hp] at g0
  rw [g0]
  constructor
  · rintro ⟨e1, o', e2, e3⟩
    refine ⟨e1, ?_⟩
    cases ho : ops[i]? with
    | none => rw [ho] at e2; cases e2
    | some o =>
      rw [ho] at e2
      injection e2 with e2
      subst e2
      refine ⟨o, rfl, fun e he hb => ?_⟩
      have := e3 { e with on := posN l e.on } (by simp only [permE]; simp; exact ⟨e, by simpa using he, rfl, rfl⟩) hb
      rw [gd] at this
      exact this
  · rintro ⟨e1, o, e2, e3⟩
    refine ⟨e1, permE l o, by rw [e2]; rfl, fun e he hb => ?_⟩
    simp only [permE, List.mem_toArray, List.mem_map] at he
    obtain ⟨e0, he0, rfl⟩ := he
    rw [gd]
    exact e3 e0 (by simpa using he0) hb
theorem any_perm {n : Nat} (hs : ops.size = n) (h : permOk l n = true) : ∀ (q : Nat) (m m' : Array Bool) (a : Act) (w : World), Marks l n m m' → wpAny P .any (permO l ops) Q q m' a w → wpAny P .any ops Q q m a w := by
  obtain ⟨hl, nd, lt, ex⟩ := permOk_spec h
  have nil : ∀ {m m' : Array Bool}, Marks l n m m' → Region.ready .any ops m = [] → Region.ready .any (permO l ops) m' = [] := by
    intro m m' hm e
    cases e' : Region.ready .any (permO l ops) m' with
    | nil => rfl
    | cons p r =>
      have hp : p ∈ Region.ready .any (permO l ops) m' := by rw [e']; simp
      have hps : p < l.length := by
        obtain ⟨_, o, ho, _⟩ := mem_ready.1 hp
        have := (Array.getElem?_eq_some_iff.1 ho).1
        simpa [permO] using this
      have := (ready_perm hs h hm (List.getElem?_eq_getElem hps)).1 hp
      rw [e] at this
      cases this
  intro q
  induction q with
  | zero =>
    intro m m' a w hm hh
    refine ⟨?_, hh.2⟩
    cases e : Region.ready .any ops m with
    | nil => rfl
    | cons i r =>
      have hi : i ∈ Region.ready .any ops m := by rw [e]; simp
      obtain ⟨_, o, ho, _⟩ := mem_ready.1 hi
      have his : i < n := by rw [← hs]; exact (Array.getElem?_eq_some_iff.1 ho).1
      obtain ⟨p, _, hp⟩ := ex i his
      have := (ready_perm hs h hm hp).2 hi
      rw [hh.1] at this
      cases this
  | succ q ih =>
    intro m m' a w hm hh
    refine ⟨fun e => hh.1 (nil hm e), fun i hi => ?_⟩
    obtain ⟨_, o, ho, _⟩ := mem_ready.1 hi
    have his : i < n := by rw [← hs]; exact (Array.getElem?_eq_some_iff.1 ho).1
    obtain ⟨p, _, hp⟩ := ex i his
    have hw := hh.2 p ((ready_perm hs h hm hp).2 hi)
    have hm2 : Marks l n (m.setIfInBounds i true) (m'.setIfInBounds p true) := by
      obtain ⟨h1, h2, h3⟩ := hm
      refine ⟨by simpa using h1, by simpa using h2, fun r j hr => ?_⟩
      by_cases hrp : p = r
      · subst hrp
        rw [hp] at hr
        injection hr with hr
        subst hr
        have hpl : p < m'.size := by rw [h2, ← hl]; exact (List.getElem?_eq_some_iff.1 hp).1
        simp [hpl, show i < m.size by omega]
      · have hij : i ≠ j := by
          rintro rfl
          have h4 := get_pos nd hp
          have h5 := get_pos nd hr
          rw [h4] at h5
          exact hrp (Option.some.inj h5)
        rw [Array.getElem?_setIfInBounds_ne hrp, Array.getElem?_setIfInBounds_ne hij]
        exact h3 r j hr
    have hK : ∀ a w, wpAny P .any (permO l ops) Q q (m'.setIfInBounds p true) a w → wpAny P .any ops Q q (m.setIfInBounds i true) a w := fun a w => ih _ _ a w hm2
    unfold wpOp at hw ⊢
    rw [permO_at hs h hp, ho] at hw
    rw [ho]
    simp only [Option.map_some] at hw ⊢
    rw [wanted_perm hs h] at hw
    split
    · rename_i hwt
      rw [if_pos hwt] at hw
      rcases hw with hw | hw
      · exact .inl (Oper.wp_mono hK hw)
      · exact .inr hw
    · rename_i hwt
      rw [if_neg hwt] at hw
      exact hK _ _ hw
theorem draw_run {R : Type} {P : Program} {w0 w : World} {U : U0} {F : Nat → Prop} {hv : List Value} {r : R} (hm : P.follows .mixedOrders = true) {G : Gt R} (hG : AllSound P G) (hU : GUni G) {n id : Nat} {ops : Array Oper} {S : St} {k : St → Option R} {Q : Exit → Act → World → Prop} {a : Act} (h : drawK P G ops S k = some r) (hn : a.tmps.size = n) (hR : Rel w0 U S a w F hv)
    (hK : ∀ S' a' w' F' hv', k S' = some r → a'.tmps.size = n → Rel w0 U S' a' w' F' hv' → Q .normal a' w') : wpAny P .any ops Q ops.size (Array.replicate ops.size false) a { w with drawn := w.drawn + 1 } := by
  unfold drawK at h
  cases e : regOk P ops && sortedB S.t with
  | false => rw [e] at h; cases h
  | true =>
    rw [e] at h
    simp only [Bool.and_eq_true] at e
    have hrem : remaining ops.size (Array.replicate ops.size false) = List.range ops.size := by
      unfold remaining
      rw [List.filter_eq_self]
      intro i hi
      have : i < ops.size := List.mem_range.1 hi
      simp [this]
    refine any_sound hG hU e.1 hK ops.size _ S a _ F hv (by simp) (by rw [hrem]; simp) ?_ (.inl (sortedB_spec e.2)) (by rw [hrem]; exact h) hn (rel_drew hR)
    intro i o ho hl
    have : i < ops.size := (Array.getElem?_eq_some_iff.1 ho).1
    simp [this] at hl
theorem drawP_ok {R : Type} {cx : Cx R} (hm : cx.P.follows .mixedOrders = true) (hG : AllSound cx.P cx.G) (hU : GUni cx.G) (hdk : cx.dk = drawP cx.P cx.G) : DrawOk cx := by
  intro r w0 U n id ops S k Q a w F hv h hn hR hK
  rw [hdk] at h
  unfold drawP at h
  cases hr : regOk cx.P ops with
  | true =>
    rw [hr] at h
    exact wp_region_any hm (draw_run (id := id) hm hG hU h hn hR hK)
  | false =>
    rw [hr] at h
    simp only [cond_false] at h
    generalize schedN cx.P ops ops.size (List.range ops.size) [] = l at h
    cases hp : permOk l ops.size with
    | false => rw [hp] at h; cases h
    | true =>
      rw [hp] at h
      have := draw_run (id := id) hm hG hU h hn hR hK
      have hsz : (permO l ops).size = ops.size := by
        unfold permO
        simp [(permOk_spec hp).1]
      rw [hsz] at this
      refine wp_region_any hm (any_perm rfl hp _ _ _ _ _ ⟨by simp, by simp, fun p i hi => ?_⟩ this)
      have h1 : i < ops.size := (permOk_spec hp).2.2.1 i (List.mem_of_getElem? hi)
      have h2 : p < ops.size := by rw [← (permOk_spec hp).1]; exact (List.getElem?_eq_some_iff.1 hi).1
      simp [h1, h2]
end
end Go.Proofs.Ytikikmkfeeljgaa.E
namespace Go.Proofs.Ytikikmkfeeljgaa.E
open Go.RowKit
/-! # 13. A function's row -/
section
variable {R : Type} {P : Program}
/-- the same, but stuck where the number of rounds is not known (so that the kernel compares what calls are given, not what they come to) -/
def lazyN.{u} {α : Sort u} (f : Nat → α) : Nat → α
  | 0 => f 0
  | n + 1 => f (n + 1)
theorem lazyN_eq.{u} {α : Sort u} (f : Nat → α) : lazyN f = f := by
  funext n
  cases n <;> rfl
/-- what a function comes to, and at one place at most -/
def Good {R : Type} (P : Program) (f : Nat) (g : Gx R) : Prop := Sound P f g ∧ ∀ l HA, Uni fun k : T × List Blk → Option R => g l HA fun x HN => k (x, HN)
def AllGood {R : Type} (P : Program) (G : Gt R) : Prop := AllSound P G ∧ GUni G
theorem AllGood.nil : AllGood P (Gof (R := R) []) := ⟨AllSound.nil, fun _ _ _ => Uni.none⟩
theorem AllGood.cons {f : Nat} {g : Gx R} {l : List (Nat × Gx R)} (h : Good P f g) (hl : AllGood P (Gof l)) : AllGood P (Gof ((f, g) :: l)) :=
  ⟨AllSound.cons h.1 hl.1, fun i ags HA => by
    cases e : Nat.beq f i with
    | true => exact Uni.congr (h.2 ags HA) fun k => by simp only [Gof, e, cond_true]
    | false => exact Uni.congr (hl.2 i ags HA) fun k => by simp only [Gof, e, cond_false]⟩
theorem oneD_uni {G : Gt R} (hG : GUni G) (ops : Array Oper) (i : Nat) (S : St) : Uni fun k => oneD P G ops i S k := by
  unfold oneD
  cases ops[i]? with
  | none => exact Uni.none
  | some o =>
    refine guardK_uni (yes := fun k S => bif isRk P o then rdK P G o (ev S.t) S.H fun x => k (putT S o.dst x) else opK P G o S fun x S' => k (putT S' o.dst x)) (no := fun k S => k (putT S o.dst (.tu []))) (fun S => ?_) (fun S => Uni.ret _)
    cases isRk P o with
    | true => exact Uni.bind (rdK_uni hG o (ev S.t) S.H) (h := fun x k => k (putT S o.dst x)) fun x => Uni.ret _
    | false => exact Uni.bind (opK_uni hG o S) (h := fun p k => k (putT p.2 o.dst p.1)) fun p => Uni.ret _
theorem seqC_uni {G : Gt R} (hG : GUni G) (ops : Array Oper) (B : List Nat) : ∀ (l : List Nat) (S : St), Uni fun k => seqC P G ops B l S k
  | [], S => Uni.ret S
  | i :: l, S => by
    have : Uni fun k : St → Option R => oneC P G ops B i S k := by
      unfold oneC
      cases chkH P ops B i S with
      | true => exact oneD_uni hG ops i S
      | false => exact Uni.none
    exact Uni.bind (g := fun k => oneC P G ops B i S k) (h := fun S' k => seqC P G ops B l S' k) this fun S' => seqC_uni hG ops B l S'
theorem drawK_uni {G : Gt R} (hG : GUni G) (ops : Array Oper) (S : St) : Uni fun k => drawK P G ops S k := by
  unfold drawK
  cases regOk P ops && sortedB S.t with
  | true => exact seqC_uni hG ops _ _ S
  | false => exact Uni.none
theorem drawP_uni {G : Gt R} (hG : GUni G) (ops : Array Oper) (S : St) : Uni fun k : St → Option R => drawP P G ops S k := by
  unfold drawP
  cases regOk P ops with
  | true => exact drawK_uni hG ops S
  | false =>
    simp only [cond_false]
    generalize schedN P ops ops.size (List.range ops.size) [] = l
    cases permOk l ops.size with
    | true => exact drawK_uni hG _ S
    | false => exact Uni.none
def LoopRuns (cx : Cx R) (n : Nat) : List (Bool × Code) → Prop
  | [] => True
  | q :: l => LoopRun cx n q ∧ LoopRuns cx n l
theorem LoopRuns.of {cx : Cx R} {n : Nat} : ∀ {l : List (Bool × Code)}, LoopRuns cx n l → ∀ q ∈ l, LoopRun cx n q
  | _ :: _, h, q, hq => by
    rcases List.mem_cons.1 hq with rfl | hq
    · exact h.1
    · exact LoopRuns.of h.2 q hq
theorem LoopRuns.ok {cx : Cx R} {n : Nat} : ∀ {l : List (Bool × Code)}, LoopRuns cx n l → LoopsOk cx n l
  | [], _ => trivial
  | _ :: _, h => ⟨h.1.ok, LoopRuns.ok h.2⟩
theorem LoopRun.loop {cx : Cx R} {n : Nat} {q : Bool × Code} (h : q.1 = false) {i m : Nat} {step : (cx.ds i).D → ((cx.ds i).D → Option R) → exK R (cx.dx i) → Option R} (hf : fid q.2 = some i) (hr : ∀ a k1 k2, roundK cx q.2 i n a k1 k2 = step a k1 k2) (hl : ∀ a k, cx.lp i a k = runC step m a k) : LoopRun cx n q := by
  obtain ⟨b, c⟩ := q
  cases h
  exact ⟨i, m, step, hf, hr, hl⟩
theorem LoopRun.join {cx : Cx R} {n : Nat} {q : Bool × Code} (h : q.1 = true) {i : Nat} (hf : fid q.2 = some i) (hr : ∀ a k, codeK cx q.2 (encS n (cx.ds (jkey i)) a) (fun x S' => selK x S' (cx.dx (jkey i)) k) = cx.lp (jkey i) a k) : LoopRun cx n q := by
  obtain ⟨b, c⟩ := q
  cases h
  exact ⟨i, hf, hr⟩
theorem LoopRun.joinS {cx : Cx R} {n : Nat} {q : Bool × Code} (h : q.1 = true) {i : Nat} {L Li : (cx.ds (jkey i)).D → exK R (cx.dx (jkey i)) → Option R} (e : L = Li) (hf : fid q.2 = some i) (hl : ∀ a k, L a k = cx.lp (jkey i) a k)
    (hr : ∀ a k, codeK cx q.2 (encS n (cx.ds (jkey i)) a) (fun x S' => selK x S' (cx.dx (jkey i)) k) = Li a k) : LoopRun cx n q :=
  LoopRun.join h hf fun a k => (hr a k).trans (by rw [← hl, e])
theorem Good.fn {cx : Cx R} (hm : cx.P.follows .mixedOrders = true) (hG : AllGood cx.P cx.G) (hdk : cx.dk = drawP cx.P cx.G) {f : Nat} {fn : Func} (hf : cx.P.funcs[f]? = some fn) (hname : (fn.name == "runtime.NumGoroutine") = false) (hb : fn.body.isSome = true)
    (hL : LoopRuns cx fn.ntmps (fnLoops cx.jn fn)) (np : Nat) (d : Desc) (hnp : Nat.ble np fn.ntmps = true) {G : d.D → (T → List Blk → Option R) → Option R} (heq : ∀ x k, bodyK cx fn d x k = G x k) : Good cx.P f (typed np d G) := by
  refine ⟨fn_sound hG.1 (drawP_ok hm hG.1 hG.2 hdk) hf hname hb hL.ok np d hnp heq, fun l HA => ?_⟩
  unfold typed
  cases Nat.beq HA.length d.H.length && Nat.beq l.length np with
  | false => exact Uni.none
  | true =>
    simp only [cond_true]
    cases decS d ⟨0, initT 0 l, HA⟩ with
    | none => exact Uni.none
    | some x =>
      have := bodyK_uni (cx := cx) hG.2 (by intro ops S; rw [hdk]; exact drawP_uni hG.2 ops S) fn (LoopRuns.of hL) d x
      exact Uni.congr this fun k => (heq x _).symm
theorem Good.freeze {f : Nat} {g : Gx R} (h : Good P f g) : Good P f (frz g) :=
  ⟨h.1.freeze, fun l HA => by
    cases HA with
    | nil => exact Uni.bind (h.2 l []) (h := fun p k => k (viewT p.2 p.1, [])) fun p => Uni.ret _
    | cons => exact Uni.none⟩
theorem Good.freezeT {f : Nat} {np : Nat} {d : Desc} (hd : d.H = []) {g g' : d.D → (T → List Blk → Option R) → Option R} (h : Good P f (typed np d g)) (e : ∀ x k, g' x k = g x fun x HN => k (viewT HN x) []) : Good P f (typed np d g') := by
  have : typed np d g' = frz (typed np d g) := by
    funext l HA k
    cases HA with
    | nil =>
      unfold frz typed
      simp only []
      cases Nat.beq ([] : List Blk).length d.H.length && Nat.beq l.length np with
      | false => rfl
      | true =>
        simp only [cond_true]
        cases decS d ⟨0, initT 0 l, []⟩ with
        | none => rfl
        | some x => exact e x k
    | cons B HA =>
      unfold frz typed
      rw [hd]
      rfl
  rw [this]
  exact h.freeze
/-- the same, its slices no longer one's own -/
theorem Good.fnF {cx : Cx R} (hm : cx.P.follows .mixedOrders = true) (hG : AllGood cx.P cx.G) (hdk : cx.dk = drawP cx.P cx.G) {f : Nat} {fn : Func} (hf : cx.P.funcs[f]? = some fn) (hname : (fn.name == "runtime.NumGoroutine") = false) (hb : fn.body.isSome = true)
    (hL : LoopRuns cx fn.ntmps (fnLoops cx.jn fn)) (np : Nat) (d : Desc) (hnp : Nat.ble np fn.ntmps = true) (hd : d.H = []) {G : d.D → (T → List Blk → Option R) → Option R} (heq : ∀ x k, bodyK cx fn d x (fun x HN => k (viewT HN x) []) = G x k) : Good cx.P f (typed np d G) :=
  (Good.fn hm hG hdk hf hname hb hL np d hnp (fun _ _ => rfl)).freezeT hd fun x k => (heq x k).symm
def fits (np : Nat) (d : Desc) (l : List A) (HA : List Blk) : Bool := Nat.beq HA.length d.H.length && Nat.beq l.length np && (decS d ⟨0, initT 0 l, HA⟩).isSome
/-- a function that is called in several ways -/
def orG (g h : Gx R) (c : List A → List Blk → Bool) : Gx R := fun l HA k => bif c l HA then g l HA k else h l HA k
theorem Good.or {f : Nat} {g h : Gx R} (hg : Good P f g) (hh : Good P f h) (c : List A → List Blk → Bool) : Good P f (orG g h c) := by
  refine ⟨fun args HA k r e => ?_, fun l HA => ?_⟩
  · unfold orG at e
    cases hc : c args HA with
    | true => rw [hc] at e; exact hg.1 args HA k r e
    | false => rw [hc] at e; exact hh.1 args HA k r e
  · unfold orG
    cases c l HA with
    | true => exact hg.2 l HA
    | false => exact hh.2 l HA
def noJn : Nat → Bool := fun _ => false
def noFz : Nat → List Nat := fun _ => []
def noDs : Nat → Desc := fun _ => ⟨[], []⟩
def noDx : Nat → List (X × Desc) := fun _ => []
def noLp {R : Type} : (i : Nat) → (noDs i).D → exK R (noDx i) → Option R := fun _ _ _ => none
@[reducible] def byteAt (s : ByteArray) (i : Int) : Int := ((s.data.toList.getD i.toNat 0).toNat : Int)
end
end Go.Proofs.Ytikikmkfeeljgaa.E
namespace Go.Proofs.Ytikikmkfeeljgaa.E
open Go.RowKit
/-! # 14. A function that asks whether its slice is nil -/
section
variable {R : Type} {P : Program}
theorem decS_one {ty : Ty} {a : A} {x : (⟨[(0, .d (.sl ty))], []⟩ : Desc).D} (h : decS ⟨[(0, .d (.sl ty))], []⟩ ⟨0, initT 0 [a], []⟩ = some x) : decA (.sl ty) a = some x.1 := by
  have hd : decA (.sl ty) (.c .un) = none := rfl
  unfold decS at h
  simp only [decTs] at h
  cases a with
  | ag l => simp [initT, look, decA] at h
  | c y =>
    by_cases hy : y = .un
    · subst hy
      simp [initT, look, unT, decA] at h
    · have : look (initT 0 [.c y]) 0 = .a (.c y) := by
        cases y <;> first | rfl | exact absurd rfl hy
      rw [this] at h
      simp only at h
      cases hv : decA (.sl ty) (.c y) with
      | none => rw [hv] at h; cases h
      | some v =>
        rw [hv] at h
        simp only [decTs, decBs, Option.some.injEq] at h
        rw [← h]
theorem Good.nilOr {cx : Cx R} (hm : cx.P.follows .mixedOrders = true) (hG : AllGood cx.P cx.G) (hdk : cx.dk = drawP cx.P cx.G) {f : Nat} {fn : Func} (hf : cx.P.funcs[f]? = some fn) (hname : (fn.name == "runtime.NumGoroutine") = false) (hb : fn.body.isSome = true)
    (hL : LoopRuns cx fn.ntmps (fnLoops cx.jn fn)) (ty : Ty) (hnp : Nat.ble 1 fn.ntmps = true) {G : (⟨[(0, .d (.sl ty))], []⟩ : Desc).D → (T → List Blk → Option R) → Option R}
    (h1 : ∀ k, bodyS cx fn 0 ⟨fn.ntmps, [(0, .a (.c .ns))], []⟩ k = G ([], ()) k) (h2 : ∀ x k, bodyS cx fn 0 ⟨fn.ntmps, [(0, .a (.c (.nz ty x.1)))], []⟩ k = G x k) : Good cx.P f (typed 1 ⟨[(0, .d (.sl ty))], []⟩ G) := by
  have hd := drawP_ok hm hG.1 hG.2 hdk
  refine ⟨fun args HA k r h vs w F hv iv harg => .inl ⟨⟨fn, hf, hb, hname⟩, ?_⟩, fun l HA => ?_⟩
  · unfold typed at h
    cases hlens : Nat.beq HA.length 0 && Nat.beq args.length 1 with
    | false => rw [show (⟨[(0, SlotD.d (.sl ty))], []⟩ : Desc).H.length = 0 from rfl, hlens] at h; cases h
    | true =>
      rw [show (⟨[(0, SlotD.d (.sl ty))], []⟩ : Desc).H.length = 0 from rfl, hlens] at h
      simp only [cond_true] at h
      simp only [Bool.and_eq_true] at hlens
      have e1 : HA = [] := List.length_eq_zero_iff.1 (Nat.eq_of_beq_eq_true hlens.1)
      have e2 := Nat.eq_of_beq_eq_true hlens.2
      subst e1
      match args, e2 with
      | [a], _ =>
      match vs, harg with
      | [v], harg =>
      split at h
      case h_2 => cases h
      rename_i x hx
      have ha := decS_one hx
      have hr : RepC w F hv v (.fz ty x.1) := decA_rep ha harg.1 hv
      obtain ⟨ad, c, ev, ⟨hle, hnil⟩, hrows⟩ := id hr
      injection ev with ev
      have hle1 : 1 ≤ fn.ntmps := Nat.le_of_ble_eq_true hnp
      cases ad with
      | none =>
        have hl : x.1 = [] := by
          cases hx1 : x.1 with
          | nil => rfl
          | cons y l =>
            obtain ⟨b, o, cs, e, _⟩ := hrows 0 (by rw [hx1]; simp)
            cases e
        have hc := hnil rfl
        subst hc
        have hv0 : v = .slice none 0 0 := by rw [ev, hl]; rfl
        have hx' : x = ([], ()) := by obtain ⟨y, u⟩ := x; simp only at hl; subst hl; rfl
        rw [hx'] at h
        rw [← h1] at h
        exact body_run hG.1 hd hf hL.ok (args := [.c .ns]) (by simpa using hle1) 0 h iv ⟨hv0, trivial⟩ fun a hR => hR
      | some ad =>
        rw [← h2] at h
        exact body_run hG.1 hd hf hL.ok (args := [.c (.nz ty x.1)]) (by simpa using hle1) 0 h iv ⟨⟨hr, ad, _, _, ev⟩, trivial⟩ fun a hR => hR
  · unfold typed
    cases Nat.beq HA.length (⟨[(0, SlotD.d (.sl ty))], []⟩ : Desc).H.length && Nat.beq l.length 1 with
    | false => exact Uni.none
    | true =>
      simp only [cond_true]
      cases decS (⟨[(0, .d (.sl ty))], []⟩ : Desc) ⟨0, initT 0 l, HA⟩ with
      | none => exact Uni.none
      | some x =>
        have := bodyS_uni (cx := cx) hG.2 (by intro ops S; rw [hdk]; exact drawP_uni hG.2 ops S) fn (LoopRuns.of hL) 0 ⟨fn.ntmps, [(0, .a (.c (.nz ty x.1)))], []⟩
        exact Uni.congr this fun k => (h2 x _).symm
end
end Go.Proofs.Ytikikmkfeeljgaa.E
set_option linter.unusedVariables false
set_option maxRecDepth 100000
namespace Go.Proofs.Ytikikmkfeeljgaa.E
open Go.Proofs
noncomputable section
variable {R : Type}
@[reducible] def ty36 : Ty := (.pr (.int .i64) (.pr .bool (.pr (.int .i64) (.pr .str .un))))
@[reducible] def ty38 : Ty := (.pr .str (.pr .bool (.pr ty36 .un)))
@[reducible] def ty41 : Ty := (.pr .bool (.pr .str (.pr (.sl ty38) (.pr (.int .i64) .un))))
@[reducible] def ty25 : Ty := (.pr (.int .i64) (.pr .str (.pr (.sl .str) (.pr (.int .i64) (.pr .str (.pr (.int .i64) (.pr (.sl ty41) .un)))))))
@[reducible] def ty73 : Ty := (.pr (.int .i64) (.pr .str (.pr ty36 (.pr (.int .i64) .un))))
end
end Go.Proofs.Ytikikmkfeeljgaa.E
set_option linter.unusedVariables false
set_option maxRecDepth 100000
namespace Go.Proofs.Ytikikmkfeeljgaa.E
open Go.Proofs
noncomputable section
variable {R : Type}
/-! verderer/verdererref13.Few: function 8 -/
def verdererref13_Few_ds : Nat → Desc
  | 4 => ⟨[(1, .pt 0 0), (3, .d (.int .i64))], [.box false 25 [.d (.int .i64), .d .str, .d (.sl .str), .d (.int .i64), .d .str, .d (.int .i64), .d (.sl ty41)]]⟩
  | 14 => ⟨[(1, .pt 0 0), (4, .d (.int .i64)), (5, .d (.int .i64)), (56, .pt 0 6), (57, .d (.sl ty41)), (58, .d (.int .i64)), (61, .d .str), (62, .d (.int .i64)), (63, .d .bool)], [.box false 25 [.d (.int .i64), .d .str, .d (.sl .str), .d (.int .i64), .d .str, .d (.int .i64), .d (.sl ty41)]]⟩
  | 9 => ⟨[(1, .pt 0 0), (4, .d (.int .i64))], [.box false 25 [.d (.int .i64), .d .str, .d (.sl .str), .d (.int .i64), .d .str, .d (.int .i64), .d (.sl ty41)]]⟩
  | _ => ⟨[], []⟩
def verdererref13_Few_dx : Nat → List (X × Desc)
  | 4 => [(.r, ⟨[(2, .d .bool)], []⟩), (.e 0, ⟨[(1, .pt 0 0)], [.box false 25 [.d (.int .i64), .d .str, .d (.sl .str), .d (.int .i64), .d .str, .d (.int .i64), .d (.sl ty41)]]⟩)]
  | 14 => [(.r, ⟨[(2, .d .bool)], []⟩), (.e 4, ⟨[(1, .pt 0 0), (4, .d (.int .i64)), (56, .pt 0 6), (57, .d (.sl ty41)), (58, .d (.int .i64)), (61, .d .str), (62, .d (.int .i64)), (63, .d .bool)], [.box false 25 [.d (.int .i64), .d .str, .d (.sl .str), .d (.int .i64), .d .str, .d (.int .i64), .d (.sl ty41)]]⟩)]
  | 9 => [(.r, ⟨[(2, .d .bool)], []⟩), (.e 2, ⟨[], []⟩)]
  | _ => []
def verdererref13_Few_s4 (n : Nat) (x0 : Int) (x1 : Int) (x2 : ByteArray) (x3 : (List ByteArray)) (x4 : Int) (x5 : ByteArray) (x6 : Int) (x7 : (List ty41.D)) (k1 : Int → Int → ByteArray → (List ByteArray) → Int → ByteArray → Int → (List ty41.D) → Option R) (qr : Bool → Option R) (qe0 : Int → ByteArray → (List ByteArray) → Int → ByteArray → Int → (List ty41.D) → Option R) : Option R :=
  if (decide (x0 < (x3.length : Int))) = true then (if 0 ≤ x0 ∧ x0 < (x3.length : Int) then (if (decide (((x3.getD (Int.toNat x0) (Ty.z .str)).size : Int) > 400)) = true then (qr false) else (k1 (IntKind.i64.wrap (x0 + 1)) x1 x2 x3 x4 x5 x6 x7)) else none) else (qe0 x1 x2 x3 x4 x5 x6 x7)
def verdererref13_Few_l4 (n : Nat) (a : (verdererref13_Few_ds 4).D) (k1 : (verdererref13_Few_ds 4).D → Option R) (k2 : exK R (verdererref13_Few_dx 4)) : Option R :=
  verdererref13_Few_s4 n a.1 a.2.1 a.2.2.1 a.2.2.2.1 a.2.2.2.2.1 a.2.2.2.2.2.1 a.2.2.2.2.2.2.1 a.2.2.2.2.2.2.2.1 (fun x0 x1 x2 x3 x4 x5 x6 x7 => k1 (x0, x1, x2, x3, x4, x5, x6, x7, ())) (fun x0 => k2.1 (x0, ())) (fun x0 x1 x2 x3 x4 x5 x6 => k2.2.1 (x0, x1, x2, x3, x4, x5, x6, ()))
def verdererref13_Few_s14 (n : Nat) (x0 : Int) (x1 : Int) (x2 : (List ty41.D)) (x3 : Int) (x4 : ByteArray) (x5 : Int) (x6 : Bool) (x7 : Int) (x8 : ByteArray) (x9 : (List ByteArray)) (x10 : Int) (x11 : ByteArray) (x12 : Int) (x13 : (List ty41.D)) (k1 : Int → Int → (List ty41.D) → Int → ByteArray → Int → Bool → Int → ByteArray → (List ByteArray) → Int → ByteArray → Int → (List ty41.D) → Option R) (qr : Bool → Option R) (qe4 : Int → (List ty41.D) → Int → ByteArray → Int → Bool → Int → ByteArray → (List ByteArray) → Int → ByteArray → Int → (List ty41.D) → Option R) : Option R :=
  if 0 ≤ x0 ∧ x0 < (x13.length : Int) then (if (decide (x1 < (((x13.getD (Int.toNat x0) (Ty.z ty41)).2.2.1).length : Int))) = true then (if 0 ≤ x0 ∧ x0 < (x13.length : Int) then (if 0 ≤ x1 ∧ x1 < (((x13.getD (Int.toNat x0) (Ty.z ty41)).2.2.1).length : Int) then (if (decide ((((((x13.getD (Int.toNat x0) (Ty.z ty41)).2.2.1).getD (Int.toNat x1) (Ty.z ty38)).1).size : Int) > 400)) = true then (qr false) else (k1 x0 (IntKind.i64.wrap (x1 + 1)) x2 x3 x4 x5 x6 x7 x8 x9 x10 x11 x12 x13)) else none) else none) else (qe4 x0 x2 x3 x4 x5 x6 x7 x8 x9 x10 x11 x12 x13)) else none
def verdererref13_Few_l14 (n : Nat) (a : (verdererref13_Few_ds 14).D) (k1 : (verdererref13_Few_ds 14).D → Option R) (k2 : exK R (verdererref13_Few_dx 14)) : Option R :=
  verdererref13_Few_s14 n a.1 a.2.1 a.2.2.1 a.2.2.2.1 a.2.2.2.2.1 a.2.2.2.2.2.1 a.2.2.2.2.2.2.1 a.2.2.2.2.2.2.2.1 a.2.2.2.2.2.2.2.2.1 a.2.2.2.2.2.2.2.2.2.1 a.2.2.2.2.2.2.2.2.2.2.1 a.2.2.2.2.2.2.2.2.2.2.2.1 a.2.2.2.2.2.2.2.2.2.2.2.2.1 a.2.2.2.2.2.2.2.2.2.2.2.2.2.1 (fun x0 x1 x2 x3 x4 x5 x6 x7 x8 x9 x10 x11 x12 x13 => k1 (x0, x1, x2, x3, x4, x5, x6, x7, x8, x9, x10, x11, x12, x13, ())) (fun x0 => k2.1 (x0, ())) (fun x0 x1 x2 x3 x4 x5 x6 x7 x8 x9 x10 x11 x12 => k2.2.1 (x0, x1, x2, x3, x4, x5, x6, x7, x8, x9, x10, x11, x12, ()))
def verdererref13_Few_s9 (n : Nat) (x0 : Int) (x1 : Int) (x2 : ByteArray) (x3 : (List ByteArray)) (x4 : Int) (x5 : ByteArray) (x6 : Int) (x7 : (List ty41.D)) (k1 : Int → Int → ByteArray → (List ByteArray) → Int → ByteArray → Int → (List ty41.D) → Option R) (qr : Bool → Option R) (qe2 : Option R) : Option R :=
  if (decide (x0 < (x7.length : Int))) = true then (if 0 ≤ x0 ∧ x0 < (x7.length : Int) then (if (decide ((((x7.getD (Int.toNat x0) (Ty.z ty41)).2.2.1).length : Int) > 100)) = true then (qr false) else (if 0 ≤ x0 ∧ x0 < (x7.length : Int) then (if (decide ((((x7.getD (Int.toNat x0) (Ty.z ty41)).2.1).size : Int) > 400)) = true then (qr false) else (runC (verdererref13_Few_l14 n) n (x0, 0, x7, x0, (x7.getD (Int.toNat x0) (Ty.z ty41)).2.1, (((x7.getD (Int.toNat x0) (Ty.z ty41)).2.1).size : Int), (decide ((((x7.getD (Int.toNat x0) (Ty.z ty41)).2.1).size : Int) > 400)), x1, x2, x3, x4, x5, x6, x7, ()) (fun b9 => qr b9.1, fun b22 => k1 (IntKind.i64.wrap (b22.1 + 1)) b22.2.2.2.2.2.2.1 b22.2.2.2.2.2.2.2.1 b22.2.2.2.2.2.2.2.2.1 b22.2.2.2.2.2.2.2.2.2.1 b22.2.2.2.2.2.2.2.2.2.2.1 b22.2.2.2.2.2.2.2.2.2.2.2.1 b22.2.2.2.2.2.2.2.2.2.2.2.2.1, ()))) else none)) else none) else qe2
def verdererref13_Few_l9 (n : Nat) (a : (verdererref13_Few_ds 9).D) (k1 : (verdererref13_Few_ds 9).D → Option R) (k2 : exK R (verdererref13_Few_dx 9)) : Option R :=
  verdererref13_Few_s9 n a.1 a.2.1 a.2.2.1 a.2.2.2.1 a.2.2.2.2.1 a.2.2.2.2.2.1 a.2.2.2.2.2.2.1 a.2.2.2.2.2.2.2.1 (fun x0 x1 x2 x3 x4 x5 x6 x7 => k1 (x0, x1, x2, x3, x4, x5, x6, x7, ())) (fun x0 => k2.1 (x0, ())) (k2.2.1 (()))
@[reducible] def verdererref13_Few_d : Desc := ⟨[(0, .d ty25)], []⟩
def verdererref13_Few_Fi (n : Nat) (a0 : ty25.D) (k0 : Bool → Option R) : Option R :=
  if (decide ((a0.2.2.1.length : Int) > 100)) = true then (k0 false) else (if (decide ((a0.2.2.2.2.2.2.1.length : Int) > 40)) = true then (k0 false) else (if (decide ((IntKind.i64.wrap ((a0.2.1.size : Int) + (a0.2.2.2.2.1.size : Int))) > 400)) = true then (k0 false) else (runC (verdererref13_Few_l4 n) n (0, a0.1, a0.2.1, a0.2.2.1, a0.2.2.2.1, a0.2.2.2.2.1, a0.2.2.2.2.2.1, a0.2.2.2.2.2.2.1, ()) (fun b1 => k0 b1.1, fun b8 => runC (verdererref13_Few_l9 n) n (0, b8.1, b8.2.1, b8.2.2.1, b8.2.2.2.1, b8.2.2.2.2.1, b8.2.2.2.2.2.1, b8.2.2.2.2.2.2.1, ()) (fun b23 => k0 b23.1, fun b23 => k0 true, ()), ()))))
def verdererref13_Few_F {R : Type} := lazyN (@verdererref13_Few_Fi R)
theorem verdererref13_Few_e : @verdererref13_Few_F R = @verdererref13_Few_Fi R := lazyN_eq _
def verdererref13_Few_g (n : Nat) : Gx R := typed 1 verdererref13_Few_d fun x k => verdererref13_Few_F n x.1 (fun y0 => k (.a (.c (.b y0))) [])
def verdererref13_Few_cs (R : Type) (n : Nat) : List (Nat × Gx R) := []
def verdererref13_Few_lp (n : Nat) : (i : Nat) → (verdererref13_Few_ds i).D → exK R (verdererref13_Few_dx i) → Option R
  | 4, a, k => runC (verdererref13_Few_l4 n) n a k
  | 14, a, k => runC (verdererref13_Few_l14 n) n a k
  | 9, a, k => runC (verdererref13_Few_l9 n) n a k
  | _, _, _ => none
def verdererref13_Few_cx (R : Type) (n : Nat) : Cx R := ⟨Try.prog, Gof (verdererref13_Few_cs R n), verdererref13_Few_ds, verdererref13_Few_dx, verdererref13_Few_lp n, drawP Try.prog (Gof (verdererref13_Few_cs R n)), false, noJn, noFz⟩
theorem verdererref13_Few_ok (n : Nat) : Good Try.prog 8 (verdererref13_Few_g (R := R) n) := by
  unfold verdererref13_Few_g
  rw [verdererref13_Few_e]
  exact Good.fn (cx := verdererref13_Few_cx R n) (by kernel_rfl) (AllGood.nil) rfl Try.func8 (by kernel_rfl) rfl (by
    have e : fnLoops noJn Try.f8 = [((fnLoops noJn Try.f8)[0]?).getD (false, .skip), ((fnLoops noJn Try.f8)[1]?).getD (false, .skip), ((fnLoops noJn Try.f8)[2]?).getD (false, .skip)] := by kernel_rfl
    show LoopRuns _ _ (fnLoops noJn _)
    rw [e]
    exact ⟨LoopRun.loop (by kernel_rfl) (i := 4) (m := n) (step := verdererref13_Few_l4 n) (by kernel_rfl) (fun a k1 k2 => by kernel_rfl) (fun _ _ => rfl), ⟨LoopRun.loop (by kernel_rfl) (i := 9) (m := n) (step := verdererref13_Few_l9 n) (by kernel_rfl) (fun a k1 k2 => by kernel_rfl) (fun _ _ => rfl), ⟨LoopRun.loop (by kernel_rfl) (i := 14) (m := n) (step := verdererref13_Few_l14 n) (by kernel_rfl) (fun a k1 k2 => by kernel_rfl) (fun _ _ => rfl), trivial⟩⟩⟩) 1 verdererref13_Few_d (by kernel_rfl) (fun x k => by kernel_rfl)
end
end Go.Proofs.Ytikikmkfeeljgaa.E
set_option linter.unusedVariables false
set_option maxRecDepth 100000
namespace Go.Proofs.Ytikikmkfeeljgaa.E
open Go.Proofs
noncomputable section
variable {R : Type}
/-! verderer/verdererref11.letter: function 68 -/
@[reducible] def verdererref11_letter_d : Desc := ⟨[(0, .d (.int .u8))], []⟩
def verdererref11_letter_Fi (n : Nat) (a0 : Int) (k0 : Bool → Option R) : Option R :=
  if (decide (a0 ≥ 97)) = true then (k0 (decide (a0 ≤ 122))) else (k0 false)
def verdererref11_letter_F {R : Type} := lazyN (@verdererref11_letter_Fi R)
theorem verdererref11_letter_e : @verdererref11_letter_F R = @verdererref11_letter_Fi R := lazyN_eq _
def verdererref11_letter_g (n : Nat) : Gx R := typed 1 verdererref11_letter_d fun x k => verdererref11_letter_F n x.1 (fun y0 => k (.a (.c (.b y0))) [])
def verdererref11_letter_cs (R : Type) (n : Nat) : List (Nat × Gx R) := []
def verdererref11_letter_cx (R : Type) (n : Nat) : Cx R := ⟨Try.prog, Gof (verdererref11_letter_cs R n), noDs, noDx, noLp, drawP Try.prog (Gof (verdererref11_letter_cs R n)), false, noJn, noFz⟩
theorem verdererref11_letter_ok (n : Nat) : Good Try.prog 68 (verdererref11_letter_g (R := R) n) := by
  unfold verdererref11_letter_g
  rw [verdererref11_letter_e]
  exact Good.fn (cx := verdererref11_letter_cx R n) (by kernel_rfl) (AllGood.nil) rfl Try.func68 (by kernel_rfl) rfl trivial 1 verdererref11_letter_d (by kernel_rfl) (fun x k => by kernel_rfl)
end
end Go.Proofs.Ytikikmkfeeljgaa.E
set_option linter.unusedVariables false
set_option maxRecDepth 100000
namespace Go.Proofs.Ytikikmkfeeljgaa.E
open Go.Proofs
noncomputable section
variable {R : Type}
/-! verderer/verdererref11.digit: function 71 -/
@[reducible] def verdererref11_digit_d : Desc := ⟨[(0, .d (.int .u8))], []⟩
def verdererref11_digit_Fi (n : Nat) (a0 : Int) (k0 : Bool → Option R) : Option R :=
  if (decide (a0 ≥ 48)) = true then (k0 (decide (a0 ≤ 57))) else (k0 false)
def verdererref11_digit_F {R : Type} := lazyN (@verdererref11_digit_Fi R)
theorem verdererref11_digit_e : @verdererref11_digit_F R = @verdererref11_digit_Fi R := lazyN_eq _
def verdererref11_digit_g (n : Nat) : Gx R := typed 1 verdererref11_digit_d fun x k => verdererref11_digit_F n x.1 (fun y0 => k (.a (.c (.b y0))) [])
def verdererref11_digit_cs (R : Type) (n : Nat) : List (Nat × Gx R) := []
def verdererref11_digit_cx (R : Type) (n : Nat) : Cx R := ⟨Try.prog, Gof (verdererref11_digit_cs R n), noDs, noDx, noLp, drawP Try.prog (Gof (verdererref11_digit_cs R n)), false, noJn, noFz⟩
theorem verdererref11_digit_ok (n : Nat) : Good Try.prog 71 (verdererref11_digit_g (R := R) n) := by
  unfold verdererref11_digit_g
  rw [verdererref11_digit_e]
  exact Good.fn (cx := verdererref11_digit_cx R n) (by kernel_rfl) (AllGood.nil) rfl Try.func71 (by kernel_rfl) rfl trivial 1 verdererref11_digit_d (by kernel_rfl) (fun x k => by kernel_rfl)
end
end Go.Proofs.Ytikikmkfeeljgaa.E
set_option linter.unusedVariables false
set_option maxRecDepth 100000
namespace Go.Proofs.Ytikikmkfeeljgaa.E
open Go.Proofs
noncomputable section
variable {R : Type}
/-! verderer/verdererref11.word: function 69 -/
def verdererref11_word_ds : Nat → Desc
  | 2 => ⟨[(0, .d .str), (3, .d (.int .i64))], []⟩
  | _ => ⟨[], []⟩
def verdererref11_word_dx : Nat → List (X × Desc)
  | 2 => [(.e 0, ⟨[(3, .d (.int .i64))], []⟩)]
  | _ => []
def verdererref11_word_s2 (n : Nat) (x0 : ByteArray) (x1 : Int) (k1 : ByteArray → Int → Option R) (qe0 : Int → Option R) : Option R :=
  if (decide (x1 < (x0.size : Int))) = true then (if 0 ≤ x1 then if x1 < (x0.size : Int) then (verdererref11_letter_F n (byteAt x0 x1) (fun y1 => if y1 = true then (k1 x0 (IntKind.i64.wrap (x1 + 1))) else (if (decide (x1 > 0)) = true then (if 0 ≤ x1 then if x1 < (x0.size : Int) then (verdererref11_digit_F n (byteAt x0 x1) (fun y2 => if y2 = true then (k1 x0 (IntKind.i64.wrap (x1 + 1))) else (if 0 ≤ x1 then if x1 < (x0.size : Int) then (if ((byteAt x0 x1) == 95) = true then (k1 x0 (IntKind.i64.wrap (x1 + 1))) else (qe0 x1)) else none else none))) else none else none) else (qe0 x1)))) else none else none) else (qe0 x1)
def verdererref11_word_l2 (n : Nat) (a : (verdererref11_word_ds 2).D) (k1 : (verdererref11_word_ds 2).D → Option R) (k2 : exK R (verdererref11_word_dx 2)) : Option R :=
  verdererref11_word_s2 n a.1 a.2.1 (fun x0 x1 => k1 (x0, x1, ())) (fun x0 => k2.1 (x0, ()))
@[reducible] def verdererref11_word_d : Desc := ⟨[(0, .d .str)], []⟩
def verdererref11_word_Fi (n : Nat) (a0 : ByteArray) (k0 : Int → Option R) : Option R :=
  runC (verdererref11_word_l2 n) n (a0, 0, ()) (fun b3 => k0 b3.1, ())
def verdererref11_word_F {R : Type} := lazyN (@verdererref11_word_Fi R)
theorem verdererref11_word_e : @verdererref11_word_F R = @verdererref11_word_Fi R := lazyN_eq _
def verdererref11_word_g (n : Nat) : Gx R := typed 1 verdererref11_word_d fun x k => verdererref11_word_F n x.1 (fun y0 => k (.a (.c (.i .i64 y0))) [])
def verdererref11_word_cs (R : Type) (n : Nat) : List (Nat × Gx R) := [(68, verdererref11_letter_g n), (71, verdererref11_digit_g n)]
def verdererref11_word_lp (n : Nat) : (i : Nat) → (verdererref11_word_ds i).D → exK R (verdererref11_word_dx i) → Option R
  | 2, a, k => runC (verdererref11_word_l2 n) n a k
  | _, _, _ => none
def verdererref11_word_cx (R : Type) (n : Nat) : Cx R := ⟨Try.prog, Gof (verdererref11_word_cs R n), verdererref11_word_ds, verdererref11_word_dx, verdererref11_word_lp n, drawP Try.prog (Gof (verdererref11_word_cs R n)), false, noJn, noFz⟩
theorem verdererref11_word_ok (n : Nat) : Good Try.prog 69 (verdererref11_word_g (R := R) n) := by
  unfold verdererref11_word_g
  rw [verdererref11_word_e]
  exact Good.fn (cx := verdererref11_word_cx R n) (by kernel_rfl) (AllGood.cons (verdererref11_letter_ok n) (AllGood.cons (verdererref11_digit_ok n) (AllGood.nil))) rfl Try.func69 (by kernel_rfl) rfl (by
    have e : fnLoops noJn Try.f69 = [((fnLoops noJn Try.f69)[0]?).getD (false, .skip)] := by kernel_rfl
    show LoopRuns _ _ (fnLoops noJn _)
    rw [e]
    exact ⟨LoopRun.loop (by kernel_rfl) (i := 2) (m := n) (step := verdererref11_word_l2 n) (by kernel_rfl) (fun a k1 k2 => by kernel_rfl) (fun _ _ => rfl), trivial⟩) 1 verdererref11_word_d (by kernel_rfl) (fun x k => by kernel_rfl)
end
end Go.Proofs.Ytikikmkfeeljgaa.E
set_option linter.unusedVariables false
set_option maxRecDepth 100000
namespace Go.Proofs.Ytikikmkfeeljgaa.E
open Go.Proofs
noncomputable section
variable {R : Type}
/-! verderer/verdererref01.digits: function 100 -/
def verdererref01_digits_ds : Nat → Desc
  | 3 => ⟨[(0, .d (.int .u64)), (3, .d .str), (4, .d (.int .i64))], []⟩
  | _ => ⟨[], []⟩
def verdererref01_digits_dx : Nat → List (X × Desc)
  | 3 => [(.e 0, ⟨[(3, .d .str)], []⟩)]
  | _ => []
def verdererref01_digits_s3 (n : Nat) (x0 : Int) (x1 : ByteArray) (x2 : Int) (k1 : Int → ByteArray → Int → Option R) (qe0 : ByteArray → Option R) : Option R :=
  if (decide (x2 < 20)) = true then (if (x2 == 0) = true then (if 0 ≤ (IntKind.u64.wrap ((Int.tmod x0 10) + 1)) ∧ (IntKind.u64.wrap ((Int.tmod x0 10) + 1)) ≤ ((⟨#[48, 49, 50, 51, 52, 53, 54, 55, 56, 57]⟩ : ByteArray).size : Int) then (if 0 ≤ (Int.tmod x0 10) ∧ (Int.tmod x0 10) ≤ ((Int.toNat (IntKind.u64.wrap ((Int.tmod x0 10) + 1))) : Int) then (if ((⟨#[48, 49, 50, 51, 52, 53, 54, 55, 56, 57]⟩ : ByteArray).extract (Int.toNat (Int.tmod x0 10)) (Int.toNat (IntKind.u64.wrap ((Int.tmod x0 10) + 1)))).size + x1.size ≤ 9223372036854775807 then (k1 (IntKind.u64.wrap (Int.tdiv x0 10)) (((⟨#[48, 49, 50, 51, 52, 53, 54, 55, 56, 57]⟩ : ByteArray).extract (Int.toNat (Int.tmod x0 10)) (Int.toNat (IntKind.u64.wrap ((Int.tmod x0 10) + 1)))) ++ x1) (IntKind.i64.wrap (x2 + 1))) else none) else none) else none) else (if (decide (x0 > 0)) = true then (if 0 ≤ (IntKind.u64.wrap ((Int.tmod x0 10) + 1)) ∧ (IntKind.u64.wrap ((Int.tmod x0 10) + 1)) ≤ ((⟨#[48, 49, 50, 51, 52, 53, 54, 55, 56, 57]⟩ : ByteArray).size : Int) then (if 0 ≤ (Int.tmod x0 10) ∧ (Int.tmod x0 10) ≤ ((Int.toNat (IntKind.u64.wrap ((Int.tmod x0 10) + 1))) : Int) then (if ((⟨#[48, 49, 50, 51, 52, 53, 54, 55, 56, 57]⟩ : ByteArray).extract (Int.toNat (Int.tmod x0 10)) (Int.toNat (IntKind.u64.wrap ((Int.tmod x0 10) + 1)))).size + x1.size ≤ 9223372036854775807 then (k1 (IntKind.u64.wrap (Int.tdiv x0 10)) (((⟨#[48, 49, 50, 51, 52, 53, 54, 55, 56, 57]⟩ : ByteArray).extract (Int.toNat (Int.tmod x0 10)) (Int.toNat (IntKind.u64.wrap ((Int.tmod x0 10) + 1)))) ++ x1) (IntKind.i64.wrap (x2 + 1))) else none) else none) else none) else (qe0 x1))) else (qe0 x1)
def verdererref01_digits_l3 (n : Nat) (a : (verdererref01_digits_ds 3).D) (k1 : (verdererref01_digits_ds 3).D → Option R) (k2 : exK R (verdererref01_digits_dx 3)) : Option R :=
  verdererref01_digits_s3 n a.1 a.2.1 a.2.2.1 (fun x0 x1 x2 => k1 (x0, x1, x2, ())) (fun x0 => k2.1 (x0, ()))
@[reducible] def verdererref01_digits_d : Desc := ⟨[(0, .d (.int .u64))], []⟩
def verdererref01_digits_Fi (n : Nat) (a0 : Int) (k0 : ByteArray → Option R) : Option R :=
  runC (verdererref01_digits_l3 n) n (a0, (⟨#[]⟩ : ByteArray), 0, ()) (fun b1 => k0 b1.1, ())
def verdererref01_digits_F {R : Type} := lazyN (@verdererref01_digits_Fi R)
theorem verdererref01_digits_e : @verdererref01_digits_F R = @verdererref01_digits_Fi R := lazyN_eq _
def verdererref01_digits_g (n : Nat) : Gx R := typed 1 verdererref01_digits_d fun x k => verdererref01_digits_F n x.1 (fun y0 => k (.a (.c (.s y0))) [])
def verdererref01_digits_cs (R : Type) (n : Nat) : List (Nat × Gx R) := []
def verdererref01_digits_lp (n : Nat) : (i : Nat) → (verdererref01_digits_ds i).D → exK R (verdererref01_digits_dx i) → Option R
  | 3, a, k => runC (verdererref01_digits_l3 n) n a k
  | _, _, _ => none
def verdererref01_digits_cx (R : Type) (n : Nat) : Cx R := ⟨Try.prog, Gof (verdererref01_digits_cs R n), verdererref01_digits_ds, verdererref01_digits_dx, verdererref01_digits_lp n, drawP Try.prog (Gof (verdererref01_digits_cs R n)), false, noJn, noFz⟩
theorem verdererref01_digits_ok (n : Nat) : Good Try.prog 100 (verdererref01_digits_g (R := R) n) := by
  unfold verdererref01_digits_g
  rw [verdererref01_digits_e]
  exact Good.fn (cx := verdererref01_digits_cx R n) (by kernel_rfl) (AllGood.nil) rfl Try.func100 (by kernel_rfl) rfl (by
    have e : fnLoops noJn Try.f100 = [((fnLoops noJn Try.f100)[0]?).getD (false, .skip)] := by kernel_rfl
    show LoopRuns _ _ (fnLoops noJn _)
    rw [e]
    exact ⟨LoopRun.loop (by kernel_rfl) (i := 3) (m := n) (step := verdererref01_digits_l3 n) (by kernel_rfl) (fun a k1 k2 => by kernel_rfl) (fun _ _ => rfl), trivial⟩) 1 verdererref01_digits_d (by kernel_rfl) (fun x k => by kernel_rfl)
end
end Go.Proofs.Ytikikmkfeeljgaa.E
set_option linter.unusedVariables false
set_option maxRecDepth 100000
namespace Go.Proofs.Ytikikmkfeeljgaa.E
open Go.Proofs
noncomputable section
variable {R : Type}
/-! verderer/verdererref01.Num: function 92 -/
@[reducible] def verdererref01_Num_d : Desc := ⟨[(0, .d (.int .i64))], []⟩
def verdererref01_Num_Fi (n : Nat) (a0 : Int) (k0 : ByteArray → Option R) : Option R :=
  if (decide (a0 < 0)) = true then (verdererref01_digits_F n (IntKind.u64.wrap (0 - (IntKind.u64.wrap a0))) (fun y1 => if (⟨#[45]⟩ : ByteArray).size + y1.size ≤ 9223372036854775807 then (k0 ((⟨#[45]⟩ : ByteArray) ++ y1)) else none)) else (verdererref01_digits_F n (IntKind.u64.wrap a0) (fun y2 => k0 y2))
def verdererref01_Num_F {R : Type} := lazyN (@verdererref01_Num_Fi R)
theorem verdererref01_Num_e : @verdererref01_Num_F R = @verdererref01_Num_Fi R := lazyN_eq _
def verdererref01_Num_g (n : Nat) : Gx R := typed 1 verdererref01_Num_d fun x k => verdererref01_Num_F n x.1 (fun y0 => k (.a (.c (.s y0))) [])
def verdererref01_Num_cs (R : Type) (n : Nat) : List (Nat × Gx R) := [(100, verdererref01_digits_g n)]
def verdererref01_Num_cx (R : Type) (n : Nat) : Cx R := ⟨Try.prog, Gof (verdererref01_Num_cs R n), noDs, noDx, noLp, drawP Try.prog (Gof (verdererref01_Num_cs R n)), false, noJn, noFz⟩
theorem verdererref01_Num_ok (n : Nat) : Good Try.prog 92 (verdererref01_Num_g (R := R) n) := by
  unfold verdererref01_Num_g
  rw [verdererref01_Num_e]
  exact Good.fn (cx := verdererref01_Num_cx R n) (by kernel_rfl) (AllGood.cons (verdererref01_digits_ok n) (AllGood.nil)) rfl Try.func92 (by kernel_rfl) rfl trivial 1 verdererref01_Num_d (by kernel_rfl) (fun x k => by kernel_rfl)
end
end Go.Proofs.Ytikikmkfeeljgaa.E
set_option linter.unusedVariables false
set_option maxRecDepth 100000
namespace Go.Proofs.Ytikikmkfeeljgaa.E
open Go.Proofs
noncomputable section
variable {R : Type}
/-! verderer/verdererref01.Number: function 84 -/
def verdererref01_Number_ds : Nat → Desc
  | 8 => ⟨[(0, .d .str), (4, .d (.int .u64)), (5, .d (.int .i64)), (6, .d (.int .i64))], []⟩
  | 1000005 => ⟨[(0, .d .str), (4, .d (.int .u64)), (5, .d (.int .i64))], []⟩
  | _ => ⟨[], []⟩
def verdererref01_Number_dx : Nat → List (X × Desc)
  | 8 => [(.r, ⟨[(2, .d (.int .i64)), (3, .d .bool)], []⟩), (.e 0, ⟨[(0, .d .str), (4, .d (.int .u64)), (5, .d (.int .i64))], []⟩)]
  | 1000005 => [(.r, ⟨[(2, .d (.int .i64)), (3, .d .bool)], []⟩)]
  | _ => []
def verdererref01_Number_s8 (n : Nat) (x0 : ByteArray) (x1 : Int) (x2 : Int) (x3 : Int) (k1 : ByteArray → Int → Int → Int → Option R) (qr : Int → Bool → Option R) (qe0 : ByteArray → Int → Int → Option R) : Option R :=
  if (decide (x3 < (x0.size : Int))) = true then (if 0 ≤ x3 then if x3 < (x0.size : Int) then (if (decide ((byteAt x0 x3) < 48)) = true then (qr 0 false) else (if 0 ≤ x3 then if x3 < (x0.size : Int) then (if (decide ((byteAt x0 x3) > 57)) = true then (qr 0 false) else (if 0 ≤ x3 then if x3 < (x0.size : Int) then (k1 x0 (IntKind.u64.wrap ((IntKind.u64.wrap (x1 * 10)) + (IntKind.u64.wrap (IntKind.u8.wrap ((byteAt x0 x3) - 48))))) x2 (IntKind.i64.wrap (x3 + 1))) else none else none)) else none else none)) else none else none) else (qe0 x0 x1 x2)
def verdererref01_Number_l8 (n : Nat) (a : (verdererref01_Number_ds 8).D) (k1 : (verdererref01_Number_ds 8).D → Option R) (k2 : exK R (verdererref01_Number_dx 8)) : Option R :=
  verdererref01_Number_s8 n a.1 a.2.1 a.2.2.1 a.2.2.2.1 (fun x0 x1 x2 x3 => k1 (x0, x1, x2, x3, ())) (fun x0 x1 => k2.1 (x0, x1, ())) (fun x0 x1 x2 => k2.2.1 (x0, x1, x2, ()))
def verdererref01_Number_s1000005 (n : Nat) (x0 : ByteArray) (x1 : Int) (x2 : Int) (qr : Int → Bool → Option R) : Option R :=
  if ((x0.size : Int) == x2) = true then (qr 0 false) else (if (decide ((IntKind.i64.wrap ((x0.size : Int) - x2)) > 19)) = true then (qr 0 false) else (runC (verdererref01_Number_l8 n) n (x0, x1, x2, x2, ()) (fun b2 => qr b2.1 b2.2.1, fun b5 => if (b5.2.2.1 == 1) = true then (verdererref01_Num_F n (IntKind.i64.wrap (IntKind.u64.wrap (0 - b5.2.1))) (fun y6 => qr (IntKind.i64.wrap (IntKind.u64.wrap (0 - b5.2.1))) (y6.toList == b5.1.toList))) else (verdererref01_Num_F n (IntKind.i64.wrap b5.2.1) (fun y7 => qr (IntKind.i64.wrap b5.2.1) (y7.toList == b5.1.toList))), ())))
def verdererref01_Number_li1000005 (n : Nat) (a : (verdererref01_Number_ds 1000005).D) (k2 : exK R (verdererref01_Number_dx 1000005)) : Option R :=
  verdererref01_Number_s1000005 n a.1 a.2.1 a.2.2.1 (fun x0 x1 => k2.1 (x0, x1, ()))
def verdererref01_Number_l1000005 {R : Type} := lazyN (@verdererref01_Number_li1000005 R)
theorem verdererref01_Number_e1000005 : @verdererref01_Number_l1000005 R = @verdererref01_Number_li1000005 R := lazyN_eq _
@[reducible] def verdererref01_Number_d : Desc := ⟨[(0, .d .str)], []⟩
def verdererref01_Number_Fi (n : Nat) (a0 : ByteArray) (k0 : Int → Bool → Option R) : Option R :=
  if (decide ((a0.size : Int) > 0)) = true then (if 0 ≤ 0 then if 0 < (a0.size : Int) then (if ((byteAt a0 0) == 45) = true then (verdererref01_Number_l1000005 n (a0, 0, 1, ()) (fun b9 => k0 b9.1 b9.2.1, ())) else (verdererref01_Number_l1000005 n (a0, 0, 0, ()) (fun b11 => k0 b11.1 b11.2.1, ()))) else none else none) else (verdererref01_Number_l1000005 n (a0, 0, 0, ()) (fun b13 => k0 b13.1 b13.2.1, ()))
def verdererref01_Number_F {R : Type} := lazyN (@verdererref01_Number_Fi R)
theorem verdererref01_Number_e : @verdererref01_Number_F R = @verdererref01_Number_Fi R := lazyN_eq _
def verdererref01_Number_g (n : Nat) : Gx R := typed 1 verdererref01_Number_d fun x k => verdererref01_Number_F n x.1 (fun y0 y1 => k (.tu [(.c (.i .i64 y0)), (.c (.b y1))]) [])
def verdererref01_Number_cs (R : Type) (n : Nat) : List (Nat × Gx R) := [(92, verdererref01_Num_g n)]
def verdererref01_Number_lp (n : Nat) : (i : Nat) → (verdererref01_Number_ds i).D → exK R (verdererref01_Number_dx i) → Option R
  | 8, a, k => runC (verdererref01_Number_l8 n) n a k
  | 1000005, a, k => verdererref01_Number_l1000005 n a k
  | _, _, _ => none
def verdererref01_Number_cx (R : Type) (n : Nat) : Cx R := ⟨Try.prog, Gof (verdererref01_Number_cs R n), verdererref01_Number_ds, verdererref01_Number_dx, verdererref01_Number_lp n, drawP Try.prog (Gof (verdererref01_Number_cs R n)), false, (memN [5]), noFz⟩
theorem verdererref01_Number_ok (n : Nat) : Good Try.prog 84 (verdererref01_Number_g (R := R) n) := by
  unfold verdererref01_Number_g
  rw [verdererref01_Number_e]
  exact Good.fn (cx := verdererref01_Number_cx R n) (by kernel_rfl) (AllGood.cons (verdererref01_Num_ok n) (AllGood.nil)) rfl Try.func84 (by kernel_rfl) rfl (by
    have e : fnLoops (memN [5]) Try.f84 = [((fnLoops (memN [5]) Try.f84)[0]?).getD (false, .skip), ((fnLoops (memN [5]) Try.f84)[1]?).getD (false, .skip)] := by kernel_rfl
    show LoopRuns _ _ (fnLoops (memN [5]) _)
    rw [e]
    exact ⟨LoopRun.joinS (by kernel_rfl) (i := 5) (L := verdererref01_Number_l1000005 n) (Li := verdererref01_Number_li1000005 n) (by rw [verdererref01_Number_e1000005]) (by kernel_rfl) (fun a k => by kernel_rfl) (fun a k => by kernel_rfl), ⟨LoopRun.loop (by kernel_rfl) (i := 8) (m := n) (step := verdererref01_Number_l8 n) (by kernel_rfl) (fun a k1 k2 => by kernel_rfl) (fun _ _ => rfl), trivial⟩⟩) 1 verdererref01_Number_d (by kernel_rfl) (fun x k => by kernel_rfl)
end
end Go.Proofs.Ytikikmkfeeljgaa.E
set_option linter.unusedVariables false
set_option maxRecDepth 100000
namespace Go.Proofs.Ytikikmkfeeljgaa.E
open Go.Proofs
noncomputable section
variable {R : Type}
/-! verderer/verdererref01.Right: function 94 -/
@[reducible] def verdererref01_Right_d : Desc := ⟨[(0, .d ty36)], []⟩
def verdererref01_Right_Fi (n : Nat) (a0 : ty36.D) (k0 : Bool → Option R) : Option R :=
  if (decide (a0.1 < 0)) = true then (k0 false) else (if (decide (a0.1 > 3)) = true then (k0 false) else (if (a0.1 != 1) = true then (if a0.2.1 = true then (k0 false) else (if (a0.1 != 2) = true then (if (a0.2.2.1 != 0) = true then (k0 false) else (if (a0.1 != 3) = true then (if (!(a0.2.2.2.1.toList == (⟨#[]⟩ : ByteArray).toList)) = true then (k0 false) else (k0 (decide ((a0.2.2.2.1.size : Int) ≤ 60)))) else (k0 (decide ((a0.2.2.2.1.size : Int) ≤ 60))))) else (if (a0.1 != 3) = true then (if (!(a0.2.2.2.1.toList == (⟨#[]⟩ : ByteArray).toList)) = true then (k0 false) else (k0 (decide ((a0.2.2.2.1.size : Int) ≤ 60)))) else (k0 (decide ((a0.2.2.2.1.size : Int) ≤ 60)))))) else (if (a0.1 != 2) = true then (if (a0.2.2.1 != 0) = true then (k0 false) else (if (a0.1 != 3) = true then (if (!(a0.2.2.2.1.toList == (⟨#[]⟩ : ByteArray).toList)) = true then (k0 false) else (k0 (decide ((a0.2.2.2.1.size : Int) ≤ 60)))) else (k0 (decide ((a0.2.2.2.1.size : Int) ≤ 60))))) else (if (a0.1 != 3) = true then (if (!(a0.2.2.2.1.toList == (⟨#[]⟩ : ByteArray).toList)) = true then (k0 false) else (k0 (decide ((a0.2.2.2.1.size : Int) ≤ 60)))) else (k0 (decide ((a0.2.2.2.1.size : Int) ≤ 60)))))))
def verdererref01_Right_F {R : Type} := lazyN (@verdererref01_Right_Fi R)
theorem verdererref01_Right_e : @verdererref01_Right_F R = @verdererref01_Right_Fi R := lazyN_eq _
def verdererref01_Right_g (n : Nat) : Gx R := typed 1 verdererref01_Right_d fun x k => verdererref01_Right_F n x.1 (fun y0 => k (.a (.c (.b y0))) [])
def verdererref01_Right_cs (R : Type) (n : Nat) : List (Nat × Gx R) := []
def verdererref01_Right_cx (R : Type) (n : Nat) : Cx R := ⟨Try.prog, Gof (verdererref01_Right_cs R n), noDs, noDx, noLp, drawP Try.prog (Gof (verdererref01_Right_cs R n)), false, noJn, noFz⟩
theorem verdererref01_Right_ok (n : Nat) : Good Try.prog 94 (verdererref01_Right_g (R := R) n) := by
  unfold verdererref01_Right_g
  rw [verdererref01_Right_e]
  exact Good.fn (cx := verdererref01_Right_cx R n) (by kernel_rfl) (AllGood.nil) rfl Try.func94 (by kernel_rfl) rfl trivial 1 verdererref01_Right_d (by kernel_rfl) (fun x k => by kernel_rfl)
end
end Go.Proofs.Ytikikmkfeeljgaa.E
set_option linter.unusedVariables false
set_option maxRecDepth 100000
namespace Go.Proofs.Ytikikmkfeeljgaa.E
open Go.Proofs
noncomputable section
variable {R : Type}
/-! verderer/verdererref01.quoted: function 95 -/
def verdererref01_quoted_ds : Nat → Desc
  | 1000009 => ⟨[(0, .d .str), (3, .d .str), (4, .d (.int .i64)), (5, .d (.int .u8)), (35, .d .bool)], []⟩
  | 1000007 => ⟨[(0, .d .str), (3, .d .str), (4, .d (.int .i64)), (5, .d (.int .u8)), (21, .d .bool)], []⟩
  | 3 => ⟨[(0, .d .str), (3, .d .str), (4, .d (.int .i64))], []⟩
  | _ => ⟨[], []⟩
def verdererref01_quoted_dx : Nat → List (X × Desc)
  | 1000009 => [(.n, ⟨[(0, .d .str), (3, .d .str), (4, .d (.int .i64))], []⟩)]
  | 1000007 => [(.n, ⟨[(0, .d .str), (3, .d .str), (4, .d (.int .i64))], []⟩)]
  | 3 => [(.e 0, ⟨[(3, .d .str)], []⟩)]
  | _ => []
def verdererref01_quoted_s1000009 (n : Nat) (x0 : ByteArray) (x1 : ByteArray) (x2 : Int) (x3 : Int) (x4 : Bool) (qn : ByteArray → ByteArray → Int → Option R) : Option R :=
  if x4 = true then (if x1.size + (⟨#[92, 120]⟩ : ByteArray).size ≤ 9223372036854775807 then (if 0 ≤ (IntKind.u8.wrap ((IntKind.u8.wrap (Int.tdiv x3 16)) + 1)) ∧ (IntKind.u8.wrap ((IntKind.u8.wrap (Int.tdiv x3 16)) + 1)) ≤ ((⟨#[48, 49, 50, 51, 52, 53, 54, 55, 56, 57, 97, 98, 99, 100, 101, 102]⟩ : ByteArray).size : Int) then (if 0 ≤ (IntKind.u8.wrap (Int.tdiv x3 16)) ∧ (IntKind.u8.wrap (Int.tdiv x3 16)) ≤ ((Int.toNat (IntKind.u8.wrap ((IntKind.u8.wrap (Int.tdiv x3 16)) + 1))) : Int) then (if (x1 ++ (⟨#[92, 120]⟩ : ByteArray)).size + ((⟨#[48, 49, 50, 51, 52, 53, 54, 55, 56, 57, 97, 98, 99, 100, 101, 102]⟩ : ByteArray).extract (Int.toNat (IntKind.u8.wrap (Int.tdiv x3 16))) (Int.toNat (IntKind.u8.wrap ((IntKind.u8.wrap (Int.tdiv x3 16)) + 1)))).size ≤ 9223372036854775807 then (if 0 ≤ (IntKind.u8.wrap ((Int.tmod x3 16) + 1)) ∧ (IntKind.u8.wrap ((Int.tmod x3 16) + 1)) ≤ ((⟨#[48, 49, 50, 51, 52, 53, 54, 55, 56, 57, 97, 98, 99, 100, 101, 102]⟩ : ByteArray).size : Int) then (if 0 ≤ (Int.tmod x3 16) ∧ (Int.tmod x3 16) ≤ ((Int.toNat (IntKind.u8.wrap ((Int.tmod x3 16) + 1))) : Int) then (if ((x1 ++ (⟨#[92, 120]⟩ : ByteArray)) ++ ((⟨#[48, 49, 50, 51, 52, 53, 54, 55, 56, 57, 97, 98, 99, 100, 101, 102]⟩ : ByteArray).extract (Int.toNat (IntKind.u8.wrap (Int.tdiv x3 16))) (Int.toNat (IntKind.u8.wrap ((IntKind.u8.wrap (Int.tdiv x3 16)) + 1))))).size + ((⟨#[48, 49, 50, 51, 52, 53, 54, 55, 56, 57, 97, 98, 99, 100, 101, 102]⟩ : ByteArray).extract (Int.toNat (Int.tmod x3 16)) (Int.toNat (IntKind.u8.wrap ((Int.tmod x3 16) + 1)))).size ≤ 9223372036854775807 then (qn x0 (((x1 ++ (⟨#[92, 120]⟩ : ByteArray)) ++ ((⟨#[48, 49, 50, 51, 52, 53, 54, 55, 56, 57, 97, 98, 99, 100, 101, 102]⟩ : ByteArray).extract (Int.toNat (IntKind.u8.wrap (Int.tdiv x3 16))) (Int.toNat (IntKind.u8.wrap ((IntKind.u8.wrap (Int.tdiv x3 16)) + 1))))) ++ ((⟨#[48, 49, 50, 51, 52, 53, 54, 55, 56, 57, 97, 98, 99, 100, 101, 102]⟩ : ByteArray).extract (Int.toNat (Int.tmod x3 16)) (Int.toNat (IntKind.u8.wrap ((Int.tmod x3 16) + 1))))) x2) else none) else none) else none) else none) else none) else none) else none) else (if 0 ≤ (IntKind.i64.wrap (x2 + 1)) ∧ (IntKind.i64.wrap (x2 + 1)) ≤ (x0.size : Int) then (if 0 ≤ x2 ∧ x2 ≤ ((Int.toNat (IntKind.i64.wrap (x2 + 1))) : Int) then (if x1.size + (x0.extract (Int.toNat x2) (Int.toNat (IntKind.i64.wrap (x2 + 1)))).size ≤ 9223372036854775807 then (qn x0 (x1 ++ (x0.extract (Int.toNat x2) (Int.toNat (IntKind.i64.wrap (x2 + 1))))) x2) else none) else none) else none)
def verdererref01_quoted_li1000009 (n : Nat) (a : (verdererref01_quoted_ds 1000009).D) (k2 : exK R (verdererref01_quoted_dx 1000009)) : Option R :=
  verdererref01_quoted_s1000009 n a.1 a.2.1 a.2.2.1 a.2.2.2.1 a.2.2.2.2.1 (fun x0 x1 x2 => k2.1 (x0, x1, x2, ()))
def verdererref01_quoted_l1000009 {R : Type} := lazyN (@verdererref01_quoted_li1000009 R)
theorem verdererref01_quoted_e1000009 : @verdererref01_quoted_l1000009 R = @verdererref01_quoted_li1000009 R := lazyN_eq _
def verdererref01_quoted_s1000007 (n : Nat) (x0 : ByteArray) (x1 : ByteArray) (x2 : Int) (x3 : Int) (x4 : Bool) (qn : ByteArray → ByteArray → Int → Option R) : Option R :=
  if x4 = true then (if x1.size + (⟨#[92]⟩ : ByteArray).size ≤ 9223372036854775807 then (if 0 ≤ (IntKind.i64.wrap (x2 + 1)) ∧ (IntKind.i64.wrap (x2 + 1)) ≤ (x0.size : Int) then (if 0 ≤ x2 ∧ x2 ≤ ((Int.toNat (IntKind.i64.wrap (x2 + 1))) : Int) then (if (x1 ++ (⟨#[92]⟩ : ByteArray)).size + (x0.extract (Int.toNat x2) (Int.toNat (IntKind.i64.wrap (x2 + 1)))).size ≤ 9223372036854775807 then (qn x0 ((x1 ++ (⟨#[92]⟩ : ByteArray)) ++ (x0.extract (Int.toNat x2) (Int.toNat (IntKind.i64.wrap (x2 + 1))))) x2) else none) else none) else none) else none) else (if (decide (x3 < 32)) = true then (verdererref01_quoted_l1000009 n (x0, x1, x2, x3, true, ()) (fun b3 => qn b3.1 b3.2.1 b3.2.2.1, ())) else (verdererref01_quoted_l1000009 n (x0, x1, x2, x3, (decide (x3 > 126)), ()) (fun b6 => qn b6.1 b6.2.1 b6.2.2.1, ())))
def verdererref01_quoted_li1000007 (n : Nat) (a : (verdererref01_quoted_ds 1000007).D) (k2 : exK R (verdererref01_quoted_dx 1000007)) : Option R :=
  verdererref01_quoted_s1000007 n a.1 a.2.1 a.2.2.1 a.2.2.2.1 a.2.2.2.2.1 (fun x0 x1 x2 => k2.1 (x0, x1, x2, ()))
def verdererref01_quoted_l1000007 {R : Type} := lazyN (@verdererref01_quoted_li1000007 R)
theorem verdererref01_quoted_e1000007 : @verdererref01_quoted_l1000007 R = @verdererref01_quoted_li1000007 R := lazyN_eq _
def verdererref01_quoted_s3 (n : Nat) (x0 : ByteArray) (x1 : ByteArray) (x2 : Int) (k1 : ByteArray → ByteArray → Int → Option R) (qe0 : ByteArray → Option R) : Option R :=
  if (decide (x2 < (x0.size : Int))) = true then (if 0 ≤ x2 then if x2 < (x0.size : Int) then (if ((byteAt x0 x2) == 34) = true then (verdererref01_quoted_l1000007 n (x0, x1, x2, (byteAt x0 x2), true, ()) (fun b9 => k1 b9.1 b9.2.1 (IntKind.i64.wrap (b9.2.2.1 + 1)), ())) else (verdererref01_quoted_l1000007 n (x0, x1, x2, (byteAt x0 x2), ((byteAt x0 x2) == 92), ()) (fun b12 => k1 b12.1 b12.2.1 (IntKind.i64.wrap (b12.2.2.1 + 1)), ()))) else none else none) else (qe0 x1)
def verdererref01_quoted_l3 (n : Nat) (a : (verdererref01_quoted_ds 3).D) (k1 : (verdererref01_quoted_ds 3).D → Option R) (k2 : exK R (verdererref01_quoted_dx 3)) : Option R :=
  verdererref01_quoted_s3 n a.1 a.2.1 a.2.2.1 (fun x0 x1 x2 => k1 (x0, x1, x2, ())) (fun x0 => k2.1 (x0, ()))
@[reducible] def verdererref01_quoted_d : Desc := ⟨[(0, .d .str)], []⟩
def verdererref01_quoted_Fi (n : Nat) (a0 : ByteArray) (k0 : ByteArray → Option R) : Option R :=
  runC (verdererref01_quoted_l3 n) n (a0, (⟨#[34]⟩ : ByteArray), 0, ()) (fun b13 => if b13.1.size + (⟨#[34]⟩ : ByteArray).size ≤ 9223372036854775807 then (k0 (b13.1 ++ (⟨#[34]⟩ : ByteArray))) else none, ())
def verdererref01_quoted_F {R : Type} := lazyN (@verdererref01_quoted_Fi R)
theorem verdererref01_quoted_e : @verdererref01_quoted_F R = @verdererref01_quoted_Fi R := lazyN_eq _
def verdererref01_quoted_g (n : Nat) : Gx R := typed 1 verdererref01_quoted_d fun x k => verdererref01_quoted_F n x.1 (fun y0 => k (.a (.c (.s y0))) [])
def verdererref01_quoted_cs (R : Type) (n : Nat) : List (Nat × Gx R) := []
def verdererref01_quoted_lp (n : Nat) : (i : Nat) → (verdererref01_quoted_ds i).D → exK R (verdererref01_quoted_dx i) → Option R
  | 1000009, a, k => verdererref01_quoted_l1000009 n a k
  | 1000007, a, k => verdererref01_quoted_l1000007 n a k
  | 3, a, k => runC (verdererref01_quoted_l3 n) n a k
  | _, _, _ => none
def verdererref01_quoted_cx (R : Type) (n : Nat) : Cx R := ⟨Try.prog, Gof (verdererref01_quoted_cs R n), verdererref01_quoted_ds, verdererref01_quoted_dx, verdererref01_quoted_lp n, drawP Try.prog (Gof (verdererref01_quoted_cs R n)), false, (memN [9, 7]), noFz⟩
theorem verdererref01_quoted_ok (n : Nat) : Good Try.prog 95 (verdererref01_quoted_g (R := R) n) := by
  unfold verdererref01_quoted_g
  rw [verdererref01_quoted_e]
  exact Good.fn (cx := verdererref01_quoted_cx R n) (by kernel_rfl) (AllGood.nil) rfl Try.func95 (by kernel_rfl) rfl (by
    have e : fnLoops (memN [9, 7]) Try.f95 = [((fnLoops (memN [9, 7]) Try.f95)[0]?).getD (false, .skip), ((fnLoops (memN [9, 7]) Try.f95)[1]?).getD (false, .skip), ((fnLoops (memN [9, 7]) Try.f95)[2]?).getD (false, .skip)] := by kernel_rfl
    show LoopRuns _ _ (fnLoops (memN [9, 7]) _)
    rw [e]
    exact ⟨LoopRun.loop (by kernel_rfl) (i := 3) (m := n) (step := verdererref01_quoted_l3 n) (by kernel_rfl) (fun a k1 k2 => by kernel_rfl) (fun _ _ => rfl), ⟨LoopRun.joinS (by kernel_rfl) (i := 7) (L := verdererref01_quoted_l1000007 n) (Li := verdererref01_quoted_li1000007 n) (by rw [verdererref01_quoted_e1000007]) (by kernel_rfl) (fun a k => by kernel_rfl) (fun a k => by kernel_rfl), ⟨LoopRun.joinS (by kernel_rfl) (i := 9) (L := verdererref01_quoted_l1000009 n) (Li := verdererref01_quoted_li1000009 n) (by rw [verdererref01_quoted_e1000009]) (by kernel_rfl) (fun a k => by kernel_rfl) (fun a k => by kernel_rfl), trivial⟩⟩⟩) 1 verdererref01_quoted_d (by kernel_rfl) (fun x k => by kernel_rfl)
end
end Go.Proofs.Ytikikmkfeeljgaa.E
set_option linter.unusedVariables false
set_option maxRecDepth 100000
namespace Go.Proofs.Ytikikmkfeeljgaa.E
open Go.Proofs
noncomputable section
variable {R : Type}
/-! verderer/verdererref01.Show: function 86 -/
@[reducible] def verdererref01_Show_d : Desc := ⟨[(0, .d ty36)], []⟩
def verdererref01_Show_Fi (n : Nat) (a0 : ty36.D) (k0 : ByteArray → Option R) : Option R :=
  verdererref01_Right_F n a0 (fun y1 => if (!y1) = true then (k0 (⟨#[]⟩ : ByteArray)) else (if (a0.1 == 0) = true then (k0 (⟨#[110, 117, 108, 108]⟩ : ByteArray)) else (if (a0.1 == 1) = true then (if a0.2.1 = true then (k0 (⟨#[116, 114, 117, 101]⟩ : ByteArray)) else (k0 (⟨#[102, 97, 108, 115, 101]⟩ : ByteArray))) else (if (a0.1 == 2) = true then (verdererref01_Num_F n a0.2.2.1 (fun y2 => k0 y2)) else (verdererref01_quoted_F n a0.2.2.2.1 (fun y3 => k0 y3))))))
def verdererref01_Show_F {R : Type} := lazyN (@verdererref01_Show_Fi R)
theorem verdererref01_Show_e : @verdererref01_Show_F R = @verdererref01_Show_Fi R := lazyN_eq _
def verdererref01_Show_g (n : Nat) : Gx R := typed 1 verdererref01_Show_d fun x k => verdererref01_Show_F n x.1 (fun y0 => k (.a (.c (.s y0))) [])
def verdererref01_Show_cs (R : Type) (n : Nat) : List (Nat × Gx R) := [(92, verdererref01_Num_g n), (94, verdererref01_Right_g n), (95, verdererref01_quoted_g n)]
def verdererref01_Show_cx (R : Type) (n : Nat) : Cx R := ⟨Try.prog, Gof (verdererref01_Show_cs R n), noDs, noDx, noLp, drawP Try.prog (Gof (verdererref01_Show_cs R n)), false, noJn, noFz⟩
theorem verdererref01_Show_ok (n : Nat) : Good Try.prog 86 (verdererref01_Show_g (R := R) n) := by
  unfold verdererref01_Show_g
  rw [verdererref01_Show_e]
  exact Good.fn (cx := verdererref01_Show_cx R n) (by kernel_rfl) (AllGood.cons (verdererref01_Num_ok n) (AllGood.cons (verdererref01_Right_ok n) (AllGood.cons (verdererref01_quoted_ok n) (AllGood.nil)))) rfl Try.func86 (by kernel_rfl) rfl trivial 1 verdererref01_Show_d (by kernel_rfl) (fun x k => by kernel_rfl)
end
end Go.Proofs.Ytikikmkfeeljgaa.E
set_option linter.unusedVariables false
set_option maxRecDepth 100000
namespace Go.Proofs.Ytikikmkfeeljgaa.E
open Go.Proofs
noncomputable section
variable {R : Type}
/-! verderer/verdererref01.hex: function 93 -/
@[reducible] def verdererref01_hex_d : Desc := ⟨[(0, .d (.int .u8))], []⟩
def verdererref01_hex_Fi (n : Nat) (a0 : Int) (k0 : Int → Option R) : Option R :=
  if (decide (a0 ≥ 48)) = true then (if (decide (a0 ≤ 57)) = true then (k0 (IntKind.i64.wrap (IntKind.u8.wrap (a0 - 48)))) else (if (decide (a0 ≥ 97)) = true then (if (decide (a0 ≤ 102)) = true then (k0 (IntKind.i64.wrap ((IntKind.i64.wrap (IntKind.u8.wrap (a0 - 97))) + 10))) else (k0 (-1))) else (k0 (-1)))) else (if (decide (a0 ≥ 97)) = true then (if (decide (a0 ≤ 102)) = true then (k0 (IntKind.i64.wrap ((IntKind.i64.wrap (IntKind.u8.wrap (a0 - 97))) + 10))) else (k0 (-1))) else (k0 (-1)))
def verdererref01_hex_F {R : Type} := lazyN (@verdererref01_hex_Fi R)
theorem verdererref01_hex_e : @verdererref01_hex_F R = @verdererref01_hex_Fi R := lazyN_eq _
def verdererref01_hex_g (n : Nat) : Gx R := typed 1 verdererref01_hex_d fun x k => verdererref01_hex_F n x.1 (fun y0 => k (.a (.c (.i .i64 y0))) [])
def verdererref01_hex_cs (R : Type) (n : Nat) : List (Nat × Gx R) := []
def verdererref01_hex_cx (R : Type) (n : Nat) : Cx R := ⟨Try.prog, Gof (verdererref01_hex_cs R n), noDs, noDx, noLp, drawP Try.prog (Gof (verdererref01_hex_cs R n)), false, noJn, noFz⟩
theorem verdererref01_hex_ok (n : Nat) : Good Try.prog 93 (verdererref01_hex_g (R := R) n) := by
  unfold verdererref01_hex_g
  rw [verdererref01_hex_e]
  exact Good.fn (cx := verdererref01_hex_cx R n) (by kernel_rfl) (AllGood.nil) rfl Try.func93 (by kernel_rfl) rfl trivial 1 verdererref01_hex_d (by kernel_rfl) (fun x k => by kernel_rfl)
end
end Go.Proofs.Ytikikmkfeeljgaa.E
set_option linter.unusedVariables false
set_option maxRecDepth 100000
namespace Go.Proofs.Ytikikmkfeeljgaa.E
open Go.Proofs
noncomputable section
variable {R : Type}
/-! verderer/verdererref01.unquoted: function 85 -/
def verdererref01_unquoted_ds : Nat → Desc
  | 3 => ⟨[(0, .d .str), (3, .ow 0), (4, .d (.int .i64))], [.arr 5 (.int .u8)]⟩
  | _ => ⟨[], []⟩
def verdererref01_unquoted_dx : Nat → List (X × Desc)
  | 3 => [(.r, ⟨[(2, .d .str)], []⟩), (.e 0, ⟨[(3, .ow 0)], [.arr 5 (.int .u8)]⟩)]
  | _ => []
def verdererref01_unquoted_s3 (n : Nat) (x0 : ByteArray) (x1 : Int) (x2 : (List Int)) (k1 : ByteArray → Int → (List Int) → Option R) (qr : ByteArray → Option R) (qe0 : (List Int) → Option R) : Option R :=
  if (decide (x1 < (IntKind.i64.wrap ((x0.size : Int) - 1)))) = true then (if 0 ≤ x1 then if x1 < (x0.size : Int) then (if ((byteAt x0 x1) != 92) = true then (if 0 ≤ x1 then if x1 < (x0.size : Int) then (if (List.length x2 + List.length [(byteAt x0 x1)]) * 1 ≤ 140737488355328 then (k1 x0 (IntKind.i64.wrap (x1 + 1)) (x2 ++ [(byteAt x0 x1)])) else none) else none else none) else (if 0 ≤ (IntKind.i64.wrap (x1 + 1)) then if (IntKind.i64.wrap (x1 + 1)) < (x0.size : Int) then (if ((byteAt x0 (IntKind.i64.wrap (x1 + 1))) != 120) = true then (if 0 ≤ (IntKind.i64.wrap (x1 + 1)) then if (IntKind.i64.wrap (x1 + 1)) < (x0.size : Int) then (if (List.length x2 + List.length [(byteAt x0 (IntKind.i64.wrap (x1 + 1)))]) * 1 ≤ 140737488355328 then (k1 x0 (IntKind.i64.wrap ((IntKind.i64.wrap (x1 + 1)) + 1)) (x2 ++ [(byteAt x0 (IntKind.i64.wrap (x1 + 1)))])) else none) else none else none) else (if (decide ((IntKind.i64.wrap (x1 + 3)) ≥ (IntKind.i64.wrap ((x0.size : Int) - 1)))) = true then (qr (strOfNums x2)) else (if 0 ≤ (IntKind.i64.wrap (x1 + 2)) then if (IntKind.i64.wrap (x1 + 2)) < (x0.size : Int) then (verdererref01_hex_F n (byteAt x0 (IntKind.i64.wrap (x1 + 2))) (fun y1 => if 0 ≤ (IntKind.i64.wrap (x1 + 3)) then if (IntKind.i64.wrap (x1 + 3)) < (x0.size : Int) then (verdererref01_hex_F n (byteAt x0 (IntKind.i64.wrap (x1 + 3))) (fun y2 => if (List.length x2 + List.length [(IntKind.u8.wrap (IntKind.i64.wrap ((IntKind.i64.wrap (16 * y1)) + y2)))]) * 1 ≤ 140737488355328 then (k1 x0 (IntKind.i64.wrap ((IntKind.i64.wrap (x1 + 3)) + 1)) (x2 ++ [(IntKind.u8.wrap (IntKind.i64.wrap ((IntKind.i64.wrap (16 * y1)) + y2)))])) else none)) else none else none)) else none else none))) else none else none)) else none else none) else (qe0 x2)
def verdererref01_unquoted_l3 (n : Nat) (a : (verdererref01_unquoted_ds 3).D) (k1 : (verdererref01_unquoted_ds 3).D → Option R) (k2 : exK R (verdererref01_unquoted_dx 3)) : Option R :=
  verdererref01_unquoted_s3 n a.1 a.2.1 a.2.2.1 (fun x0 x1 x2 => k1 (x0, x1, x2, ())) (fun x0 => k2.1 (x0, ())) (fun x0 => k2.2.1 (x0, ()))
@[reducible] def verdererref01_unquoted_d : Desc := ⟨[(0, .d .str)], []⟩
def verdererref01_unquoted_Fi (n : Nat) (a0 : ByteArray) (k0 : ByteArray → Option R) : Option R :=
  runC (verdererref01_unquoted_l3 n) n (a0, 1, ([] : List Int), ()) (fun b3 => k0 b3.1, fun b4 => k0 (strOfNums b4.1), ())
def verdererref01_unquoted_F {R : Type} := lazyN (@verdererref01_unquoted_Fi R)
theorem verdererref01_unquoted_e : @verdererref01_unquoted_F R = @verdererref01_unquoted_Fi R := lazyN_eq _
def verdererref01_unquoted_g (n : Nat) : Gx R := typed 1 verdererref01_unquoted_d fun x k => verdererref01_unquoted_F n x.1 (fun y0 => k (.a (.c (.s y0))) [])
def verdererref01_unquoted_cs (R : Type) (n : Nat) : List (Nat × Gx R) := [(93, verdererref01_hex_g n)]
def verdererref01_unquoted_lp (n : Nat) : (i : Nat) → (verdererref01_unquoted_ds i).D → exK R (verdererref01_unquoted_dx i) → Option R
  | 3, a, k => runC (verdererref01_unquoted_l3 n) n a k
  | _, _, _ => none
def verdererref01_unquoted_cx (R : Type) (n : Nat) : Cx R := ⟨Try.prog, Gof (verdererref01_unquoted_cs R n), verdererref01_unquoted_ds, verdererref01_unquoted_dx, verdererref01_unquoted_lp n, drawP Try.prog (Gof (verdererref01_unquoted_cs R n)), false, noJn, noFz⟩
theorem verdererref01_unquoted_ok (n : Nat) : Good Try.prog 85 (verdererref01_unquoted_g (R := R) n) := by
  unfold verdererref01_unquoted_g
  rw [verdererref01_unquoted_e]
  exact Good.fn (cx := verdererref01_unquoted_cx R n) (by kernel_rfl) (AllGood.cons (verdererref01_hex_ok n) (AllGood.nil)) rfl Try.func85 (by kernel_rfl) rfl (by
    have e : fnLoops noJn Try.f85 = [((fnLoops noJn Try.f85)[0]?).getD (false, .skip)] := by kernel_rfl
    show LoopRuns _ _ (fnLoops noJn _)
    rw [e]
    exact ⟨LoopRun.loop (by kernel_rfl) (i := 3) (m := n) (step := verdererref01_unquoted_l3 n) (by kernel_rfl) (fun a k1 k2 => by kernel_rfl) (fun _ _ => rfl), trivial⟩) 1 verdererref01_unquoted_d (by kernel_rfl) (fun x k => by kernel_rfl)
end
end Go.Proofs.Ytikikmkfeeljgaa.E
set_option linter.unusedVariables false
set_option maxRecDepth 100000
namespace Go.Proofs.Ytikikmkfeeljgaa.E
open Go.Proofs
noncomputable section
variable {R : Type}
/-! verderer/verdererref01.Read: function 70 -/
def verdererref01_Read_ds : Nat → Desc
  | 1000009 => ⟨[(0, .d .str), (2, .pt 0 0), (4, .pt 1 0)], [.box false 36 [.d (.int .i64), .d .bool, .d (.int .i64), .d .str], .box false 36 [.d (.int .i64), .d .bool, .d (.int .i64), .d .str]]⟩
  | _ => ⟨[], []⟩
def verdererref01_Read_dx : Nat → List (X × Desc)
  | 1000009 => [(.r, ⟨[(2, .pt 0 0), (3, .d (.int .i64))], [.box false 36 [.d (.int .i64), .d .bool, .d (.int .i64), .d .str]]⟩)]
  | _ => []
def verdererref01_Read_s1000009 (n : Nat) (x0 : ByteArray) (x1 : Int) (x2 : Bool) (x3 : Int) (x4 : ByteArray) (x5 : Int) (x6 : Bool) (x7 : Int) (x8 : ByteArray) (qr : Int → Int → Bool → Int → ByteArray → Option R) : Option R :=
  if (x0.toList == (⟨#[]⟩ : ByteArray).toList) = true then (qr 7 0 false 0 (⟨#[]⟩ : ByteArray)) else (verdererref01_Show_F n (x5, x6, x7, x8, ()) (fun y3 => if (!(y3.toList == x0.toList)) = true then (qr 7 0 false 0 (⟨#[]⟩ : ByteArray)) else (qr 0 x5 x6 x7 x8)))
def verdererref01_Read_li1000009 (n : Nat) (a : (verdererref01_Read_ds 1000009).D) (k2 : exK R (verdererref01_Read_dx 1000009)) : Option R :=
  verdererref01_Read_s1000009 n a.1 a.2.1 a.2.2.1 a.2.2.2.1 a.2.2.2.2.1 a.2.2.2.2.2.1 a.2.2.2.2.2.2.1 a.2.2.2.2.2.2.2.1 a.2.2.2.2.2.2.2.2.1 (fun x0 x1 x2 x3 x4 => k2.1 (x0, x1, x2, x3, x4, ()))
def verdererref01_Read_l1000009 {R : Type} := lazyN (@verdererref01_Read_li1000009 R)
theorem verdererref01_Read_e1000009 : @verdererref01_Read_l1000009 R = @verdererref01_Read_li1000009 R := lazyN_eq _
@[reducible] def verdererref01_Read_d : Desc := ⟨[(0, .d .str)], []⟩
def verdererref01_Read_Fi (n : Nat) (a0 : ByteArray) (k0 : ty36.D → Int → Option R) : Option R :=
  verdererref01_Number_F n a0 (fun y1 y2 => if (a0.toList == (⟨#[116, 114, 117, 101]⟩ : ByteArray).toList) = true then (verdererref01_Read_l1000009 n (a0, 0, false, 0, (⟨#[]⟩ : ByteArray), 1, (a0.toList == (⟨#[116, 114, 117, 101]⟩ : ByteArray).toList), 0, (⟨#[]⟩ : ByteArray), ()) (fun b8 => k0 (b8.2.1, b8.2.2.1, b8.2.2.2.1, b8.2.2.2.2.1, ()) b8.1, ())) else (if (a0.toList == (⟨#[102, 97, 108, 115, 101]⟩ : ByteArray).toList) = true then (verdererref01_Read_l1000009 n (a0, 0, false, 0, (⟨#[]⟩ : ByteArray), 1, (a0.toList == (⟨#[116, 114, 117, 101]⟩ : ByteArray).toList), 0, (⟨#[]⟩ : ByteArray), ()) (fun b13 => k0 (b13.2.1, b13.2.2.1, b13.2.2.2.1, b13.2.2.2.2.1, ()) b13.1, ())) else (if y2 = true then (verdererref01_Read_l1000009 n (a0, 0, false, 0, (⟨#[]⟩ : ByteArray), 2, false, y1, (⟨#[]⟩ : ByteArray), ()) (fun b18 => k0 (b18.2.1, b18.2.2.1, b18.2.2.2.1, b18.2.2.2.2.1, ()) b18.1, ())) else (if (decide ((a0.size : Int) ≥ 2)) = true then (if 0 ≤ 0 then if 0 < (a0.size : Int) then (if ((byteAt a0 0) == 34) = true then (if (decide ((a0.size : Int) ≤ 300)) = true then (verdererref01_unquoted_F n a0 (fun y19 => verdererref01_Read_l1000009 n (a0, 0, false, 0, (⟨#[]⟩ : ByteArray), 3, false, 0, y19, ()) (fun b24 => k0 (b24.2.1, b24.2.2.1, b24.2.2.2.1, b24.2.2.2.2.1, ()) b24.1, ()))) else (verdererref01_Read_l1000009 n (a0, 0, false, 0, (⟨#[]⟩ : ByteArray), 0, false, 0, (⟨#[]⟩ : ByteArray), ()) (fun b29 => k0 (b29.2.1, b29.2.2.1, b29.2.2.2.1, b29.2.2.2.2.1, ()) b29.1, ()))) else (verdererref01_Read_l1000009 n (a0, 0, false, 0, (⟨#[]⟩ : ByteArray), 0, false, 0, (⟨#[]⟩ : ByteArray), ()) (fun b34 => k0 (b34.2.1, b34.2.2.1, b34.2.2.2.1, b34.2.2.2.2.1, ()) b34.1, ()))) else none else none) else (verdererref01_Read_l1000009 n (a0, 0, false, 0, (⟨#[]⟩ : ByteArray), 0, false, 0, (⟨#[]⟩ : ByteArray), ()) (fun b39 => k0 (b39.2.1, b39.2.2.1, b39.2.2.2.1, b39.2.2.2.2.1, ()) b39.1, ()))))))
def verdererref01_Read_F {R : Type} := lazyN (@verdererref01_Read_Fi R)
theorem verdererref01_Read_e : @verdererref01_Read_F R = @verdererref01_Read_Fi R := lazyN_eq _
def verdererref01_Read_g (n : Nat) : Gx R := typed 1 verdererref01_Read_d fun x k => verdererref01_Read_F n x.1 (fun y0 y1 => k (.tu [(encA ty36 y0), (.c (.i .i64 y1))]) [])
def verdererref01_Read_cs (R : Type) (n : Nat) : List (Nat × Gx R) := [(84, verdererref01_Number_g n), (85, verdererref01_unquoted_g n), (86, verdererref01_Show_g n)]
def verdererref01_Read_lp (n : Nat) : (i : Nat) → (verdererref01_Read_ds i).D → exK R (verdererref01_Read_dx i) → Option R
  | 1000009, a, k => verdererref01_Read_l1000009 n a k
  | _, _, _ => none
def verdererref01_Read_cx (R : Type) (n : Nat) : Cx R := ⟨Try.prog, Gof (verdererref01_Read_cs R n), verdererref01_Read_ds, verdererref01_Read_dx, verdererref01_Read_lp n, drawP Try.prog (Gof (verdererref01_Read_cs R n)), false, (memN [9]), noFz⟩
theorem verdererref01_Read_ok (n : Nat) : Good Try.prog 70 (verdererref01_Read_g (R := R) n) := by
  unfold verdererref01_Read_g
  rw [verdererref01_Read_e]
  exact Good.fn (cx := verdererref01_Read_cx R n) (by kernel_rfl) (AllGood.cons (verdererref01_Number_ok n) (AllGood.cons (verdererref01_unquoted_ok n) (AllGood.cons (verdererref01_Show_ok n) (AllGood.nil)))) rfl Try.func70 (by kernel_rfl) rfl (by
    have e : fnLoops (memN [9]) Try.f70 = [((fnLoops (memN [9]) Try.f70)[0]?).getD (false, .skip)] := by kernel_rfl
    show LoopRuns _ _ (fnLoops (memN [9]) _)
    rw [e]
    exact ⟨LoopRun.joinS (by kernel_rfl) (i := 9) (L := verdererref01_Read_l1000009 n) (Li := verdererref01_Read_li1000009 n) (by rw [verdererref01_Read_e1000009]) (by kernel_rfl) (fun a k => by kernel_rfl) (fun a k => by kernel_rfl), trivial⟩) 1 verdererref01_Read_d (by kernel_rfl) (fun x k => by kernel_rfl)
end
end Go.Proofs.Ytikikmkfeeljgaa.E
set_option linter.unusedVariables false
set_option maxRecDepth 100000
namespace Go.Proofs.Ytikikmkfeeljgaa.E
open Go.Proofs
noncomputable section
variable {R : Type}
/-! verderer/verdererref11.number: function 72 -/
def verdererref11_number_ds : Nat → Desc
  | 4 => ⟨[(0, .d .str), (3, .d (.int .i64))], []⟩
  | _ => ⟨[], []⟩
def verdererref11_number_dx : Nat → List (X × Desc)
  | 4 => [(.e 0, ⟨[(3, .d (.int .i64))], []⟩)]
  | _ => []
def verdererref11_number_s4 (n : Nat) (x0 : ByteArray) (x1 : Int) (k1 : ByteArray → Int → Option R) (qe0 : Int → Option R) : Option R :=
  if (decide (x1 < (x0.size : Int))) = true then (if 0 ≤ x1 then if x1 < (x0.size : Int) then (verdererref11_digit_F n (byteAt x0 x1) (fun y1 => if y1 = true then (k1 x0 (IntKind.i64.wrap (x1 + 1))) else (qe0 x1))) else none else none) else (qe0 x1)
def verdererref11_number_l4 (n : Nat) (a : (verdererref11_number_ds 4).D) (k1 : (verdererref11_number_ds 4).D → Option R) (k2 : exK R (verdererref11_number_dx 4)) : Option R :=
  verdererref11_number_s4 n a.1 a.2.1 (fun x0 x1 => k1 (x0, x1, ())) (fun x0 => k2.1 (x0, ()))
@[reducible] def verdererref11_number_d : Desc := ⟨[(0, .d .str)], []⟩
def verdererref11_number_Fi (n : Nat) (a0 : ByteArray) (k0 : Int → Option R) : Option R :=
  if (decide ((a0.size : Int) > 0)) = true then (if 0 ≤ 0 then if 0 < (a0.size : Int) then (if ((byteAt a0 0) == 45) = true then (runC (verdererref11_number_l4 n) n (a0, 1, ()) (fun b2 => k0 b2.1, ())) else (runC (verdererref11_number_l4 n) n (a0, 0, ()) (fun b3 => k0 b3.1, ()))) else none else none) else (runC (verdererref11_number_l4 n) n (a0, 0, ()) (fun b4 => k0 b4.1, ()))
def verdererref11_number_F {R : Type} := lazyN (@verdererref11_number_Fi R)
theorem verdererref11_number_e : @verdererref11_number_F R = @verdererref11_number_Fi R := lazyN_eq _
def verdererref11_number_g (n : Nat) : Gx R := typed 1 verdererref11_number_d fun x k => verdererref11_number_F n x.1 (fun y0 => k (.a (.c (.i .i64 y0))) [])
def verdererref11_number_cs (R : Type) (n : Nat) : List (Nat × Gx R) := [(71, verdererref11_digit_g n)]
def verdererref11_number_lp (n : Nat) : (i : Nat) → (verdererref11_number_ds i).D → exK R (verdererref11_number_dx i) → Option R
  | 4, a, k => runC (verdererref11_number_l4 n) n a k
  | _, _, _ => none
def verdererref11_number_cx (R : Type) (n : Nat) : Cx R := ⟨Try.prog, Gof (verdererref11_number_cs R n), verdererref11_number_ds, verdererref11_number_dx, verdererref11_number_lp n, drawP Try.prog (Gof (verdererref11_number_cs R n)), false, noJn, noFz⟩
theorem verdererref11_number_ok (n : Nat) : Good Try.prog 72 (verdererref11_number_g (R := R) n) := by
  unfold verdererref11_number_g
  rw [verdererref11_number_e]
  exact Good.fn (cx := verdererref11_number_cx R n) (by kernel_rfl) (AllGood.cons (verdererref11_digit_ok n) (AllGood.nil)) rfl Try.func72 (by kernel_rfl) rfl (by
    have e : fnLoops noJn Try.f72 = [((fnLoops noJn Try.f72)[0]?).getD (false, .skip)] := by kernel_rfl
    show LoopRuns _ _ (fnLoops noJn _)
    rw [e]
    exact ⟨LoopRun.loop (by kernel_rfl) (i := 4) (m := n) (step := verdererref11_number_l4 n) (by kernel_rfl) (fun a k1 k2 => by kernel_rfl) (fun _ _ => rfl), trivial⟩) 1 verdererref11_number_d (by kernel_rfl) (fun x k => by kernel_rfl)
end
end Go.Proofs.Ytikikmkfeeljgaa.E
set_option linter.unusedVariables false
set_option maxRecDepth 100000
namespace Go.Proofs.Ytikikmkfeeljgaa.E
open Go.Proofs
noncomputable section
variable {R : Type}
/-! verderer/verdererref11.sign: function 74 -/
@[reducible] def verdererref11_sign_d : Desc := ⟨[(0, .d .str)], []⟩
def verdererref11_sign_Fi (n : Nat) (a0 : ByteArray) (k0 : Int → Option R) : Option R :=
  if (decide ((a0.size : Int) ≥ 2)) = true then (if 0 ≤ 1 then if 1 < (a0.size : Int) then (if ((byteAt a0 1) == 61) = true then (if 0 ≤ 0 then if 0 < (a0.size : Int) then (if ((byteAt a0 0) == 61) = true then (k0 2) else (if 0 ≤ 0 then if 0 < (a0.size : Int) then (if ((byteAt a0 0) == 33) = true then (k0 2) else (if 0 ≤ 0 then if 0 < (a0.size : Int) then (if ((byteAt a0 0) == 60) = true then (k0 2) else (if 0 ≤ 0 then if 0 < (a0.size : Int) then (if ((byteAt a0 0) == 62) = true then (k0 2) else (if 0 ≤ 0 then if 0 < (a0.size : Int) then (if ((byteAt a0 0) == 40) = true then (k0 1) else (if ((byteAt a0 0) == 41) = true then (k0 1) else (if ((byteAt a0 0) == 44) = true then (k0 1) else (if ((byteAt a0 0) == 95) = true then (k0 1) else (if ((byteAt a0 0) == 60) = true then (k0 1) else (if ((byteAt a0 0) == 62) = true then (k0 1) else (k0 0))))))) else none else none)) else none else none)) else none else none)) else none else none)) else none else none) else (if 0 ≤ 0 then if 0 < (a0.size : Int) then (if ((byteAt a0 0) == 40) = true then (k0 1) else (if ((byteAt a0 0) == 41) = true then (k0 1) else (if ((byteAt a0 0) == 44) = true then (k0 1) else (if ((byteAt a0 0) == 95) = true then (k0 1) else (if ((byteAt a0 0) == 60) = true then (k0 1) else (if ((byteAt a0 0) == 62) = true then (k0 1) else (k0 0))))))) else none else none)) else none else none) else (if 0 ≤ 0 then if 0 < (a0.size : Int) then (if ((byteAt a0 0) == 40) = true then (k0 1) else (if ((byteAt a0 0) == 41) = true then (k0 1) else (if ((byteAt a0 0) == 44) = true then (k0 1) else (if ((byteAt a0 0) == 95) = true then (k0 1) else (if ((byteAt a0 0) == 60) = true then (k0 1) else (if ((byteAt a0 0) == 62) = true then (k0 1) else (k0 0))))))) else none else none)
def verdererref11_sign_F {R : Type} := lazyN (@verdererref11_sign_Fi R)
theorem verdererref11_sign_e : @verdererref11_sign_F R = @verdererref11_sign_Fi R := lazyN_eq _
def verdererref11_sign_g (n : Nat) : Gx R := typed 1 verdererref11_sign_d fun x k => verdererref11_sign_F n x.1 (fun y0 => k (.a (.c (.i .i64 y0))) [])
def verdererref11_sign_cs (R : Type) (n : Nat) : List (Nat × Gx R) := []
def verdererref11_sign_cx (R : Type) (n : Nat) : Cx R := ⟨Try.prog, Gof (verdererref11_sign_cs R n), noDs, noDx, noLp, drawP Try.prog (Gof (verdererref11_sign_cs R n)), false, noJn, noFz⟩
theorem verdererref11_sign_ok (n : Nat) : Good Try.prog 74 (verdererref11_sign_g (R := R) n) := by
  unfold verdererref11_sign_g
  rw [verdererref11_sign_e]
  exact Good.fn (cx := verdererref11_sign_cx R n) (by kernel_rfl) (AllGood.nil) rfl Try.func74 (by kernel_rfl) rfl trivial 1 verdererref11_sign_d (by kernel_rfl) (fun x k => by kernel_rfl)
end
end Go.Proofs.Ytikikmkfeeljgaa.E
set_option linter.unusedVariables false
set_option maxRecDepth 100000
namespace Go.Proofs.Ytikikmkfeeljgaa.E
open Go.Proofs
noncomputable section
variable {R : Type}
/-! verderer/verdererref11.text: function 73 -/
def verdererref11_text_ds : Nat → Desc
  | 2 => ⟨[(0, .d .str), (3, .d (.int .i64))], []⟩
  | _ => ⟨[], []⟩
def verdererref11_text_dx : Nat → List (X × Desc)
  | 2 => [(.r, ⟨[(2, .d (.int .i64))], []⟩), (.e 0, ⟨[], []⟩)]
  | _ => []
def verdererref11_text_s2 (n : Nat) (x0 : ByteArray) (x1 : Int) (k1 : ByteArray → Int → Option R) (qr : Int → Option R) (qe0 : Option R) : Option R :=
  if (decide (x1 < (x0.size : Int))) = true then (if 0 ≤ x1 then if x1 < (x0.size : Int) then (if ((byteAt x0 x1) == 92) = true then (k1 x0 (IntKind.i64.wrap ((IntKind.i64.wrap (x1 + 1)) + 1))) else (if 0 ≤ x1 then if x1 < (x0.size : Int) then (if ((byteAt x0 x1) == 34) = true then (qr (IntKind.i64.wrap (x1 + 1))) else (k1 x0 (IntKind.i64.wrap (x1 + 1)))) else none else none)) else none else none) else qe0
def verdererref11_text_l2 (n : Nat) (a : (verdererref11_text_ds 2).D) (k1 : (verdererref11_text_ds 2).D → Option R) (k2 : exK R (verdererref11_text_dx 2)) : Option R :=
  verdererref11_text_s2 n a.1 a.2.1 (fun x0 x1 => k1 (x0, x1, ())) (fun x0 => k2.1 (x0, ())) (k2.2.1 (()))
@[reducible] def verdererref11_text_d : Desc := ⟨[(0, .d .str)], []⟩
def verdererref11_text_Fi (n : Nat) (a0 : ByteArray) (k0 : Int → Option R) : Option R :=
  runC (verdererref11_text_l2 n) n (a0, 1, ()) (fun b1 => k0 b1.1, fun b1 => k0 0, ())
def verdererref11_text_F {R : Type} := lazyN (@verdererref11_text_Fi R)
theorem verdererref11_text_e : @verdererref11_text_F R = @verdererref11_text_Fi R := lazyN_eq _
def verdererref11_text_g (n : Nat) : Gx R := typed 1 verdererref11_text_d fun x k => verdererref11_text_F n x.1 (fun y0 => k (.a (.c (.i .i64 y0))) [])
def verdererref11_text_cs (R : Type) (n : Nat) : List (Nat × Gx R) := []
def verdererref11_text_lp (n : Nat) : (i : Nat) → (verdererref11_text_ds i).D → exK R (verdererref11_text_dx i) → Option R
  | 2, a, k => runC (verdererref11_text_l2 n) n a k
  | _, _, _ => none
def verdererref11_text_cx (R : Type) (n : Nat) : Cx R := ⟨Try.prog, Gof (verdererref11_text_cs R n), verdererref11_text_ds, verdererref11_text_dx, verdererref11_text_lp n, drawP Try.prog (Gof (verdererref11_text_cs R n)), false, noJn, noFz⟩
theorem verdererref11_text_ok (n : Nat) : Good Try.prog 73 (verdererref11_text_g (R := R) n) := by
  unfold verdererref11_text_g
  rw [verdererref11_text_e]
  exact Good.fn (cx := verdererref11_text_cx R n) (by kernel_rfl) (AllGood.nil) rfl Try.func73 (by kernel_rfl) rfl (by
    have e : fnLoops noJn Try.f73 = [((fnLoops noJn Try.f73)[0]?).getD (false, .skip)] := by kernel_rfl
    show LoopRuns _ _ (fnLoops noJn _)
    rw [e]
    exact ⟨LoopRun.loop (by kernel_rfl) (i := 2) (m := n) (step := verdererref11_text_l2 n) (by kernel_rfl) (fun a k1 k2 => by kernel_rfl) (fun _ _ => rfl), trivial⟩) 1 verdererref11_text_d (by kernel_rfl) (fun x k => by kernel_rfl)
end
end Go.Proofs.Ytikikmkfeeljgaa.E
set_option linter.unusedVariables false
set_option maxRecDepth 100000
namespace Go.Proofs.Ytikikmkfeeljgaa.E
open Go.Proofs
noncomputable section
variable {R : Type}
/-! verderer/verdererref11.one: function 55 -/
def verdererref11_one_ds : Nat → Desc
  | 1000015 => ⟨[(0, .d .str), (2, .pt 0 0), (7, .d (.int .i64))], [.box false 73 [.d (.int .i64), .d .str, .d (.int .i64), .d .bool, .d (.int .i64), .d .str, .d (.int .i64)]]⟩
  | _ => ⟨[], []⟩
def verdererref11_one_dx : Nat → List (X × Desc)
  | 1000015 => [(.r, ⟨[(2, .pt 0 0), (3, .d .bool)], [.box false 73 [.d (.int .i64), .d .str, .d (.int .i64), .d .bool, .d (.int .i64), .d .str, .d (.int .i64)]]⟩)]
  | _ => []
def verdererref11_one_s1000015 (n : Nat) (x0 : ByteArray) (x1 : Int) (x2 : Int) (x3 : ByteArray) (x4 : Int) (x5 : Bool) (x6 : Int) (x7 : ByteArray) (x8 : Int) (qr : Bool → Int → ByteArray → Int → Bool → Int → ByteArray → Int → Option R) : Option R :=
  if (decide (x1 > 0)) = true then (if 0 ≤ x1 ∧ x1 ≤ (x0.size : Int) then (verdererref01_Read_F n (x0.extract 0 (Int.toNat x1)) (fun y8 y9 => if 0 ≤ x1 ∧ x1 ≤ (x0.size : Int) then (qr (y9 == 0) 2 (x0.extract 0 (Int.toNat x1)) y8.1 y8.2.1 y8.2.2.1 y8.2.2.2.1 0) else none)) else none) else (if 0 ≤ 0 then if 0 < (x0.size : Int) then (if ((byteAt x0 0) == 34) = true then (qr false 0 (⟨#[]⟩ : ByteArray) 0 false 0 (⟨#[]⟩ : ByteArray) 0) else (verdererref11_sign_F n x0 (fun y10 => if 0 ≤ y10 ∧ y10 ≤ (x0.size : Int) then (qr (decide (y10 > 0)) 3 (x0.extract 0 (Int.toNat y10)) 0 false 0 (⟨#[]⟩ : ByteArray) 0) else none))) else none else none)
def verdererref11_one_li1000015 (n : Nat) (a : (verdererref11_one_ds 1000015).D) (k2 : exK R (verdererref11_one_dx 1000015)) : Option R :=
  verdererref11_one_s1000015 n a.1 a.2.1 a.2.2.1 a.2.2.2.1 a.2.2.2.2.1 a.2.2.2.2.2.1 a.2.2.2.2.2.2.1 a.2.2.2.2.2.2.2.1 a.2.2.2.2.2.2.2.2.1 (fun x0 x1 x2 x3 x4 x5 x6 x7 => k2.1 (x0, x1, x2, x3, x4, x5, x6, x7, ()))
def verdererref11_one_l1000015 {R : Type} := lazyN (@verdererref11_one_li1000015 R)
theorem verdererref11_one_e1000015 : @verdererref11_one_l1000015 R = @verdererref11_one_li1000015 R := lazyN_eq _
@[reducible] def verdererref11_one_d : Desc := ⟨[(0, .d .str)], []⟩
def verdererref11_one_Fi (n : Nat) (a0 : ByteArray) (k0 : ty73.D → Bool → Option R) : Option R :=
  if 0 ≤ 0 then if 0 < (a0.size : Int) then (verdererref11_letter_F n (byteAt a0 0) (fun y1 => if y1 = true then (verdererref11_word_F n a0 (fun y2 => if 0 ≤ y2 ∧ y2 ≤ (a0.size : Int) then (verdererref01_Read_F n (a0.extract 0 (Int.toNat y2)) (fun y3 y4 => if ((a0.extract 0 (Int.toNat y2)).toList == (⟨#[110, 117, 108, 108]⟩ : ByteArray).toList) = true then (k0 (2, (a0.extract 0 (Int.toNat y2)), y3, 0, ()) true) else (if (y4 == 0) = true then (k0 (2, (a0.extract 0 (Int.toNat y2)), y3, 0, ()) true) else (k0 (1, (a0.extract 0 (Int.toNat y2)), (0, false, 0, (⟨#[]⟩ : ByteArray), ()), 0, ()) true)))) else none)) else (if 0 ≤ 0 then if 0 < (a0.size : Int) then (verdererref11_digit_F n (byteAt a0 0) (fun y5 => if y5 = true then (verdererref11_number_F n a0 (fun y6 => if (decide (y6 < (a0.size : Int))) = true then (if 0 ≤ y6 then if y6 < (a0.size : Int) then (verdererref11_letter_F n (byteAt a0 y6) (fun y7 => if y7 = true then (k0 (0, (⟨#[]⟩ : ByteArray), (0, false, 0, (⟨#[]⟩ : ByteArray), ()), 0, ()) false) else (if 0 ≤ y6 then if y6 < (a0.size : Int) then (if ((byteAt a0 y6) == 95) = true then (k0 (0, (⟨#[]⟩ : ByteArray), (0, false, 0, (⟨#[]⟩ : ByteArray), ()), 0, ()) false) else (verdererref11_one_l1000015 n (a0, y6, 0, (⟨#[]⟩ : ByteArray), 0, false, 0, (⟨#[]⟩ : ByteArray), 0, ()) (fun b18 => k0 (b18.2.1, b18.2.2.1, (b18.2.2.2.1, b18.2.2.2.2.1, b18.2.2.2.2.2.1, b18.2.2.2.2.2.2.1, ()), b18.2.2.2.2.2.2.2.1, ()) b18.1, ()))) else none else none))) else none else none) else (verdererref11_one_l1000015 n (a0, y6, 0, (⟨#[]⟩ : ByteArray), 0, false, 0, (⟨#[]⟩ : ByteArray), 0, ()) (fun b26 => k0 (b26.2.1, b26.2.2.1, (b26.2.2.2.1, b26.2.2.2.2.1, b26.2.2.2.2.2.1, b26.2.2.2.2.2.2.1, ()), b26.2.2.2.2.2.2.2.1, ()) b26.1, ())))) else (if 0 ≤ 0 then if 0 < (a0.size : Int) then (if ((byteAt a0 0) == 45) = true then (verdererref11_number_F n a0 (fun y27 => if (decide (y27 < (a0.size : Int))) = true then (if 0 ≤ y27 then if y27 < (a0.size : Int) then (verdererref11_letter_F n (byteAt a0 y27) (fun y28 => if y28 = true then (k0 (0, (⟨#[]⟩ : ByteArray), (0, false, 0, (⟨#[]⟩ : ByteArray), ()), 0, ()) false) else (if 0 ≤ y27 then if y27 < (a0.size : Int) then (if ((byteAt a0 y27) == 95) = true then (k0 (0, (⟨#[]⟩ : ByteArray), (0, false, 0, (⟨#[]⟩ : ByteArray), ()), 0, ()) false) else (verdererref11_one_l1000015 n (a0, y27, 0, (⟨#[]⟩ : ByteArray), 0, false, 0, (⟨#[]⟩ : ByteArray), 0, ()) (fun b36 => k0 (b36.2.1, b36.2.2.1, (b36.2.2.2.1, b36.2.2.2.2.1, b36.2.2.2.2.2.1, b36.2.2.2.2.2.2.1, ()), b36.2.2.2.2.2.2.2.1, ()) b36.1, ()))) else none else none))) else none else none) else (verdererref11_one_l1000015 n (a0, y27, 0, (⟨#[]⟩ : ByteArray), 0, false, 0, (⟨#[]⟩ : ByteArray), 0, ()) (fun b44 => k0 (b44.2.1, b44.2.2.1, (b44.2.2.2.1, b44.2.2.2.2.1, b44.2.2.2.2.2.1, b44.2.2.2.2.2.2.1, ()), b44.2.2.2.2.2.2.2.1, ()) b44.1, ())))) else (if 0 ≤ 0 then if 0 < (a0.size : Int) then (if ((byteAt a0 0) == 34) = true then (verdererref11_text_F n a0 (fun y45 => verdererref11_one_l1000015 n (a0, y45, 0, (⟨#[]⟩ : ByteArray), 0, false, 0, (⟨#[]⟩ : ByteArray), 0, ()) (fun b53 => k0 (b53.2.1, b53.2.2.1, (b53.2.2.2.1, b53.2.2.2.2.1, b53.2.2.2.2.2.1, b53.2.2.2.2.2.2.1, ()), b53.2.2.2.2.2.2.2.1, ()) b53.1, ()))) else (verdererref11_one_l1000015 n (a0, 0, 0, (⟨#[]⟩ : ByteArray), 0, false, 0, (⟨#[]⟩ : ByteArray), 0, ()) (fun b61 => k0 (b61.2.1, b61.2.2.1, (b61.2.2.2.1, b61.2.2.2.2.1, b61.2.2.2.2.2.1, b61.2.2.2.2.2.2.1, ()), b61.2.2.2.2.2.2.2.1, ()) b61.1, ()))) else none else none)) else none else none))) else none else none))) else none else none
def verdererref11_one_F {R : Type} := lazyN (@verdererref11_one_Fi R)
theorem verdererref11_one_e : @verdererref11_one_F R = @verdererref11_one_Fi R := lazyN_eq _
def verdererref11_one_g (n : Nat) : Gx R := typed 1 verdererref11_one_d fun x k => verdererref11_one_F n x.1 (fun y0 y1 => k (.tu [(encA ty73 y0), (.c (.b y1))]) [])
def verdererref11_one_cs (R : Type) (n : Nat) : List (Nat × Gx R) := [(68, verdererref11_letter_g n), (69, verdererref11_word_g n), (70, verdererref01_Read_g n), (71, verdererref11_digit_g n), (72, verdererref11_number_g n), (73, verdererref11_text_g n), (74, verdererref11_sign_g n)]
def verdererref11_one_lp (n : Nat) : (i : Nat) → (verdererref11_one_ds i).D → exK R (verdererref11_one_dx i) → Option R
  | 1000015, a, k => verdererref11_one_l1000015 n a k
  | _, _, _ => none
def verdererref11_one_cx (R : Type) (n : Nat) : Cx R := ⟨Try.prog, Gof (verdererref11_one_cs R n), verdererref11_one_ds, verdererref11_one_dx, verdererref11_one_lp n, drawP Try.prog (Gof (verdererref11_one_cs R n)), false, (memN [15]), noFz⟩
theorem verdererref11_one_ok (n : Nat) : Good Try.prog 55 (verdererref11_one_g (R := R) n) := by
  unfold verdererref11_one_g
  rw [verdererref11_one_e]
  exact Good.fn (cx := verdererref11_one_cx R n) (by kernel_rfl) (AllGood.cons (verdererref11_letter_ok n) (AllGood.cons (verdererref11_word_ok n) (AllGood.cons (verdererref01_Read_ok n) (AllGood.cons (verdererref11_digit_ok n) (AllGood.cons (verdererref11_number_ok n) (AllGood.cons (verdererref11_text_ok n) (AllGood.cons (verdererref11_sign_ok n) (AllGood.nil)))))))) rfl Try.func55 (by kernel_rfl) rfl (by
    have e : fnLoops (memN [15]) Try.f55 = [((fnLoops (memN [15]) Try.f55)[0]?).getD (false, .skip)] := by kernel_rfl
    show LoopRuns _ _ (fnLoops (memN [15]) _)
    rw [e]
    exact ⟨LoopRun.joinS (by kernel_rfl) (i := 15) (L := verdererref11_one_l1000015 n) (Li := verdererref11_one_li1000015 n) (by rw [verdererref11_one_e1000015]) (by kernel_rfl) (fun a k => by kernel_rfl) (fun a k => by kernel_rfl), trivial⟩) 1 verdererref11_one_d (by kernel_rfl) (fun x k => by kernel_rfl)
end
end Go.Proofs.Ytikikmkfeeljgaa.E
set_option linter.unusedVariables false
set_option maxRecDepth 100000
namespace Go.Proofs.Ytikikmkfeeljgaa.E
open Go.Proofs
noncomputable section
variable {R : Type}
/-! verderer/verdererref11.Read: function 34 -/
def verdererref11_Read_ds : Nat → Desc
  | 5 => ⟨[(0, .d .str), (5, .ow 1), (6, .d (.int .i64))], [.no, .arr 73 ty73]⟩
  | _ => ⟨[], []⟩
def verdererref11_Read_dx : Nat → List (X × Desc)
  | 5 => [(.r, ⟨[(2, .ow 3), (3, .d (.int .i64)), (4, .d (.int .i64))], [.no, .no, .no, .arr 73 ty73]⟩), (.e 0, ⟨[(0, .d .str), (5, .ow 1)], [.no, .arr 73 ty73]⟩)]
  | _ => []
def verdererref11_Read_s5 (n : Nat) (x0 : ByteArray) (x1 : Int) (x2 : (List ty73.D)) (k1 : ByteArray → Int → (List ty73.D) → Option R) (qr : Int → Int → (List ty73.D) → Option R) (qe0 : ByteArray → (List ty73.D) → Option R) : Option R :=
  if (decide (x1 < (x0.size : Int))) = true then (if 0 ≤ x1 then if x1 < (x0.size : Int) then (if ((byteAt x0 x1) == 32) = true then (k1 x0 (IntKind.i64.wrap (x1 + 1)) x2) else (if 0 ≤ x1 then if x1 < (x0.size : Int) then (if ((byteAt x0 x1) == 10) = true then (k1 x0 (IntKind.i64.wrap (x1 + 1)) x2) else (if 0 ≤ x1 ∧ x1 ≤ (x0.size : Int) then (verdererref11_one_F n (x0.extract (Int.toNat x1) x0.size) (fun y1 y2 => if (!y2) = true then (qr x1 7 ([] : List ty73.D)) else (if (List.length x2 + List.length [(y1.1, y1.2.1, y1.2.2.1, x1, ())]) * 72 ≤ 140737488355328 then (k1 x0 (IntKind.i64.wrap (x1 + (y1.2.1.size : Int))) (x2 ++ [(y1.1, y1.2.1, y1.2.2.1, x1, ())])) else none))) else none)) else none else none)) else none else none) else (qe0 x0 x2)
def verdererref11_Read_l5 (n : Nat) (a : (verdererref11_Read_ds 5).D) (k1 : (verdererref11_Read_ds 5).D → Option R) (k2 : exK R (verdererref11_Read_dx 5)) : Option R :=
  verdererref11_Read_s5 n a.1 a.2.1 a.2.2.1 (fun x0 x1 x2 => k1 (x0, x1, x2, ())) (fun x0 x1 x2 => k2.1 (x0, x1, x2, ())) (fun x0 x1 => k2.2.1 (x0, x1, ()))
@[reducible] def verdererref11_Read_d : Desc := ⟨[(0, .d .str)], []⟩
def verdererref11_Read_Fi (n : Nat) (a0 : ByteArray) (k0 : Int → Int → (List ty73.D) → Option R) : Option R :=
  if (decide ((a0.size : Int) > 300)) = true then (k0 0 9 ([] : List ty73.D)) else (runC (verdererref11_Read_l5 n) n (a0, 0, ([] : List ty73.D), ()) (fun b5 => k0 b5.1 b5.2.1 b5.2.2.1, fun b7 => if (List.length b7.2.1 + List.length [(4, (⟨#[]⟩ : ByteArray), (0, false, 0, (⟨#[]⟩ : ByteArray), ()), (b7.1.size : Int), ())]) * 72 ≤ 140737488355328 then (k0 0 0 (b7.2.1 ++ [(4, (⟨#[]⟩ : ByteArray), (0, false, 0, (⟨#[]⟩ : ByteArray), ()), (b7.1.size : Int), ())])) else none, ()))
def verdererref11_Read_F {R : Type} := lazyN (@verdererref11_Read_Fi R)
theorem verdererref11_Read_e : @verdererref11_Read_F R = @verdererref11_Read_Fi R := lazyN_eq _
def verdererref11_Read_g (n : Nat) : Gx R := typed 1 verdererref11_Read_d fun x k => verdererref11_Read_F n x.1 (fun y0 y1 y2 => k (.tu [(.c (.ow 0)), (.c (.i .i64 y0)), (.c (.i .i64 y1))]) [(.arr 73 ty73 y2)])
def verdererref11_Read_cs (R : Type) (n : Nat) : List (Nat × Gx R) := [(55, verdererref11_one_g n)]
def verdererref11_Read_lp (n : Nat) : (i : Nat) → (verdererref11_Read_ds i).D → exK R (verdererref11_Read_dx i) → Option R
  | 5, a, k => runC (verdererref11_Read_l5 n) n a k
  | _, _, _ => none
def verdererref11_Read_cx (R : Type) (n : Nat) : Cx R := ⟨Try.prog, Gof (verdererref11_Read_cs R n), verdererref11_Read_ds, verdererref11_Read_dx, verdererref11_Read_lp n, drawP Try.prog (Gof (verdererref11_Read_cs R n)), false, noJn, noFz⟩
theorem verdererref11_Read_ok (n : Nat) : Good Try.prog 34 (verdererref11_Read_g (R := R) n) := by
  unfold verdererref11_Read_g
  rw [verdererref11_Read_e]
  exact Good.fn (cx := verdererref11_Read_cx R n) (by kernel_rfl) (AllGood.cons (verdererref11_one_ok n) (AllGood.nil)) rfl Try.func34 (by kernel_rfl) rfl (by
    have e : fnLoops noJn Try.f34 = [((fnLoops noJn Try.f34)[0]?).getD (false, .skip)] := by kernel_rfl
    show LoopRuns _ _ (fnLoops noJn _)
    rw [e]
    exact ⟨LoopRun.loop (by kernel_rfl) (i := 5) (m := n) (step := verdererref11_Read_l5 n) (by kernel_rfl) (fun a k1 k2 => by kernel_rfl) (fun _ _ => rfl), trivial⟩) 1 verdererref11_Read_d (by kernel_rfl) (fun x k => by kernel_rfl)
end
end Go.Proofs.Ytikikmkfeeljgaa.E
set_option linter.unusedVariables false
set_option maxRecDepth 100000
namespace Go.Proofs.Ytikikmkfeeljgaa.E
open Go.Proofs
noncomputable section
variable {R : Type}
/-! (*verderer/verdererref12.reader).now: function 37 -/
@[reducible] def verdererref12_reader_now_d : Desc := ⟨[(0, .pt 0 0)], [.box true 69 [.ow 1, .d (.int .i64), .d (.int .i64), .d (.int .i64)], .arr 73 ty73]⟩
def verdererref12_reader_now_Fi (n : Nat) (a0 : Int) (a1 : Int) (a2 : Int) (a3 : (List ty73.D)) (k0 : ty73.D → Int → Int → Int → (List ty73.D) → Option R) : Option R :=
  if 0 ≤ a0 ∧ a0 < (a3.length : Int) then (if (Int.toNat a0) < a3.length then (k0 ((a3.getD (Int.toNat a0) (Ty.z ty73)).1, (a3.getD (Int.toNat a0) (Ty.z ty73)).2.1, ((a3.getD (Int.toNat a0) (Ty.z ty73)).2.2.1), (a3.getD (Int.toNat a0) (Ty.z ty73)).2.2.2.1, ()) a0 a1 a2 a3) else none) else none
def verdererref12_reader_now_F {R : Type} := lazyN (@verdererref12_reader_now_Fi R)
theorem verdererref12_reader_now_e : @verdererref12_reader_now_F R = @verdererref12_reader_now_Fi R := lazyN_eq _
def verdererref12_reader_now_g (n : Nat) : Gx R := typed 1 verdererref12_reader_now_d fun x k => verdererref12_reader_now_F n x.1 x.2.1 x.2.2.1 x.2.2.2.1 (fun y0 y1 y2 y3 y4 => k (.a (encA ty73 y0)) [(.box true 69 [(.ow 1), (.i .i64 y1), (.i .i64 y2), (.i .i64 y3)]), (.arr 73 ty73 y4)])
def verdererref12_reader_now_cs (R : Type) (n : Nat) : List (Nat × Gx R) := []
def verdererref12_reader_now_cx (R : Type) (n : Nat) : Cx R := ⟨Try.prog, Gof (verdererref12_reader_now_cs R n), noDs, noDx, noLp, drawP Try.prog (Gof (verdererref12_reader_now_cs R n)), false, noJn, noFz⟩
theorem verdererref12_reader_now_ok (n : Nat) : Good Try.prog 37 (verdererref12_reader_now_g (R := R) n) := by
  unfold verdererref12_reader_now_g
  rw [verdererref12_reader_now_e]
  exact Good.fn (cx := verdererref12_reader_now_cx R n) (by kernel_rfl) (AllGood.nil) rfl Try.func37 (by kernel_rfl) rfl trivial 1 verdererref12_reader_now_d (by kernel_rfl) (fun x k => by kernel_rfl)
end
end Go.Proofs.Ytikikmkfeeljgaa.E
set_option linter.unusedVariables false
set_option maxRecDepth 100000
namespace Go.Proofs.Ytikikmkfeeljgaa.E
open Go.Proofs
noncomputable section
variable {R : Type}
/-! (*verderer/verdererref12.reader).is: function 56 -/
@[reducible] def verdererref12_reader_is_d : Desc := ⟨[(0, .pt 0 0), (1, .d .str)], [.box true 69 [.ow 1, .d (.int .i64), .d (.int .i64), .d (.int .i64)], .arr 73 ty73]⟩
def verdererref12_reader_is_Fi (n : Nat) (a0 : ByteArray) (a1 : Int) (a2 : Int) (a3 : Int) (a4 : (List ty73.D)) (k0 : Bool → Int → Int → Int → (List ty73.D) → Option R) : Option R :=
  verdererref12_reader_now_F n a1 a2 a3 a4 (fun y1 y2 y3 y4 y5 => if (y3 == 0) = true then (if (y1.1 == 1) = true then (k0 (y1.2.1.toList == a0.toList) y2 y3 y4 y5) else (if (y1.1 == 3) = true then (k0 (y1.2.1.toList == a0.toList) y2 y3 y4 y5) else (k0 false y2 y3 y4 y5))) else (k0 false y2 y3 y4 y5))
def verdererref12_reader_is_F {R : Type} := lazyN (@verdererref12_reader_is_Fi R)
theorem verdererref12_reader_is_e : @verdererref12_reader_is_F R = @verdererref12_reader_is_Fi R := lazyN_eq _
def verdererref12_reader_is_g (n : Nat) : Gx R := typed 2 verdererref12_reader_is_d fun x k => verdererref12_reader_is_F n x.1 x.2.1 x.2.2.1 x.2.2.2.1 x.2.2.2.2.1 (fun y0 y1 y2 y3 y4 => k (.a (.c (.b y0))) [(.box true 69 [(.ow 1), (.i .i64 y1), (.i .i64 y2), (.i .i64 y3)]), (.arr 73 ty73 y4)])
def verdererref12_reader_is_cs (R : Type) (n : Nat) : List (Nat × Gx R) := [(37, verdererref12_reader_now_g n)]
def verdererref12_reader_is_cx (R : Type) (n : Nat) : Cx R := ⟨Try.prog, Gof (verdererref12_reader_is_cs R n), noDs, noDx, noLp, drawP Try.prog (Gof (verdererref12_reader_is_cs R n)), false, noJn, noFz⟩
theorem verdererref12_reader_is_ok (n : Nat) : Good Try.prog 56 (verdererref12_reader_is_g (R := R) n) := by
  unfold verdererref12_reader_is_g
  rw [verdererref12_reader_is_e]
  exact Good.fn (cx := verdererref12_reader_is_cx R n) (by kernel_rfl) (AllGood.cons (verdererref12_reader_now_ok n) (AllGood.nil)) rfl Try.func56 (by kernel_rfl) rfl trivial 2 verdererref12_reader_is_d (by kernel_rfl) (fun x k => by kernel_rfl)
end
end Go.Proofs.Ytikikmkfeeljgaa.E
set_option linter.unusedVariables false
set_option maxRecDepth 100000
namespace Go.Proofs.Ytikikmkfeeljgaa.E
open Go.Proofs
noncomputable section
variable {R : Type}
/-! (*verderer/verdererref12.reader).step: function 41 -/
@[reducible] def verdererref12_reader_step_d : Desc := ⟨[(0, .pt 0 0)], [.box true 69 [.ow 1, .d (.int .i64), .d (.int .i64), .d (.int .i64)], .arr 73 ty73]⟩
def verdererref12_reader_step_Fi (n : Nat) (a0 : Int) (a1 : Int) (a2 : Int) (a3 : (List ty73.D)) (k0 : Int → Int → Int → (List ty73.D) → Option R) : Option R :=
  if (decide ((IntKind.i64.wrap (a0 + 1)) < (a3.length : Int))) = true then (k0 (IntKind.i64.wrap (a0 + 1)) a1 a2 a3) else (k0 a0 a1 a2 a3)
def verdererref12_reader_step_F {R : Type} := lazyN (@verdererref12_reader_step_Fi R)
theorem verdererref12_reader_step_e : @verdererref12_reader_step_F R = @verdererref12_reader_step_Fi R := lazyN_eq _
def verdererref12_reader_step_g (n : Nat) : Gx R := typed 1 verdererref12_reader_step_d fun x k => verdererref12_reader_step_F n x.1 x.2.1 x.2.2.1 x.2.2.2.1 (fun y0 y1 y2 y3 => k (.tu []) [(.box true 69 [(.ow 1), (.i .i64 y0), (.i .i64 y1), (.i .i64 y2)]), (.arr 73 ty73 y3)])
def verdererref12_reader_step_cs (R : Type) (n : Nat) : List (Nat × Gx R) := []
def verdererref12_reader_step_cx (R : Type) (n : Nat) : Cx R := ⟨Try.prog, Gof (verdererref12_reader_step_cs R n), noDs, noDx, noLp, drawP Try.prog (Gof (verdererref12_reader_step_cs R n)), false, noJn, noFz⟩
theorem verdererref12_reader_step_ok (n : Nat) : Good Try.prog 41 (verdererref12_reader_step_g (R := R) n) := by
  unfold verdererref12_reader_step_g
  rw [verdererref12_reader_step_e]
  exact Good.fn (cx := verdererref12_reader_step_cx R n) (by kernel_rfl) (AllGood.nil) rfl Try.func41 (by kernel_rfl) rfl trivial 1 verdererref12_reader_step_d (by kernel_rfl) (fun x k => by kernel_rfl)
end
end Go.Proofs.Ytikikmkfeeljgaa.E
set_option linter.unusedVariables false
set_option maxRecDepth 100000
namespace Go.Proofs.Ytikikmkfeeljgaa.E
open Go.Proofs
noncomputable section
variable {R : Type}
/-! (*verderer/verdererref12.reader).take: function 35 -/
@[reducible] def verdererref12_reader_take_d : Desc := ⟨[(0, .pt 0 0), (1, .d .str)], [.box true 69 [.ow 1, .d (.int .i64), .d (.int .i64), .d (.int .i64)], .arr 73 ty73]⟩
def verdererref12_reader_take_Fi (n : Nat) (a0 : ByteArray) (a1 : Int) (a2 : Int) (a3 : Int) (a4 : (List ty73.D)) (k0 : Bool → Int → Int → Int → (List ty73.D) → Option R) : Option R :=
  verdererref12_reader_is_F n a0 a1 a2 a3 a4 (fun y1 y2 y3 y4 y5 => if (!y1) = true then (k0 false y2 y3 y4 y5) else (verdererref12_reader_step_F n y2 y3 y4 y5 (fun y6 y7 y8 y9 => k0 true y6 y7 y8 y9)))
def verdererref12_reader_take_F {R : Type} := lazyN (@verdererref12_reader_take_Fi R)
theorem verdererref12_reader_take_e : @verdererref12_reader_take_F R = @verdererref12_reader_take_Fi R := lazyN_eq _
def verdererref12_reader_take_g (n : Nat) : Gx R := typed 2 verdererref12_reader_take_d fun x k => verdererref12_reader_take_F n x.1 x.2.1 x.2.2.1 x.2.2.2.1 x.2.2.2.2.1 (fun y0 y1 y2 y3 y4 => k (.a (.c (.b y0))) [(.box true 69 [(.ow 1), (.i .i64 y1), (.i .i64 y2), (.i .i64 y3)]), (.arr 73 ty73 y4)])
def verdererref12_reader_take_cs (R : Type) (n : Nat) : List (Nat × Gx R) := [(41, verdererref12_reader_step_g n), (56, verdererref12_reader_is_g n)]
def verdererref12_reader_take_cx (R : Type) (n : Nat) : Cx R := ⟨Try.prog, Gof (verdererref12_reader_take_cs R n), noDs, noDx, noLp, drawP Try.prog (Gof (verdererref12_reader_take_cs R n)), false, noJn, noFz⟩
theorem verdererref12_reader_take_ok (n : Nat) : Good Try.prog 35 (verdererref12_reader_take_g (R := R) n) := by
  unfold verdererref12_reader_take_g
  rw [verdererref12_reader_take_e]
  exact Good.fn (cx := verdererref12_reader_take_cx R n) (by kernel_rfl) (AllGood.cons (verdererref12_reader_step_ok n) (AllGood.cons (verdererref12_reader_is_ok n) (AllGood.nil))) rfl Try.func35 (by kernel_rfl) rfl trivial 2 verdererref12_reader_take_d (by kernel_rfl) (fun x k => by kernel_rfl)
end
end Go.Proofs.Ytikikmkfeeljgaa.E
set_option linter.unusedVariables false
set_option maxRecDepth 100000
namespace Go.Proofs.Ytikikmkfeeljgaa.E
open Go.Proofs
noncomputable section
variable {R : Type}
/-! verderer/verdererref07.Name: function 46 -/
def verdererref07_Name_ds : Nat → Desc
  | 4 => ⟨[(0, .d .str), (3, .d (.int .i64))], []⟩
  | _ => ⟨[], []⟩
def verdererref07_Name_dx : Nat → List (X × Desc)
  | 4 => [(.r, ⟨[(2, .d .bool)], []⟩), (.e 0, ⟨[], []⟩)]
  | _ => []
def verdererref07_Name_s4 (n : Nat) (x0 : ByteArray) (x1 : Int) (k1 : ByteArray → Int → Option R) (qr : Bool → Option R) (qe0 : Option R) : Option R :=
  if (decide (x1 < (x0.size : Int))) = true then (if 0 ≤ x1 then if x1 < (x0.size : Int) then (if (decide ((byteAt x0 x1) ≥ 97)) = true then (if (!(decide ((byteAt x0 x1) ≤ 122))) = true then (if (x1 == 0) = true then (qr false) else (if ((byteAt x0 x1) != 95) = true then (if (decide ((byteAt x0 x1) < 48)) = true then (qr false) else (if (decide ((byteAt x0 x1) > 57)) = true then (qr false) else (k1 x0 (IntKind.i64.wrap (x1 + 1))))) else (k1 x0 (IntKind.i64.wrap (x1 + 1))))) else (k1 x0 (IntKind.i64.wrap (x1 + 1)))) else (if (x1 == 0) = true then (qr false) else (if ((byteAt x0 x1) != 95) = true then (if (decide ((byteAt x0 x1) < 48)) = true then (qr false) else (if (decide ((byteAt x0 x1) > 57)) = true then (qr false) else (k1 x0 (IntKind.i64.wrap (x1 + 1))))) else (k1 x0 (IntKind.i64.wrap (x1 + 1)))))) else none else none) else qe0
def verdererref07_Name_l4 (n : Nat) (a : (verdererref07_Name_ds 4).D) (k1 : (verdererref07_Name_ds 4).D → Option R) (k2 : exK R (verdererref07_Name_dx 4)) : Option R :=
  verdererref07_Name_s4 n a.1 a.2.1 (fun x0 x1 => k1 (x0, x1, ())) (fun x0 => k2.1 (x0, ())) (k2.2.1 (()))
@[reducible] def verdererref07_Name_d : Desc := ⟨[(0, .d .str)], []⟩
def verdererref07_Name_Fi (n : Nat) (a0 : ByteArray) (k0 : Bool → Option R) : Option R :=
  if (decide ((a0.size : Int) < 1)) = true then (k0 false) else (if (decide ((a0.size : Int) > 16)) = true then (k0 false) else (runC (verdererref07_Name_l4 n) n (a0, 0, ()) (fun b1 => k0 b1.1, fun b1 => k0 true, ())))
def verdererref07_Name_F {R : Type} := lazyN (@verdererref07_Name_Fi R)
theorem verdererref07_Name_e : @verdererref07_Name_F R = @verdererref07_Name_Fi R := lazyN_eq _
def verdererref07_Name_g (n : Nat) : Gx R := typed 1 verdererref07_Name_d fun x k => verdererref07_Name_F n x.1 (fun y0 => k (.a (.c (.b y0))) [])
def verdererref07_Name_cs (R : Type) (n : Nat) : List (Nat × Gx R) := []
def verdererref07_Name_lp (n : Nat) : (i : Nat) → (verdererref07_Name_ds i).D → exK R (verdererref07_Name_dx i) → Option R
  | 4, a, k => runC (verdererref07_Name_l4 n) n a k
  | _, _, _ => none
def verdererref07_Name_cx (R : Type) (n : Nat) : Cx R := ⟨Try.prog, Gof (verdererref07_Name_cs R n), verdererref07_Name_ds, verdererref07_Name_dx, verdererref07_Name_lp n, drawP Try.prog (Gof (verdererref07_Name_cs R n)), false, noJn, noFz⟩
theorem verdererref07_Name_ok (n : Nat) : Good Try.prog 46 (verdererref07_Name_g (R := R) n) := by
  unfold verdererref07_Name_g
  rw [verdererref07_Name_e]
  exact Good.fn (cx := verdererref07_Name_cx R n) (by kernel_rfl) (AllGood.nil) rfl Try.func46 (by kernel_rfl) rfl (by
    have e : fnLoops noJn Try.f46 = [((fnLoops noJn Try.f46)[0]?).getD (false, .skip)] := by kernel_rfl
    show LoopRuns _ _ (fnLoops noJn _)
    rw [e]
    exact ⟨LoopRun.loop (by kernel_rfl) (i := 4) (m := n) (step := verdererref07_Name_l4 n) (by kernel_rfl) (fun a k1 k2 => by kernel_rfl) (fun _ _ => rfl), trivial⟩) 1 verdererref07_Name_d (by kernel_rfl) (fun x k => by kernel_rfl)
end
end Go.Proofs.Ytikikmkfeeljgaa.E
set_option linter.unusedVariables false
set_option maxRecDepth 100000
namespace Go.Proofs.Ytikikmkfeeljgaa.E
open Go.Proofs
noncomputable section
variable {R : Type}
/-! verderer/verdererref11.Reserved: function 75 -/
def verdererref11_Reserved_ds : Nat → Desc
  | 3 => ⟨[(0, .d .str), (3, .ow 0), (4, .d (.int .i64))], [.arr 9 .str]⟩
  | _ => ⟨[], []⟩
def verdererref11_Reserved_dx : Nat → List (X × Desc)
  | 3 => [(.r, ⟨[(2, .d .bool)], []⟩), (.e 0, ⟨[], []⟩)]
  | _ => []
def verdererref11_Reserved_s3 (n : Nat) (x0 : ByteArray) (x1 : Int) (x2 : (List ByteArray)) (k1 : ByteArray → Int → (List ByteArray) → Option R) (qr : Bool → Option R) (qe0 : Option R) : Option R :=
  if (decide (x1 < (x2.length : Int))) = true then (if 0 ≤ x1 ∧ x1 < (x2.length : Int) then (if (Int.toNat x1) < x2.length then (if ((x2.getD (Int.toNat x1) (Ty.z .str)).toList == x0.toList) = true then (qr true) else (k1 x0 (IntKind.i64.wrap (x1 + 1)) x2)) else none) else none) else qe0
def verdererref11_Reserved_l3 (n : Nat) (a : (verdererref11_Reserved_ds 3).D) (k1 : (verdererref11_Reserved_ds 3).D → Option R) (k2 : exK R (verdererref11_Reserved_dx 3)) : Option R :=
  verdererref11_Reserved_s3 n a.1 a.2.1 a.2.2.1 (fun x0 x1 x2 => k1 (x0, x1, x2, ())) (fun x0 => k2.1 (x0, ())) (k2.2.1 (()))
@[reducible] def verdererref11_Reserved_d : Desc := ⟨[(0, .d .str)], []⟩
def verdererref11_Reserved_Fi (n : Nat) (a0 : ByteArray) (k0 : Bool → Option R) : Option R :=
  runC (verdererref11_Reserved_l3 n) n (a0, 0, [(⟨#[100, 101, 110, 121]⟩ : ByteArray), (⟨#[118, 105, 101, 119]⟩ : ByteArray), (⟨#[113, 117, 111, 116, 97]⟩ : ByteArray), (⟨#[108, 105, 109, 105, 116]⟩ : ByteArray), (⟨#[105, 102]⟩ : ByteArray), (⟨#[110, 111, 116]⟩ : ByteArray), (⟨#[99, 111, 117, 110, 116]⟩ : ByteArray), (⟨#[115, 117, 109]⟩ : ByteArray), (⟨#[108, 101, 97, 115, 116]⟩ : ByteArray), (⟨#[109, 111, 115, 116]⟩ : ByteArray)], ()) (fun b1 => k0 b1.1, fun b1 => k0 false, ())
def verdererref11_Reserved_F {R : Type} := lazyN (@verdererref11_Reserved_Fi R)
theorem verdererref11_Reserved_e : @verdererref11_Reserved_F R = @verdererref11_Reserved_Fi R := lazyN_eq _
def verdererref11_Reserved_g (n : Nat) : Gx R := typed 1 verdererref11_Reserved_d fun x k => verdererref11_Reserved_F n x.1 (fun y0 => k (.a (.c (.b y0))) [])
def verdererref11_Reserved_cs (R : Type) (n : Nat) : List (Nat × Gx R) := []
def verdererref11_Reserved_lp (n : Nat) : (i : Nat) → (verdererref11_Reserved_ds i).D → exK R (verdererref11_Reserved_dx i) → Option R
  | 3, a, k => runC (verdererref11_Reserved_l3 n) n a k
  | _, _, _ => none
def verdererref11_Reserved_cx (R : Type) (n : Nat) : Cx R := ⟨Try.prog, Gof (verdererref11_Reserved_cs R n), verdererref11_Reserved_ds, verdererref11_Reserved_dx, verdererref11_Reserved_lp n, drawP Try.prog (Gof (verdererref11_Reserved_cs R n)), false, noJn, noFz⟩
theorem verdererref11_Reserved_ok (n : Nat) : Good Try.prog 75 (verdererref11_Reserved_g (R := R) n) := by
  unfold verdererref11_Reserved_g
  rw [verdererref11_Reserved_e]
  exact Good.fn (cx := verdererref11_Reserved_cx R n) (by kernel_rfl) (AllGood.nil) rfl Try.func75 (by kernel_rfl) rfl (by
    have e : fnLoops noJn Try.f75 = [((fnLoops noJn Try.f75)[0]?).getD (false, .skip)] := by kernel_rfl
    show LoopRuns _ _ (fnLoops noJn _)
    rw [e]
    exact ⟨LoopRun.loop (by kernel_rfl) (i := 3) (m := n) (step := verdererref11_Reserved_l3 n) (by kernel_rfl) (fun a k1 k2 => by kernel_rfl) (fun _ _ => rfl), trivial⟩) 1 verdererref11_Reserved_d (by kernel_rfl) (fun x k => by kernel_rfl)
end
end Go.Proofs.Ytikikmkfeeljgaa.E
set_option linter.unusedVariables false
set_option maxRecDepth 100000
namespace Go.Proofs.Ytikikmkfeeljgaa.E
open Go.Proofs
noncomputable section
variable {R : Type}
/-! (*verderer/verdererref12.reader).named: function 57 -/
@[reducible] def verdererref12_reader_named_d : Desc := ⟨[(0, .pt 0 0)], [.box true 69 [.ow 1, .d (.int .i64), .d (.int .i64), .d (.int .i64)], .arr 73 ty73]⟩
def verdererref12_reader_named_Fi (n : Nat) (a0 : Int) (a1 : Int) (a2 : Int) (a3 : (List ty73.D)) (k0 : Bool → Int → Int → Int → (List ty73.D) → Option R) : Option R :=
  verdererref12_reader_now_F n a0 a1 a2 a3 (fun y1 y2 y3 y4 y5 => if (y3 == 0) = true then (if (y1.1 == 1) = true then (verdererref07_Name_F n y1.2.1 (fun y6 => if y6 = true then (verdererref11_Reserved_F n y1.2.1 (fun y7 => k0 (!y7) y2 y3 y4 y5)) else (k0 false y2 y3 y4 y5))) else (k0 false y2 y3 y4 y5)) else (k0 false y2 y3 y4 y5))
def verdererref12_reader_named_F {R : Type} := lazyN (@verdererref12_reader_named_Fi R)
theorem verdererref12_reader_named_e : @verdererref12_reader_named_F R = @verdererref12_reader_named_Fi R := lazyN_eq _
def verdererref12_reader_named_g (n : Nat) : Gx R := typed 1 verdererref12_reader_named_d fun x k => verdererref12_reader_named_F n x.1 x.2.1 x.2.2.1 x.2.2.2.1 (fun y0 y1 y2 y3 y4 => k (.a (.c (.b y0))) [(.box true 69 [(.ow 1), (.i .i64 y1), (.i .i64 y2), (.i .i64 y3)]), (.arr 73 ty73 y4)])
def verdererref12_reader_named_cs (R : Type) (n : Nat) : List (Nat × Gx R) := [(37, verdererref12_reader_now_g n), (46, verdererref07_Name_g n), (75, verdererref11_Reserved_g n)]
def verdererref12_reader_named_cx (R : Type) (n : Nat) : Cx R := ⟨Try.prog, Gof (verdererref12_reader_named_cs R n), noDs, noDx, noLp, drawP Try.prog (Gof (verdererref12_reader_named_cs R n)), false, noJn, noFz⟩
theorem verdererref12_reader_named_ok (n : Nat) : Good Try.prog 57 (verdererref12_reader_named_g (R := R) n) := by
  unfold verdererref12_reader_named_g
  rw [verdererref12_reader_named_e]
  exact Good.fn (cx := verdererref12_reader_named_cx R n) (by kernel_rfl) (AllGood.cons (verdererref12_reader_now_ok n) (AllGood.cons (verdererref07_Name_ok n) (AllGood.cons (verdererref11_Reserved_ok n) (AllGood.nil)))) rfl Try.func57 (by kernel_rfl) rfl trivial 1 verdererref12_reader_named_d (by kernel_rfl) (fun x k => by kernel_rfl)
end
end Go.Proofs.Ytikikmkfeeljgaa.E
set_option linter.unusedVariables false
set_option maxRecDepth 100000
namespace Go.Proofs.Ytikikmkfeeljgaa.E
open Go.Proofs
noncomputable section
variable {R : Type}
/-! (*verderer/verdererref12.reader).fail: function 36 -/
@[reducible] def verdererref12_reader_fail_d : Desc := ⟨[(0, .pt 0 0), (1, .d (.int .i64)), (2, .d (.int .i64))], [.box true 69 [.ow 1, .d (.int .i64), .d (.int .i64), .d (.int .i64)], .arr 73 ty73]⟩
def verdererref12_reader_fail_Fi (n : Nat) (a0 : Int) (a1 : Int) (a2 : Int) (a3 : Int) (a4 : Int) (a5 : (List ty73.D)) (k0 : Int → Int → Int → (List ty73.D) → Option R) : Option R :=
  if (a3 == 0) = true then (k0 a2 a0 a1 a5) else (k0 a2 a3 a4 a5)
def verdererref12_reader_fail_F {R : Type} := lazyN (@verdererref12_reader_fail_Fi R)
theorem verdererref12_reader_fail_e : @verdererref12_reader_fail_F R = @verdererref12_reader_fail_Fi R := lazyN_eq _
def verdererref12_reader_fail_g (n : Nat) : Gx R := typed 3 verdererref12_reader_fail_d fun x k => verdererref12_reader_fail_F n x.1 x.2.1 x.2.2.1 x.2.2.2.1 x.2.2.2.2.1 x.2.2.2.2.2.1 (fun y0 y1 y2 y3 => k (.tu []) [(.box true 69 [(.ow 1), (.i .i64 y0), (.i .i64 y1), (.i .i64 y2)]), (.arr 73 ty73 y3)])
def verdererref12_reader_fail_cs (R : Type) (n : Nat) : List (Nat × Gx R) := []
def verdererref12_reader_fail_cx (R : Type) (n : Nat) : Cx R := ⟨Try.prog, Gof (verdererref12_reader_fail_cs R n), noDs, noDx, noLp, drawP Try.prog (Gof (verdererref12_reader_fail_cs R n)), false, noJn, noFz⟩
theorem verdererref12_reader_fail_ok (n : Nat) : Good Try.prog 36 (verdererref12_reader_fail_g (R := R) n) := by
  unfold verdererref12_reader_fail_g
  rw [verdererref12_reader_fail_e]
  exact Good.fn (cx := verdererref12_reader_fail_cx R n) (by kernel_rfl) (AllGood.nil) rfl Try.func36 (by kernel_rfl) rfl trivial 3 verdererref12_reader_fail_d (by kernel_rfl) (fun x k => by kernel_rfl)
end
end Go.Proofs.Ytikikmkfeeljgaa.E
set_option linter.unusedVariables false
set_option maxRecDepth 100000
namespace Go.Proofs.Ytikikmkfeeljgaa.E
open Go.Proofs
noncomputable section
variable {R : Type}
/-! (*verderer/verdererref12.reader).name: function 38 -/
@[reducible] def verdererref12_reader_name_d : Desc := ⟨[(0, .pt 0 0)], [.box true 69 [.ow 1, .d (.int .i64), .d (.int .i64), .d (.int .i64)], .arr 73 ty73]⟩
def verdererref12_reader_name_Fi (n : Nat) (a0 : Int) (a1 : Int) (a2 : Int) (a3 : (List ty73.D)) (k0 : ByteArray → Int → Int → Int → (List ty73.D) → Option R) : Option R :=
  verdererref12_reader_named_F n a0 a1 a2 a3 (fun y1 y2 y3 y4 y5 => if (!y1) = true then (verdererref12_reader_now_F n y2 y3 y4 y5 (fun y6 y7 y8 y9 y10 => verdererref12_reader_fail_F n 7 y6.2.2.2.1 y7 y8 y9 y10 (fun y11 y12 y13 y14 => k0 (⟨#[]⟩ : ByteArray) y11 y12 y13 y14))) else (verdererref12_reader_now_F n y2 y3 y4 y5 (fun y15 y16 y17 y18 y19 => verdererref12_reader_step_F n y16 y17 y18 y19 (fun y20 y21 y22 y23 => k0 y15.2.1 y20 y21 y22 y23))))
def verdererref12_reader_name_F {R : Type} := lazyN (@verdererref12_reader_name_Fi R)
theorem verdererref12_reader_name_e : @verdererref12_reader_name_F R = @verdererref12_reader_name_Fi R := lazyN_eq _
def verdererref12_reader_name_g (n : Nat) : Gx R := typed 1 verdererref12_reader_name_d fun x k => verdererref12_reader_name_F n x.1 x.2.1 x.2.2.1 x.2.2.2.1 (fun y0 y1 y2 y3 y4 => k (.a (.c (.s y0))) [(.box true 69 [(.ow 1), (.i .i64 y1), (.i .i64 y2), (.i .i64 y3)]), (.arr 73 ty73 y4)])
def verdererref12_reader_name_cs (R : Type) (n : Nat) : List (Nat × Gx R) := [(36, verdererref12_reader_fail_g n), (37, verdererref12_reader_now_g n), (41, verdererref12_reader_step_g n), (57, verdererref12_reader_named_g n)]
def verdererref12_reader_name_cx (R : Type) (n : Nat) : Cx R := ⟨Try.prog, Gof (verdererref12_reader_name_cs R n), noDs, noDx, noLp, drawP Try.prog (Gof (verdererref12_reader_name_cs R n)), false, noJn, noFz⟩
theorem verdererref12_reader_name_ok (n : Nat) : Good Try.prog 38 (verdererref12_reader_name_g (R := R) n) := by
  unfold verdererref12_reader_name_g
  rw [verdererref12_reader_name_e]
  exact Good.fn (cx := verdererref12_reader_name_cx R n) (by kernel_rfl) (AllGood.cons (verdererref12_reader_fail_ok n) (AllGood.cons (verdererref12_reader_now_ok n) (AllGood.cons (verdererref12_reader_step_ok n) (AllGood.cons (verdererref12_reader_named_ok n) (AllGood.nil))))) rfl Try.func38 (by kernel_rfl) rfl trivial 1 verdererref12_reader_name_d (by kernel_rfl) (fun x k => by kernel_rfl)
end
end Go.Proofs.Ytikikmkfeeljgaa.E
set_option linter.unusedVariables false
set_option maxRecDepth 100000
namespace Go.Proofs.Ytikikmkfeeljgaa.E
open Go.Proofs
noncomputable section
variable {R : Type}
/-! (*verderer/verdererref12.reader).must: function 39 -/
@[reducible] def verdererref12_reader_must_d : Desc := ⟨[(0, .pt 0 0), (1, .d .str)], [.box true 69 [.ow 1, .d (.int .i64), .d (.int .i64), .d (.int .i64)], .arr 73 ty73]⟩
def verdererref12_reader_must_Fi (n : Nat) (a0 : ByteArray) (a1 : Int) (a2 : Int) (a3 : Int) (a4 : (List ty73.D)) (k0 : Int → Int → Int → (List ty73.D) → Option R) : Option R :=
  verdererref12_reader_take_F n a0 a1 a2 a3 a4 (fun y1 y2 y3 y4 y5 => if (!y1) = true then (verdererref12_reader_now_F n y2 y3 y4 y5 (fun y6 y7 y8 y9 y10 => verdererref12_reader_fail_F n 7 y6.2.2.2.1 y7 y8 y9 y10 (fun y11 y12 y13 y14 => k0 y11 y12 y13 y14))) else (k0 y2 y3 y4 y5))
def verdererref12_reader_must_F {R : Type} := lazyN (@verdererref12_reader_must_Fi R)
theorem verdererref12_reader_must_e : @verdererref12_reader_must_F R = @verdererref12_reader_must_Fi R := lazyN_eq _
def verdererref12_reader_must_g (n : Nat) : Gx R := typed 2 verdererref12_reader_must_d fun x k => verdererref12_reader_must_F n x.1 x.2.1 x.2.2.1 x.2.2.2.1 x.2.2.2.2.1 (fun y0 y1 y2 y3 => k (.tu []) [(.box true 69 [(.ow 1), (.i .i64 y0), (.i .i64 y1), (.i .i64 y2)]), (.arr 73 ty73 y3)])
def verdererref12_reader_must_cs (R : Type) (n : Nat) : List (Nat × Gx R) := [(35, verdererref12_reader_take_g n), (36, verdererref12_reader_fail_g n), (37, verdererref12_reader_now_g n)]
def verdererref12_reader_must_cx (R : Type) (n : Nat) : Cx R := ⟨Try.prog, Gof (verdererref12_reader_must_cs R n), noDs, noDx, noLp, drawP Try.prog (Gof (verdererref12_reader_must_cs R n)), false, noJn, noFz⟩
theorem verdererref12_reader_must_ok (n : Nat) : Good Try.prog 39 (verdererref12_reader_must_g (R := R) n) := by
  unfold verdererref12_reader_must_g
  rw [verdererref12_reader_must_e]
  exact Good.fn (cx := verdererref12_reader_must_cx R n) (by kernel_rfl) (AllGood.cons (verdererref12_reader_take_ok n) (AllGood.cons (verdererref12_reader_fail_ok n) (AllGood.cons (verdererref12_reader_now_ok n) (AllGood.nil)))) rfl Try.func39 (by kernel_rfl) rfl trivial 2 verdererref12_reader_must_d (by kernel_rfl) (fun x k => by kernel_rfl)
end
end Go.Proofs.Ytikikmkfeeljgaa.E
set_option linter.unusedVariables false
set_option maxRecDepth 100000
namespace Go.Proofs.Ytikikmkfeeljgaa.E
open Go.Proofs
noncomputable section
variable {R : Type}
/-! (*verderer/verdererref12.reader).agg: function 58 -/
def verdererref12_reader_agg_ds : Nat → Desc
  | 3 => ⟨[(0, .pt 0 0), (1, .pt 2 0), (5, .ow 5), (6, .d (.int .i64))], [.box true 69 [.ow 1, .d (.int .i64), .d (.int .i64), .d (.int .i64)], .arr 73 ty73, .box true 25 [.d (.int .i64), .d .str, .ow 3, .d (.int .i64), .d .str, .d (.int .i64), .ow 4], .arr 9 .str, .arr 41 ty41, .arr 9 .str]⟩
  | _ => ⟨[], []⟩
def verdererref12_reader_agg_dx : Nat → List (X × Desc)
  | 3 => [(.r, ⟨[(4, .d .bool)], [.box true 69 [.ow 1, .d (.int .i64), .d (.int .i64), .d (.int .i64)], .arr 73 ty73, .box true 25 [.d (.int .i64), .d .str, .ow 3, .d (.int .i64), .d .str, .d (.int .i64), .ow 4], .arr 9 .str, .arr 41 ty41]⟩), (.e 0, ⟨[], [.box true 69 [.ow 1, .d (.int .i64), .d (.int .i64), .d (.int .i64)], .arr 73 ty73, .box true 25 [.d (.int .i64), .d .str, .ow 3, .d (.int .i64), .d .str, .d (.int .i64), .ow 4], .arr 9 .str, .arr 41 ty41]⟩)]
  | _ => []
def verdererref12_reader_agg_s3 (n : Nat) (x0 : Int) (x1 : Int) (x2 : Int) (x3 : Int) (x4 : (List ty73.D)) (x5 : Int) (x6 : ByteArray) (x7 : Int) (x8 : ByteArray) (x9 : Int) (x10 : (List ByteArray)) (x11 : (List ty41.D)) (x12 : (List ByteArray)) (k1 : Int → Int → Int → Int → (List ty73.D) → Int → ByteArray → Int → ByteArray → Int → (List ByteArray) → (List ty41.D) → (List ByteArray) → Option R) (qr : Bool → Int → Int → Int → (List ty73.D) → Int → ByteArray → Int → ByteArray → Int → (List ByteArray) → (List ty41.D) → Option R) (qe0 : Int → Int → Int → (List ty73.D) → Int → ByteArray → Int → ByteArray → Int → (List ByteArray) → (List ty41.D) → Option R) : Option R :=
  if (decide (x0 < (x12.length : Int))) = true then (if 0 ≤ x0 ∧ x0 < (x12.length : Int) then (if (Int.toNat x0) < x12.length then (verdererref12_reader_is_F n (x12.getD (Int.toNat x0) (Ty.z .str)) x1 x2 x3 x4 (fun y1 y2 y3 y4 y5 => if (!y1) = true then (k1 (IntKind.i64.wrap (x0 + 1)) y2 y3 y4 y5 x5 x6 x7 x8 x9 x10 x11 x12) else (if (x5 == 1) = true then (verdererref12_reader_now_F n y2 y3 y4 y5 (fun y6 y7 y8 y9 y10 => verdererref12_reader_fail_F n 7 y6.2.2.2.1 y7 y8 y9 y10 (fun y11 y12 y13 y14 => qr true y11 y12 y13 y14 x5 x6 x7 x8 x9 x10 x11))) else (if (x5 == 3) = true then (if (decide (x0 > 2)) = true then (verdererref12_reader_now_F n y2 y3 y4 y5 (fun y15 y16 y17 y18 y19 => verdererref12_reader_fail_F n 7 y15.2.2.2.1 y16 y17 y18 y19 (fun y20 y21 y22 y23 => qr true y20 y21 y22 y23 x5 x6 x7 x8 x9 x10 x11))) else (verdererref12_reader_step_F n y2 y3 y4 y5 (fun y24 y25 y26 y27 => if (decide (x0 > 1)) = true then (verdererref12_reader_name_F n y24 y25 y26 y27 (fun y28 y29 y30 y31 y32 => qr true y29 y30 y31 y32 x5 x6 x0 y28 x9 x10 x11)) else (qr true y24 y25 y26 y27 x5 x6 x0 x8 x9 x10 x11)))) else (verdererref12_reader_step_F n y2 y3 y4 y5 (fun y33 y34 y35 y36 => if (decide (x0 > 1)) = true then (verdererref12_reader_name_F n y33 y34 y35 y36 (fun y37 y38 y39 y40 y41 => qr true y38 y39 y40 y41 x5 x6 x0 y37 x9 x10 x11)) else (qr true y33 y34 y35 y36 x5 x6 x0 x8 x9 x10 x11))))))) else none) else none) else (qe0 x1 x2 x3 x4 x5 x6 x7 x8 x9 x10 x11)
def verdererref12_reader_agg_l3 (n : Nat) (a : (verdererref12_reader_agg_ds 3).D) (k1 : (verdererref12_reader_agg_ds 3).D → Option R) (k2 : exK R (verdererref12_reader_agg_dx 3)) : Option R :=
  verdererref12_reader_agg_s3 n a.1 a.2.1 a.2.2.1 a.2.2.2.1 a.2.2.2.2.1 a.2.2.2.2.2.1 a.2.2.2.2.2.2.1 a.2.2.2.2.2.2.2.1 a.2.2.2.2.2.2.2.2.1 a.2.2.2.2.2.2.2.2.2.1 a.2.2.2.2.2.2.2.2.2.2.1 a.2.2.2.2.2.2.2.2.2.2.2.1 a.2.2.2.2.2.2.2.2.2.2.2.2.1 (fun x0 x1 x2 x3 x4 x5 x6 x7 x8 x9 x10 x11 x12 => k1 (x0, x1, x2, x3, x4, x5, x6, x7, x8, x9, x10, x11, x12, ())) (fun x0 x1 x2 x3 x4 x5 x6 x7 x8 x9 x10 x11 => k2.1 (x0, x1, x2, x3, x4, x5, x6, x7, x8, x9, x10, x11, ())) (fun x0 x1 x2 x3 x4 x5 x6 x7 x8 x9 x10 => k2.2.1 (x0, x1, x2, x3, x4, x5, x6, x7, x8, x9, x10, ()))
@[reducible] def verdererref12_reader_agg_d : Desc := ⟨[(0, .pt 0 0), (1, .pt 2 0)], [.box true 69 [.ow 1, .d (.int .i64), .d (.int .i64), .d (.int .i64)], .arr 73 ty73, .box true 25 [.d (.int .i64), .d .str, .ow 3, .d (.int .i64), .d .str, .d (.int .i64), .ow 4], .arr 9 .str, .arr 41 ty41]⟩
def verdererref12_reader_agg_Fi (n : Nat) (a0 : Int) (a1 : Int) (a2 : Int) (a3 : (List ty73.D)) (a4 : Int) (a5 : ByteArray) (a6 : Int) (a7 : ByteArray) (a8 : Int) (a9 : (List ByteArray)) (a10 : (List ty41.D)) (k0 : Bool → Int → Int → Int → (List ty73.D) → Int → ByteArray → Int → ByteArray → Int → (List ByteArray) → (List ty41.D) → Option R) : Option R :=
  runC (verdererref12_reader_agg_l3 n) n (1, a0, a1, a2, a3, a4, a5, a6, a7, a8, a9, a10, [(⟨#[]⟩ : ByteArray), (⟨#[99, 111, 117, 110, 116]⟩ : ByteArray), (⟨#[115, 117, 109]⟩ : ByteArray), (⟨#[108, 101, 97, 115, 116]⟩ : ByteArray), (⟨#[109, 111, 115, 116]⟩ : ByteArray)], ()) (fun b53 => k0 b53.1 b53.2.1 b53.2.2.1 b53.2.2.2.1 b53.2.2.2.2.1 b53.2.2.2.2.2.1 b53.2.2.2.2.2.2.1 b53.2.2.2.2.2.2.2.1 b53.2.2.2.2.2.2.2.2.1 b53.2.2.2.2.2.2.2.2.2.1 b53.2.2.2.2.2.2.2.2.2.2.1 b53.2.2.2.2.2.2.2.2.2.2.2.1, fun b64 => k0 false b64.1 b64.2.1 b64.2.2.1 b64.2.2.2.1 b64.2.2.2.2.1 b64.2.2.2.2.2.1 b64.2.2.2.2.2.2.1 b64.2.2.2.2.2.2.2.1 b64.2.2.2.2.2.2.2.2.1 b64.2.2.2.2.2.2.2.2.2.1 b64.2.2.2.2.2.2.2.2.2.2.1, ())
def verdererref12_reader_agg_F {R : Type} := lazyN (@verdererref12_reader_agg_Fi R)
theorem verdererref12_reader_agg_e : @verdererref12_reader_agg_F R = @verdererref12_reader_agg_Fi R := lazyN_eq _
def verdererref12_reader_agg_g (n : Nat) : Gx R := typed 2 verdererref12_reader_agg_d fun x k => verdererref12_reader_agg_F n x.1 x.2.1 x.2.2.1 x.2.2.2.1 x.2.2.2.2.1 x.2.2.2.2.2.1 x.2.2.2.2.2.2.1 x.2.2.2.2.2.2.2.1 x.2.2.2.2.2.2.2.2.1 x.2.2.2.2.2.2.2.2.2.1 x.2.2.2.2.2.2.2.2.2.2.1 (fun y0 y1 y2 y3 y4 y5 y6 y7 y8 y9 y10 y11 => k (.a (.c (.b y0))) [(.box true 69 [(.ow 1), (.i .i64 y1), (.i .i64 y2), (.i .i64 y3)]), (.arr 73 ty73 y4), (.box true 25 [(.i .i64 y5), (.s y6), (.ow 3), (.i .i64 y7), (.s y8), (.i .i64 y9), (.ow 4)]), (.arr 9 .str y10), (.arr 41 ty41 y11)])
def verdererref12_reader_agg_cs (R : Type) (n : Nat) : List (Nat × Gx R) := [(36, verdererref12_reader_fail_g n), (37, verdererref12_reader_now_g n), (38, verdererref12_reader_name_g n), (41, verdererref12_reader_step_g n), (56, verdererref12_reader_is_g n)]
def verdererref12_reader_agg_lp (n : Nat) : (i : Nat) → (verdererref12_reader_agg_ds i).D → exK R (verdererref12_reader_agg_dx i) → Option R
  | 3, a, k => runC (verdererref12_reader_agg_l3 n) n a k
  | _, _, _ => none
def verdererref12_reader_agg_cx (R : Type) (n : Nat) : Cx R := ⟨Try.prog, Gof (verdererref12_reader_agg_cs R n), verdererref12_reader_agg_ds, verdererref12_reader_agg_dx, verdererref12_reader_agg_lp n, drawP Try.prog (Gof (verdererref12_reader_agg_cs R n)), false, noJn, noFz⟩
theorem verdererref12_reader_agg_ok (n : Nat) : Good Try.prog 58 (verdererref12_reader_agg_g (R := R) n) := by
  unfold verdererref12_reader_agg_g
  rw [verdererref12_reader_agg_e]
  exact Good.fn (cx := verdererref12_reader_agg_cx R n) (by kernel_rfl) (AllGood.cons (verdererref12_reader_fail_ok n) (AllGood.cons (verdererref12_reader_now_ok n) (AllGood.cons (verdererref12_reader_name_ok n) (AllGood.cons (verdererref12_reader_step_ok n) (AllGood.cons (verdererref12_reader_is_ok n) (AllGood.nil)))))) rfl Try.func58 (by kernel_rfl) rfl (by
    have e : fnLoops noJn Try.f58 = [((fnLoops noJn Try.f58)[0]?).getD (false, .skip)] := by kernel_rfl
    show LoopRuns _ _ (fnLoops noJn _)
    rw [e]
    exact ⟨LoopRun.loop (by kernel_rfl) (i := 3) (m := n) (step := verdererref12_reader_agg_l3 n) (by kernel_rfl) (fun a k1 k2 => by kernel_rfl) (fun _ _ => rfl), trivial⟩) 2 verdererref12_reader_agg_d (by kernel_rfl) (fun x k => by kernel_rfl)
end
end Go.Proofs.Ytikikmkfeeljgaa.E
set_option linter.unusedVariables false
set_option maxRecDepth 100000
namespace Go.Proofs.Ytikikmkfeeljgaa.E
open Go.Proofs
noncomputable section
variable {R : Type}
/-! (*verderer/verdererref12.reader).head: function 40 -/
def verdererref12_reader_head_ds : Nat → Desc
  | 6 => ⟨[(0, .pt 0 0), (1, .pt 2 0), (4, .d (.int .i64))], [.box true 69 [.ow 1, .d (.int .i64), .d (.int .i64), .d (.int .i64)], .arr 73 ty73, .box true 25 [.d (.int .i64), .d .str, .ow 3, .d (.int .i64), .d .str, .d (.int .i64), .ow 4], .arr 9 .str, .arr 41 ty41]⟩
  | _ => ⟨[], []⟩
def verdererref12_reader_head_dx : Nat → List (X × Desc)
  | 6 => [(.r, ⟨[], [.box true 69 [.ow 1, .d (.int .i64), .d (.int .i64), .d (.int .i64)], .arr 73 ty73, .box true 25 [.d (.int .i64), .d .str, .ow 3, .d (.int .i64), .d .str, .d (.int .i64), .ow 4], .arr 9 .str, .arr 41 ty41]⟩), (.e 0, ⟨[], [.box true 69 [.ow 1, .d (.int .i64), .d (.int .i64), .d (.int .i64)], .arr 73 ty73, .box true 25 [.d (.int .i64), .d .str, .ow 3, .d (.int .i64), .d .str, .d (.int .i64), .ow 4], .arr 9 .str, .arr 41 ty41]⟩)]
  | _ => []
def verdererref12_reader_head_s6 (n : Nat) (x0 : Int) (x1 : Int) (x2 : Int) (x3 : Int) (x4 : (List ty73.D)) (x5 : Int) (x6 : ByteArray) (x7 : Int) (x8 : ByteArray) (x9 : Int) (x10 : (List ByteArray)) (x11 : (List ty41.D)) (k1 : Int → Int → Int → Int → (List ty73.D) → Int → ByteArray → Int → ByteArray → Int → (List ByteArray) → (List ty41.D) → Option R) (qr : Int → Int → Int → (List ty73.D) → Int → ByteArray → Int → ByteArray → Int → (List ByteArray) → (List ty41.D) → Option R) (qe0 : Int → Int → Int → (List ty73.D) → Int → ByteArray → Int → ByteArray → Int → (List ByteArray) → (List ty41.D) → Option R) : Option R :=
  if (decide (x0 < 400)) = true then (if (x2 == 0) = true then (verdererref12_reader_agg_F n x1 x2 x3 x4 x5 x6 x7 x8 x9 x10 x11 (fun y31 y32 y33 y34 y35 y36 y37 y38 y39 y40 y41 y42 => if y31 = true then (qr y32 y33 y34 y35 y36 y37 y38 y39 y40 y41 y42) else (verdererref12_reader_now_F n y32 y33 y34 y35 (fun y43 y44 y45 y46 y47 => verdererref12_reader_name_F n y44 y45 y46 y47 (fun y48 y49 y50 y51 y52 => if (decide ((y41.length : Int) ≥ 40)) = true then (verdererref12_reader_fail_F n 9 y43.2.2.2.1 y49 y50 y51 y52 (fun y53 y54 y55 y56 => if (List.length y41 + List.length [y48]) * 16 ≤ 140737488355328 then (verdererref12_reader_take_F n (⟨#[44]⟩ : ByteArray) y53 y54 y55 y56 (fun y57 y58 y59 y60 y61 => if (!y57) = true then (qr y58 y59 y60 y61 y36 y37 y38 y39 y40 (y41 ++ [y48]) y42) else (k1 (IntKind.i64.wrap (x0 + 1)) y58 y59 y60 y61 y36 y37 y38 y39 y40 (y41 ++ [y48]) y42))) else none)) else (if (List.length y41 + List.length [y48]) * 16 ≤ 140737488355328 then (verdererref12_reader_take_F n (⟨#[44]⟩ : ByteArray) y49 y50 y51 y52 (fun y62 y63 y64 y65 y66 => if (!y62) = true then (qr y63 y64 y65 y66 y36 y37 y38 y39 y40 (y41 ++ [y48]) y42) else (k1 (IntKind.i64.wrap (x0 + 1)) y63 y64 y65 y66 y36 y37 y38 y39 y40 (y41 ++ [y48]) y42))) else none)))))) else (qe0 x1 x2 x3 x4 x5 x6 x7 x8 x9 x10 x11)) else (qe0 x1 x2 x3 x4 x5 x6 x7 x8 x9 x10 x11)
def verdererref12_reader_head_l6 (n : Nat) (a : (verdererref12_reader_head_ds 6).D) (k1 : (verdererref12_reader_head_ds 6).D → Option R) (k2 : exK R (verdererref12_reader_head_dx 6)) : Option R :=
  verdererref12_reader_head_s6 n a.1 a.2.1 a.2.2.1 a.2.2.2.1 a.2.2.2.2.1 a.2.2.2.2.2.1 a.2.2.2.2.2.2.1 a.2.2.2.2.2.2.2.1 a.2.2.2.2.2.2.2.2.1 a.2.2.2.2.2.2.2.2.2.1 a.2.2.2.2.2.2.2.2.2.2.1 a.2.2.2.2.2.2.2.2.2.2.2.1 (fun x0 x1 x2 x3 x4 x5 x6 x7 x8 x9 x10 x11 => k1 (x0, x1, x2, x3, x4, x5, x6, x7, x8, x9, x10, x11, ())) (fun x0 x1 x2 x3 x4 x5 x6 x7 x8 x9 x10 => k2.1 (x0, x1, x2, x3, x4, x5, x6, x7, x8, x9, x10, ())) (fun x0 x1 x2 x3 x4 x5 x6 x7 x8 x9 x10 => k2.2.1 (x0, x1, x2, x3, x4, x5, x6, x7, x8, x9, x10, ()))
@[reducible] def verdererref12_reader_head_d : Desc := ⟨[(0, .pt 0 0), (1, .pt 2 0)], [.box true 69 [.ow 1, .d (.int .i64), .d (.int .i64), .d (.int .i64)], .arr 73 ty73, .box true 25 [.d (.int .i64), .d .str, .ow 3, .d (.int .i64), .d .str, .d (.int .i64), .ow 4], .arr 9 .str, .arr 41 ty41]⟩
def verdererref12_reader_head_Fi (n : Nat) (a0 : Int) (a1 : Int) (a2 : Int) (a3 : (List ty73.D)) (a4 : Int) (a5 : ByteArray) (a6 : Int) (a7 : ByteArray) (a8 : Int) (a9 : (List ByteArray)) (a10 : (List ty41.D)) (k0 : Int → Int → Int → (List ty73.D) → Int → ByteArray → Int → ByteArray → Int → (List ByteArray) → (List ty41.D) → Option R) : Option R :=
  if (a4 == 3) = true then (verdererref12_reader_name_F n a0 a1 a2 a3 (fun y1 y2 y3 y4 y5 => if (List.length a9 + List.length [y1]) * 16 ≤ 140737488355328 then (verdererref12_reader_must_F n (⟨#[44]⟩ : ByteArray) y2 y3 y4 y5 (fun y6 y7 y8 y9 => verdererref12_reader_agg_F n y6 y7 y8 y9 a4 a5 a6 a7 a8 (a9 ++ [y1]) a10 (fun y10 y11 y12 y13 y14 y15 y16 y17 y18 y19 y20 y21 => if (!y10) = true then (verdererref12_reader_now_F n y11 y12 y13 y14 (fun y22 y23 y24 y25 y26 => verdererref12_reader_fail_F n 7 y22.2.2.2.1 y23 y24 y25 y26 (fun y27 y28 y29 y30 => k0 y27 y28 y29 y30 y15 y16 y17 y18 y19 y20 y21))) else (k0 y11 y12 y13 y14 y15 y16 y17 y18 y19 y20 y21)))) else none)) else (runC (verdererref12_reader_head_l6 n) n (0, a0, a1, a2, a3, a4, a5, a6, a7, a8, a9, a10, ()) (fun b77 => k0 b77.1 b77.2.1 b77.2.2.1 b77.2.2.2.1 b77.2.2.2.2.1 b77.2.2.2.2.2.1 b77.2.2.2.2.2.2.1 b77.2.2.2.2.2.2.2.1 b77.2.2.2.2.2.2.2.2.1 b77.2.2.2.2.2.2.2.2.2.1 b77.2.2.2.2.2.2.2.2.2.2.1, fun b88 => k0 b88.1 b88.2.1 b88.2.2.1 b88.2.2.2.1 b88.2.2.2.2.1 b88.2.2.2.2.2.1 b88.2.2.2.2.2.2.1 b88.2.2.2.2.2.2.2.1 b88.2.2.2.2.2.2.2.2.1 b88.2.2.2.2.2.2.2.2.2.1 b88.2.2.2.2.2.2.2.2.2.2.1, ()))
def verdererref12_reader_head_F {R : Type} := lazyN (@verdererref12_reader_head_Fi R)
theorem verdererref12_reader_head_e : @verdererref12_reader_head_F R = @verdererref12_reader_head_Fi R := lazyN_eq _
def verdererref12_reader_head_g (n : Nat) : Gx R := typed 2 verdererref12_reader_head_d fun x k => verdererref12_reader_head_F n x.1 x.2.1 x.2.2.1 x.2.2.2.1 x.2.2.2.2.1 x.2.2.2.2.2.1 x.2.2.2.2.2.2.1 x.2.2.2.2.2.2.2.1 x.2.2.2.2.2.2.2.2.1 x.2.2.2.2.2.2.2.2.2.1 x.2.2.2.2.2.2.2.2.2.2.1 (fun y0 y1 y2 y3 y4 y5 y6 y7 y8 y9 y10 => k (.tu []) [(.box true 69 [(.ow 1), (.i .i64 y0), (.i .i64 y1), (.i .i64 y2)]), (.arr 73 ty73 y3), (.box true 25 [(.i .i64 y4), (.s y5), (.ow 3), (.i .i64 y6), (.s y7), (.i .i64 y8), (.ow 4)]), (.arr 9 .str y9), (.arr 41 ty41 y10)])
def verdererref12_reader_head_cs (R : Type) (n : Nat) : List (Nat × Gx R) := [(35, verdererref12_reader_take_g n), (36, verdererref12_reader_fail_g n), (37, verdererref12_reader_now_g n), (38, verdererref12_reader_name_g n), (39, verdererref12_reader_must_g n), (58, verdererref12_reader_agg_g n)]
def verdererref12_reader_head_lp (n : Nat) : (i : Nat) → (verdererref12_reader_head_ds i).D → exK R (verdererref12_reader_head_dx i) → Option R
  | 6, a, k => runC (verdererref12_reader_head_l6 n) n a k
  | _, _, _ => none
def verdererref12_reader_head_cx (R : Type) (n : Nat) : Cx R := ⟨Try.prog, Gof (verdererref12_reader_head_cs R n), verdererref12_reader_head_ds, verdererref12_reader_head_dx, verdererref12_reader_head_lp n, drawP Try.prog (Gof (verdererref12_reader_head_cs R n)), false, noJn, noFz⟩
theorem verdererref12_reader_head_ok (n : Nat) : Good Try.prog 40 (verdererref12_reader_head_g (R := R) n) := by
  unfold verdererref12_reader_head_g
  rw [verdererref12_reader_head_e]
  exact Good.fn (cx := verdererref12_reader_head_cx R n) (by kernel_rfl) (AllGood.cons (verdererref12_reader_take_ok n) (AllGood.cons (verdererref12_reader_fail_ok n) (AllGood.cons (verdererref12_reader_now_ok n) (AllGood.cons (verdererref12_reader_name_ok n) (AllGood.cons (verdererref12_reader_must_ok n) (AllGood.cons (verdererref12_reader_agg_ok n) (AllGood.nil))))))) rfl Try.func40 (by kernel_rfl) rfl (by
    have e : fnLoops noJn Try.f40 = [((fnLoops noJn Try.f40)[0]?).getD (false, .skip)] := by kernel_rfl
    show LoopRuns _ _ (fnLoops noJn _)
    rw [e]
    exact ⟨LoopRun.loop (by kernel_rfl) (i := 6) (m := n) (step := verdererref12_reader_head_l6 n) (by kernel_rfl) (fun a k1 k2 => by kernel_rfl) (fun _ _ => rfl), trivial⟩) 2 verdererref12_reader_head_d (by kernel_rfl) (fun x k => by kernel_rfl)
end
end Go.Proofs.Ytikikmkfeeljgaa.E
set_option linter.unusedVariables false
set_option maxRecDepth 100000
namespace Go.Proofs.Ytikikmkfeeljgaa.E
open Go.Proofs
noncomputable section
variable {R : Type}
/-! (*verderer/verdererref12.reader).lone: function 59 -/
@[reducible] def verdererref12_reader_lone_d : Desc := ⟨[(0, .pt 0 0), (1, .d (.int .i64))], [.box true 69 [.ow 1, .d (.int .i64), .d (.int .i64), .d (.int .i64)], .arr 73 ty73]⟩
def verdererref12_reader_lone_Fi (n : Nat) (a0 : Int) (a1 : Int) (a2 : Int) (a3 : Int) (a4 : (List ty73.D)) (k0 : Int → Int → Int → (List ty73.D) → Option R) : Option R :=
  verdererref12_reader_now_F n a1 a2 a3 a4 (fun y1 y2 y3 y4 y5 => verdererref12_reader_is_F n (⟨#[110, 111, 116]⟩ : ByteArray) y2 y3 y4 y5 (fun y6 y7 y8 y9 y10 => if y6 = true then (verdererref12_reader_fail_F n 9 a0 y7 y8 y9 y10 (fun y11 y12 y13 y14 => verdererref12_reader_fail_F n 7 a0 y11 y12 y13 y14 (fun y15 y16 y17 y18 => k0 y15 y16 y17 y18))) else (verdererref12_reader_named_F n y7 y8 y9 y10 (fun y19 y20 y21 y22 y23 => if y19 = true then (verdererref12_reader_fail_F n 9 a0 y20 y21 y22 y23 (fun y24 y25 y26 y27 => verdererref12_reader_fail_F n 7 a0 y24 y25 y26 y27 (fun y28 y29 y30 y31 => k0 y28 y29 y30 y31))) else (if (y1.1 == 2) = true then (verdererref12_reader_fail_F n 9 a0 y20 y21 y22 y23 (fun y32 y33 y34 y35 => verdererref12_reader_fail_F n 7 a0 y32 y33 y34 y35 (fun y36 y37 y38 y39 => k0 y36 y37 y38 y39))) else (verdererref12_reader_fail_F n 7 a0 y20 y21 y22 y23 (fun y40 y41 y42 y43 => k0 y40 y41 y42 y43)))))))
def verdererref12_reader_lone_F {R : Type} := lazyN (@verdererref12_reader_lone_Fi R)
theorem verdererref12_reader_lone_e : @verdererref12_reader_lone_F R = @verdererref12_reader_lone_Fi R := lazyN_eq _
def verdererref12_reader_lone_g (n : Nat) : Gx R := typed 2 verdererref12_reader_lone_d fun x k => verdererref12_reader_lone_F n x.1 x.2.1 x.2.2.1 x.2.2.2.1 x.2.2.2.2.1 (fun y0 y1 y2 y3 => k (.tu []) [(.box true 69 [(.ow 1), (.i .i64 y0), (.i .i64 y1), (.i .i64 y2)]), (.arr 73 ty73 y3)])
def verdererref12_reader_lone_cs (R : Type) (n : Nat) : List (Nat × Gx R) := [(36, verdererref12_reader_fail_g n), (37, verdererref12_reader_now_g n), (56, verdererref12_reader_is_g n), (57, verdererref12_reader_named_g n)]
def verdererref12_reader_lone_cx (R : Type) (n : Nat) : Cx R := ⟨Try.prog, Gof (verdererref12_reader_lone_cs R n), noDs, noDx, noLp, drawP Try.prog (Gof (verdererref12_reader_lone_cs R n)), false, noJn, noFz⟩
theorem verdererref12_reader_lone_ok (n : Nat) : Good Try.prog 59 (verdererref12_reader_lone_g (R := R) n) := by
  unfold verdererref12_reader_lone_g
  rw [verdererref12_reader_lone_e]
  exact Good.fn (cx := verdererref12_reader_lone_cx R n) (by kernel_rfl) (AllGood.cons (verdererref12_reader_fail_ok n) (AllGood.cons (verdererref12_reader_now_ok n) (AllGood.cons (verdererref12_reader_is_ok n) (AllGood.cons (verdererref12_reader_named_ok n) (AllGood.nil))))) rfl Try.func59 (by kernel_rfl) rfl trivial 2 verdererref12_reader_lone_d (by kernel_rfl) (fun x k => by kernel_rfl)
end
end Go.Proofs.Ytikikmkfeeljgaa.E
set_option linter.unusedVariables false
set_option maxRecDepth 100000
namespace Go.Proofs.Ytikikmkfeeljgaa.E
open Go.Proofs
noncomputable section
variable {R : Type}
/-! (*verderer/verdererref12.reader).term: function 77 -/
@[reducible] def verdererref12_reader_term_d : Desc := ⟨[(0, .pt 0 0)], [.box true 69 [.ow 1, .d (.int .i64), .d (.int .i64), .d (.int .i64)], .arr 73 ty73]⟩
def verdererref12_reader_term_Fi (n : Nat) (a0 : Int) (a1 : Int) (a2 : Int) (a3 : (List ty73.D)) (k0 : ty38.D → Int → Int → Int → (List ty73.D) → Option R) : Option R :=
  verdererref12_reader_now_F n a0 a1 a2 a3 (fun y1 y2 y3 y4 y5 => if (y3 == 0) = true then (if (y1.1 == 2) = true then (verdererref12_reader_step_F n y2 y3 y4 y5 (fun y6 y7 y8 y9 => k0 ((⟨#[]⟩ : ByteArray), false, y1.2.2.1, ()) y6 y7 y8 y9)) else (verdererref12_reader_name_F n y2 y3 y4 y5 (fun y10 y11 y12 y13 y14 => k0 (y10, false, (0, false, 0, (⟨#[]⟩ : ByteArray), ()), ()) y11 y12 y13 y14))) else (verdererref12_reader_name_F n y2 y3 y4 y5 (fun y15 y16 y17 y18 y19 => k0 (y15, false, (0, false, 0, (⟨#[]⟩ : ByteArray), ()), ()) y16 y17 y18 y19)))
def verdererref12_reader_term_F {R : Type} := lazyN (@verdererref12_reader_term_Fi R)
theorem verdererref12_reader_term_e : @verdererref12_reader_term_F R = @verdererref12_reader_term_Fi R := lazyN_eq _
def verdererref12_reader_term_g (n : Nat) : Gx R := typed 1 verdererref12_reader_term_d fun x k => verdererref12_reader_term_F n x.1 x.2.1 x.2.2.1 x.2.2.2.1 (fun y0 y1 y2 y3 y4 => k (.a (encA ty38 y0)) [(.box true 69 [(.ow 1), (.i .i64 y1), (.i .i64 y2), (.i .i64 y3)]), (.arr 73 ty73 y4)])
def verdererref12_reader_term_cs (R : Type) (n : Nat) : List (Nat × Gx R) := [(37, verdererref12_reader_now_g n), (38, verdererref12_reader_name_g n), (41, verdererref12_reader_step_g n)]
def verdererref12_reader_term_cx (R : Type) (n : Nat) : Cx R := ⟨Try.prog, Gof (verdererref12_reader_term_cs R n), noDs, noDx, noLp, drawP Try.prog (Gof (verdererref12_reader_term_cs R n)), false, noJn, noFz⟩
theorem verdererref12_reader_term_ok (n : Nat) : Good Try.prog 77 (verdererref12_reader_term_g (R := R) n) := by
  unfold verdererref12_reader_term_g
  rw [verdererref12_reader_term_e]
  exact Good.fn (cx := verdererref12_reader_term_cx R n) (by kernel_rfl) (AllGood.cons (verdererref12_reader_now_ok n) (AllGood.cons (verdererref12_reader_name_ok n) (AllGood.cons (verdererref12_reader_step_ok n) (AllGood.nil)))) rfl Try.func77 (by kernel_rfl) rfl trivial 1 verdererref12_reader_term_d (by kernel_rfl) (fun x k => by kernel_rfl)
end
end Go.Proofs.Ytikikmkfeeljgaa.E
set_option linter.unusedVariables false
set_option maxRecDepth 100000
namespace Go.Proofs.Ytikikmkfeeljgaa.E
open Go.Proofs
noncomputable section
variable {R : Type}
/-! (*verderer/verdererref12.reader).args: function 76 -/
def verdererref12_reader_args_ds : Nat → Desc
  | 5 => ⟨[(0, .pt 0 0), (3, .ow 3), (4, .d (.int .i64))], [.box true 69 [.ow 1, .d (.int .i64), .d (.int .i64), .d (.int .i64)], .arr 73 ty73, .no, .arr 38 ty38]⟩
  | _ => ⟨[], []⟩
def verdererref12_reader_args_dx : Nat → List (X × Desc)
  | 5 => [(.r, ⟨[(2, .ow 3)], [.box true 69 [.ow 1, .d (.int .i64), .d (.int .i64), .d (.int .i64)], .arr 73 ty73, .no, .arr 38 ty38]⟩), (.e 0, ⟨[(3, .ow 3)], [.box true 69 [.ow 1, .d (.int .i64), .d (.int .i64), .d (.int .i64)], .arr 73 ty73, .no, .arr 38 ty38]⟩)]
  | _ => []
def verdererref12_reader_args_s5 (n : Nat) (x0 : Int) (x1 : Int) (x2 : Int) (x3 : Int) (x4 : (List ty73.D)) (x5 : (List ty38.D)) (k1 : Int → Int → Int → Int → (List ty73.D) → (List ty38.D) → Option R) (qr : Int → Int → Int → (List ty73.D) → (List ty38.D) → Option R) (qe0 : Int → Int → Int → (List ty73.D) → (List ty38.D) → Option R) : Option R :=
  if (decide (x0 < 400)) = true then (if (x2 == 0) = true then (verdererref12_reader_now_F n x1 x2 x3 x4 (fun y6 y7 y8 y9 y10 => verdererref12_reader_is_F n (⟨#[95]⟩ : ByteArray) y7 y8 y9 y10 (fun y11 y12 y13 y14 y15 => if y11 = true then (verdererref12_reader_step_F n y12 y13 y14 y15 (fun y16 y17 y18 y19 => if (List.length x5 + List.length [((⟨#[]⟩ : ByteArray), true, (0, false, 0, (⟨#[]⟩ : ByteArray), ()), ())]) * 64 ≤ 140737488355328 then (if (decide (((x5 ++ [((⟨#[]⟩ : ByteArray), true, (0, false, 0, (⟨#[]⟩ : ByteArray), ()), ())]).length : Int) > 40)) = true then (verdererref12_reader_fail_F n 9 y6.2.2.2.1 y16 y17 y18 y19 (fun y20 y21 y22 y23 => verdererref12_reader_take_F n (⟨#[44]⟩ : ByteArray) y20 y21 y22 y23 (fun y24 y25 y26 y27 y28 => if (!y24) = true then (verdererref12_reader_must_F n (⟨#[41]⟩ : ByteArray) y25 y26 y27 y28 (fun y29 y30 y31 y32 => qr y29 y30 y31 y32 (x5 ++ [((⟨#[]⟩ : ByteArray), true, (0, false, 0, (⟨#[]⟩ : ByteArray), ()), ())]))) else (k1 (IntKind.i64.wrap (x0 + 1)) y25 y26 y27 y28 (x5 ++ [((⟨#[]⟩ : ByteArray), true, (0, false, 0, (⟨#[]⟩ : ByteArray), ()), ())]))))) else (verdererref12_reader_take_F n (⟨#[44]⟩ : ByteArray) y16 y17 y18 y19 (fun y33 y34 y35 y36 y37 => if (!y33) = true then (verdererref12_reader_must_F n (⟨#[41]⟩ : ByteArray) y34 y35 y36 y37 (fun y38 y39 y40 y41 => qr y38 y39 y40 y41 (x5 ++ [((⟨#[]⟩ : ByteArray), true, (0, false, 0, (⟨#[]⟩ : ByteArray), ()), ())]))) else (k1 (IntKind.i64.wrap (x0 + 1)) y34 y35 y36 y37 (x5 ++ [((⟨#[]⟩ : ByteArray), true, (0, false, 0, (⟨#[]⟩ : ByteArray), ()), ())]))))) else none)) else (verdererref12_reader_term_F n y12 y13 y14 y15 (fun y42 y43 y44 y45 y46 => if (List.length x5 + List.length [y42]) * 64 ≤ 140737488355328 then (if (decide (((x5 ++ [y42]).length : Int) > 40)) = true then (verdererref12_reader_fail_F n 9 y6.2.2.2.1 y43 y44 y45 y46 (fun y47 y48 y49 y50 => verdererref12_reader_take_F n (⟨#[44]⟩ : ByteArray) y47 y48 y49 y50 (fun y51 y52 y53 y54 y55 => if (!y51) = true then (verdererref12_reader_must_F n (⟨#[41]⟩ : ByteArray) y52 y53 y54 y55 (fun y56 y57 y58 y59 => qr y56 y57 y58 y59 (x5 ++ [y42]))) else (k1 (IntKind.i64.wrap (x0 + 1)) y52 y53 y54 y55 (x5 ++ [y42]))))) else (verdererref12_reader_take_F n (⟨#[44]⟩ : ByteArray) y43 y44 y45 y46 (fun y60 y61 y62 y63 y64 => if (!y60) = true then (verdererref12_reader_must_F n (⟨#[41]⟩ : ByteArray) y61 y62 y63 y64 (fun y65 y66 y67 y68 => qr y65 y66 y67 y68 (x5 ++ [y42]))) else (k1 (IntKind.i64.wrap (x0 + 1)) y61 y62 y63 y64 (x5 ++ [y42]))))) else none))))) else (qe0 x1 x2 x3 x4 x5)) else (qe0 x1 x2 x3 x4 x5)
def verdererref12_reader_args_l5 (n : Nat) (a : (verdererref12_reader_args_ds 5).D) (k1 : (verdererref12_reader_args_ds 5).D → Option R) (k2 : exK R (verdererref12_reader_args_dx 5)) : Option R :=
  verdererref12_reader_args_s5 n a.1 a.2.1 a.2.2.1 a.2.2.2.1 a.2.2.2.2.1 a.2.2.2.2.2.1 (fun x0 x1 x2 x3 x4 x5 => k1 (x0, x1, x2, x3, x4, x5, ())) (fun x0 x1 x2 x3 x4 => k2.1 (x0, x1, x2, x3, x4, ())) (fun x0 x1 x2 x3 x4 => k2.2.1 (x0, x1, x2, x3, x4, ()))
@[reducible] def verdererref12_reader_args_d : Desc := ⟨[(0, .pt 0 0)], [.box true 69 [.ow 1, .d (.int .i64), .d (.int .i64), .d (.int .i64)], .arr 73 ty73]⟩
def verdererref12_reader_args_Fi (n : Nat) (a0 : Int) (a1 : Int) (a2 : Int) (a3 : (List ty73.D)) (k0 : Int → Int → Int → (List ty73.D) → (List ty38.D) → Option R) : Option R :=
  verdererref12_reader_take_F n (⟨#[41]⟩ : ByteArray) a0 a1 a2 a3 (fun y1 y2 y3 y4 y5 => if y1 = true then (k0 y2 y3 y4 y5 ([] : List ty38.D)) else (runC (verdererref12_reader_args_l5 n) n (0, y2, y3, y4, y5, ([] : List ty38.D), ()) (fun b73 => k0 b73.1 b73.2.1 b73.2.2.1 b73.2.2.2.1 b73.2.2.2.2.1, fun b78 => k0 b78.1 b78.2.1 b78.2.2.1 b78.2.2.2.1 b78.2.2.2.2.1, ())))
def verdererref12_reader_args_F {R : Type} := lazyN (@verdererref12_reader_args_Fi R)
theorem verdererref12_reader_args_e : @verdererref12_reader_args_F R = @verdererref12_reader_args_Fi R := lazyN_eq _
def verdererref12_reader_args_g (n : Nat) : Gx R := typed 1 verdererref12_reader_args_d fun x k => verdererref12_reader_args_F n x.1 x.2.1 x.2.2.1 x.2.2.2.1 (fun y0 y1 y2 y3 y4 => k (.a (.c (.ow 2))) [(.box true 69 [(.ow 1), (.i .i64 y0), (.i .i64 y1), (.i .i64 y2)]), (.arr 73 ty73 y3), (.arr 38 ty38 y4)])
def verdererref12_reader_args_cs (R : Type) (n : Nat) : List (Nat × Gx R) := [(35, verdererref12_reader_take_g n), (36, verdererref12_reader_fail_g n), (37, verdererref12_reader_now_g n), (39, verdererref12_reader_must_g n), (41, verdererref12_reader_step_g n), (56, verdererref12_reader_is_g n), (77, verdererref12_reader_term_g n)]
def verdererref12_reader_args_lp (n : Nat) : (i : Nat) → (verdererref12_reader_args_ds i).D → exK R (verdererref12_reader_args_dx i) → Option R
  | 5, a, k => runC (verdererref12_reader_args_l5 n) n a k
  | _, _, _ => none
def verdererref12_reader_args_cx (R : Type) (n : Nat) : Cx R := ⟨Try.prog, Gof (verdererref12_reader_args_cs R n), verdererref12_reader_args_ds, verdererref12_reader_args_dx, verdererref12_reader_args_lp n, drawP Try.prog (Gof (verdererref12_reader_args_cs R n)), false, noJn, noFz⟩
theorem verdererref12_reader_args_ok (n : Nat) : Good Try.prog 76 (verdererref12_reader_args_g (R := R) n) := by
  unfold verdererref12_reader_args_g
  rw [verdererref12_reader_args_e]
  exact Good.fn (cx := verdererref12_reader_args_cx R n) (by kernel_rfl) (AllGood.cons (verdererref12_reader_take_ok n) (AllGood.cons (verdererref12_reader_fail_ok n) (AllGood.cons (verdererref12_reader_now_ok n) (AllGood.cons (verdererref12_reader_must_ok n) (AllGood.cons (verdererref12_reader_step_ok n) (AllGood.cons (verdererref12_reader_is_ok n) (AllGood.cons (verdererref12_reader_term_ok n) (AllGood.nil)))))))) rfl Try.func76 (by kernel_rfl) rfl (by
    have e : fnLoops noJn Try.f76 = [((fnLoops noJn Try.f76)[0]?).getD (false, .skip)] := by kernel_rfl
    show LoopRuns _ _ (fnLoops noJn _)
    rw [e]
    exact ⟨LoopRun.loop (by kernel_rfl) (i := 5) (m := n) (step := verdererref12_reader_args_l5 n) (by kernel_rfl) (fun a k1 k2 => by kernel_rfl) (fun _ _ => rfl), trivial⟩) 1 verdererref12_reader_args_d (by kernel_rfl) (fun x k => by kernel_rfl)
end
end Go.Proofs.Ytikikmkfeeljgaa.E
set_option linter.unusedVariables false
set_option maxRecDepth 100000
namespace Go.Proofs.Ytikikmkfeeljgaa.E
open Go.Proofs
noncomputable section
variable {R : Type}
/-! verderer/verdererref11.Sgn: function 87 -/
@[reducible] def verdererref11_Sgn_d : Desc := ⟨[(0, .d (.int .i64))], []⟩
def verdererref11_Sgn_Fi (n : Nat) (a0 : Int) (k0 : ByteArray → Option R) : Option R :=
  if (decide (a0 < 1)) = true then (k0 (⟨#[]⟩ : ByteArray)) else (if (decide (a0 ≥ ([(⟨#[]⟩ : ByteArray), (⟨#[61, 61]⟩ : ByteArray), (⟨#[33, 61]⟩ : ByteArray), (⟨#[60]⟩ : ByteArray), (⟨#[60, 61]⟩ : ByteArray), (⟨#[62]⟩ : ByteArray), (⟨#[62, 61]⟩ : ByteArray)].length : Int))) = true then (k0 (⟨#[]⟩ : ByteArray)) else (if 0 ≤ a0 ∧ a0 < ([(⟨#[]⟩ : ByteArray), (⟨#[61, 61]⟩ : ByteArray), (⟨#[33, 61]⟩ : ByteArray), (⟨#[60]⟩ : ByteArray), (⟨#[60, 61]⟩ : ByteArray), (⟨#[62]⟩ : ByteArray), (⟨#[62, 61]⟩ : ByteArray)].length : Int) then (if (Int.toNat a0) < [(⟨#[]⟩ : ByteArray), (⟨#[61, 61]⟩ : ByteArray), (⟨#[33, 61]⟩ : ByteArray), (⟨#[60]⟩ : ByteArray), (⟨#[60, 61]⟩ : ByteArray), (⟨#[62]⟩ : ByteArray), (⟨#[62, 61]⟩ : ByteArray)].length then (k0 ([(⟨#[]⟩ : ByteArray), (⟨#[61, 61]⟩ : ByteArray), (⟨#[33, 61]⟩ : ByteArray), (⟨#[60]⟩ : ByteArray), (⟨#[60, 61]⟩ : ByteArray), (⟨#[62]⟩ : ByteArray), (⟨#[62, 61]⟩ : ByteArray)].getD (Int.toNat a0) (Ty.z .str))) else none) else none))
def verdererref11_Sgn_F {R : Type} := lazyN (@verdererref11_Sgn_Fi R)
theorem verdererref11_Sgn_e : @verdererref11_Sgn_F R = @verdererref11_Sgn_Fi R := lazyN_eq _
def verdererref11_Sgn_g (n : Nat) : Gx R := typed 1 verdererref11_Sgn_d fun x k => verdererref11_Sgn_F n x.1 (fun y0 => k (.a (.c (.s y0))) [])
def verdererref11_Sgn_cs (R : Type) (n : Nat) : List (Nat × Gx R) := []
def verdererref11_Sgn_cx (R : Type) (n : Nat) : Cx R := ⟨Try.prog, Gof (verdererref11_Sgn_cs R n), noDs, noDx, noLp, drawP Try.prog (Gof (verdererref11_Sgn_cs R n)), false, noJn, noFz⟩
theorem verdererref11_Sgn_ok (n : Nat) : Good Try.prog 87 (verdererref11_Sgn_g (R := R) n) := by
  unfold verdererref11_Sgn_g
  rw [verdererref11_Sgn_e]
  exact Good.fn (cx := verdererref11_Sgn_cx R n) (by kernel_rfl) (AllGood.nil) rfl Try.func87 (by kernel_rfl) rfl trivial 1 verdererref11_Sgn_d (by kernel_rfl) (fun x k => by kernel_rfl)
end
end Go.Proofs.Ytikikmkfeeljgaa.E
set_option linter.unusedVariables false
set_option maxRecDepth 100000
namespace Go.Proofs.Ytikikmkfeeljgaa.E
open Go.Proofs
noncomputable section
variable {R : Type}
/-! verderer/verdererref11.Op: function 78 -/
def verdererref11_Op_ds : Nat → Desc
  | 2 => ⟨[(0, .d .str), (3, .d (.int .i64))], []⟩
  | _ => ⟨[], []⟩
def verdererref11_Op_dx : Nat → List (X × Desc)
  | 2 => [(.r, ⟨[(2, .d (.int .i64))], []⟩), (.e 0, ⟨[], []⟩)]
  | _ => []
def verdererref11_Op_s2 (n : Nat) (x0 : ByteArray) (x1 : Int) (k1 : ByteArray → Int → Option R) (qr : Int → Option R) (qe0 : Option R) : Option R :=
  if (decide (x1 ≤ 6)) = true then (verdererref11_Sgn_F n x1 (fun y1 => if (y1.toList == x0.toList) = true then (qr x1) else (k1 x0 (IntKind.i64.wrap (x1 + 1))))) else qe0
def verdererref11_Op_l2 (n : Nat) (a : (verdererref11_Op_ds 2).D) (k1 : (verdererref11_Op_ds 2).D → Option R) (k2 : exK R (verdererref11_Op_dx 2)) : Option R :=
  verdererref11_Op_s2 n a.1 a.2.1 (fun x0 x1 => k1 (x0, x1, ())) (fun x0 => k2.1 (x0, ())) (k2.2.1 (()))
@[reducible] def verdererref11_Op_d : Desc := ⟨[(0, .d .str)], []⟩
def verdererref11_Op_Fi (n : Nat) (a0 : ByteArray) (k0 : Int → Option R) : Option R :=
  runC (verdererref11_Op_l2 n) n (a0, 1, ()) (fun b2 => k0 b2.1, fun b2 => k0 0, ())
def verdererref11_Op_F {R : Type} := lazyN (@verdererref11_Op_Fi R)
theorem verdererref11_Op_e : @verdererref11_Op_F R = @verdererref11_Op_Fi R := lazyN_eq _
def verdererref11_Op_g (n : Nat) : Gx R := typed 1 verdererref11_Op_d fun x k => verdererref11_Op_F n x.1 (fun y0 => k (.a (.c (.i .i64 y0))) [])
def verdererref11_Op_cs (R : Type) (n : Nat) : List (Nat × Gx R) := [(87, verdererref11_Sgn_g n)]
def verdererref11_Op_lp (n : Nat) : (i : Nat) → (verdererref11_Op_ds i).D → exK R (verdererref11_Op_dx i) → Option R
  | 2, a, k => runC (verdererref11_Op_l2 n) n a k
  | _, _, _ => none
def verdererref11_Op_cx (R : Type) (n : Nat) : Cx R := ⟨Try.prog, Gof (verdererref11_Op_cs R n), verdererref11_Op_ds, verdererref11_Op_dx, verdererref11_Op_lp n, drawP Try.prog (Gof (verdererref11_Op_cs R n)), false, noJn, noFz⟩
theorem verdererref11_Op_ok (n : Nat) : Good Try.prog 78 (verdererref11_Op_g (R := R) n) := by
  unfold verdererref11_Op_g
  rw [verdererref11_Op_e]
  exact Good.fn (cx := verdererref11_Op_cx R n) (by kernel_rfl) (AllGood.cons (verdererref11_Sgn_ok n) (AllGood.nil)) rfl Try.func78 (by kernel_rfl) rfl (by
    have e : fnLoops noJn Try.f78 = [((fnLoops noJn Try.f78)[0]?).getD (false, .skip)] := by kernel_rfl
    show LoopRuns _ _ (fnLoops noJn _)
    rw [e]
    exact ⟨LoopRun.loop (by kernel_rfl) (i := 2) (m := n) (step := verdererref11_Op_l2 n) (by kernel_rfl) (fun a k1 k2 => by kernel_rfl) (fun _ _ => rfl), trivial⟩) 1 verdererref11_Op_d (by kernel_rfl) (fun x k => by kernel_rfl)
end
end Go.Proofs.Ytikikmkfeeljgaa.E
set_option linter.unusedVariables false
set_option maxRecDepth 100000
namespace Go.Proofs.Ytikikmkfeeljgaa.E
open Go.Proofs
noncomputable section
variable {R : Type}
/-! (*verderer/verdererref12.reader).lit: function 60 -/
def verdererref12_reader_lit_ds : Nat → Desc
  | 1000016 => ⟨[(0, .pt 0 0), (4, .pt 3 0), (5, .pt 5 0), (7, .pt 7 0)], [.box true 69 [.ow 1, .d (.int .i64), .d (.int .i64), .d (.int .i64)], .arr 73 ty73, .arr 38 ty38, .box false 41 [.d .bool, .d .str, .ow 2, .d (.int .i64)], .no, .box false 41 [.d .bool, .d .str, .ow 6, .d (.int .i64)], .arr 38 ty38, .box false 38 [.d .str, .d .bool, .d (.int .i64), .d .bool, .d (.int .i64), .d .str]]⟩
  | 1000012 => ⟨[(0, .pt 0 0), (4, .pt 3 0), (5, .pt 5 0)], [.box true 69 [.ow 1, .d (.int .i64), .d (.int .i64), .d (.int .i64)], .arr 73 ty73, .arr 38 ty38, .box false 41 [.d .bool, .d .str, .ow 2, .d (.int .i64)], .no, .box false 41 [.d .bool, .d .str, .ow 6, .d (.int .i64)], .arr 38 ty38]⟩
  | 1000010 => ⟨[(0, .pt 0 0), (4, .pt 3 0), (5, .pt 5 0), (6, .d (.int .i64))], [.box true 69 [.ow 1, .d (.int .i64), .d (.int .i64), .d (.int .i64)], .arr 73 ty73, .arr 38 ty38, .box false 41 [.d .bool, .d .str, .ow 2, .d (.int .i64)], .no, .box false 41 [.d .bool, .d .str, .ow 6, .d (.int .i64)], .arr 38 ty38]⟩
  | _ => ⟨[], []⟩
def verdererref12_reader_lit_dx : Nat → List (X × Desc)
  | 1000016 => [(.r, ⟨[(4, .pt 3 0)], [.box true 69 [.ow 1, .d (.int .i64), .d (.int .i64), .d (.int .i64)], .arr 73 ty73, .no, .box false 41 [.d .bool, .d .str, .d (.sl ty38), .d (.int .i64)]]⟩)]
  | 1000012 => [(.r, ⟨[(4, .pt 3 0)], [.box true 69 [.ow 1, .d (.int .i64), .d (.int .i64), .d (.int .i64)], .arr 73 ty73, .no, .box false 41 [.d .bool, .d .str, .d (.sl ty38), .d (.int .i64)]]⟩)]
  | 1000010 => [(.r, ⟨[(4, .pt 3 0)], [.box true 69 [.ow 1, .d (.int .i64), .d (.int .i64), .d (.int .i64)], .arr 73 ty73, .no, .box false 41 [.d .bool, .d .str, .d (.sl ty38), .d (.int .i64)]]⟩)]
  | _ => []
def verdererref12_reader_lit_s1000016 (n : Nat) (x0 : Int) (x1 : Int) (x2 : Int) (x3 : (List ty73.D)) (x4 : (List ty38.D)) (x5 : Bool) (x6 : ByteArray) (x7 : Int) (x8 : Bool) (x9 : ByteArray) (x10 : Int) (x11 : (List ty38.D)) (x12 : ByteArray) (x13 : Bool) (x14 : Int) (x15 : Bool) (x16 : Int) (x17 : ByteArray) (qr : Int → Int → Int → (List ty73.D) → Bool → ByteArray → (List ty38.D) → Int → Option R) : Option R :=
  verdererref12_reader_step_F n x0 x1 x2 x3 (fun y101 y102 y103 y104 => verdererref12_reader_term_F n y101 y102 y103 y104 (fun y105 y106 y107 y108 y109 => qr y106 y107 y108 y109 x8 x9 [(x12, x13, (x14, x15, x16, x17, ()), ()), y105] x10))
def verdererref12_reader_lit_li1000016 (n : Nat) (a : (verdererref12_reader_lit_ds 1000016).D) (k2 : exK R (verdererref12_reader_lit_dx 1000016)) : Option R :=
  verdererref12_reader_lit_s1000016 n a.1 a.2.1 a.2.2.1 a.2.2.2.1 a.2.2.2.2.1 a.2.2.2.2.2.1 a.2.2.2.2.2.2.1 a.2.2.2.2.2.2.2.1 a.2.2.2.2.2.2.2.2.1 a.2.2.2.2.2.2.2.2.2.1 a.2.2.2.2.2.2.2.2.2.2.1 a.2.2.2.2.2.2.2.2.2.2.2.1 a.2.2.2.2.2.2.2.2.2.2.2.2.1 a.2.2.2.2.2.2.2.2.2.2.2.2.2.1 a.2.2.2.2.2.2.2.2.2.2.2.2.2.2.1 a.2.2.2.2.2.2.2.2.2.2.2.2.2.2.2.1 a.2.2.2.2.2.2.2.2.2.2.2.2.2.2.2.2.1 a.2.2.2.2.2.2.2.2.2.2.2.2.2.2.2.2.2.1 (fun x0 x1 x2 x3 x4 x5 x6 x7 => k2.1 (x0, x1, x2, x3, x4, x5, x6, x7, ()))
def verdererref12_reader_lit_l1000016 {R : Type} := lazyN (@verdererref12_reader_lit_li1000016 R)
theorem verdererref12_reader_lit_e1000016 : @verdererref12_reader_lit_l1000016 R = @verdererref12_reader_lit_li1000016 R := lazyN_eq _
def verdererref12_reader_lit_s1000012 (n : Nat) (x0 : Int) (x1 : Int) (x2 : Int) (x3 : (List ty73.D)) (x4 : (List ty38.D)) (x5 : Bool) (x6 : ByteArray) (x7 : Int) (x8 : Bool) (x9 : ByteArray) (x10 : Int) (x11 : (List ty38.D)) (qr : Int → Int → Int → (List ty73.D) → Bool → ByteArray → (List ty38.D) → Int → Option R) : Option R :=
  verdererref12_reader_term_F n x0 x1 x2 x3 (fun y76 y77 y78 y79 y80 => verdererref12_reader_now_F n y77 y78 y79 y80 (fun y81 y82 y83 y84 y85 => verdererref11_Op_F n y81.2.1 (fun y86 => verdererref12_reader_now_F n y82 y83 y84 y85 (fun y87 y88 y89 y90 y91 => if (y87.1 != 3) = true then (verdererref12_reader_now_F n y88 y89 y90 y91 (fun y92 y93 y94 y95 y96 => verdererref12_reader_fail_F n 7 y92.2.2.2.1 y93 y94 y95 y96 (fun y97 y98 y99 y100 => verdererref12_reader_lit_l1000016 n (y97, y98, y99, y100, x4, x5, x6, x7, x8, x9, y86, x11, y76.1, y76.2.1, y76.2.2.1.1, y76.2.2.1.2.1, y76.2.2.1.2.2.1, y76.2.2.1.2.2.2.1, ()) (fun b117 => qr b117.1 b117.2.1 b117.2.2.1 b117.2.2.2.1 b117.2.2.2.2.1 b117.2.2.2.2.2.1 b117.2.2.2.2.2.2.1 b117.2.2.2.2.2.2.2.1, ())))) else (if (y86 == 0) = true then (verdererref12_reader_now_F n y88 y89 y90 y91 (fun y118 y119 y120 y121 y122 => verdererref12_reader_fail_F n 7 y118.2.2.2.1 y119 y120 y121 y122 (fun y123 y124 y125 y126 => verdererref12_reader_lit_l1000016 n (y123, y124, y125, y126, x4, x5, x6, x7, x8, x9, y86, x11, y76.1, y76.2.1, y76.2.2.1.1, y76.2.2.1.2.1, y76.2.2.1.2.2.1, y76.2.2.1.2.2.2.1, ()) (fun b134 => qr b134.1 b134.2.1 b134.2.2.1 b134.2.2.2.1 b134.2.2.2.2.1 b134.2.2.2.2.2.1 b134.2.2.2.2.2.2.1 b134.2.2.2.2.2.2.2.1, ())))) else (verdererref12_reader_lit_l1000016 n (y88, y89, y90, y91, x4, x5, x6, x7, x8, x9, y86, x11, y76.1, y76.2.1, y76.2.2.1.1, y76.2.2.1.2.1, y76.2.2.1.2.2.1, y76.2.2.1.2.2.2.1, ()) (fun b142 => qr b142.1 b142.2.1 b142.2.2.1 b142.2.2.2.1 b142.2.2.2.2.1 b142.2.2.2.2.2.1 b142.2.2.2.2.2.2.1 b142.2.2.2.2.2.2.2.1, ())))))))
def verdererref12_reader_lit_li1000012 (n : Nat) (a : (verdererref12_reader_lit_ds 1000012).D) (k2 : exK R (verdererref12_reader_lit_dx 1000012)) : Option R :=
  verdererref12_reader_lit_s1000012 n a.1 a.2.1 a.2.2.1 a.2.2.2.1 a.2.2.2.2.1 a.2.2.2.2.2.1 a.2.2.2.2.2.2.1 a.2.2.2.2.2.2.2.1 a.2.2.2.2.2.2.2.2.1 a.2.2.2.2.2.2.2.2.2.1 a.2.2.2.2.2.2.2.2.2.2.1 a.2.2.2.2.2.2.2.2.2.2.2.1 (fun x0 x1 x2 x3 x4 x5 x6 x7 => k2.1 (x0, x1, x2, x3, x4, x5, x6, x7, ()))
def verdererref12_reader_lit_l1000012 {R : Type} := lazyN (@verdererref12_reader_lit_li1000012 R)
theorem verdererref12_reader_lit_e1000012 : @verdererref12_reader_lit_l1000012 R = @verdererref12_reader_lit_li1000012 R := lazyN_eq _
def verdererref12_reader_lit_s1000010 (n : Nat) (x0 : Int) (x1 : Int) (x2 : Int) (x3 : Int) (x4 : (List ty73.D)) (x5 : (List ty38.D)) (x6 : Bool) (x7 : ByteArray) (x8 : Int) (x9 : Bool) (x10 : ByteArray) (x11 : Int) (x12 : (List ty38.D)) (qr : Int → Int → Int → (List ty73.D) → Bool → ByteArray → (List ty38.D) → Int → Option R) : Option R :=
  if x9 = true then (verdererref12_reader_fail_F n 7 x0 x1 x2 x3 x4 (fun y72 y73 y74 y75 => verdererref12_reader_lit_l1000012 n (y72, y73, y74, y75, x5, x6, x7, x8, x9, x10, x11, x12, ()) (fun b150 => qr b150.1 b150.2.1 b150.2.2.1 b150.2.2.2.1 b150.2.2.2.2.1 b150.2.2.2.2.2.1 b150.2.2.2.2.2.2.1 b150.2.2.2.2.2.2.2.1, ()))) else (verdererref12_reader_lit_l1000012 n (x1, x2, x3, x4, x5, x6, x7, x8, x9, x10, x11, x12, ()) (fun b158 => qr b158.1 b158.2.1 b158.2.2.1 b158.2.2.2.1 b158.2.2.2.2.1 b158.2.2.2.2.2.1 b158.2.2.2.2.2.2.1 b158.2.2.2.2.2.2.2.1, ()))
def verdererref12_reader_lit_li1000010 (n : Nat) (a : (verdererref12_reader_lit_ds 1000010).D) (k2 : exK R (verdererref12_reader_lit_dx 1000010)) : Option R :=
  verdererref12_reader_lit_s1000010 n a.1 a.2.1 a.2.2.1 a.2.2.2.1 a.2.2.2.2.1 a.2.2.2.2.2.1 a.2.2.2.2.2.2.1 a.2.2.2.2.2.2.2.1 a.2.2.2.2.2.2.2.2.1 a.2.2.2.2.2.2.2.2.2.1 a.2.2.2.2.2.2.2.2.2.2.1 a.2.2.2.2.2.2.2.2.2.2.2.1 a.2.2.2.2.2.2.2.2.2.2.2.2.1 (fun x0 x1 x2 x3 x4 x5 x6 x7 => k2.1 (x0, x1, x2, x3, x4, x5, x6, x7, ()))
def verdererref12_reader_lit_l1000010 {R : Type} := lazyN (@verdererref12_reader_lit_li1000010 R)
theorem verdererref12_reader_lit_e1000010 : @verdererref12_reader_lit_l1000010 R = @verdererref12_reader_lit_li1000010 R := lazyN_eq _
@[reducible] def verdererref12_reader_lit_d : Desc := ⟨[(0, .pt 0 0), (1, .d (.int .i64))], [.box true 69 [.ow 1, .d (.int .i64), .d (.int .i64), .d (.int .i64)], .arr 73 ty73]⟩
def verdererref12_reader_lit_Fi (n : Nat) (a0 : Int) (a1 : Int) (a2 : Int) (a3 : Int) (a4 : (List ty73.D)) (k0 : ty41.D → Int → Int → Int → (List ty73.D) → Option R) : Option R :=
  verdererref12_reader_take_F n (⟨#[110, 111, 116]⟩ : ByteArray) a1 a2 a3 a4 (fun y1 y2 y3 y4 y5 => verdererref12_reader_now_F n y2 y3 y4 y5 (fun y6 y7 y8 y9 y10 => verdererref12_reader_named_F n y7 y8 y9 y10 (fun y11 y12 y13 y14 y15 => if y11 = true then (if y1 = true then (verdererref12_reader_name_F n y12 y13 y14 y15 (fun y16 y17 y18 y19 y20 => verdererref12_reader_must_F n (⟨#[40]⟩ : ByteArray) y17 y18 y19 y20 (fun y21 y22 y23 y24 => if (!y1) = true then (if (decide (a0 ≥ 6)) = true then (verdererref12_reader_fail_F n 9 y6.2.2.2.1 y21 y22 y23 y24 (fun y25 y26 y27 y28 => verdererref12_reader_args_F n y25 y26 y27 y28 (fun y29 y30 y31 y32 y33 => k0 (y1, y16, y33, 0, ()) y29 y30 y31 y32))) else (verdererref12_reader_args_F n y21 y22 y23 y24 (fun y34 y35 y36 y37 y38 => k0 (y1, y16, y38, 0, ()) y34 y35 y36 y37))) else (verdererref12_reader_args_F n y21 y22 y23 y24 (fun y39 y40 y41 y42 y43 => k0 (y1, y16, y43, 0, ()) y39 y40 y41 y42))))) else (if (decide ((IntKind.i64.wrap (y12 + 1)) < (y15.length : Int))) = true then (if 0 ≤ (IntKind.i64.wrap (y12 + 1)) ∧ (IntKind.i64.wrap (y12 + 1)) < (y15.length : Int) then (if (Int.toNat (IntKind.i64.wrap (y12 + 1))) < y15.length then (if ((y15.getD (Int.toNat (IntKind.i64.wrap (y12 + 1))) (Ty.z ty73)).1 == 3) = true then (if 0 ≤ (IntKind.i64.wrap (y12 + 1)) ∧ (IntKind.i64.wrap (y12 + 1)) < (y15.length : Int) then (if (Int.toNat (IntKind.i64.wrap (y12 + 1))) < y15.length then (if (((y15.getD (Int.toNat (IntKind.i64.wrap (y12 + 1))) (Ty.z ty73)).2.1).toList == (⟨#[40]⟩ : ByteArray).toList) = true then (verdererref12_reader_name_F n y12 y13 y14 y15 (fun y44 y45 y46 y47 y48 => verdererref12_reader_must_F n (⟨#[40]⟩ : ByteArray) y45 y46 y47 y48 (fun y49 y50 y51 y52 => if (!y1) = true then (if (decide (a0 ≥ 6)) = true then (verdererref12_reader_fail_F n 9 y6.2.2.2.1 y49 y50 y51 y52 (fun y53 y54 y55 y56 => verdererref12_reader_args_F n y53 y54 y55 y56 (fun y57 y58 y59 y60 y61 => k0 (y1, y44, y61, 0, ()) y57 y58 y59 y60))) else (verdererref12_reader_args_F n y49 y50 y51 y52 (fun y62 y63 y64 y65 y66 => k0 (y1, y44, y66, 0, ()) y62 y63 y64 y65))) else (verdererref12_reader_args_F n y49 y50 y51 y52 (fun y67 y68 y69 y70 y71 => k0 (y1, y44, y71, 0, ()) y67 y68 y69 y70))))) else (verdererref12_reader_lit_l1000010 n (y6.2.2.2.1, y12, y13, y14, y15, ([] : List ty38.D), false, (⟨#[]⟩ : ByteArray), 0, y1, (⟨#[]⟩ : ByteArray), 0, ([] : List ty38.D), ()) (fun b166 => k0 (b166.2.2.2.2.1, b166.2.2.2.2.2.1, b166.2.2.2.2.2.2.1, b166.2.2.2.2.2.2.2.1, ()) b166.1 b166.2.1 b166.2.2.1 b166.2.2.2.1, ()))) else none) else none) else (verdererref12_reader_lit_l1000010 n (y6.2.2.2.1, y12, y13, y14, y15, ([] : List ty38.D), false, (⟨#[]⟩ : ByteArray), 0, y1, (⟨#[]⟩ : ByteArray), 0, ([] : List ty38.D), ()) (fun b174 => k0 (b174.2.2.2.2.1, b174.2.2.2.2.2.1, b174.2.2.2.2.2.2.1, b174.2.2.2.2.2.2.2.1, ()) b174.1 b174.2.1 b174.2.2.1 b174.2.2.2.1, ()))) else none) else none) else (verdererref12_reader_lit_l1000010 n (y6.2.2.2.1, y12, y13, y14, y15, ([] : List ty38.D), false, (⟨#[]⟩ : ByteArray), 0, y1, (⟨#[]⟩ : ByteArray), 0, ([] : List ty38.D), ()) (fun b182 => k0 (b182.2.2.2.2.1, b182.2.2.2.2.2.1, b182.2.2.2.2.2.2.1, b182.2.2.2.2.2.2.2.1, ()) b182.1 b182.2.1 b182.2.2.1 b182.2.2.2.1, ())))) else (verdererref12_reader_lit_l1000010 n (y6.2.2.2.1, y12, y13, y14, y15, ([] : List ty38.D), false, (⟨#[]⟩ : ByteArray), 0, y1, (⟨#[]⟩ : ByteArray), 0, ([] : List ty38.D), ()) (fun b190 => k0 (b190.2.2.2.2.1, b190.2.2.2.2.2.1, b190.2.2.2.2.2.2.1, b190.2.2.2.2.2.2.2.1, ()) b190.1 b190.2.1 b190.2.2.1 b190.2.2.2.1, ())))))
def verdererref12_reader_lit_F {R : Type} := lazyN (@verdererref12_reader_lit_Fi R)
theorem verdererref12_reader_lit_e : @verdererref12_reader_lit_F R = @verdererref12_reader_lit_Fi R := lazyN_eq _
def verdererref12_reader_lit_g (n : Nat) : Gx R := typed 2 verdererref12_reader_lit_d fun x k => verdererref12_reader_lit_F n x.1 x.2.1 x.2.2.1 x.2.2.2.1 x.2.2.2.2.1 (fun y0 y1 y2 y3 y4 => k (.a (encA ty41 y0)) [(.box true 69 [(.ow 1), (.i .i64 y1), (.i .i64 y2), (.i .i64 y3)]), (.arr 73 ty73 y4)])
def verdererref12_reader_lit_cs (R : Type) (n : Nat) : List (Nat × Gx R) := [(35, verdererref12_reader_take_g n), (36, verdererref12_reader_fail_g n), (37, verdererref12_reader_now_g n), (38, verdererref12_reader_name_g n), (39, verdererref12_reader_must_g n), (41, verdererref12_reader_step_g n), (57, verdererref12_reader_named_g n), (76, verdererref12_reader_args_g n), (77, verdererref12_reader_term_g n), (78, verdererref11_Op_g n)]
def verdererref12_reader_lit_lp (n : Nat) : (i : Nat) → (verdererref12_reader_lit_ds i).D → exK R (verdererref12_reader_lit_dx i) → Option R
  | 1000016, a, k => verdererref12_reader_lit_l1000016 n a k
  | 1000012, a, k => verdererref12_reader_lit_l1000012 n a k
  | 1000010, a, k => verdererref12_reader_lit_l1000010 n a k
  | _, _, _ => none
def verdererref12_reader_lit_cx (R : Type) (n : Nat) : Cx R := ⟨Try.prog, Gof (verdererref12_reader_lit_cs R n), verdererref12_reader_lit_ds, verdererref12_reader_lit_dx, verdererref12_reader_lit_lp n, drawP Try.prog (Gof (verdererref12_reader_lit_cs R n)), true, (memN [16, 12, 10]), noFz⟩
theorem verdererref12_reader_lit_ok (n : Nat) : Good Try.prog 60 (verdererref12_reader_lit_g (R := R) n) := by
  unfold verdererref12_reader_lit_g
  rw [verdererref12_reader_lit_e]
  exact Good.fn (cx := verdererref12_reader_lit_cx R n) (by kernel_rfl) (AllGood.cons (verdererref12_reader_take_ok n) (AllGood.cons (verdererref12_reader_fail_ok n) (AllGood.cons (verdererref12_reader_now_ok n) (AllGood.cons (verdererref12_reader_name_ok n) (AllGood.cons (verdererref12_reader_must_ok n) (AllGood.cons (verdererref12_reader_step_ok n) (AllGood.cons (verdererref12_reader_named_ok n) (AllGood.cons (verdererref12_reader_args_ok n) (AllGood.cons (verdererref12_reader_term_ok n) (AllGood.cons (verdererref11_Op_ok n) (AllGood.nil))))))))))) rfl Try.func60 (by kernel_rfl) rfl (by
    have e : fnLoops (memN [16, 12, 10]) Try.f60 = [((fnLoops (memN [16, 12, 10]) Try.f60)[0]?).getD (false, .skip), ((fnLoops (memN [16, 12, 10]) Try.f60)[1]?).getD (false, .skip), ((fnLoops (memN [16, 12, 10]) Try.f60)[2]?).getD (false, .skip)] := by kernel_rfl
    show LoopRuns _ _ (fnLoops (memN [16, 12, 10]) _)
    rw [e]
    exact ⟨LoopRun.joinS (by kernel_rfl) (i := 10) (L := verdererref12_reader_lit_l1000010 n) (Li := verdererref12_reader_lit_li1000010 n) (by rw [verdererref12_reader_lit_e1000010]) (by kernel_rfl) (fun a k => by kernel_rfl) (fun a k => by kernel_rfl), ⟨LoopRun.joinS (by kernel_rfl) (i := 12) (L := verdererref12_reader_lit_l1000012 n) (Li := verdererref12_reader_lit_li1000012 n) (by rw [verdererref12_reader_lit_e1000012]) (by kernel_rfl) (fun a k => by kernel_rfl) (fun a k => by kernel_rfl), ⟨LoopRun.joinS (by kernel_rfl) (i := 16) (L := verdererref12_reader_lit_l1000016 n) (Li := verdererref12_reader_lit_li1000016 n) (by rw [verdererref12_reader_lit_e1000016]) (by kernel_rfl) (fun a k => by kernel_rfl) (fun a k => by kernel_rfl), trivial⟩⟩⟩) 2 verdererref12_reader_lit_d (by kernel_rfl) (fun x k => by kernel_rfl)
end
end Go.Proofs.Ytikikmkfeeljgaa.E
set_option linter.unusedVariables false
set_option maxRecDepth 100000
namespace Go.Proofs.Ytikikmkfeeljgaa.E
open Go.Proofs
noncomputable section
variable {R : Type}
/-! (*verderer/verdererref12.reader).body: function 42 -/
def verdererref12_reader_body_ds : Nat → Desc
  | 2 => ⟨[(0, .pt 0 0), (1, .pt 2 0), (4, .d (.int .i64)), (5, .d (.int .i64))], [.box true 69 [.ow 1, .d (.int .i64), .d (.int .i64), .d (.int .i64)], .arr 73 ty73, .box true 25 [.d (.int .i64), .d .str, .ow 3, .d (.int .i64), .d .str, .d (.int .i64), .ow 4], .arr 9 .str, .arr 41 ty41]⟩
  | _ => ⟨[], []⟩
def verdererref12_reader_body_dx : Nat → List (X × Desc)
  | 2 => [(.r, ⟨[], [.box true 69 [.ow 1, .d (.int .i64), .d (.int .i64), .d (.int .i64)], .arr 73 ty73, .box true 25 [.d (.int .i64), .d .str, .ow 3, .d (.int .i64), .d .str, .d (.int .i64), .ow 4], .arr 9 .str, .arr 41 ty41]⟩), (.e 0, ⟨[], [.box true 69 [.ow 1, .d (.int .i64), .d (.int .i64), .d (.int .i64)], .arr 73 ty73, .box true 25 [.d (.int .i64), .d .str, .ow 3, .d (.int .i64), .d .str, .d (.int .i64), .ow 4], .arr 9 .str, .arr 41 ty41]⟩)]
  | _ => []
def verdererref12_reader_body_s2 (n : Nat) (x0 : Int) (x1 : Int) (x2 : Int) (x3 : Int) (x4 : Int) (x5 : (List ty73.D)) (x6 : Int) (x7 : ByteArray) (x8 : Int) (x9 : ByteArray) (x10 : Int) (x11 : (List ByteArray)) (x12 : (List ty41.D)) (k1 : Int → Int → Int → Int → Int → (List ty73.D) → Int → ByteArray → Int → ByteArray → Int → (List ByteArray) → (List ty41.D) → Option R) (qr : Int → Int → Int → (List ty73.D) → Int → ByteArray → Int → ByteArray → Int → (List ByteArray) → (List ty41.D) → Option R) (qe0 : Int → Int → Int → (List ty73.D) → Int → ByteArray → Int → ByteArray → Int → (List ByteArray) → (List ty41.D) → Option R) : Option R :=
  if (decide (x1 < 400)) = true then (if (x3 == 0) = true then (verdererref12_reader_now_F n x2 x3 x4 x5 (fun y1 y2 y3 y4 y5 => if (decide ((x12.length : Int) ≥ 10)) = true then (verdererref12_reader_lone_F n y1.2.2.2.1 y2 y3 y4 y5 (fun y6 y7 y8 y9 => verdererref12_reader_lit_F n x0 y6 y7 y8 y9 (fun y10 y11 y12 y13 y14 => if (y10.2.2.2.1 == 0) = true then (if (!y10.1) = true then (if (List.length x12 + List.length [y10]) * 56 ≤ 140737488355328 then (verdererref12_reader_take_F n (⟨#[44]⟩ : ByteArray) y11 y12 y13 y14 (fun y15 y16 y17 y18 y19 => if (!y15) = true then (qr y16 y17 y18 y19 x6 x7 x8 x9 x10 x11 (x12 ++ [y10])) else (k1 (IntKind.i64.wrap (x0 + 1)) (IntKind.i64.wrap (x1 + 1)) y16 y17 y18 y19 x6 x7 x8 x9 x10 x11 (x12 ++ [y10])))) else none) else (if (List.length x12 + List.length [y10]) * 56 ≤ 140737488355328 then (verdererref12_reader_take_F n (⟨#[44]⟩ : ByteArray) y11 y12 y13 y14 (fun y20 y21 y22 y23 y24 => if (!y20) = true then (qr y21 y22 y23 y24 x6 x7 x8 x9 x10 x11 (x12 ++ [y10])) else (k1 x0 (IntKind.i64.wrap (x1 + 1)) y21 y22 y23 y24 x6 x7 x8 x9 x10 x11 (x12 ++ [y10])))) else none)) else (if (List.length x12 + List.length [y10]) * 56 ≤ 140737488355328 then (verdererref12_reader_take_F n (⟨#[44]⟩ : ByteArray) y11 y12 y13 y14 (fun y25 y26 y27 y28 y29 => if (!y25) = true then (qr y26 y27 y28 y29 x6 x7 x8 x9 x10 x11 (x12 ++ [y10])) else (k1 x0 (IntKind.i64.wrap (x1 + 1)) y26 y27 y28 y29 x6 x7 x8 x9 x10 x11 (x12 ++ [y10])))) else none)))) else (verdererref12_reader_lit_F n x0 y2 y3 y4 y5 (fun y30 y31 y32 y33 y34 => if (y30.2.2.2.1 == 0) = true then (if (!y30.1) = true then (if (List.length x12 + List.length [y30]) * 56 ≤ 140737488355328 then (verdererref12_reader_take_F n (⟨#[44]⟩ : ByteArray) y31 y32 y33 y34 (fun y35 y36 y37 y38 y39 => if (!y35) = true then (qr y36 y37 y38 y39 x6 x7 x8 x9 x10 x11 (x12 ++ [y30])) else (k1 (IntKind.i64.wrap (x0 + 1)) (IntKind.i64.wrap (x1 + 1)) y36 y37 y38 y39 x6 x7 x8 x9 x10 x11 (x12 ++ [y30])))) else none) else (if (List.length x12 + List.length [y30]) * 56 ≤ 140737488355328 then (verdererref12_reader_take_F n (⟨#[44]⟩ : ByteArray) y31 y32 y33 y34 (fun y40 y41 y42 y43 y44 => if (!y40) = true then (qr y41 y42 y43 y44 x6 x7 x8 x9 x10 x11 (x12 ++ [y30])) else (k1 x0 (IntKind.i64.wrap (x1 + 1)) y41 y42 y43 y44 x6 x7 x8 x9 x10 x11 (x12 ++ [y30])))) else none)) else (if (List.length x12 + List.length [y30]) * 56 ≤ 140737488355328 then (verdererref12_reader_take_F n (⟨#[44]⟩ : ByteArray) y31 y32 y33 y34 (fun y45 y46 y47 y48 y49 => if (!y45) = true then (qr y46 y47 y48 y49 x6 x7 x8 x9 x10 x11 (x12 ++ [y30])) else (k1 x0 (IntKind.i64.wrap (x1 + 1)) y46 y47 y48 y49 x6 x7 x8 x9 x10 x11 (x12 ++ [y30])))) else none))))) else (qe0 x2 x3 x4 x5 x6 x7 x8 x9 x10 x11 x12)) else (qe0 x2 x3 x4 x5 x6 x7 x8 x9 x10 x11 x12)
def verdererref12_reader_body_l2 (n : Nat) (a : (verdererref12_reader_body_ds 2).D) (k1 : (verdererref12_reader_body_ds 2).D → Option R) (k2 : exK R (verdererref12_reader_body_dx 2)) : Option R :=
  verdererref12_reader_body_s2 n a.1 a.2.1 a.2.2.1 a.2.2.2.1 a.2.2.2.2.1 a.2.2.2.2.2.1 a.2.2.2.2.2.2.1 a.2.2.2.2.2.2.2.1 a.2.2.2.2.2.2.2.2.1 a.2.2.2.2.2.2.2.2.2.1 a.2.2.2.2.2.2.2.2.2.2.1 a.2.2.2.2.2.2.2.2.2.2.2.1 a.2.2.2.2.2.2.2.2.2.2.2.2.1 (fun x0 x1 x2 x3 x4 x5 x6 x7 x8 x9 x10 x11 x12 => k1 (x0, x1, x2, x3, x4, x5, x6, x7, x8, x9, x10, x11, x12, ())) (fun x0 x1 x2 x3 x4 x5 x6 x7 x8 x9 x10 => k2.1 (x0, x1, x2, x3, x4, x5, x6, x7, x8, x9, x10, ())) (fun x0 x1 x2 x3 x4 x5 x6 x7 x8 x9 x10 => k2.2.1 (x0, x1, x2, x3, x4, x5, x6, x7, x8, x9, x10, ()))
@[reducible] def verdererref12_reader_body_d : Desc := ⟨[(0, .pt 0 0), (1, .pt 2 0)], [.box true 69 [.ow 1, .d (.int .i64), .d (.int .i64), .d (.int .i64)], .arr 73 ty73, .box true 25 [.d (.int .i64), .d .str, .ow 3, .d (.int .i64), .d .str, .d (.int .i64), .ow 4], .arr 9 .str, .arr 41 ty41]⟩
def verdererref12_reader_body_Fi (n : Nat) (a0 : Int) (a1 : Int) (a2 : Int) (a3 : (List ty73.D)) (a4 : Int) (a5 : ByteArray) (a6 : Int) (a7 : ByteArray) (a8 : Int) (a9 : (List ByteArray)) (a10 : (List ty41.D)) (k0 : Int → Int → Int → (List ty73.D) → Int → ByteArray → Int → ByteArray → Int → (List ByteArray) → (List ty41.D) → Option R) : Option R :=
  runC (verdererref12_reader_body_l2 n) n (0, 0, a0, a1, a2, a3, a4, a5, a6, a7, a8, a9, a10, ()) (fun b60 => k0 b60.1 b60.2.1 b60.2.2.1 b60.2.2.2.1 b60.2.2.2.2.1 b60.2.2.2.2.2.1 b60.2.2.2.2.2.2.1 b60.2.2.2.2.2.2.2.1 b60.2.2.2.2.2.2.2.2.1 b60.2.2.2.2.2.2.2.2.2.1 b60.2.2.2.2.2.2.2.2.2.2.1, fun b71 => k0 b71.1 b71.2.1 b71.2.2.1 b71.2.2.2.1 b71.2.2.2.2.1 b71.2.2.2.2.2.1 b71.2.2.2.2.2.2.1 b71.2.2.2.2.2.2.2.1 b71.2.2.2.2.2.2.2.2.1 b71.2.2.2.2.2.2.2.2.2.1 b71.2.2.2.2.2.2.2.2.2.2.1, ())
def verdererref12_reader_body_F {R : Type} := lazyN (@verdererref12_reader_body_Fi R)
theorem verdererref12_reader_body_e : @verdererref12_reader_body_F R = @verdererref12_reader_body_Fi R := lazyN_eq _
def verdererref12_reader_body_g (n : Nat) : Gx R := typed 2 verdererref12_reader_body_d fun x k => verdererref12_reader_body_F n x.1 x.2.1 x.2.2.1 x.2.2.2.1 x.2.2.2.2.1 x.2.2.2.2.2.1 x.2.2.2.2.2.2.1 x.2.2.2.2.2.2.2.1 x.2.2.2.2.2.2.2.2.1 x.2.2.2.2.2.2.2.2.2.1 x.2.2.2.2.2.2.2.2.2.2.1 (fun y0 y1 y2 y3 y4 y5 y6 y7 y8 y9 y10 => k (.tu []) [(.box true 69 [(.ow 1), (.i .i64 y0), (.i .i64 y1), (.i .i64 y2)]), (.arr 73 ty73 y3), (.box true 25 [(.i .i64 y4), (.s y5), (.ow 3), (.i .i64 y6), (.s y7), (.i .i64 y8), (.ow 4)]), (.arr 9 .str y9), (.arr 41 ty41 y10)])
def verdererref12_reader_body_cs (R : Type) (n : Nat) : List (Nat × Gx R) := [(35, verdererref12_reader_take_g n), (37, verdererref12_reader_now_g n), (59, verdererref12_reader_lone_g n), (60, verdererref12_reader_lit_g n)]
def verdererref12_reader_body_lp (n : Nat) : (i : Nat) → (verdererref12_reader_body_ds i).D → exK R (verdererref12_reader_body_dx i) → Option R
  | 2, a, k => runC (verdererref12_reader_body_l2 n) n a k
  | _, _, _ => none
def verdererref12_reader_body_cx (R : Type) (n : Nat) : Cx R := ⟨Try.prog, Gof (verdererref12_reader_body_cs R n), verdererref12_reader_body_ds, verdererref12_reader_body_dx, verdererref12_reader_body_lp n, drawP Try.prog (Gof (verdererref12_reader_body_cs R n)), false, noJn, noFz⟩
theorem verdererref12_reader_body_ok (n : Nat) : Good Try.prog 42 (verdererref12_reader_body_g (R := R) n) := by
  unfold verdererref12_reader_body_g
  rw [verdererref12_reader_body_e]
  exact Good.fn (cx := verdererref12_reader_body_cx R n) (by kernel_rfl) (AllGood.cons (verdererref12_reader_take_ok n) (AllGood.cons (verdererref12_reader_now_ok n) (AllGood.cons (verdererref12_reader_lone_ok n) (AllGood.cons (verdererref12_reader_lit_ok n) (AllGood.nil))))) rfl Try.func42 (by kernel_rfl) rfl (by
    have e : fnLoops noJn Try.f42 = [((fnLoops noJn Try.f42)[0]?).getD (false, .skip)] := by kernel_rfl
    show LoopRuns _ _ (fnLoops noJn _)
    rw [e]
    exact ⟨LoopRun.loop (by kernel_rfl) (i := 2) (m := n) (step := verdererref12_reader_body_l2 n) (by kernel_rfl) (fun a k1 k2 => by kernel_rfl) (fun _ _ => rfl), trivial⟩) 2 verdererref12_reader_body_d (by kernel_rfl) (fun x k => by kernel_rfl)
end
end Go.Proofs.Ytikikmkfeeljgaa.E
set_option linter.unusedVariables false
set_option maxRecDepth 100000
namespace Go.Proofs.Ytikikmkfeeljgaa.E
open Go.Proofs
noncomputable section
variable {R : Type}
/-! verderer/verdererref12.Rule: function 18 -/
def verdererref12_Rule_ds : Nat → Desc
  | 1000023 => ⟨[(2, .pt 2 0), (8, .pt 4 0), (9, .pt 7 0)], [.arr 9 .str, .arr 41 ty41, .box false 25 [.d (.int .i64), .d .str, .ow 0, .d (.int .i64), .d .str, .d (.int .i64), .ow 1], .arr 73 ty73, .box false 69 [.ow 3, .d (.int .i64), .d (.int .i64), .d (.int .i64)], .no, .no, .box false 25 [.d (.int .i64), .d .str, .ow 8, .d (.int .i64), .d .str, .d (.int .i64), .ow 9], .arr 9 .str, .arr 41 ty41]⟩
  | 1000013 => ⟨[(2, .pt 2 0), (8, .pt 4 0), (9, .pt 7 0)], [.arr 9 .str, .arr 41 ty41, .box false 25 [.d (.int .i64), .d .str, .ow 0, .d (.int .i64), .d .str, .d (.int .i64), .ow 1], .arr 73 ty73, .box false 69 [.ow 3, .d (.int .i64), .d (.int .i64), .d (.int .i64)], .no, .no, .box false 25 [.d (.int .i64), .d .str, .ow 8, .d (.int .i64), .d .str, .d (.int .i64), .ow 9], .arr 9 .str, .arr 41 ty41]⟩
  | _ => ⟨[], []⟩
def verdererref12_Rule_dx : Nat → List (X × Desc)
  | 1000023 => [(.r, ⟨[(2, .pt 2 0), (3, .d (.int .i64)), (4, .d (.int .i64))], [.no, .no, .box false 25 [.d (.int .i64), .d .str, .ow 10, .d (.int .i64), .d .str, .d (.int .i64), .ow 11], .no, .no, .no, .no, .no, .no, .no, .arr 9 .str, .arr 41 ty41]⟩), (.r, ⟨[(2, .pt 2 0), (3, .d (.int .i64)), (4, .d (.int .i64))], [.no, .no, .box false 25 [.d (.int .i64), .d .str, .ow 8, .d (.int .i64), .d .str, .d (.int .i64), .ow 9], .no, .no, .no, .no, .no, .arr 9 .str, .arr 41 ty41]⟩)]
  | 1000013 => [(.r, ⟨[(2, .pt 2 0), (3, .d (.int .i64)), (4, .d (.int .i64))], [.no, .no, .box false 25 [.d (.int .i64), .d .str, .ow 10, .d (.int .i64), .d .str, .d (.int .i64), .ow 11], .no, .no, .no, .no, .no, .no, .no, .arr 9 .str, .arr 41 ty41]⟩), (.r, ⟨[(2, .pt 2 0), (3, .d (.int .i64)), (4, .d (.int .i64))], [.no, .no, .box false 25 [.d (.int .i64), .d .str, .ow 8, .d (.int .i64), .d .str, .d (.int .i64), .ow 9], .no, .no, .no, .no, .no, .arr 9 .str, .arr 41 ty41]⟩)]
  | _ => []
def verdererref12_Rule_s1000023 (n : Nat) (x0 : (List ByteArray)) (x1 : (List ty41.D)) (x2 : Int) (x3 : ByteArray) (x4 : Int) (x5 : ByteArray) (x6 : Int) (x7 : (List ty73.D)) (x8 : Int) (x9 : Int) (x10 : Int) (x11 : Int) (x12 : ByteArray) (x13 : Int) (x14 : ByteArray) (x15 : Int) (x16 : (List ByteArray)) (x17 : (List ty41.D)) (qr : Int → Int → Int → ByteArray → Int → ByteArray → Int → (List ByteArray) → (List ty41.D) → Option R) (qr_1 : Int → Int → Int → ByteArray → Int → ByteArray → Int → (List ByteArray) → (List ty41.D) → Option R) : Option R :=
  verdererref12_reader_must_F n (⟨#[105, 102]⟩ : ByteArray) x8 x9 x10 x7 (fun y60 y61 y62 y63 => verdererref12_reader_body_F n y60 y61 y62 y63 x11 x12 x13 x14 x15 x16 x17 (fun y64 y65 y66 y67 y68 y69 y70 y71 y72 y73 y74 => verdererref12_reader_now_F n y64 y65 y66 y67 (fun y75 y76 y77 y78 y79 => if (y75.1 != 4) = true then (verdererref12_reader_now_F n y76 y77 y78 y79 (fun y80 y81 y82 y83 y84 => verdererref12_reader_fail_F n 7 y80.2.2.2.1 y81 y82 y83 y84 (fun y85 y86 y87 y88 => if (y86 != 0) = true then (qr y87 y86 0 (⟨#[]⟩ : ByteArray) 0 (⟨#[]⟩ : ByteArray) 0 ([] : List ByteArray) ([] : List ty41.D)) else (qr_1 0 0 y68 y69 y70 y71 y72 y73 y74)))) else (if (y77 != 0) = true then (qr y78 y77 0 (⟨#[]⟩ : ByteArray) 0 (⟨#[]⟩ : ByteArray) 0 ([] : List ByteArray) ([] : List ty41.D)) else (qr_1 0 0 y68 y69 y70 y71 y72 y73 y74)))))
def verdererref12_Rule_li1000023 (n : Nat) (a : (verdererref12_Rule_ds 1000023).D) (k2 : exK R (verdererref12_Rule_dx 1000023)) : Option R :=
  verdererref12_Rule_s1000023 n a.1 a.2.1 a.2.2.1 a.2.2.2.1 a.2.2.2.2.1 a.2.2.2.2.2.1 a.2.2.2.2.2.2.1 a.2.2.2.2.2.2.2.1 a.2.2.2.2.2.2.2.2.1 a.2.2.2.2.2.2.2.2.2.1 a.2.2.2.2.2.2.2.2.2.2.1 a.2.2.2.2.2.2.2.2.2.2.2.1 a.2.2.2.2.2.2.2.2.2.2.2.2.1 a.2.2.2.2.2.2.2.2.2.2.2.2.2.1 a.2.2.2.2.2.2.2.2.2.2.2.2.2.2.1 a.2.2.2.2.2.2.2.2.2.2.2.2.2.2.2.1 a.2.2.2.2.2.2.2.2.2.2.2.2.2.2.2.2.1 a.2.2.2.2.2.2.2.2.2.2.2.2.2.2.2.2.2.1 (fun x0 x1 x2 x3 x4 x5 x6 x7 x8 => k2.1 (x0, x1, x2, x3, x4, x5, x6, x7, x8, ())) (fun x0 x1 x2 x3 x4 x5 x6 x7 x8 => k2.2.1 (x0, x1, x2, x3, x4, x5, x6, x7, x8, ()))
def verdererref12_Rule_l1000023 {R : Type} := lazyN (@verdererref12_Rule_li1000023 R)
theorem verdererref12_Rule_e1000023 : @verdererref12_Rule_l1000023 R = @verdererref12_Rule_li1000023 R := lazyN_eq _
def verdererref12_Rule_s1000013 (n : Nat) (x0 : (List ByteArray)) (x1 : (List ty41.D)) (x2 : Int) (x3 : ByteArray) (x4 : Int) (x5 : ByteArray) (x6 : Int) (x7 : (List ty73.D)) (x8 : Int) (x9 : Int) (x10 : Int) (x11 : Int) (x12 : ByteArray) (x13 : Int) (x14 : ByteArray) (x15 : Int) (x16 : (List ByteArray)) (x17 : (List ty41.D)) (qr : Int → Int → Int → ByteArray → Int → ByteArray → Int → (List ByteArray) → (List ty41.D) → Option R) (qr_1 : Int → Int → Int → ByteArray → Int → ByteArray → Int → (List ByteArray) → (List ty41.D) → Option R) : Option R :=
  verdererref12_reader_name_F n x8 x9 x10 x7 (fun y9 y10 y11 y12 y13 => verdererref12_reader_must_F n (⟨#[40]⟩ : ByteArray) y10 y11 y12 y13 (fun y14 y15 y16 y17 => verdererref12_reader_head_F n y14 y15 y16 y17 x11 y9 x13 x14 x15 x16 x17 (fun y18 y19 y20 y21 y22 y23 y24 y25 y26 y27 y28 => verdererref12_reader_must_F n (⟨#[41]⟩ : ByteArray) y18 y19 y20 y21 (fun y29 y30 y31 y32 => if (y22 == 3) = true then (verdererref12_reader_must_F n (⟨#[108, 105, 109, 105, 116]⟩ : ByteArray) y29 y30 y31 y32 (fun y33 y34 y35 y36 => if (y34 == 0) = true then (verdererref12_reader_now_F n y33 y34 y35 y36 (fun y37 y38 y39 y40 y41 => if (y37.1 != 2) = true then (verdererref12_reader_now_F n y38 y39 y40 y41 (fun y42 y43 y44 y45 y46 => verdererref12_reader_fail_F n 7 y42.2.2.2.1 y43 y44 y45 y46 (fun y47 y48 y49 y50 => verdererref12_reader_now_F n y47 y48 y49 y50 (fun y51 y52 y53 y54 y55 => verdererref12_reader_step_F n y52 y53 y54 y55 (fun y56 y57 y58 y59 => verdererref12_Rule_l1000023 n (x0, x1, x2, x3, x4, x5, x6, y59, y56, y57, y58, y22, y23, y24, y25, y51.2.2.1.2.2.1, y27, y28, ()) (fun b97 => qr b97.1 b97.2.1 b97.2.2.1 b97.2.2.2.1 b97.2.2.2.2.1 b97.2.2.2.2.2.1 b97.2.2.2.2.2.2.1 b97.2.2.2.2.2.2.2.1 b97.2.2.2.2.2.2.2.2.1, fun b106 => qr_1 b106.1 b106.2.1 b106.2.2.1 b106.2.2.2.1 b106.2.2.2.2.1 b106.2.2.2.2.2.1 b106.2.2.2.2.2.2.1 b106.2.2.2.2.2.2.2.1 b106.2.2.2.2.2.2.2.2.1, ())))))) else (verdererref12_reader_now_F n y38 y39 y40 y41 (fun y107 y108 y109 y110 y111 => if (y107.2.2.1.1 != 2) = true then (verdererref12_reader_now_F n y108 y109 y110 y111 (fun y112 y113 y114 y115 y116 => verdererref12_reader_fail_F n 7 y112.2.2.2.1 y113 y114 y115 y116 (fun y117 y118 y119 y120 => verdererref12_reader_now_F n y117 y118 y119 y120 (fun y121 y122 y123 y124 y125 => verdererref12_reader_step_F n y122 y123 y124 y125 (fun y126 y127 y128 y129 => verdererref12_Rule_l1000023 n (x0, x1, x2, x3, x4, x5, x6, y129, y126, y127, y128, y22, y23, y24, y25, y121.2.2.1.2.2.1, y27, y28, ()) (fun b138 => qr b138.1 b138.2.1 b138.2.2.1 b138.2.2.2.1 b138.2.2.2.2.1 b138.2.2.2.2.2.1 b138.2.2.2.2.2.2.1 b138.2.2.2.2.2.2.2.1 b138.2.2.2.2.2.2.2.2.1, fun b147 => qr_1 b147.1 b147.2.1 b147.2.2.1 b147.2.2.2.1 b147.2.2.2.2.1 b147.2.2.2.2.2.1 b147.2.2.2.2.2.2.1 b147.2.2.2.2.2.2.2.1 b147.2.2.2.2.2.2.2.2.1, ())))))) else (verdererref12_reader_now_F n y108 y109 y110 y111 (fun y148 y149 y150 y151 y152 => verdererref12_reader_step_F n y149 y150 y151 y152 (fun y153 y154 y155 y156 => verdererref12_Rule_l1000023 n (x0, x1, x2, x3, x4, x5, x6, y156, y153, y154, y155, y22, y23, y24, y25, y148.2.2.1.2.2.1, y27, y28, ()) (fun b165 => qr b165.1 b165.2.1 b165.2.2.1 b165.2.2.2.1 b165.2.2.2.2.1 b165.2.2.2.2.2.1 b165.2.2.2.2.2.2.1 b165.2.2.2.2.2.2.2.1 b165.2.2.2.2.2.2.2.2.1, fun b174 => qr_1 b174.1 b174.2.1 b174.2.2.1 b174.2.2.2.1 b174.2.2.2.2.1 b174.2.2.2.2.2.1 b174.2.2.2.2.2.2.1 b174.2.2.2.2.2.2.2.1 b174.2.2.2.2.2.2.2.2.1, ())))))))) else (verdererref12_reader_now_F n y33 y34 y35 y36 (fun y175 y176 y177 y178 y179 => verdererref12_reader_step_F n y176 y177 y178 y179 (fun y180 y181 y182 y183 => verdererref12_Rule_l1000023 n (x0, x1, x2, x3, x4, x5, x6, y183, y180, y181, y182, y22, y23, y24, y25, y175.2.2.1.2.2.1, y27, y28, ()) (fun b192 => qr b192.1 b192.2.1 b192.2.2.1 b192.2.2.2.1 b192.2.2.2.2.1 b192.2.2.2.2.2.1 b192.2.2.2.2.2.2.1 b192.2.2.2.2.2.2.2.1 b192.2.2.2.2.2.2.2.2.1, fun b201 => qr_1 b201.1 b201.2.1 b201.2.2.1 b201.2.2.2.1 b201.2.2.2.2.1 b201.2.2.2.2.2.1 b201.2.2.2.2.2.2.1 b201.2.2.2.2.2.2.2.1 b201.2.2.2.2.2.2.2.2.1, ())))))) else (verdererref12_Rule_l1000023 n (x0, x1, x2, x3, x4, x5, x6, y32, y29, y30, y31, y22, y23, y24, y25, y26, y27, y28, ()) (fun b210 => qr b210.1 b210.2.1 b210.2.2.1 b210.2.2.2.1 b210.2.2.2.2.1 b210.2.2.2.2.2.1 b210.2.2.2.2.2.2.1 b210.2.2.2.2.2.2.2.1 b210.2.2.2.2.2.2.2.2.1, fun b219 => qr_1 b219.1 b219.2.1 b219.2.2.1 b219.2.2.2.1 b219.2.2.2.2.1 b219.2.2.2.2.2.1 b219.2.2.2.2.2.2.1 b219.2.2.2.2.2.2.2.1 b219.2.2.2.2.2.2.2.2.1, ()))))))
def verdererref12_Rule_li1000013 (n : Nat) (a : (verdererref12_Rule_ds 1000013).D) (k2 : exK R (verdererref12_Rule_dx 1000013)) : Option R :=
  verdererref12_Rule_s1000013 n a.1 a.2.1 a.2.2.1 a.2.2.2.1 a.2.2.2.2.1 a.2.2.2.2.2.1 a.2.2.2.2.2.2.1 a.2.2.2.2.2.2.2.1 a.2.2.2.2.2.2.2.2.1 a.2.2.2.2.2.2.2.2.2.1 a.2.2.2.2.2.2.2.2.2.2.1 a.2.2.2.2.2.2.2.2.2.2.2.1 a.2.2.2.2.2.2.2.2.2.2.2.2.1 a.2.2.2.2.2.2.2.2.2.2.2.2.2.1 a.2.2.2.2.2.2.2.2.2.2.2.2.2.2.1 a.2.2.2.2.2.2.2.2.2.2.2.2.2.2.2.1 a.2.2.2.2.2.2.2.2.2.2.2.2.2.2.2.2.1 a.2.2.2.2.2.2.2.2.2.2.2.2.2.2.2.2.2.1 (fun x0 x1 x2 x3 x4 x5 x6 x7 x8 => k2.1 (x0, x1, x2, x3, x4, x5, x6, x7, x8, ())) (fun x0 x1 x2 x3 x4 x5 x6 x7 x8 => k2.2.1 (x0, x1, x2, x3, x4, x5, x6, x7, x8, ()))
def verdererref12_Rule_l1000013 {R : Type} := lazyN (@verdererref12_Rule_li1000013 R)
theorem verdererref12_Rule_e1000013 : @verdererref12_Rule_l1000013 R = @verdererref12_Rule_li1000013 R := lazyN_eq _
@[reducible] def verdererref12_Rule_d : Desc := ⟨[(0, .d .str)], []⟩
def verdererref12_Rule_Fi (n : Nat) (a0 : ByteArray) (k0 : Int → ByteArray → Int → ByteArray → Int → Int → Int → (List ByteArray) → (List ty41.D) → Option R) : Option R :=
  verdererref11_Read_F n a0 (fun y1 y2 y3 => if (y2 != 0) = true then (k0 0 (⟨#[]⟩ : ByteArray) 0 (⟨#[]⟩ : ByteArray) 0 y1 y2 ([] : List ByteArray) ([] : List ty41.D)) else (verdererref12_reader_take_F n (⟨#[100, 101, 110, 121]⟩ : ByteArray) 0 0 0 y3 (fun y4 y5 y6 y7 y8 => if y4 = true then (verdererref12_Rule_l1000013 n (([] : List ByteArray), ([] : List ty41.D), 0, (⟨#[]⟩ : ByteArray), 0, (⟨#[]⟩ : ByteArray), 0, y8, y5, y6, y7, 1, (⟨#[]⟩ : ByteArray), 0, (⟨#[]⟩ : ByteArray), 0, ([] : List ByteArray), ([] : List ty41.D), ()) (fun b228 => k0 b228.2.2.1 b228.2.2.2.1 b228.2.2.2.2.1 b228.2.2.2.2.2.1 b228.2.2.2.2.2.2.1 b228.1 b228.2.1 b228.2.2.2.2.2.2.2.1 b228.2.2.2.2.2.2.2.2.1, fun b237 => k0 b237.2.2.1 b237.2.2.2.1 b237.2.2.2.2.1 b237.2.2.2.2.2.1 b237.2.2.2.2.2.2.1 b237.1 b237.2.1 b237.2.2.2.2.2.2.2.1 b237.2.2.2.2.2.2.2.2.1, ())) else (verdererref12_reader_take_F n (⟨#[118, 105, 101, 119]⟩ : ByteArray) y5 y6 y7 y8 (fun y238 y239 y240 y241 y242 => if y238 = true then (verdererref12_Rule_l1000013 n (([] : List ByteArray), ([] : List ty41.D), 0, (⟨#[]⟩ : ByteArray), 0, (⟨#[]⟩ : ByteArray), 0, y242, y239, y240, y241, 2, (⟨#[]⟩ : ByteArray), 0, (⟨#[]⟩ : ByteArray), 0, ([] : List ByteArray), ([] : List ty41.D), ()) (fun b251 => k0 b251.2.2.1 b251.2.2.2.1 b251.2.2.2.2.1 b251.2.2.2.2.2.1 b251.2.2.2.2.2.2.1 b251.1 b251.2.1 b251.2.2.2.2.2.2.2.1 b251.2.2.2.2.2.2.2.2.1, fun b260 => k0 b260.2.2.1 b260.2.2.2.1 b260.2.2.2.2.1 b260.2.2.2.2.2.1 b260.2.2.2.2.2.2.1 b260.1 b260.2.1 b260.2.2.2.2.2.2.2.1 b260.2.2.2.2.2.2.2.2.1, ())) else (verdererref12_reader_take_F n (⟨#[113, 117, 111, 116, 97]⟩ : ByteArray) y239 y240 y241 y242 (fun y261 y262 y263 y264 y265 => if y261 = true then (verdererref12_Rule_l1000013 n (([] : List ByteArray), ([] : List ty41.D), 0, (⟨#[]⟩ : ByteArray), 0, (⟨#[]⟩ : ByteArray), 0, y265, y262, y263, y264, 3, (⟨#[]⟩ : ByteArray), 0, (⟨#[]⟩ : ByteArray), 0, ([] : List ByteArray), ([] : List ty41.D), ()) (fun b274 => k0 b274.2.2.1 b274.2.2.2.1 b274.2.2.2.2.1 b274.2.2.2.2.2.1 b274.2.2.2.2.2.2.1 b274.1 b274.2.1 b274.2.2.2.2.2.2.2.1 b274.2.2.2.2.2.2.2.2.1, fun b283 => k0 b283.2.2.1 b283.2.2.2.1 b283.2.2.2.2.1 b283.2.2.2.2.2.1 b283.2.2.2.2.2.2.1 b283.1 b283.2.1 b283.2.2.2.2.2.2.2.1 b283.2.2.2.2.2.2.2.2.1, ())) else (verdererref12_reader_now_F n y262 y263 y264 y265 (fun y284 y285 y286 y287 y288 => verdererref12_reader_fail_F n 7 y284.2.2.2.1 y285 y286 y287 y288 (fun y289 y290 y291 y292 => verdererref12_Rule_l1000013 n (([] : List ByteArray), ([] : List ty41.D), 0, (⟨#[]⟩ : ByteArray), 0, (⟨#[]⟩ : ByteArray), 0, y292, y289, y290, y291, 0, (⟨#[]⟩ : ByteArray), 0, (⟨#[]⟩ : ByteArray), 0, ([] : List ByteArray), ([] : List ty41.D), ()) (fun b301 => k0 b301.2.2.1 b301.2.2.2.1 b301.2.2.2.2.1 b301.2.2.2.2.2.1 b301.2.2.2.2.2.2.1 b301.1 b301.2.1 b301.2.2.2.2.2.2.2.1 b301.2.2.2.2.2.2.2.2.1, fun b310 => k0 b310.2.2.1 b310.2.2.2.1 b310.2.2.2.2.1 b310.2.2.2.2.2.1 b310.2.2.2.2.2.2.1 b310.1 b310.2.1 b310.2.2.2.2.2.2.2.1 b310.2.2.2.2.2.2.2.2.1, ())))))))))))
def verdererref12_Rule_F {R : Type} := lazyN (@verdererref12_Rule_Fi R)
theorem verdererref12_Rule_e : @verdererref12_Rule_F R = @verdererref12_Rule_Fi R := lazyN_eq _
def verdererref12_Rule_g (n : Nat) : Gx R := typed 1 verdererref12_Rule_d fun x k => verdererref12_Rule_F n x.1 (fun y0 y1 y2 y3 y4 y5 y6 y7 y8 => k (.tu [(.ag [(.i .i64 y0), (.s y1), (.ow 0), (.i .i64 y2), (.s y3), (.i .i64 y4), (.ow 1)]), (.c (.i .i64 y5)), (.c (.i .i64 y6))]) [(.arr 9 .str y7), (.arr 41 ty41 y8)])
def verdererref12_Rule_cs (R : Type) (n : Nat) : List (Nat × Gx R) := [(34, verdererref11_Read_g n), (35, verdererref12_reader_take_g n), (36, verdererref12_reader_fail_g n), (37, verdererref12_reader_now_g n), (38, verdererref12_reader_name_g n), (39, verdererref12_reader_must_g n), (40, verdererref12_reader_head_g n), (41, verdererref12_reader_step_g n), (42, verdererref12_reader_body_g n)]
def verdererref12_Rule_lp (n : Nat) : (i : Nat) → (verdererref12_Rule_ds i).D → exK R (verdererref12_Rule_dx i) → Option R
  | 1000023, a, k => verdererref12_Rule_l1000023 n a k
  | 1000013, a, k => verdererref12_Rule_l1000013 n a k
  | _, _, _ => none
def verdererref12_Rule_cx (R : Type) (n : Nat) : Cx R := ⟨Try.prog, Gof (verdererref12_Rule_cs R n), verdererref12_Rule_ds, verdererref12_Rule_dx, verdererref12_Rule_lp n, drawP Try.prog (Gof (verdererref12_Rule_cs R n)), false, (memN [23, 13]), noFz⟩
theorem verdererref12_Rule_ok (n : Nat) : Good Try.prog 18 (verdererref12_Rule_g (R := R) n) := by
  unfold verdererref12_Rule_g
  rw [verdererref12_Rule_e]
  exact Good.fn (cx := verdererref12_Rule_cx R n) (by kernel_rfl) (AllGood.cons (verdererref11_Read_ok n) (AllGood.cons (verdererref12_reader_take_ok n) (AllGood.cons (verdererref12_reader_fail_ok n) (AllGood.cons (verdererref12_reader_now_ok n) (AllGood.cons (verdererref12_reader_name_ok n) (AllGood.cons (verdererref12_reader_must_ok n) (AllGood.cons (verdererref12_reader_head_ok n) (AllGood.cons (verdererref12_reader_step_ok n) (AllGood.cons (verdererref12_reader_body_ok n) (AllGood.nil)))))))))) rfl Try.func18 (by kernel_rfl) rfl (by
    have e : fnLoops (memN [23, 13]) Try.f18 = [((fnLoops (memN [23, 13]) Try.f18)[0]?).getD (false, .skip), ((fnLoops (memN [23, 13]) Try.f18)[1]?).getD (false, .skip)] := by kernel_rfl
    show LoopRuns _ _ (fnLoops (memN [23, 13]) _)
    rw [e]
    exact ⟨LoopRun.joinS (by kernel_rfl) (i := 13) (L := verdererref12_Rule_l1000013 n) (Li := verdererref12_Rule_li1000013 n) (by rw [verdererref12_Rule_e1000013]) (by kernel_rfl) (fun a k => by kernel_rfl) (fun a k => by kernel_rfl), ⟨LoopRun.joinS (by kernel_rfl) (i := 23) (L := verdererref12_Rule_l1000023 n) (Li := verdererref12_Rule_li1000023 n) (by rw [verdererref12_Rule_e1000023]) (by kernel_rfl) (fun a k => by kernel_rfl) (fun a k => by kernel_rfl), trivial⟩⟩) 1 verdererref12_Rule_d (by kernel_rfl) (fun x k => by kernel_rfl)
end
end Go.Proofs.Ytikikmkfeeljgaa.E
set_option linter.unusedVariables false
set_option maxRecDepth 100000
namespace Go.Proofs.Ytikikmkfeeljgaa.E
open Go.Proofs
noncomputable section
variable {R : Type}
/-! verderer/guard.binds: function 29 -/
@[reducible] def guard_binds_d : Desc := ⟨[(0, .d ty41)], []⟩
def guard_binds_Fi (n : Nat) (a0 : ty41.D) (k0 : Bool → Option R) : Option R :=
  if (a0.2.2.2.1 == 0) = true then (k0 (!a0.1)) else (k0 false)
def guard_binds_F {R : Type} := lazyN (@guard_binds_Fi R)
theorem guard_binds_e : @guard_binds_F R = @guard_binds_Fi R := lazyN_eq _
def guard_binds_g (n : Nat) : Gx R := typed 1 guard_binds_d fun x k => guard_binds_F n x.1 (fun y0 => k (.a (.c (.b y0))) [])
def guard_binds_cs (R : Type) (n : Nat) : List (Nat × Gx R) := []
def guard_binds_cx (R : Type) (n : Nat) : Cx R := ⟨Try.prog, Gof (guard_binds_cs R n), noDs, noDx, noLp, drawP Try.prog (Gof (guard_binds_cs R n)), false, noJn, noFz⟩
theorem guard_binds_ok (n : Nat) : Good Try.prog 29 (guard_binds_g (R := R) n) := by
  unfold guard_binds_g
  rw [guard_binds_e]
  exact Good.fn (cx := guard_binds_cx R n) (by kernel_rfl) (AllGood.nil) rfl Try.func29 (by kernel_rfl) rfl trivial 1 guard_binds_d (by kernel_rfl) (fun x k => by kernel_rfl)
end
end Go.Proofs.Ytikikmkfeeljgaa.E
