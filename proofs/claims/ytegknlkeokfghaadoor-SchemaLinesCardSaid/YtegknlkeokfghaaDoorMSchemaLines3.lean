/- A text of the proof that the law SchemaLines returns true: nothing is assumed in it. -/
import Derived.Test.YtegknlkeokfghaaDoorMSchemaLines2
import Derived.Laws.Externs
import Derived.Shelf.Strings.Split
import Derived.Lib.IndexBytes
import Derived.Test.YtegknlkeokfghaaDoorMSchemaLines1
import Derived.Test.YtegknlkeokfghaaDoorProg
import Derived.KernelRfl
set_option linter.unusedVariables false
set_option linter.unusedSimpArgs false
namespace Go.Proofs.YtegknlkeokfghaaDoor.E
open Go.RowKit
section
variable {R : Type} {P : Program} {r : R}
theorem mv_not {o : Oper} (h : isMv P o = false) : isHC P o = false ∧ isSt o = false := by
  unfold isMv at h
  simpa using h
theorem swap_rs {G : Gt R} (hG : GUni G) {ops : Array Oper} {i j : Nat} {oi oj : Oper} (hi : ops[i]? = some oi) (hj : ops[j]? = some oj) (hn : isMv P oi = false) (hc : commO P oi oj = true) (hap : Oper.apart ops oj oi = true) {S : St} (hs : SortedT S.t) (k : St → Option R) :
    oneD P G ops j S (fun S1 => oneD P G ops i S1 k) = oneD P G ops i S fun S1 => oneD P G ops j S1 k := by
  obtain ⟨h1, h2, h3⟩ := Oper.apart_spec hap
  unfold commO at hc
  rw [hn, (mv_not hn).2] at hc
  simp only [Bool.or_eq_true, Bool.and_eq_true, Bool.false_and, Bool.false_eq_true, or_false] at hc
  rcases hc with ⟨ri, rj⟩ | ⟨ri, rj⟩
  · exact swap_rd hG hi hj ri rj hap hs k
  · exact swap_st hG hi hj ri rj (fun t ht e => h3 t e ht) hs k
theorem comm_not {oi oj : Oper} (hn : isMv P oi = false) (hc : commO P oi oj = true) : isHC P oj = false ∧ isRs P oj = true ∧ isRk P oi = true := by
  unfold commO at hc
  rw [hn, (mv_not hn).2] at hc
  simp only [Bool.or_eq_true, Bool.and_eq_true, Bool.false_and, Bool.false_eq_true, or_false] at hc
  unfold isRs
  rcases hc with ⟨ri, rj⟩ | ⟨ri, rj⟩
  · exact ⟨hc_not (.inl rj), by simp [rj], ri⟩
  · exact ⟨hc_not (.inr rj), by simp [rj], pu_rd ri⟩
/-- one step as a state -/
theorem one_rs {G : Gt R} (hG : GUni G) {ops : Array Oper} {i : Nat} {o : Oper} (ho : ops[i]? = some o) (hr : isRs P o = true) (hn : isHC P o = false) : ∃ V : St → Option St, ∀ S, SortedT S.t → (∀ k, oneD P G ops i S k = (V S).bind k) ∧ ∀ S', V S = some S' → SortedT S'.t := by
  unfold isRs at hr
  rw [hn, Bool.or_false, Bool.or_eq_true] at hr
  rcases hr with hr | hr
  · obtain ⟨V, h1, _⟩ := one_rd (P := P) hG ho hr
    refine ⟨fun S => (V S).map fun x => putT S o.dst x, fun S hs => ⟨fun k => ?_, fun S' e => ?_⟩⟩
    · rw [h1 S k hs]; simp only []; cases V S <;> rfl
    · simp only [] at e; cases hv : V S with
      | none => rw [hv] at e; cases e
      | some x => rw [hv] at e; injection e with e; rw [← e]; exact put_sorted hs _ _
  · obtain ⟨V, h1, _⟩ := one_st (P := P) (G := G) ho hr
    refine ⟨fun S => (V S).map fun H => ⟨S.n, S.t, H⟩, fun S hs => ⟨fun k => ?_, fun S' e => ?_⟩⟩
    · rw [h1 S k hs]; simp only []; cases V S <;> rfl
    · simp only [] at e; cases hv : V S with
      | none => rw [hv] at e; cases e
      | some x => rw [hv] at e; injection e with e; rw [← e]; exact hs
theorem chk_not {ops : Array Oper} {B : List Nat} {i : Nat} {o : Oper} (ho : ops[i]? = some o) (hn : isMv P o = false) (S : St) : chkH P ops B i S = true := by
  unfold chkH
  rw [ho]
  simp only [hn, cond_false]
theorem oneC_not {G : Gt R} {ops : Array Oper} {B : List Nat} {i : Nat} {o : Oper} (ho : ops[i]? = some o) (hn : isMv P o = false) (S : St) (k : St → Option R) : oneC P G ops B i S k = oneD P G ops i S k := by
  unfold oneC
  rw [chk_not ho hn]
  rfl
theorem free_same {ops : Array Oper} {sel : List Nat} {S S' : St} {o : Oper} (h : ∀ u ∈ o.looksAt ops ++ o.dst.toList, look S'.t u = look S.t u) : freeO ops sel S' o = freeO ops sel S o := by
  unfold freeO
  have hl : ∀ u ∈ o.looksAt ops, look S'.t u = look S.t u := fun u hu => h u (List.mem_append_left _ hu)
  have e1 : (o.looksAt ops).all (fun u => frT sel (look S'.t u)) = (o.looksAt ops).all (fun u => frT sel (look S.t u)) := by
    rw [Bool.eq_iff_iff]
    simp only [List.all_eq_true]
    exact ⟨fun g u hu => by rw [← hl u hu]; exact g u hu, fun g u hu => by rw [hl u hu]; exact g u hu⟩
  rw [e1]
  congr 1
  · congr 1
    cases hd : o.dst with
    | none => rfl
    | some d => simp only []; rw [h d (by rw [hd]; simp)]
  · cases hop : o.op with
    | load t x =>
      have hρ := ev_same hl
      rw [hop] at hρ
      have hx : oc S'.t x = oc S.t x := by unfold oc; rw [hρ x (by simp [Op.operands])]
      simp only [hx]
    | _ => rfl
theorem mem_see {ops : Array Oper} {j q : Nat} {o : Oper} (hq : q ≤ j) (ho : ops[q]? = some o) {u : Nat} (hu : u ∈ o.looksAt ops ++ o.dst.toList) : u ∈ chkSee ops j := by
  unfold chkSee
  refine List.mem_flatMap.2 ⟨q, List.mem_range.2 (by omega), ?_⟩
  rw [ho]
  exact hu
theorem sel_same {G : Gt R} (hG : GUni G) {ops : Array Oper} {i : Nat} {o : Oper} (ho : ops[i]? = some o) (hr : isMv P o = true) {S S' : St} (hH : S'.H = S.H) (hl : ∀ t ∈ o.looksAt ops, look S'.t t = look S.t t) : hcSel P o S' = hcSel P o S := by
  obtain ⟨_, _, h, _⟩ := one_mv (P := P) hG ho hr
  exact (h S S' hH hl).2
/-- a check does not see what it does not look at -/
theorem chk_same {G : Gt R} (hG : GUni G) {ops : Array Oper} {B : List Nat} {j : Nat} {S S' : St} (hH : S'.H = S.H) (hl : ∀ u ∈ chkSee ops j, look S'.t u = look S.t u) : chkH P ops B j S' = chkH P ops B j S := by
  unfold chkH
  cases ho : ops[j]? with
  | none => rfl
  | some oj =>
    simp only []
    cases hm : isMv P oj with
    | false => rfl
    | true =>
      simp only [cond_true]
      have hsel : hcSel P oj S' = hcSel P oj S := sel_same hG ho hm hH fun t ht => hl t (mem_see (Nat.le_refl _) ho (List.mem_append_left _ ht))
      rw [Bool.eq_iff_iff]
      simp only [List.all_eq_true, List.mem_range]
      refine ⟨fun g q hq => ?_, fun g q hq => ?_⟩
      all_goals
        have g := g q hq
        revert g
        cases hoq : ops[q]? with
        | none => exact id
        | some oq =>
          simp only [hsel]
          cases hcSel P oj S with
          | none => exact id
          | some sel =>
            simp only []
            unfold chkJ
            rw [free_same (S := S) (S' := S') fun u hu => hl u (mem_see (Nat.le_of_lt hq) hoq hu)]
            exact id
/-- an operation that is ready goes first -/
theorem front_rs {G : Gt R} (hG : GUni G) {ops : Array Oper} {B : List Nat} {i : Nat} {oi : Oper} (hi : ops[i]? = some oi) (hn : isMv P oi = false) : ∀ (a : List Nat) {b : List Nat} {S : St} {k : St → Option R}, SortedT S.t →
    (∀ j ∈ a, ∃ oj, ops[j]? = some oj ∧ commO P oi oj = true ∧ Oper.apart ops oj oi = true ∧ seenO ops oi oj j = true) → seqC P G ops B (a ++ i :: b) S k = oneD P G ops i S fun S' => seqC P G ops B (a ++ b) S' k
  | [], b, S, k, hs, h => oneC_not hi hn S _
  | j :: a, b, S, k, hs, h => by
    obtain ⟨oj, hj, hc, hap, hsee⟩ := h j (by simp)
    obtain ⟨hnj, rj, rki⟩ := comm_not hn hc
    have hrest := fun q hq => h q (List.mem_cons_of_mem _ hq)
    obtain ⟨Vj, ej⟩ := one_rs (P := P) hG hj rj hnj
    obtain ⟨Vi, ei, _⟩ := one_rd (P := P) hG hi rki
    show oneC P G ops B j S (fun S1 => seqC P G ops B (a ++ i :: b) S1 k) = oneD P G ops i S fun S' => oneC P G ops B j S' fun S1 => seqC P G ops B (a ++ b) S1 k
    have hchk : ∀ x, chkH P ops B j (putT S oi.dst x) = chkH P ops B j S := by
      intro x
      unfold seenO at hsee
      rw [Bool.or_eq_true] at hsee
      rcases hsee with hsee | hsee
      · have : isMv P oj = false := by unfold isMv; rw [hnj]; simpa using hsee
        rw [chk_not hj this, chk_not hj this]
      · refine chk_same hG (put_H _ _ _).1 fun u hu => look_put hs fun e => ?_
        rw [e] at hsee
        simp only [Bool.not_eq_true'] at hsee
        rw [List.contains_iff_mem.2 hu] at hsee
        cases hsee
    unfold oneC
    rw [ei S _ hs]
    simp only [hchk]
    cases hck : chkH P ops B j S with
    | false =>
      simp only [cond_false]
      cases Vi S <;> rfl
    | true =>
      simp only [cond_true]
      rw [← ei S (fun S' => oneD P G ops j S' fun S1 => seqC P G ops B (a ++ b) S1 k) hs]
      have : oneD P G ops j S (fun S1 => seqC P G ops B (a ++ i :: b) S1 k) = oneD P G ops j S fun S1 => oneD P G ops i S1 fun S' => seqC P G ops B (a ++ b) S' k := by
        rw [(ej S hs).1, (ej S hs).1]
        cases hv : Vj S with
        | none => rfl
        | some S1 => exact front_rs hG hi hn a ((ej S hs).2 S1 hv) hrest
      rw [this]
      exact swap_rs hG hi hj hn hc hap hs _
theorem oneC_some {G : Gt R} {ops : Array Oper} {B : List Nat} {i : Nat} {S : St} {k : St → Option R} (h : oneC P G ops B i S k = some r) : chkH P ops B i S = true ∧ oneD P G ops i S k = some r := by
  unfold oneC at h
  cases hc : chkH P ops B i S with
  | false => rw [hc] at h; cases h
  | true => rw [hc] at h; exact ⟨rfl, h⟩
/-- a handed call that is ready goes first -/
theorem front_hc {G : Gt R} (hG : GUni G) {ops : Array Oper} {B : List Nat} {i : Nat} {oi : Oper} (hi : ops[i]? = some oi) (ri : isMv P oi = true) : ∀ (a : List Nat) {b : List Nat} {S : St} {k : St → Option R}, SortedT S.t →
    (∀ j ∈ a, j < i ∧ ahead ops B i j = false ∧ ∃ oj, ops[j]? = some oj ∧ (isPu oj = true ∨ isLd oj = true) ∧ Oper.apart ops oj oi = true) → a.Pairwise (· < ·) → seqC P G ops B (a ++ i :: b) S k = some r →
    ∃ Si : St, Si.H = S.H ∧ (∀ t, (∀ j ∈ a, ∀ oj, ops[j]? = some oj → oj.dst ≠ some t) → look Si.t t = look S.t t) ∧ chkH P ops B i Si = true ∧ oneD P G ops i S (fun S' => seqC P G ops B (a ++ b) S' k) = some r
  | [], b, S, k, hs, h, hp, e => by
    obtain ⟨h1, h2⟩ := oneC_some (show oneC P G ops B i S (fun S' => seqC P G ops B b S' k) = some r from e)
    exact ⟨S, rfl, fun _ _ => rfl, h1, h2⟩
  | j :: a, b, S, k, hs, h, hp, e => by
    obtain ⟨hji, hah, oj, hj, rj, hap⟩ := h j (by simp)
    obtain ⟨h1, h2, h3⟩ := Oper.apart_spec hap
    have hrk : isRk P oj = true := rj.elim pu_rd ld_rk
    have hnj : isMv P oj = false := by
      unfold isMv
      rw [hc_not (.inl hrk), Bool.false_or]
      cases hst : isSt oj with
      | false => rfl
      | true =>
        unfold isSt at hst
        split at hst
        · rename_i hop
          unfold isRk isRd at hrk
          rw [hop] at hrk
          cases hrk
        · cases hst
    obtain ⟨hpj, hpa⟩ := List.pairwise_cons.1 hp
    obtain ⟨_, e1⟩ := oneC_some (show oneC P G ops B j S (fun S1 => seqC P G ops B (a ++ i :: b) S1 k) = some r from e)
    obtain ⟨Vj, ej, _⟩ := one_rd (P := P) hG hj hrk
    rw [ej S _ hs] at e1
    obtain ⟨z0, hv, e1⟩ := Option.bind_eq_some_iff.1 e1
    have hs1 := put_sorted hs oj.dst z0
    obtain ⟨Si, hH, hlk, hchk, h4⟩ := front_hc hG hi ri a hs1 (fun q hq => h q (List.mem_cons_of_mem _ hq)) hpa e1
    obtain ⟨_, _, ci, _⟩ := one_mv (P := P) hG hi ri
    have hH1 : Si.H = S.H := hH.trans (put_H _ _ _).1
    have hlk1 : ∀ t, (∀ q ∈ j :: a, ∀ oq, ops[q]? = some oq → oq.dst ≠ some t) → look Si.t t = look S.t t := fun t ht =>
      (hlk t fun q hq => ht q (List.mem_cons_of_mem _ hq)).trans (look_put hs (ht j (by simp) oj hj))
    have hselS : hcSel P oi Si = hcSel P oi S := (ci S Si hH1 fun t ht => hlk1 t fun q hq oq hoq e => by
      obtain ⟨_, _, oq', hoq', _, hapq⟩ := h q hq
      rw [hoq] at hoq'
      injection hoq' with hoq'
      subst hoq'
      exact (Oper.apart_spec hapq).1 t e ht).2
    refine ⟨Si, hH1, hlk1, hchk, ?_⟩
    show oneD P G ops i S (fun S' => oneC P G ops B j S' fun S1 => seqC P G ops B (a ++ b) S1 k) = some r
    simp only [oneC_not hj hnj]
    by_cases hsp : isSt oi = true ∧ isPu oj = true
    · rw [swap_st hG hj hi hsp.2 hsp.1 (fun t ht e => (Oper.apart_spec hap).1 t e ht) hs, ej S _ hs, hv]
      exact h4
    -- what was seen behind all of them
    have hc := hchk
    unfold chkH at hc
    rw [hi] at hc
    simp only [ri, cond_true] at hc
    rw [hselS] at hc
    simp only [List.all_eq_true, List.mem_range] at hc
    have hcj := hc j hji
    rw [hah, Bool.false_or, hj] at hcj
    simp only [Bool.or_eq_true, Bool.and_eq_true] at hcj
    replace hcj := hcj.resolve_left hsp
    cases hsel : hcSel P oi S with
    | none => rw [hsel] at hcj; cases hcj
    | some sel =>
      rw [hsel] at hcj
      simp only at hcj
      unfold chkJ at hcj
      simp only [Bool.and_eq_true, List.all_eq_true, List.mem_range] at hcj
      obtain ⟨⟨hfree, _⟩, hall⟩ := hcj
      have hown : lateO ops oj oj = true := by
        have := hall j hji
        rw [hj] at this
        have hlt : Nat.blt j j = false := by cases h : Nat.blt j j with
          | false => rfl
          | true => exact absurd (Nat.le_of_ble_eq_true h) (Nat.lt_irrefl _)
        rw [hlt, Bool.false_or] at this
        simp only [Bool.and_eq_true] at this
        exact this.1
      have later : ∀ q ∈ a, ∀ oq, ops[q]? = some oq → lateO ops oq oj = true ∧ ∀ d, oj.dst = some d → oq.dst ≠ some d := by
        intro q hq oq hoq
        have hjq := hpj q hq
        have := hall q (h q (List.mem_cons_of_mem _ hq)).1
        rw [hoq] at this
        have hlt : Nat.blt q j = false := by cases h : Nat.blt q j with
          | false => rfl
          | true => have : q < j := Nat.le_of_ble_eq_true h; omega
        have hne : Nat.beq q j = false := by cases h : Nat.beq q j with
          | false => rfl
          | true => have := Nat.eq_of_beq_eq_true h; omega
        rw [hlt, hne, Bool.false_or] at this
        simp only [Bool.false_or, Bool.and_eq_true] at this
        refine ⟨this.1, fun d hd e => ?_⟩
        have h6 := this.2
        rw [hd] at h6
        simp [e] at h6
      have hl1 : ∀ u ∈ oj.looksAt ops, look Si.t u = look (putT S oj.dst z0).t u := fun u hu => hlk u fun q hq oq hoq => late_of (later q hq oq hoq).1 hu
      have hfree1 : freeO ops sel (putT S oj.dst z0) oj = true := by
        unfold freeO at hfree ⊢
        simp only [Bool.and_eq_true, List.all_eq_true] at hfree ⊢
        obtain ⟨⟨f1, f2⟩, f3⟩ := hfree
        refine ⟨⟨fun u hu => by rw [← hl1 u hu]; exact f1 u hu, ?_⟩, ?_⟩
        · cases hd : oj.dst with
          | none => rfl
          | some d =>
            rw [hd] at f2
            simp only at f2 ⊢
            have := hlk d fun q hq oq hoq => (later q hq oq hoq).2 d hd
            rw [hd] at this
            rw [← this]
            exact f2
        · cases hop : oj.op with
          | load t x =>
            rw [hop] at f3
            simp only at f3 ⊢
            have hρ := ev_same hl1
            rw [hop] at hρ
            have hx : oc Si.t x = oc (putT S oj.dst z0).t x := by unfold oc; rw [hρ x (by simp [Op.operands])]
            rw [← hx]
            exact f3
          | _ => rfl
      refine swap_hc hG hi hj ri rj hap hown hs hsel ?_
      rw [ej S _ hs, hv]
      simp only [Option.bind_some]
      rw [if_pos hfree1]
      exact h4
end
end Go.Proofs.YtegknlkeokfghaaDoor.E
namespace Go.Proofs.YtegknlkeokfghaaDoor.E
open Go.RowKit
section
variable {R : Type} {P : Program} {w0 w w' : World} {U : U0} {F F' : Nat → Prop} {hv : List Value} {H : List Blk} {r : R}
theorem guard_sorted {ops : Array Oper} {o : Oper} {S : St} {a : Act} (hR : Rel w0 U S a w F hv) {yes no : St → Option R} (h : guardK ops o S yes no = some r) :
    (Region.wanted o (yielded ops a.tmps) = true ∧ ∃ S', yes S' = some r ∧ Rel w0 U S' a w F hv ∧ (SortedT S.t → SortedT S'.t)) ∨ (Region.wanted o (yielded ops a.tmps) = false ∧ ∃ S', no S' = some r ∧ Rel w0 U S' a w F hv ∧ (SortedT S.t → SortedT S'.t)) := by
  classical
  have h2 : guardK ops o S (fun S' => if (SortedT S.t → SortedT S'.t) then yes S' else none) (fun S' => if (SortedT S.t → SortedT S'.t) then no S' else none) = some r := by
    have kn : ∀ d b, SortedT S.t → SortedT (knowT S d b).t := fun d b hs => sorted_ins hs _ _
    unfold guardK at h ⊢
    cases hg : o.guard with
    | none => rw [hg] at h; simp only at h ⊢; rw [if_pos (fun hs => hs)]; exact h
    | some q =>
      obtain ⟨j, want⟩ := q
      rw [hg] at h
      simp only at h ⊢
      cases hd : (ops[j]?).bind (·.dst) with
      | none => rw [hd] at h; cases h
      | some d =>
        rw [hd] at h
        simp only at h ⊢
        cases hl : look S.t d with
        | tu l => cases l with
          | nil => rw [hl] at h; simp only at h ⊢; rw [if_pos (fun hs => hs)]; exact h
          | cons => rw [hl] at h; cases h
        | a x => cases x with
          | ag => rw [hl] at h; cases h
          | c y =>
            cases y with
            | b x =>
              rw [hl] at h
              simp only at h ⊢
              cases x <;> cases want <;> simp only [if_true, Bool.false_eq_true, if_false] at h ⊢ <;> rw [if_pos (kn _ _)] <;> exact h
            | _ => rw [hl] at h; cases h
  rcases guardK_sound hR h2 with ⟨hw, S', h1, h3⟩ | ⟨hw, S', h1, h3⟩
  · split at h1
    · exact .inl ⟨hw, S', h1, h3, ‹_›⟩
    · cases h1
  · split at h1
    · exact .inr ⟨hw, S', h1, h3, ‹_›⟩
    · cases h1
theorem oneD_sound {G : Gt R} (hG : AllSound P G) (hU : GUni G) {ops : Array Oper} {i : Nat} {o : Oper} (ho : ops[i]? = some o) {S : St} {a : Act} (hR : Rel w0 U S a w F hv) {k : St → Option R} (h : oneD P G ops i S k = some r)
    {K : Act → World → Prop} {Q : Exit → Act → World → Prop} (hK : ∀ S' a' w' F' hv', k S' = some r → a'.tmps.size = a.tmps.size → Rel w0 U S' a' w' F' hv' → (isRs P o = true → SortedT S.t → SortedT S'.t) → K a' w') : wpOp P ops Q i K a w := by
  unfold oneD at h
  rw [ho] at h
  unfold wpOp
  rw [ho]
  rcases guard_sorted hR h with ⟨hw, S1, h1, hR1, hs1⟩ | ⟨hw, S1, h1, hR1, hs1⟩
  · simp only [hw, if_true]
    refine .inl ?_
    cases hr : isRk P o with
    | true =>
      rw [hr] at h1
      simp only [cond_true] at h1
      refine rdK_sound hG hR1 h1 fun x w' F' v h2 gr hx => ?_
      exact hK _ _ _ _ _ h2 (put_size _ _ _) ((hR1.grows gr).putT hx o.dst) fun _ hs => put_sorted (hs1 hs) _ _
    | false =>
      rw [hr] at h1
      simp only [cond_false] at h1
      classical
      have h2 : opK P G o S1 (fun x S' => if (isRs P o = true → SortedT S1.t → SortedT S'.t) then k (putT S' o.dst x) else none) = some r := by
        cases hst : isSt o with
        | true =>
          have hst2 := hst
          unfold isSt at hst2
          cases hop : o.op with
          | store t x y =>
            unfold opK at h1 ⊢
            rw [hop] at h1
            rw [hop]
            simp only at h1 ⊢
            split at h1
            · rename_i c z hc hz
              split at h1
              · rename_i cl hcl
                rw [storeK_bind] at h1
                rw [storeK_bind]
                simpa using h1
              · cases h1
            · cases h1
          | _ => rw [hop] at hst2; cases hst2
        | false =>
          cases hhc : isHC P o with
          | false =>
            have hn : isRs P o = false := by unfold isRs; rw [hr, hst, hhc]; rfl
            have e : (fun (x : T) (S' : St) => if (isRs P o = true → SortedT S1.t → SortedT S'.t) then k (putT S' o.dst x) else none) = fun x S' => k (putT S' o.dst x) := by
              funext x S'
              rw [if_pos (fun h => by rw [hn] at h; cases h)]
            rw [e]
            exact h1
          | true =>
            have hh := hhc
            unfold isHC at hh
            cases hop : o.op with
            | call c =>
              rw [hop] at hh
              simp only at hh
              obtain ⟨callee, args, argTypes⟩ := c
              cases callee with
              | value f =>
                unfold opK at h1 ⊢
                rw [hop] at h1
                rw [hop]
                simp only at h1 ⊢
                cases hy : oc S1.t f with
                | none => rw [hy] at h1; cases h1
                | some y =>
                  rw [hy] at h1
                  simp only at h1 ⊢
                  obtain ⟨W, hW, _⟩ := callK_bind (P := P) hU y args.toList
                  rw [hW] at h1 ⊢
                  cases hw2 : W S1.H (argsK S1.t args.toList) with
                  | none => rw [hw2] at h1; cases h1
                  | some q =>
                    rw [hw2] at h1
                    simp only [Option.bind_some] at h1 ⊢
                    rw [if_pos (fun _ hs => sorted_fg hs)]
                    exact h1
              | builtin b =>
                cases b with
                | append =>
                  unfold opK at h1 ⊢
                  rw [hop] at h1
                  rw [hop]
                  simp only at h1 ⊢
                  split at h1
                  · rename_i x y t u _ _
                    split at h1
                    · rename_i htu
                      rw [if_pos htu]
                      split at h1
                      · rename_i s z hs hz
                        rw [appendK_bind] at h1 ⊢
                        cases hw2 : appW P t s z S1.H with
                        | none => rw [hw2] at h1; cases h1
                        | some q =>
                          rw [hw2] at h1
                          simp only [Option.bind_some] at h1 ⊢
                          rw [if_pos (fun _ hs => sorted_map hs)]
                          exact h1
                      · cases h1
                    · cases h1
                  · cases h1
                | _ => cases hh
              | _ => cases hh
            | buildSlice t n ps =>
              unfold opK buildSliceK at h1 ⊢
              rw [hop] at h1
              rw [hop]
              simp only at h1 ⊢
              split at h1
              · split at h1
                · rename_i hc
                  rw [if_pos hc]
                  split at h1
                  · rw [if_pos (fun _ hs => hs)]
                    exact h1
                  · cases h1
                · cases h1
              · cases h1
            | _ => rw [hop] at hh; cases hh
      refine opK_sound hG hR1 h2 fun x S' w' F' hv' v h3 h4 hx => ?_
      split at h3
      · rename_i hst
        exact hK _ _ _ _ _ h3 (put_size _ _ _) (h4.putT hx o.dst) fun e hs => put_sorted (hst e (hs1 hs)) _ _
      · cases h3
  · simp only [hw]
    exact hK _ _ _ _ _ h1 (put_size _ _ _) (hR1.putT (v := undef) (x := .tu []) (show RepT w F hv undef (.tu []) from ⟨#[], rfl, trivial⟩) o.dst) fun _ hs => put_sorted (hs1 hs) _ _
def remaining (n : Nat) (listed : Array Bool) : List Nat := (List.range n).filter fun i => !listed.getD i true
theorem mem_remaining {n : Nat} {listed : Array Bool} {i : Nat} : i ∈ remaining n listed ↔ i < n ∧ listed.getD i true = false := by
  simp [remaining]
theorem remaining_set {n : Nat} {listed : Array Bool} {i : Nat} (hn : listed.size = n) : ∀ {a b : List Nat}, remaining n listed = a ++ i :: b → remaining n (listed.setIfInBounds i true) = a ++ b := by
  intro a b h
  have nd : (a ++ i :: b).Nodup := by rw [← h]; exact (List.nodup_range).filter _
  have hi : i < n := (mem_remaining.1 (by rw [h]; simp)).1
  have e : remaining n (listed.setIfInBounds i true) = (remaining n listed).filter fun j => !(j == i) := by
    unfold remaining
    rw [List.filter_filter]
    apply List.filter_congr
    intro j hj
    have hj' : j < n := List.mem_range.1 hj
    by_cases hji : i = j
    · subst hji
      simp [hn, hi]
    · have : (j == i) = false := by simpa using Ne.symm hji
      rw [getD_set_ne true hji, this]
      simp
  rw [e, h, List.filter_append, List.filter_cons]
  simp only [beq_self_eq_true, Bool.not_true, Bool.false_eq_true, if_false]
  have ha : ∀ j ∈ a, (!(j == i)) = true := fun j hj => by
    have : j ≠ i := by
      rintro rfl
      exact (List.nodup_append.1 nd).2.2 j hj j (by simp) rfl
    simpa using this
  have hb : ∀ j ∈ b, (!(j == i)) = true := fun j hj => by
    have : j ≠ i := by
      rintro rfl
      exact (List.nodup_cons.1 (List.nodup_append.1 nd).2.1).1 hj
    simpa using this
  rw [List.filter_eq_self.2 ha, List.filter_eq_self.2 hb]
def Shut (ops : Array Oper) (listed : Array Bool) : Prop := ∀ i o, ops[i]? = some o → listed.getD i true = true → ∀ d ∈ depsO o, listed.getD d true = true
theorem ahead_listed {ops : Array Oper} {B : List Nat} {listed : Array Bool} (hsh : Shut ops listed) (hB : ∀ i j, j < i → i < ops.size → Nat.testBit (B.getD i 0) j = true → ahead ops B i j = true) (hback : ∀ i o, ops[i]? = some o → ∀ d ∈ depsO o, d < i) (hlt : ∀ i, i < ops.size → B.getD i 0 < 2 ^ i) :
    ∀ (i : Nat) (o : Oper), ops[i]? = some o → (∀ d ∈ depsO o, listed.getD d true = true) → ∀ j, j < i → ahead ops B i j = true → listed.getD j true = true := by
  intro i
  induction i using Nat.strongRecOn with
  | _ i ih =>
    intro o ho hd j hji ha
    unfold ahead at ha
    rw [ho] at ha
    simp only [Bool.and_eq_true, List.any_eq_true, Bool.or_eq_true] at ha
    obtain ⟨_, d, hdm, h⟩ := ha
    rcases h with h | h
    · have := Nat.eq_of_beq_eq_true h
      subst this
      exact hd d hdm
    · have hdi := hback i o ho d hdm
      have hdl := hd d hdm
      have hds : d < ops.size := Nat.lt_trans hdi (Array.getElem?_eq_some_iff.1 ho).1
      have hod : ops[d]? = some ops[d] := Array.getElem?_eq_getElem hds
      by_cases hjd : j < d
      · exact ih d hdi _ hod (hsh d _ hod hdl) j hjd (hB d j hjd hds h)
      · have h1 := hlt d hds
        have h2 : 2 ^ d ≤ 2 ^ j := Nat.pow_le_pow_right (by decide) (Nat.le_of_not_lt hjd)
        rw [Nat.testBit_lt_two_pow (Nat.lt_of_lt_of_le h1 h2)] at h
        cases h
theorem regOk_spec {ops : Array Oper} (h : regOk P ops = true) {i : Nat} (hi : i < ops.size) : backOk ops i = true ∧ (befs ops.toList []).getD i 0 < 2 ^ i ∧ ∀ j, j < i → pairOk P ops (befs ops.toList []) i j = true := by
  simp only [regOk, List.all_eq_true, List.mem_range, Bool.and_eq_true] at h
  obtain ⟨⟨h1, h2⟩, h3⟩ := h i hi
  exact ⟨h1, Nat.le_of_ble_eq_true h2, h3⟩
theorem mem_deps {o : Oper} {d : Nat} : d ∈ depsO o ↔ ∃ e ∈ o.after, Region.binds .any e = true ∧ e.on = d := by
  simp [depsO, and_assoc]
theorem take_all {ops : Array Oper} {i : Nat} (h : (ops.toList.take (i + 1)).all (isRs P) = true) {j : Nat} (hj : j ≤ i) {o : Oper} (ho : ops[j]? = some o) : isRs P o = true := by
  refine List.all_eq_true.1 h o (List.mem_of_getElem? (i := j) ?_)
  rw [List.getElem?_take, if_pos (by omega)]
  simpa using ho
theorem any_sound {G : Gt R} (hG : AllSound P G) (hU : GUni G) {ops : Array Oper} (hreg : regOk P ops = true) {k : St → Option R} {Q : Exit → Act → World → Prop} {n : Nat}
    (hK : ∀ S' a' w' F' hv', k S' = some r → a'.tmps.size = n → Rel w0 U S' a' w' F' hv' → Q .normal a' w') :
    ∀ (m : Nat) (listed : Array Bool) (S : St) (a : Act) (w : World) (F : Nat → Prop) (hv : List Value), listed.size = ops.size → (remaining ops.size listed).length = m → Shut ops listed → (SortedT S.t ∨ ∀ i ∈ remaining ops.size listed, ¬ (ops.toList.take (i + 1)).all (isRs P) = true) →
      seqC P G ops (befs ops.toList []) (remaining ops.size listed) S k = some r → a.tmps.size = n → Rel w0 U S a w F hv → wpAny P .any ops Q m listed a w := by
  have hback : ∀ i o, ops[i]? = some o → ∀ d ∈ depsO o, d < i := by
    intro i o ho d hd
    have := (regOk_spec hreg (Array.getElem?_eq_some_iff.1 ho).1).1
    unfold backOk at this
    rw [ho] at this
    exact Nat.le_of_ble_eq_true (List.all_eq_true.1 this d hd)
  have hB : ∀ i j, j < i → i < ops.size → Nat.testBit ((befs ops.toList []).getD i 0) j = true → ahead ops (befs ops.toList []) i j = true := by
    intro i j hji hi ht
    have := (regOk_spec hreg hi).2.2 j hji
    unfold pairOk at this
    rw [ht] at this
    simpa using this
  have hlt : ∀ i, i < ops.size → (befs ops.toList []).getD i 0 < 2 ^ i := fun i hi => (regOk_spec hreg hi).2.1
  intro m
  induction m with
  | zero =>
    intro listed S a w F hv hls hm hsh hso h hn hR
    have h0 : remaining ops.size listed = [] := List.length_eq_zero_iff.1 hm
    rw [h0] at h
    refine ⟨?_, hK _ _ _ _ _ h hn hR⟩
    cases e : Region.ready .any ops listed with
    | nil => rfl
    | cons x xs =>
      have : x ∈ Region.ready .any ops listed := by rw [e]; simp
      obtain ⟨h1, o, ho, _⟩ := mem_ready.1 this
      have : x ∈ remaining ops.size listed := mem_remaining.2 ⟨(Array.getElem?_eq_some_iff.1 ho).1, h1⟩
      rw [h0] at this
      cases this
  | succ m ih =>
    intro listed S a w F hv hls hm hsh hso h hn hR
    refine ⟨fun hnil => ?_, fun i hi => ?_⟩
    · -- the first one that is left is ready
      cases hrem : remaining ops.size listed with
      | nil => rw [hrem] at hm; cases hm
      | cons i b =>
        exfalso
        have him := mem_remaining.1 (show i ∈ remaining ops.size listed by rw [hrem]; simp)
        have hmin : ∀ j, j < i → listed.getD j true = true := by
          intro j hj
          cases e : listed.getD j true with
          | true => rfl
          | false =>
            have hjm : j ∈ remaining ops.size listed := mem_remaining.2 ⟨Nat.lt_trans hj him.1, e⟩
            have hsort : (remaining ops.size listed).Pairwise (· < ·) := (List.pairwise_lt_range).filter _
            rw [hrem] at hjm hsort
            rcases List.mem_cons.1 hjm with rfl | hjm
            · omega
            · have := List.rel_of_pairwise_cons hsort hjm
              omega
        have : i ∈ Region.ready .any ops listed := mem_ready.2 ⟨him.2, _, Array.getElem?_eq_getElem him.1, fun e he hb => by
          have hd := hback i _ (Array.getElem?_eq_getElem him.1) e.on (mem_deps.2 ⟨e, he, hb, rfl⟩)
          have := hmin e.on hd
          have hlt2 : e.on < listed.size := by rw [hls]; omega
          rw [Array.getD_eq_getD_getElem?, Array.getElem?_eq_getElem hlt2] at this ⊢
          exact this⟩
        rw [hnil] at this
        cases this
    · obtain ⟨hiu, o, ho, hdeps⟩ := mem_ready.1 hi
      have his : i < ops.size := (Array.getElem?_eq_some_iff.1 ho).1
      have hdl : ∀ d ∈ depsO o, listed.getD d true = true := by
        intro d hd
        obtain ⟨e, he, hb, rfl⟩ := mem_deps.1 hd
        have := hdeps e he hb
        have hd2 := hback i o ho _ hd
        have hlt2 : e.on < listed.size := by rw [hls]; omega
        rw [Array.getD_eq_getD_getElem?, Array.getElem?_eq_getElem hlt2] at this ⊢
        exact this
      have him : i ∈ remaining ops.size listed := mem_remaining.2 ⟨his, hiu⟩
      obtain ⟨pre, post, hsplit⟩ := List.append_of_mem him
      have hsort : (remaining ops.size listed).Pairwise (· < ·) := (List.pairwise_lt_range).filter _
      have hpre : ∀ j ∈ pre, j < i ∧ ahead ops (befs ops.toList []) i j = false ∧ (ops.toList.take (i + 1)).all (isRs P) = true ∧ ∃ oj, ops[j]? = some oj ∧ Oper.apart ops oj o = true ∧ commO P o oj = true ∧ seenO ops o oj j = true := by
        intro j hj
        have hji : j < i := by
          rw [hsplit, List.pairwise_append] at hsort
          exact hsort.2.2 j hj i (by simp)
        have hju : listed.getD j true = false := (mem_remaining.1 (by rw [hsplit]; simp [hj])).2
        have hp := (regOk_spec hreg his).2.2 j hji
        unfold pairOk at hp
        have hah : ahead ops (befs ops.toList []) i j = false := by
          cases hp : ahead ops (befs ops.toList []) i j with
          | false => rfl
          | true =>
            have := ahead_listed hsh hB hback hlt i o ho hdl j hji hp
            rw [hju] at this
            cases this
        rw [Bool.or_eq_true] at hp
        rcases hp with hp | hp
        · rw [hah] at hp; cases hp
        · rw [Bool.and_eq_true] at hp
          have hp := hp.2
          rw [ho] at hp
          cases hoj : ops[j]? with
          | none => rw [hoj] at hp; cases hp
          | some oj =>
            rw [hoj] at hp
            simp only [Bool.and_eq_true] at hp
            exact ⟨hji, hah, hp.1.1.1, oj, rfl, hp.1.1.2, hp.1.2, hp.2⟩
      have hfront : oneD P G ops i S (fun S' => seqC P G ops (befs ops.toList []) (pre ++ post) S' k) = some r := by
        rw [hsplit] at h
        cases pre with
        | nil => exact (oneC_some (show oneC P G ops (befs ops.toList []) i S (fun S' => seqC P G ops (befs ops.toList []) post S' k) = some r from h)).2
        | cons j pre =>
          have hall : (ops.toList.take (i + 1)).all (isRs P) = true := (hpre j (by simp)).2.2.1
          have hs : SortedT S.t := hso.resolve_right fun hno => hno i him hall
          cases hhc : isMv P o with
          | false =>
            rw [← front_rs hU ho hhc (j :: pre) hs fun q hq => ?_]
            · exact h
            · obtain ⟨hqi, _, hal, oq, hoq, hap, hc, hse⟩ := hpre q hq
              exact ⟨oq, hoq, hc, hap, hse⟩
          | true =>
            have hpw : (j :: pre).Pairwise (· < ·) := by
              rw [hsplit, List.pairwise_append] at hsort
              exact hsort.1
            obtain ⟨_, _, _, _, hgo⟩ := front_hc hU ho hhc (j :: pre) hs (fun q hq => by
              obtain ⟨hqi, hah, hal, oq, hoq, hap, hc, _⟩ := hpre q hq
              refine ⟨hqi, hah, oq, hoq, ?_, hap⟩
              have hrk : isRk P o = false := by
                unfold isMv at hhc
                rw [Bool.or_eq_true] at hhc
                rcases hhc with hhc | hhc
                · unfold isRk; rw [hhc]; simp
                · unfold isSt at hhc
                  split at hhc
                  · rename_i hop; unfold isRk isRd; rw [hop]; rfl
                  · cases hhc
              have hpu : isPu o = false := by
                cases hpu : isPu o with
                | false => rfl
                | true => rw [pu_rd hpu] at hrk; cases hrk
              unfold commO at hc
              rw [hrk, hpu, hhc] at hc
              simp only [Bool.false_and, Bool.true_and, Bool.false_or, Bool.or_false, Bool.or_eq_true, Bool.and_eq_true] at hc
              rcases hc with hc | hc
              · exact .inl hc.2
              · exact hc) hpw h
            exact hgo
      have hrem2 := remaining_set hls hsplit
      refine oneD_sound hG hU ho hR hfront fun S' a' w' F' hv' h1 h2 h3 h4 => ?_
      refine ih (listed.setIfInBounds i true) S' a' w' F' hv' (by simpa using hls) ?_ ?_ ?_ (by rw [hrem2]; exact h1) (h2.trans hn) h3
      · rw [hrem2]
        rw [hsplit] at hm
        simp at hm ⊢
        omega
      · intro q oq hoq hl d hd
        by_cases hiq : i = q
        · subst hiq
          rw [ho] at hoq
          injection hoq with hoq
          subst hoq
          have := hdl d hd
          by_cases hid : i = d
          · have := hback i _ ho d hd; omega
          · rw [getD_set_ne true hid]; exact this
        · rw [getD_set_ne true hiq] at hl
          have := hsh q oq hoq hl d hd
          by_cases hid : i = d
          · subst hid
            have hlt2 : i < listed.size := by rw [hls]; exact his
            simp [hlt2]
          · rw [getD_set_ne true hid]; exact this
      · cases hr : isRs P o with
        | true =>
          rcases hso with hs | hno
          · exact .inl (h4 hr hs)
          · exact .inr fun q hq => hno q (by rw [hsplit]; rw [hrem2] at hq; rcases List.mem_append.1 hq with hq | hq <;> simp [hq])
        | false =>
          refine .inr fun q hq hal => ?_
          have hqm : q ∈ remaining ops.size listed := by rw [hsplit]; rw [hrem2] at hq; rcases List.mem_append.1 hq with hq | hq <;> simp [hq]
          by_cases hqi : q < i
          · have hqp : q ∈ pre := by
              rw [hsplit] at hqm hsort
              rcases List.mem_append.1 hqm with h | h
              · exact h
              · rw [List.pairwise_append] at hsort
                rcases List.mem_cons.1 h with rfl | h
                · omega
                · have := List.rel_of_pairwise_cons hsort.2.1 h; omega
            have := (hpre q hqp).2.2.1
            rw [take_all this (Nat.le_refl _) ho] at hr
            cases hr
          · rw [take_all hal (by omega) ho] at hr
            cases hr
theorem rel_drew {S : St} {a : Act} (h : Rel w0 U S a w F hv) : Rel w0 U S a { w with drawn := w.drawn + 1 } F hv :=
  h.grows (w' := { w with drawn := w.drawn + 1 }) ⟨rfl, rfl, rfl, Nat.le_refl _, fun _ _ => rfl, fun _ h => h, fun _ h => .inl h⟩
theorem drawK_ok {cx : Cx R} (hm : cx.P.follows .mixedOrders = true) (hG : AllSound cx.P cx.G) (hU : GUni cx.G) (hdk : cx.dk = drawK cx.P cx.G) : DrawOk cx := by
  intro r w0 U n id ops S k Q a w F hv h hn hR hK
  rw [hdk] at h
  unfold drawK at h
  cases e : regOk cx.P ops && sortedB S.t with
  | false => rw [e] at h; cases h
  | true =>
    rw [e] at h
    simp only [Bool.and_eq_true] at e
    have hrem : remaining ops.size (Array.replicate ops.size false) = List.range ops.size := by
      unfold remaining
      rw [List.filter_eq_self]
      intro i hi
      have : i < ops.size := List.mem_range.1 hi
      simp [this]
    refine wp_region_any hm (any_sound hG hU e.1 hK ops.size _ S a _ F hv (by simp) (by rw [hrem]; simp) ?_ (.inl (sortedB_spec e.2)) (by rw [hrem]; exact h) hn (rel_drew hR))
    intro i o ho hl
    have : i < ops.size := (Array.getElem?_eq_some_iff.1 ho).1
    simp [this] at hl
end
end Go.Proofs.YtegknlkeokfghaaDoor.E
namespace Go.Proofs.YtegknlkeokfghaaDoor.E
open Go.RowKit
/-! # 12b. A region's operations, listed in another order -/
def posN (l : List Nat) (i : Nat) : Nat := match pos l i with
  | some p => p
  | none => l.length
def permE (l : List Nat) (o : Oper) : Oper := { o with after := (o.after.toList.map fun e => { e with on := posN l e.on }).toArray, guard := match o.guard with
  | some (g, b) => some (posN l g, b)
  | none => none }
def permO (l : List Nat) (ops : Array Oper) : Array Oper := (l.map fun i => permE l (ops.getD i default)).toArray
def permOk (l : List Nat) (n : Nat) : Bool := Nat.beq l.length n && okSel l n && (List.range n).all fun i => memN l i
def readyN (ops : Array Oper) (done : List Nat) (i : Nat) : Bool := match ops[i]? with
  | some o => (depsO o).all (memN done)
  | none => false
def movesN (P : Program) (ops : Array Oper) (i : Nat) : Bool := match ops[i]? with
  | some o => isMv P o
  | none => false
/-- what moves nothing goes first -/
def schedN (P : Program) (ops : Array Oper) : Nat → List Nat → List Nat → List Nat
  | 0, _, done => done
  | n + 1, rem, done => match rem.find? (fun i => readyN ops done i && !movesN P ops i) with
    | some i => schedN P ops n (rem.filter fun j => !Nat.beq j i) (done ++ [i])
    | none => match rem.find? (readyN ops done) with
      | some i => schedN P ops n (rem.filter fun j => !Nat.beq j i) (done ++ [i])
      | none => done
def drawP {R : Type} (P : Program) (G : Gt R) (ops : Array Oper) (S : St) (k : St → Option R) : Option R :=
  bif regOk P ops then drawK P G ops S k else
    (match schedN P ops ops.size (List.range ops.size) [] with
      | l => bif permOk l ops.size then drawK P G (permO l ops) S k else none)
section
variable {P : Program} {ops : Array Oper} {Q : Exit → Act → World → Prop} {l : List Nat}
theorem memN_of : ∀ {l : List Nat} {h : Nat}, memN l h = true → h ∈ l
  | x :: r, h, e => by
    simp only [memN, Bool.or_eq_true] at e
    rcases e with e | e
    · rw [Nat.eq_of_beq_eq_true e]; simp
    · exact List.mem_cons_of_mem _ (memN_of e)
theorem permOk_spec {n : Nat} (h : permOk l n = true) : l.length = n ∧ l.Nodup ∧ (∀ i ∈ l, i < n) ∧ ∀ i, i < n → ∃ p, pos l i = some p ∧ l[p]? = some i := by
  simp only [permOk, Bool.and_eq_true, List.all_eq_true, List.mem_range] at h
  obtain ⟨⟨h1, h2⟩, h3⟩ := h
  obtain ⟨nd, lt⟩ := okSel_of h2
  refine ⟨Nat.eq_of_beq_eq_true h1, nd, lt, fun i hi => ?_⟩
  cases hp : pos l i with
  | none => exact absurd (memN_of (h3 i hi)) (pos_none hp)
  | some p => exact ⟨p, rfl, pos_get hp⟩
theorem permO_at {n : Nat} (hs : ops.size = n) (h : permOk l n = true) {i p : Nat} (hp : l[p]? = some i) : (permO l ops)[p]? = (ops[i]?).map (permE l) := by
  obtain ⟨_, _, lt, _⟩ := permOk_spec h
  have hi : i < ops.size := by rw [hs]; exact lt i (List.mem_of_getElem? hp)
  unfold permO
  simp [hp, hi]
theorem posN_at {n : Nat} (h : permOk l n = true) {i p : Nat} (hp : l[p]? = some i) : posN l i = p := by
  obtain ⟨_, nd, _, _⟩ := permOk_spec h
  unfold posN
  rw [get_pos nd hp]
theorem yielded_perm {n : Nat} (hs : ops.size = n) (h : permOk l n = true) (tmps : Array Value) (g : Nat) : yielded (permO l ops) tmps (posN l g) = yielded ops tmps g := by
  obtain ⟨hl, nd, lt, ex⟩ := permOk_spec h
  unfold yielded
  by_cases hg : g < n
  · obtain ⟨p, h1, h2⟩ := ex g hg
    rw [posN_at h h2, permO_at hs h h2]
    cases ops[g]? <;> rfl
  · have e1 : ops[g]? = none := by rw [Array.getElem?_eq_none_iff]; omega
    have e2 : pos l g = none := by
      cases hp : pos l g with
      | none => rfl
      | some p => exact absurd (lt g (List.mem_of_getElem? (pos_get hp))) hg
    have e3 : (permO l ops)[posN l g]? = none := by
      rw [Array.getElem?_eq_none_iff]
      unfold posN permO
      rw [e2]
      simp
    rw [e1, e3]
theorem wanted_perm {n : Nat} (hs : ops.size = n) (h : permOk l n = true) (tmps : Array Value) (o : Oper) : Region.wanted (permE l o) (yielded (permO l ops) tmps) = Region.wanted o (yielded ops tmps) := by
  unfold Region.wanted permE
  cases o.guard with
  | none => rfl
  | some q => obtain ⟨g, b⟩ := q; simp only [yielded_perm hs h]
/-- the marks of two lists -/
def Marks (l : List Nat) (n : Nat) (m m' : Array Bool) : Prop := m.size = n ∧ m'.size = n ∧ ∀ (p i : Nat), l[p]? = some i → m'[p]? = m[i]?
theorem ready_perm {n : Nat} (hs : ops.size = n) (h : permOk l n = true) {m m' : Array Bool} (hm : Marks l n m m') {i p : Nat} (hp : l[p]? = some i) : p ∈ Region.ready .any (permO l ops) m' ↔ i ∈ Region.ready .any ops m := by
  obtain ⟨hl, nd, lt, ex⟩ := permOk_spec h
  obtain ⟨h1, h2, h3⟩ := hm
  have hi : i < n := lt i (List.mem_of_getElem? hp)
  have gd : ∀ (d : Bool) (q : Nat), m'.getD (posN l q) d = m.getD q d := by
    intro d q
    by_cases hq : q < n
    · obtain ⟨r, e1, e2⟩ := ex q hq
      rw [posN_at h e2, Array.getD_eq_getD_getElem?, Array.getD_eq_getD_getElem?, h3 r q e2]
    · have e2 : pos l q = none := by
        cases hp : pos l q with
        | none => rfl
        | some p => exact absurd (lt q (List.mem_of_getElem? (pos_get hp))) hq
      have e3 : posN l q = n := by unfold posN; rw [e2]; exact hl
      rw [e3, Array.getD_eq_getD_getElem?, Array.getD_eq_getD_getElem?, Array.getElem?_eq_none (by omega), Array.getElem?_eq_none (by omega)]
  rw [mem_ready, mem_ready, permO_at hs h hp]
  have g0 := gd true i
  rw [posN_at h hp] at g0
  rw [g0]
  constructor
  · rintro ⟨e1, o', e2, e3⟩
    refine ⟨e1, ?_⟩
    cases ho : ops[i]? with
    | none => rw [ho] at e2; cases e2
    | some o =>
      rw [ho] at e2
      injection e2 with e2
      subst e2
      refine ⟨o, rfl, fun e he hb => ?_⟩
      have := e3 { e with on := posN l e.on } (by simp only [permE]; simp; exact ⟨e, by simpa using he, rfl, rfl⟩) hb
      rw [gd] at this
      exact this
  · rintro ⟨e1, o, e2, e3⟩
    refine ⟨e1, permE l o, by rw [e2]; rfl, fun e he hb => ?_⟩
    simp only [permE, List.mem_toArray, List.mem_map] at he
    obtain ⟨e0, he0, rfl⟩ := he
    rw [gd]
    exact e3 e0 (by simpa using he0) hb
theorem any_perm {n : Nat} (hs : ops.size = n) (h : permOk l n = true) : ∀ (q : Nat) (m m' : Array Bool) (a : Act) (w : World), Marks l n m m' → wpAny P .any (permO l ops) Q q m' a w → wpAny P .any ops Q q m a w := by
  obtain ⟨hl, nd, lt, ex⟩ := permOk_spec h
  have nil : ∀ {m m' : Array Bool}, Marks l n m m' → Region.ready .any ops m = [] → Region.ready .any (permO l ops) m' = [] := by
    intro m m' hm e
    cases e' : Region.ready .any (permO l ops) m' with
    | nil => rfl
    | cons p r =>
      have hp : p ∈ Region.ready .any (permO l ops) m' := by rw [e']; simp
      have hps : p < l.length := by
        obtain ⟨_, o, ho, _⟩ := mem_ready.1 hp
        have := (Array.getElem?_eq_some_iff.1 ho).1
        simpa [permO] using this
      have := (ready_perm hs h hm (List.getElem?_eq_getElem hps)).1 hp
      rw [e] at this
      cases this
  intro q
  induction q with
  | zero =>
    intro m m' a w hm hh
    refine ⟨?_, hh.2⟩
    cases e : Region.ready .any ops m with
    | nil => rfl
    | cons i r =>
      have hi : i ∈ Region.ready .any ops m := by rw [e]; simp
      obtain ⟨_, o, ho, _⟩ := mem_ready.1 hi
      have his : i < n := by rw [← hs]; exact (Array.getElem?_eq_some_iff.1 ho).1
      obtain ⟨p, _, hp⟩ := ex i his
      have := (ready_perm hs h hm hp).2 hi
      rw [hh.1] at this
      cases this
  | succ q ih =>
    intro m m' a w hm hh
    refine ⟨fun e => hh.1 (nil hm e), fun i hi => ?_⟩
    obtain ⟨_, o, ho, _⟩ := mem_ready.1 hi
    have his : i < n := by rw [← hs]; exact (Array.getElem?_eq_some_iff.1 ho).1
    obtain ⟨p, _, hp⟩ := ex i his
    have hw := hh.2 p ((ready_perm hs h hm hp).2 hi)
    have hm2 : Marks l n (m.setIfInBounds i true) (m'.setIfInBounds p true) := by
      obtain ⟨h1, h2, h3⟩ := hm
      refine ⟨by simpa using h1, by simpa using h2, fun r j hr => ?_⟩
      by_cases hrp : p = r
      · subst hrp
        rw [hp] at hr
        injection hr with hr
        subst hr
        have hpl : p < m'.size := by rw [h2, ← hl]; exact (List.getElem?_eq_some_iff.1 hp).1
        simp [hpl, show i < m.size by omega]
      · have hij : i ≠ j := by
          rintro rfl
          have h4 := get_pos nd hp
          have h5 := get_pos nd hr
          rw [h4] at h5
          exact hrp (Option.some.inj h5)
        rw [Array.getElem?_setIfInBounds_ne hrp, Array.getElem?_setIfInBounds_ne hij]
        exact h3 r j hr
    have hK : ∀ a w, wpAny P .any (permO l ops) Q q (m'.setIfInBounds p true) a w → wpAny P .any ops Q q (m.setIfInBounds i true) a w := fun a w => ih _ _ a w hm2
    unfold wpOp at hw ⊢
    rw [permO_at hs h hp, ho] at hw
    rw [ho]
    simp only [Option.map_some] at hw ⊢
    rw [wanted_perm hs h] at hw
    split
    · rename_i hwt
      rw [if_pos hwt] at hw
      rcases hw with hw | hw
      · exact .inl (Oper.wp_mono hK hw)
      · exact .inr hw
    · rename_i hwt
      rw [if_neg hwt] at hw
      exact hK _ _ hw
theorem draw_run {R : Type} {P : Program} {w0 w : World} {U : U0} {F : Nat → Prop} {hv : List Value} {r : R} (hm : P.follows .mixedOrders = true) {G : Gt R} (hG : AllSound P G) (hU : GUni G) {n id : Nat} {ops : Array Oper} {S : St} {k : St → Option R} {Q : Exit → Act → World → Prop} {a : Act} (h : drawK P G ops S k = some r) (hn : a.tmps.size = n) (hR : Rel w0 U S a w F hv)
    (hK : ∀ S' a' w' F' hv', k S' = some r → a'.tmps.size = n → Rel w0 U S' a' w' F' hv' → Q .normal a' w') : wpAny P .any ops Q ops.size (Array.replicate ops.size false) a { w with drawn := w.drawn + 1 } := by
  unfold drawK at h
  cases e : regOk P ops && sortedB S.t with
  | false => rw [e] at h; cases h
  | true =>
    rw [e] at h
    simp only [Bool.and_eq_true] at e
    have hrem : remaining ops.size (Array.replicate ops.size false) = List.range ops.size := by
      unfold remaining
      rw [List.filter_eq_self]
      intro i hi
      have : i < ops.size := List.mem_range.1 hi
      simp [this]
    refine any_sound hG hU e.1 hK ops.size _ S a _ F hv (by simp) (by rw [hrem]; simp) ?_ (.inl (sortedB_spec e.2)) (by rw [hrem]; exact h) hn (rel_drew hR)
    intro i o ho hl
    have : i < ops.size := (Array.getElem?_eq_some_iff.1 ho).1
    simp [this] at hl
theorem drawP_ok {R : Type} {cx : Cx R} (hm : cx.P.follows .mixedOrders = true) (hG : AllSound cx.P cx.G) (hU : GUni cx.G) (hdk : cx.dk = drawP cx.P cx.G) : DrawOk cx := by
  intro r w0 U n id ops S k Q a w F hv h hn hR hK
  rw [hdk] at h
  unfold drawP at h
  cases hr : regOk cx.P ops with
  | true =>
    rw [hr] at h
    exact wp_region_any hm (draw_run (id := id) hm hG hU h hn hR hK)
  | false =>
    rw [hr] at h
    simp only [cond_false] at h
    generalize schedN cx.P ops ops.size (List.range ops.size) [] = l at h
    cases hp : permOk l ops.size with
    | false => rw [hp] at h; cases h
    | true =>
      rw [hp] at h
      have := draw_run (id := id) hm hG hU h hn hR hK
      have hsz : (permO l ops).size = ops.size := by
        unfold permO
        simp [(permOk_spec hp).1]
      rw [hsz] at this
      refine wp_region_any hm (any_perm rfl hp _ _ _ _ _ ⟨by simp, by simp, fun p i hi => ?_⟩ this)
      have h1 : i < ops.size := (permOk_spec hp).2.2.1 i (List.mem_of_getElem? hi)
      have h2 : p < ops.size := by rw [← (permOk_spec hp).1]; exact (List.getElem?_eq_some_iff.1 hi).1
      simp [h1, h2]
end
end Go.Proofs.YtegknlkeokfghaaDoor.E
namespace Go.Proofs.YtegknlkeokfghaaDoor.E
open Go.RowKit
/-! # 13. A function's row -/
section
variable {R : Type} {P : Program}
/-- the same, but stuck where the number of rounds is not known (so that the kernel compares what calls are given, not what they come to) -/
def lazyN.{u} {α : Sort u} (f : Nat → α) : Nat → α
  | 0 => f 0
  | n + 1 => f (n + 1)
theorem lazyN_eq.{u} {α : Sort u} (f : Nat → α) : lazyN f = f := by
  funext n
  cases n <;> rfl
/-- what a function comes to, and at one place at most -/
def Good {R : Type} (P : Program) (f : Nat) (g : Gx R) : Prop := Sound P f g ∧ ∀ l HA, Uni fun k : T × List Blk → Option R => g l HA fun x HN => k (x, HN)
def AllGood {R : Type} (P : Program) (G : Gt R) : Prop := AllSound P G ∧ GUni G
theorem AllGood.nil : AllGood P (Gof (R := R) []) := ⟨AllSound.nil, fun _ _ _ => Uni.none⟩
theorem AllGood.cons {f : Nat} {g : Gx R} {l : List (Nat × Gx R)} (h : Good P f g) (hl : AllGood P (Gof l)) : AllGood P (Gof ((f, g) :: l)) :=
  ⟨AllSound.cons h.1 hl.1, fun i ags HA => by
    cases e : Nat.beq f i with
    | true => exact Uni.congr (h.2 ags HA) fun k => by simp only [Gof, e, cond_true]
    | false => exact Uni.congr (hl.2 i ags HA) fun k => by simp only [Gof, e, cond_false]⟩
theorem oneD_uni {G : Gt R} (hG : GUni G) (ops : Array Oper) (i : Nat) (S : St) : Uni fun k => oneD P G ops i S k := by
  unfold oneD
  cases ops[i]? with
  | none => exact Uni.none
  | some o =>
    refine guardK_uni (yes := fun k S => bif isRk P o then rdK P G o (ev S.t) S.H fun x => k (putT S o.dst x) else opK P G o S fun x S' => k (putT S' o.dst x)) (no := fun k S => k (putT S o.dst (.tu []))) (fun S => ?_) (fun S => Uni.ret _)
    cases isRk P o with
    | true => exact Uni.bind (rdK_uni hG o (ev S.t) S.H) (h := fun x k => k (putT S o.dst x)) fun x => Uni.ret _
    | false => exact Uni.bind (opK_uni hG o S) (h := fun p k => k (putT p.2 o.dst p.1)) fun p => Uni.ret _
theorem seqC_uni {G : Gt R} (hG : GUni G) (ops : Array Oper) (B : List Nat) : ∀ (l : List Nat) (S : St), Uni fun k => seqC P G ops B l S k
  | [], S => Uni.ret S
  | i :: l, S => by
    have : Uni fun k : St → Option R => oneC P G ops B i S k := by
      unfold oneC
      cases chkH P ops B i S with
      | true => exact oneD_uni hG ops i S
      | false => exact Uni.none
    exact Uni.bind (g := fun k => oneC P G ops B i S k) (h := fun S' k => seqC P G ops B l S' k) this fun S' => seqC_uni hG ops B l S'
theorem drawK_uni {G : Gt R} (hG : GUni G) (ops : Array Oper) (S : St) : Uni fun k => drawK P G ops S k := by
  unfold drawK
  cases regOk P ops && sortedB S.t with
  | true => exact seqC_uni hG ops _ _ S
  | false => exact Uni.none
theorem drawP_uni {G : Gt R} (hG : GUni G) (ops : Array Oper) (S : St) : Uni fun k : St → Option R => drawP P G ops S k := by
  unfold drawP
  cases regOk P ops with
  | true => exact drawK_uni hG ops S
  | false =>
    simp only [cond_false]
    generalize schedN P ops ops.size (List.range ops.size) [] = l
    cases permOk l ops.size with
    | true => exact drawK_uni hG _ S
    | false => exact Uni.none
def LoopRuns (cx : Cx R) (n : Nat) : List (Bool × Code) → Prop
  | [] => True
  | q :: l => LoopRun cx n q ∧ LoopRuns cx n l
theorem LoopRuns.of {cx : Cx R} {n : Nat} : ∀ {l : List (Bool × Code)}, LoopRuns cx n l → ∀ q ∈ l, LoopRun cx n q
  | _ :: _, h, q, hq => by
    rcases List.mem_cons.1 hq with rfl | hq
    · exact h.1
    · exact LoopRuns.of h.2 q hq
theorem LoopRuns.ok {cx : Cx R} {n : Nat} : ∀ {l : List (Bool × Code)}, LoopRuns cx n l → LoopsOk cx n l
  | [], _ => trivial
  | _ :: _, h => ⟨h.1.ok, LoopRuns.ok h.2⟩
theorem LoopRun.loop {cx : Cx R} {n : Nat} {q : Bool × Code} (h : q.1 = false) {i m : Nat} {step : (cx.ds i).D → ((cx.ds i).D → Option R) → exK R (cx.dx i) → Option R} (hf : fid q.2 = some i) (hr : ∀ a k1 k2, roundK cx q.2 i n a k1 k2 = step a k1 k2) (hl : ∀ a k, cx.lp i a k = runC step m a k) : LoopRun cx n q := by
  obtain ⟨b, c⟩ := q
  cases h
  exact ⟨i, m, step, hf, hr, hl⟩
/-- a loop that is never entered -/
theorem LoopRun.no {cx : Cx R} {n : Nat} {q : Bool × Code} (h : q.1 = false) {i : Nat} (hf : fid q.2 = some i) (hl : ∀ a k, cx.lp i a k = none) : LoopRun cx n q := by
  obtain ⟨b, c⟩ := q
  cases h
  exact ⟨i, 0, fun a k1 k2 => roundK cx c i n a k1 k2, hf, fun _ _ _ => rfl, fun a k => hl a k⟩
theorem LoopRun.join {cx : Cx R} {n : Nat} {q : Bool × Code} (h : q.1 = true) {i : Nat} (hf : fid q.2 = some i) (hr : ∀ a k, codeK cx q.2 (encS n (cx.ds (jkey i)) a) (fun x S' => selK x S' (cx.dx (jkey i)) k) = cx.lp (jkey i) a k) : LoopRun cx n q := by
  obtain ⟨b, c⟩ := q
  cases h
  exact ⟨i, hf, hr⟩
theorem LoopRun.joinS {cx : Cx R} {n : Nat} {q : Bool × Code} (h : q.1 = true) {i : Nat} {L Li : (cx.ds (jkey i)).D → exK R (cx.dx (jkey i)) → Option R} (e : L = Li) (hf : fid q.2 = some i) (hl : ∀ a k, L a k = cx.lp (jkey i) a k)
    (hr : ∀ a k, codeK cx q.2 (encS n (cx.ds (jkey i)) a) (fun x S' => selK x S' (cx.dx (jkey i)) k) = Li a k) : LoopRun cx n q :=
  LoopRun.join h hf fun a k => (hr a k).trans (by rw [← hl, e])
theorem Good.fn {cx : Cx R} (hm : cx.P.follows .mixedOrders = true) (hG : AllGood cx.P cx.G) (hdk : cx.dk = drawP cx.P cx.G) {f : Nat} {fn : Func} (hf : cx.P.funcs[f]? = some fn) (hname : (fn.name == "runtime.NumGoroutine") = false) (hb : fn.body.isSome = true)
    (hL : LoopRuns cx fn.ntmps (fnLoops cx.jn fn)) (np : Nat) (d : Desc) (hnp : Nat.ble np fn.ntmps = true) {G : d.D → (T → List Blk → Option R) → Option R} (heq : ∀ x k, bodyK cx fn d x k = G x k) : Good cx.P f (typed np d G) := by
  refine ⟨fn_sound hG.1 (drawP_ok hm hG.1 hG.2 hdk) hf hname hb hL.ok np d hnp heq, fun l HA => ?_⟩
  unfold typed
  cases Nat.beq HA.length d.H.length && Nat.beq l.length np with
  | false => exact Uni.none
  | true =>
    simp only [cond_true]
    cases decS d ⟨0, initT 0 l, HA⟩ with
    | none => exact Uni.none
    | some x =>
      have := bodyK_uni (cx := cx) hG.2 (by intro ops S; rw [hdk]; exact drawP_uni hG.2 ops S) fn (LoopRuns.of hL) d x
      exact Uni.congr this fun k => (heq x _).symm
theorem Good.freeze {f : Nat} {g : Gx R} (h : Good P f g) : Good P f (frz g) :=
  ⟨h.1.freeze, fun l HA => by
    cases HA with
    | nil => exact Uni.bind (h.2 l []) (h := fun p k => k (viewT p.2 p.1, [])) fun p => Uni.ret _
    | cons => exact Uni.none⟩
theorem Good.freezeT {f : Nat} {np : Nat} {d : Desc} (hd : d.H = []) {g g' : d.D → (T → List Blk → Option R) → Option R} (h : Good P f (typed np d g)) (e : ∀ x k, g' x k = g x fun x HN => k (viewT HN x) []) : Good P f (typed np d g') := by
  have : typed np d g' = frz (typed np d g) := by
    funext l HA k
    cases HA with
    | nil =>
      unfold frz typed
      simp only []
      cases Nat.beq ([] : List Blk).length d.H.length && Nat.beq l.length np with
      | false => rfl
      | true =>
        simp only [cond_true]
        cases decS d ⟨0, initT 0 l, []⟩ with
        | none => rfl
        | some x => exact e x k
    | cons B HA =>
      unfold frz typed
      rw [hd]
      rfl
  rw [this]
  exact h.freeze
/-- the same, its slices no longer one's own -/
theorem Good.fnF {cx : Cx R} (hm : cx.P.follows .mixedOrders = true) (hG : AllGood cx.P cx.G) (hdk : cx.dk = drawP cx.P cx.G) {f : Nat} {fn : Func} (hf : cx.P.funcs[f]? = some fn) (hname : (fn.name == "runtime.NumGoroutine") = false) (hb : fn.body.isSome = true)
    (hL : LoopRuns cx fn.ntmps (fnLoops cx.jn fn)) (np : Nat) (d : Desc) (hnp : Nat.ble np fn.ntmps = true) (hd : d.H = []) {G : d.D → (T → List Blk → Option R) → Option R} (heq : ∀ x k, bodyK cx fn d x (fun x HN => k (viewT HN x) []) = G x k) : Good cx.P f (typed np d G) :=
  (Good.fn hm hG hdk hf hname hb hL np d hnp (fun _ _ => rfl)).freezeT hd fun x k => (heq x k).symm
def fits (np : Nat) (d : Desc) (l : List A) (HA : List Blk) : Bool := Nat.beq HA.length d.H.length && Nat.beq l.length np && (decS d ⟨0, initT 0 l, HA⟩).isSome
/-- a function that is called in several ways -/
def orG (g h : Gx R) (c : List A → List Blk → Bool) : Gx R := fun l HA k => bif c l HA then g l HA k else h l HA k
theorem Good.or {f : Nat} {g h : Gx R} (hg : Good P f g) (hh : Good P f h) (c : List A → List Blk → Bool) : Good P f (orG g h c) := by
  refine ⟨fun args HA k r e => ?_, fun l HA => ?_⟩
  · unfold orG at e
    cases hc : c args HA with
    | true => rw [hc] at e; exact hg.1 args HA k r e
    | false => rw [hc] at e; exact hh.1 args HA k r e
  · unfold orG
    cases c l HA with
    | true => exact hg.2 l HA
    | false => exact hh.2 l HA
def noJn : Nat → Bool := fun _ => false
def noFz : Nat → List Nat := fun _ => []
def noDs : Nat → Desc := fun _ => ⟨[], []⟩
def noDx : Nat → List (X × Desc) := fun _ => []
def noLp {R : Type} : (i : Nat) → (noDs i).D → exK R (noDx i) → Option R := fun _ _ _ => none
@[reducible] def byteAt (s : ByteArray) (i : Int) : Int := ((s.data.toList.getD i.toNat 0).toNat : Int)
end
end Go.Proofs.YtegknlkeokfghaaDoor.E
namespace Go.Proofs.YtegknlkeokfghaaDoor.E
open Go.RowKit
/-! # 14. A function that asks whether its slice is nil -/
section
variable {R : Type} {P : Program}
theorem decS_one {ty : Ty} {a : A} {x : (⟨[(0, .d (.sl ty))], []⟩ : Desc).D} (h : decS ⟨[(0, .d (.sl ty))], []⟩ ⟨0, initT 0 [a], []⟩ = some x) : decA (.sl ty) a = some x.1 := by
  have hd : decA (.sl ty) (.c .un) = none := rfl
  unfold decS at h
  simp only [decTs] at h
  cases a with
  | ag l => simp [initT, look, decA] at h
  | c y =>
    by_cases hy : y = .un
    · subst hy
      simp [initT, look, unT, decA] at h
    · have : look (initT 0 [.c y]) 0 = .a (.c y) := by
        cases y <;> first | rfl | exact absurd rfl hy
      rw [this] at h
      simp only at h
      cases hv : decA (.sl ty) (.c y) with
      | none => rw [hv] at h; cases h
      | some v =>
        rw [hv] at h
        simp only [decTs, decBs, Option.some.injEq] at h
        rw [← h]
theorem Good.nilOr {cx : Cx R} (hm : cx.P.follows .mixedOrders = true) (hG : AllGood cx.P cx.G) (hdk : cx.dk = drawP cx.P cx.G) {f : Nat} {fn : Func} (hf : cx.P.funcs[f]? = some fn) (hname : (fn.name == "runtime.NumGoroutine") = false) (hb : fn.body.isSome = true)
    (hL : LoopRuns cx fn.ntmps (fnLoops cx.jn fn)) (ty : Ty) (hnp : Nat.ble 1 fn.ntmps = true) {G : (⟨[(0, .d (.sl ty))], []⟩ : Desc).D → (T → List Blk → Option R) → Option R}
    (h1 : ∀ k, bodyS cx fn 0 ⟨fn.ntmps, [(0, .a (.c .ns))], []⟩ k = G ([], ()) k) (h2 : ∀ x k, bodyS cx fn 0 ⟨fn.ntmps, [(0, .a (.c (.nz ty x.1)))], []⟩ k = G x k) : Good cx.P f (typed 1 ⟨[(0, .d (.sl ty))], []⟩ G) := by
  have hd := drawP_ok hm hG.1 hG.2 hdk
  refine ⟨fun args HA k r h vs w F hv iv harg => .inl ⟨⟨fn, hf, hb, hname⟩, ?_⟩, fun l HA => ?_⟩
  · unfold typed at h
    cases hlens : Nat.beq HA.length 0 && Nat.beq args.length 1 with
    | false => rw [show (⟨[(0, SlotD.d (.sl ty))], []⟩ : Desc).H.length = 0 from rfl, hlens] at h; cases h
    | true =>
      rw [show (⟨[(0, SlotD.d (.sl ty))], []⟩ : Desc).H.length = 0 from rfl, hlens] at h
      simp only [cond_true] at h
      simp only [Bool.and_eq_true] at hlens
      have e1 : HA = [] := List.length_eq_zero_iff.1 (Nat.eq_of_beq_eq_true hlens.1)
      have e2 := Nat.eq_of_beq_eq_true hlens.2
      subst e1
      match args, e2 with
      | [a], _ =>
      match vs, harg with
      | [v], harg =>
      split at h
      case h_2 => cases h
      rename_i x hx
      have ha := decS_one hx
      have hr : RepC w F hv v (.fz ty x.1) := decA_rep ha harg.1 hv
      obtain ⟨ad, c, ev, ⟨hle, hnil⟩, hrows⟩ := id hr
      injection ev with ev
      have hle1 : 1 ≤ fn.ntmps := Nat.le_of_ble_eq_true hnp
      cases ad with
      | none =>
        have hl : x.1 = [] := by
          cases hx1 : x.1 with
          | nil => rfl
          | cons y l =>
            obtain ⟨b, o, cs, e, _⟩ := hrows 0 (by rw [hx1]; simp)
            cases e
        have hc := hnil rfl
        subst hc
        have hv0 : v = .slice none 0 0 := by rw [ev, hl]; rfl
        have hx' : x = ([], ()) := by obtain ⟨y, u⟩ := x; simp only at hl; subst hl; rfl
        rw [hx'] at h
        rw [← h1] at h
        exact body_run hG.1 hd hf hL.ok (args := [.c .ns]) (by simpa using hle1) 0 h iv ⟨hv0, trivial⟩ fun a hR => hR
      | some ad =>
        rw [← h2] at h
        exact body_run hG.1 hd hf hL.ok (args := [.c (.nz ty x.1)]) (by simpa using hle1) 0 h iv ⟨⟨hr, ad, _, _, ev⟩, trivial⟩ fun a hR => hR
  · unfold typed
    cases Nat.beq HA.length (⟨[(0, SlotD.d (.sl ty))], []⟩ : Desc).H.length && Nat.beq l.length 1 with
    | false => exact Uni.none
    | true =>
      simp only [cond_true]
      cases decS (⟨[(0, .d (.sl ty))], []⟩ : Desc) ⟨0, initT 0 l, HA⟩ with
      | none => exact Uni.none
      | some x =>
        have := bodyS_uni (cx := cx) hG.2 (by intro ops S; rw [hdk]; exact drawP_uni hG.2 ops S) fn (LoopRuns.of hL) 0 ⟨fn.ntmps, [(0, .a (.c (.nz ty x.1)))], []⟩
        exact Uni.congr this fun k => (h2 x _).symm
end
end Go.Proofs.YtegknlkeokfghaaDoor.E
namespace Go.Proofs.YtegknlkeokfghaaDoor.E
open Go.RowKit
/-! # 15. Functions without a text -/
section
variable {R : Type} {P : Program}
theorem decS_two {t0 t1 : Ty} {a b : A} {x : (⟨[(0, .d t0), (1, .d t1)], []⟩ : Desc).D} (h : decS ⟨[(0, .d t0), (1, .d t1)], []⟩ ⟨0, initT 0 [a, b], []⟩ = some x) : decA t0 a = some x.1 ∧ decA t1 b = some x.2.1 := by
  unfold decS at h
  simp only [decTs] at h
  have l0 : look (initT 0 [a, b]) 0 = .a a ∨ (∃ t : T, look (initT 0 [a, b]) 0 = t ∧ ∀ z, t ≠ .a z) ∨ (a = .c .un ∧ look (initT 0 [a, b]) 0 = .a (.c .un)) := by
    cases a with
    | ag l => exact .inl rfl
    | c y => cases y <;> first | exact .inl rfl | exact .inr (.inr ⟨rfl, by cases b with | ag l => rfl | c z => cases z <;> rfl⟩)
  have l1 : look (initT 0 [a, b]) 1 = .a b := by
    cases a with
    | ag l => cases b with
      | ag l => rfl
      | c z => cases z <;> rfl
    | c y => cases y <;> cases b with
      | ag l => rfl
      | c z => cases z <;> rfl
  have l0' : look (initT 0 [a, b]) 0 = .a a := by
    rcases l0 with h0 | ⟨t, h0, h1⟩ | ⟨h0, h1⟩
    · exact h0
    · rw [h0] at h
      cases t with
      | a z => exact absurd rfl (h1 z)
      | tu l => cases h
    · rw [h1, h0]
  rw [l0', l1] at h
  simp only at h
  cases h0 : decA t0 a with
  | none => rw [h0] at h; cases h
  | some v0 =>
    rw [h0] at h
    simp only at h
    cases h1 : decA t1 b with
    | none => rw [h1] at h; cases h
    | some v1 =>
      rw [h1] at h
      simp only [decTs, decBs, Option.some.injEq] at h
      rw [← h]
      exact ⟨rfl, rfl⟩
theorem Good.ext2 {f : Nat} {fn : Func} {e : Array Value → Sem Value} (hf : P.funcs[f]? = some fn) (hname : (fn.name == "runtime.NumGoroutine") = false) (hb : fn.body.isNone = true) (hn : Extern.findNext fn = none) (he : Extern.find fn = some e)
    {t0 t1 : Ty} (φ : t0.D → t1.D → Int) (hrun : ∀ (w : World) (F : Nat → Prop) (v0 v1 : Value) (x0 : t0.D) (x1 : t1.D), RepA w F [] v0 (encA t0 x0) → RepA w F [] v1 (encA t1 x1) → (e #[v0, v1]).run P w = .ok (.int .i64 (φ x0 x1)) w)
    {G : (⟨[(0, .d t0), (1, .d t1)], []⟩ : Desc).D → (T → List Blk → Option R) → Option R} (hG : ∀ x k, G x k = k (.a (.c (.i .i64 (φ x.1 x.2.1)))) []) : Good P f (typed 2 ⟨[(0, .d t0), (1, .d t1)], []⟩ G) := by
  refine ⟨fun args HA k r h vs w F hv iv harg => ?_, fun l HA => ?_⟩
  · unfold typed at h
    cases hlens : Nat.beq HA.length 0 && Nat.beq args.length 2 with
    | false => rw [show (⟨[(0, SlotD.d t0), (1, SlotD.d t1)], []⟩ : Desc).H.length = 0 from rfl, hlens] at h; cases h
    | true =>
      rw [show (⟨[(0, SlotD.d t0), (1, SlotD.d t1)], []⟩ : Desc).H.length = 0 from rfl, hlens] at h
      simp only [cond_true] at h
      simp only [Bool.and_eq_true] at hlens
      have e1 : HA = [] := List.length_eq_zero_iff.1 (Nat.eq_of_beq_eq_true hlens.1)
      have e2 := Nat.eq_of_beq_eq_true hlens.2
      subst e1
      match args, e2 with
      | [a, b], _ =>
      match vs, harg with
      | [v0, v1], harg =>
      split at h
      case h_2 => cases h
      rename_i x hx
      obtain ⟨h0, h1⟩ := decS_two hx
      have r0 := decA_rep h0 harg.1 []
      have r1 := decA_rep h1 harg.2.1 []
      rw [hG] at h
      refine .inr ⟨.int .i64 (φ x.1 x.2.1), ?_, _, [], _, F, hv, h, rfl, iv, rfl⟩
      have := hrun w F v0 v1 x.1 x.2.1 r0 r1
      rw [run_callFunc_extern hf hname hb hn he]
      rw [show ([v0, v1] : List Value).toArray = #[v0, v1] from rfl, this]
      rfl
  · unfold typed
    cases Nat.beq HA.length (⟨[(0, SlotD.d t0), (1, SlotD.d t1)], []⟩ : Desc).H.length && Nat.beq l.length 2 with
    | false => exact Uni.none
    | true =>
      simp only [cond_true]
      cases decS (⟨[(0, .d t0), (1, .d t1)], []⟩ : Desc) ⟨0, initT 0 l, HA⟩ with
      | none => exact Uni.none
      | some x => exact Uni.congr (Uni.ret (.a (.c (.i .i64 (φ x.1 x.2.1))), [])) fun k => hG x _
/-- how often a byte stands in a text -/
def cntB (s : ByteArray) (c : Int) : Int := s.foldl (fun (n : Int) x => if x == c.toNat.toUInt8 then n + 1 else n) ((0 : Nat) : Int)
def idxB (s : ByteArray) (c : Int) : Int := firstIdx s c.toNat.toUInt8
theorem idxB_run (w : World) (F : Nat → Prop) (v0 v1 : Value) (x0 : Ty.str.D) (x1 : (Ty.int .u8).D) (h0 : RepA w F [] v0 (encA .str x0)) (h1 : RepA w F [] v1 (encA (.int .u8) x1)) : (Extern.BytealgIndexByte.indexByte #[v0, v1]).run P w = .ok (.int .i64 (idxB x0 x1)) w := by
  have e0 : v0 = .string x0 := h0
  have e1 : v1 = .int .u8 x1 := h1
  subst e0 e1
  exact run_indexByte_string x0 x1 w
theorem cntB_run (w : World) (F : Nat → Prop) (v0 v1 : Value) (x0 : Ty.str.D) (x1 : (Ty.int .u8).D) (h0 : RepA w F [] v0 (encA .str x0)) (h1 : RepA w F [] v1 (encA (.int .u8) x1)) : (Extern.BytealgCount.count #[v0, v1]).run P w = .ok (.int .i64 (cntB x0 x1)) w := by
  have e0 : v0 = .string x0 := h0
  have e1 : v1 = .int .u8 x1 := h1
  subst e0 e1
  change Sem.run P (do
    let b ← Extern.Bytes.bytesOf (.string x0)
    let c' ← Extern.Bytes.asByte (.int .u8 x1)
    pure (goInt (b.foldl (fun n x => if x == c' then n + 1 else n) (0 : Nat)))) w = _
  simp only [Extern.Bytes.bytesOf, Extern.Bytes.asByte, Sem.run_bind, Sem.run_pure, Result.andThen]
  rfl
end
end Go.Proofs.YtegknlkeokfghaaDoor.E
namespace Go.Proofs
open Go.Shelf Go.RowKit Go.Lib
namespace YtegknlkeokfghaaDoor.E
variable {P : Program} {ρ : Ren}
set_option maxHeartbeats 1000000 in
/-- strings.Split at a separator of one byte: nothing is asked of the world. -/
theorem split_any (L : Lays.n146 P ρ) (hi9 : (P.info? (ρ.t 9)).map (fun i => (i.zero, i.size, i.bytes)) = some (some (.string ByteArray.empty), 1, 16)) (s : ByteArray) (b : UInt8) (w : World)
    (hs : s.size < 4294967281) :
    Calls P (ρ.f 146) #[.string s, .string ⟨#[b]⟩] w fun e w' =>
      e = .returned (.slice (some ⟨w.heap.size, 0, none⟩) (Lib.countB s ⟨#[b]⟩ + 1) (Lib.countB s ⟨#[b]⟩ + 1)) ∧ w' = w.alloc (.cells ((Lib.splitB ⟨#[b]⟩ 0 (Lib.countB s ⟨#[b]⟩) s).map Value.string).toArray (ρ.t 9)) := by
  have h1 : 1 ≤ (⟨#[b]⟩ : ByteArray).size := Nat.le_refl _
  have hle := Lib.countB_le ⟨#[b]⟩ h1 s.size s (Nat.le_refl _)
  have hlen := Lib.splitB_all ⟨#[b]⟩ h1 0 _ s rfl
  have hC : Calls P (ρ.f 138) #[.string s, .string ⟨#[b]⟩] w fun e w' => e = .returned (.int .i64 (Lib.countB s ⟨#[b]⟩)) ∧ w' = w := by
    refine (Any.strings_Count_one { L with } s b w).mono fun e w' ⟨he, hw⟩ => ⟨?_, hw⟩
    rw [he]
    show _ = Ending.returned (Value.int .i64 ((Lib.count s.data.toList [b] : Nat) : Int))
    rw [Lib.count_one]
    rfl
  have c := Any.strings_genSplit_core { L with } hi9 s ⟨#[b]⟩ 0 (-1) (Lib.countB s ⟨#[b]⟩ + 1) w hs h1 (Nat.zero_le _)
    (fun x c _ => (Any.strings_Index_one { L with } x b _).mono fun e w' ⟨he, hw⟩ => ⟨by rw [he]; show Ending.returned (Value.int .i64 (Lib.indexByte x.data.toList b)) = Ending.returned (Value.int .i64 (Lib.index x.data.toList [b])); rw [Lib.index_one], hw⟩)
    hC (by decide) (by decide) (by rw [if_pos (by decide)]; omega)
  rw [Nat.add_sub_cancel, hlen] at c
  have e2 : Lib.cellsOf (Lib.splitB ⟨#[b]⟩ 0 (Lib.countB s ⟨#[b]⟩) s) (Lib.countB s ⟨#[b]⟩ + 1) = ((Lib.splitB ⟨#[b]⟩ 0 (Lib.countB s ⟨#[b]⟩) s).map Value.string).toArray := by rw [← hlen]; exact Lib.cellsOf_full _
  rw [e2] at c
  have t3 := L.t3; have t9 := L.t9; have t31 := L.t31
  have a3 := L.a3; have a9 := L.a9; have a31 := L.a31
  have z3 := L.z3; have v3 := L.v3; have z9 := L.z9; have v9 := L.v9; have z31 := L.z31; have v31 := L.v31
  have e221 : ∀ args w, (callFunc (ρ.f 221) args).run P w = .ok (.enter (ρ.f 221) args) w := enters_of L.f221 (by kernel_rfl) rfl
  go_enter L.f146, Body.n146_ntmps ρ
  go_wp2_with (go_at_fn (ρ.f 221); refine c.mono ?_; rintro e w' ⟨rfl, hw⟩; rw [hw])
  go_ret
  exact ⟨rfl, rfl⟩
/-- the pieces of a text between separators -/
def splL (s sep : ByteArray) : List ByteArray := Lib.splitB sep 0 (Lib.countB s sep) s
theorem splL_len (s sep : ByteArray) (h : 1 ≤ sep.size) : (splL s sep).length = Lib.countB s sep + 1 := Lib.splitB_all sep h 0 _ s rfl
theorem strs_rep (w : World) (F : Nat → Prop) : ∀ l : List ByteArray, DReps w F .str l (l.map Value.string)
  | [] => rfl
  | s :: l => ⟨[.string s], l.map Value.string, rfl, rfl, strs_rep w F l⟩
theorem Good.split {R : Type} {P : Program} {f : Nat} {fn : Func} {t : Nat} (hf : P.funcs[f]? = some fn) (hname : (fn.name == "runtime.NumGoroutine") = false) (hb : fn.body.isSome = true)
    (hc : ∀ (s : ByteArray) (b : UInt8) (w : World), s.size < 4294967281 → Calls P f #[.string s, .string ⟨#[b]⟩] w fun e w' => e = .returned (.slice (some ⟨w.heap.size, 0, none⟩) (Lib.countB s ⟨#[b]⟩ + 1) (Lib.countB s ⟨#[b]⟩ + 1)) ∧ w' = w.alloc (.cells ((splL s ⟨#[b]⟩).map Value.string).toArray t))
    {G : (⟨[(0, .d .str), (1, .d .str)], []⟩ : Desc).D → (T → List Blk → Option R) → Option R} (hG : ∀ x k, G x k = if x.2.1.size = 1 ∧ x.1.size < 4294967281 then k (.a (.c (.ow 0))) [.arr t .str (splL x.1 x.2.1)] else none) : Good P f (typed 2 ⟨[(0, .d .str), (1, .d .str)], []⟩ G) := by
  refine ⟨fun args HA k r h vs w F hv iv harg => ?_, fun l HA => ?_⟩
  · unfold typed at h
    cases hlens : Nat.beq HA.length 0 && Nat.beq args.length 2 with
    | false => rw [show (⟨[(0, SlotD.d .str), (1, SlotD.d .str)], []⟩ : Desc).H.length = 0 from rfl, hlens] at h; cases h
    | true =>
      rw [show (⟨[(0, SlotD.d .str), (1, SlotD.d .str)], []⟩ : Desc).H.length = 0 from rfl, hlens] at h
      simp only [cond_true] at h
      simp only [Bool.and_eq_true] at hlens
      have e1 : HA = [] := List.length_eq_zero_iff.1 (Nat.eq_of_beq_eq_true hlens.1)
      have e2 := Nat.eq_of_beq_eq_true hlens.2
      subst e1
      have e3 : hv = [] := List.length_eq_zero_iff.1 iv.len
      subst e3
      match args, e2 with
      | [a, b], _ =>
      match vs, harg with
      | [v0, v1], harg =>
      split at h
      case h_2 => cases h
      rename_i x hx
      obtain ⟨h0, h1⟩ := decS_two hx
      have r0 : v0 = .string x.1 := decA_rep h0 harg.1 []
      have r1 : v1 = .string x.2.1 := decA_rep h1 harg.2.1 []
      subst r0 r1
      rw [hG] at h
      split at h
      case isFalse => cases h
      rename_i hsz
      obtain ⟨x0, x1, u⟩ := x
      simp only at hsz h ⊢
      obtain ⟨bb, rfl⟩ := Lib.one_byte x1 hsz.1
      refine .inl ⟨⟨fn, hf, hb, hname⟩, (hc x0 bb w hsz.2).mono fun e w' he => ?_⟩
      obtain ⟨rfl, rfl⟩ := he
      have hlen := splL_len x0 ⟨#[bb]⟩ (Nat.le_refl _)
      have hle := Lib.countB_le ⟨#[bb]⟩ (Nat.le_refl _) x0.size x0 (Nat.le_refl _)
      have hre := strs_rep w F (splL x0 ⟨#[bb]⟩)
      generalize splL x0 ⟨#[bb]⟩ = l at *
      generalize Lib.countB x0 ⟨#[bb]⟩ = n at *
      have gr := grows_alloc (w := w) (F := F) iv.fb (.cells (l.map Value.string).toArray t)
      have iv2 := iv.grows gr
      have hnew : (w.alloc (.cells (l.map Value.string).toArray t)).heap[w.heap.size]? = some (.cells (l.map Value.string).toArray t (0, 0)) := by show (w.heap.push _)[w.heap.size]? = _; simp
      have iv3 := iv2.push (v := .slice (some ⟨w.heap.size, 0, none⟩) (n + 1) (n + 1)) (B := .arr t .str l) w.heap.size iv.size (fun g u C b h1 h2 h3 => (iv.rep g u C h1 h2).own_lt h3)
        ⟨l.map Value.string, ⟨by simp [Ty.sz], .inr ⟨w.heap.size, n + 1, (l.map Value.string).toArray, by rw [hlen], Nat.zero_le _, hnew, by omega, by unfold maxLen; omega, by simp [Ty.sz, hlen], by simp [Ty.sz, List.take_of_length_le]⟩⟩, hre.mono gr.f (fun b hb => gr.block b (iv.fb b hb))⟩
        (fun g hg => by
          have : w.heap.size = g := by simpa [owns, vblocks, vblock, eq_comm] using hg.2
          subst this
          exact ⟨Nat.le_refl _, fun hf => Nat.lt_irrefl _ (iv.fb _ hf)⟩) rfl
      exact ⟨_, _, _, F, _, h, rfl, iv3, rfl, _, _, _, rfl⟩
  · unfold typed
    cases Nat.beq HA.length (⟨[(0, SlotD.d .str), (1, SlotD.d .str)], []⟩ : Desc).H.length && Nat.beq l.length 2 with
    | false => exact Uni.none
    | true =>
      simp only [cond_true]
      cases decS (⟨[(0, .d .str), (1, .d .str)], []⟩ : Desc) ⟨0, initT 0 l, HA⟩ with
      | none => exact Uni.none
      | some x => exact Uni.congr (Uni.ite (c := x.2.1.size = 1 ∧ x.1.size < 4294967281) (Uni.ret (.a (.c (.ow 0)), [.arr t .str (splL x.1 x.2.1)])) Uni.none) fun k => hG x _
end YtegknlkeokfghaaDoor.E
end Go.Proofs
set_option linter.unusedVariables false
set_option maxRecDepth 100000
namespace Go.Proofs.YtegknlkeokfghaaDoor.E
open Go.Proofs
noncomputable section
variable {R : Type}
@[reducible] def ty51 : Ty := (.pr .str (.pr (.int .i64) (.pr .bool .un)))
@[reducible] def ty24 : Ty := (.pr .str (.pr (.sl ty51) .un))
@[reducible] def ty66 : Ty := (.pr (.int .i64) (.pr .bool (.pr (.int .i64) (.pr .str .un))))
end
end Go.Proofs.YtegknlkeokfghaaDoor.E
set_option linter.unusedVariables false
set_option maxRecDepth 100000
namespace Go.Proofs.YtegknlkeokfghaaDoor.E
open Go.Proofs
noncomputable section
variable {R : Type}
/-! verderer/verdererlaw07.few: function 8 -/
def verdererlaw07_few_ds : Nat → Desc
  | 4 => ⟨[(0, .d (.sl ty24)), (3, .d (.int .i64))], []⟩
  | _ => ⟨[], []⟩
def verdererlaw07_few_dx : Nat → List (X × Desc)
  | 4 => [(.r, ⟨[(2, .d .bool)], []⟩), (.e 0, ⟨[], []⟩)]
  | _ => []
def verdererlaw07_few_s4 (n : Nat) (x0 : (List ty24.D)) (x1 : Int) (k1 : (List ty24.D) → Int → Option R) (qr : Bool → Option R) (qe0 : Option R) : Option R :=
  if (decide (x1 < (x0.length : Int))) = true then (if (0 : Int) ≤ x1 ∧ x1 < (x0.length : Int) then (if (decide ((((x0.getD (Int.toNat x1) (Ty.z ty24)).2.1).length : Int) > 20)) = true then (qr false) else (if (0 : Int) ≤ x1 ∧ x1 < (x0.length : Int) then (if (decide ((((x0.getD (Int.toNat x1) (Ty.z ty24)).1).size : Int) > 100)) = true then (qr false) else (k1 x0 (IntKind.i64.wrap (x1 + 1)))) else none)) else none) else qe0
def verdererlaw07_few_l4 (n : Nat) (a : (verdererlaw07_few_ds 4).D) (k1 : (verdererlaw07_few_ds 4).D → Option R) (k2 : exK R (verdererlaw07_few_dx 4)) : Option R :=
  verdererlaw07_few_s4 n a.1 a.2.1 (fun x0 x1 => k1 (x0, x1, ())) (fun x0 => k2.1 (x0, ())) (k2.2.1 (()))
@[reducible] def verdererlaw07_few_d : Desc := ⟨[(0, .d (.sl ty24))], []⟩
def verdererlaw07_few_Fi (n : Nat) (a0 : (List ty24.D)) (k0 : Bool → Option R) : Option R :=
  if (decide ((a0.length : Int) > 20)) = true then (k0 false) else (runC (verdererlaw07_few_l4 n) n (a0, 0, ()) (fun b1 => k0 b1.1, fun b1 => k0 true, ()))
def verdererlaw07_few_F {R : Type} := lazyN (@verdererlaw07_few_Fi R)
theorem verdererlaw07_few_e : @verdererlaw07_few_F R = @verdererlaw07_few_Fi R := lazyN_eq _
def verdererlaw07_few_g (n : Nat) : Gx R := typed 1 verdererlaw07_few_d fun x k => verdererlaw07_few_F n x.1 (fun y0 => k (.a (.c (.b y0))) [])
def verdererlaw07_few_cs (R : Type) (n : Nat) : List (Nat × Gx R) := []
def verdererlaw07_few_lp (n : Nat) : (i : Nat) → (verdererlaw07_few_ds i).D → exK R (verdererlaw07_few_dx i) → Option R
  | 4, a, k => runC (verdererlaw07_few_l4 n) n a k
  | _, _, _ => none
def verdererlaw07_few_cx (R : Type) (n : Nat) : Cx R := ⟨Tryd.prog, Gof (verdererlaw07_few_cs R n), verdererlaw07_few_ds, verdererlaw07_few_dx, verdererlaw07_few_lp n, drawP Tryd.prog (Gof (verdererlaw07_few_cs R n)), false, noJn, noFz⟩
theorem verdererlaw07_few_ok (n : Nat) : Good Tryd.prog 8 (verdererlaw07_few_g (R := R) n) := by
  unfold verdererlaw07_few_g
  rw [verdererlaw07_few_e]
  exact Good.fn (cx := verdererlaw07_few_cx R n) (by kernel_rfl) (AllGood.nil) rfl Tryd.func8 (by kernel_rfl) rfl (by
    have e : fnLoops noJn Tryd.f8 = [((fnLoops noJn Tryd.f8)[0]?).getD (false, .skip)] := by kernel_rfl
    show LoopRuns _ _ (fnLoops noJn _)
    rw [e]
    exact ⟨LoopRun.loop (by kernel_rfl) (i := 4) (m := n) (step := verdererlaw07_few_l4 n) (by kernel_rfl) (fun a k1 k2 => by kernel_rfl) (fun _ _ => rfl), trivial⟩) 1 verdererlaw07_few_d (by kernel_rfl) (fun x k => by kernel_rfl)
end
end Go.Proofs.YtegknlkeokfghaaDoor.E
set_option linter.unusedVariables false
set_option maxRecDepth 100000
namespace Go.Proofs.YtegknlkeokfghaaDoor.E
open Go.Proofs
noncomputable section
variable {R : Type}
/-! strings.Split: function 28 -/
@[reducible] def strings_Split_d : Desc := ⟨[(0, .d .str), (1, .d .str)], []⟩
def strings_Split_Fi (n : Nat) (a0 : ByteArray) (a1 : ByteArray) (k0 : (List ByteArray) → Option R) : Option R :=
  if a1.size = 1 ∧ a0.size < 4294967281 then (k0 (splL a0 a1)) else none
def strings_Split_F {R : Type} := lazyN (@strings_Split_Fi R)
theorem strings_Split_e : @strings_Split_F R = @strings_Split_Fi R := lazyN_eq _
def strings_Split_g (n : Nat) : Gx R := typed 2 strings_Split_d fun x k => strings_Split_F n x.1 x.2.1 (fun y0 => k (.a (.c (.ow 0))) [(.arr 9 .str y0)])
theorem strings_Split_ok (n : Nat) : Good Tryd.prog 28 (strings_Split_g (R := R) n) := by
  unfold strings_Split_g
  rw [strings_Split_e]
  exact Good.split Tryd.func28 (by kernel_rfl) rfl (fun s b w hs => split_any Tryd.lays146 (by kernel_rfl) s b w hs) (fun x k => rfl)
end
end Go.Proofs.YtegknlkeokfghaaDoor.E
set_option linter.unusedVariables false
set_option maxRecDepth 100000
namespace Go.Proofs.YtegknlkeokfghaaDoor.E
open Go.Proofs
noncomputable section
variable {R : Type}
/-! internal/bytealg.IndexByteString: function 63 -/
@[reducible] def bytealg_IndexByteString_d : Desc := ⟨[(0, .d .str), (1, .d (.int .u8))], []⟩
def bytealg_IndexByteString_Fi (n : Nat) (a0 : ByteArray) (a1 : Int) (k0 : Int → Option R) : Option R :=
  k0 (idxB a0 a1)
def bytealg_IndexByteString_F {R : Type} := lazyN (@bytealg_IndexByteString_Fi R)
theorem bytealg_IndexByteString_e : @bytealg_IndexByteString_F R = @bytealg_IndexByteString_Fi R := lazyN_eq _
def bytealg_IndexByteString_g (n : Nat) : Gx R := typed 2 bytealg_IndexByteString_d fun x k => bytealg_IndexByteString_F n x.1 x.2.1 (fun y0 => k (.a (.c (.i .i64 y0))) [])
theorem bytealg_IndexByteString_ok (n : Nat) : Good Tryd.prog 63 (bytealg_IndexByteString_g (R := R) n) := by
  unfold bytealg_IndexByteString_g
  rw [bytealg_IndexByteString_e]
  exact Good.ext2 Tryd.func63 (by kernel_rfl) rfl (by kernel_rfl) (by kernel_rfl) idxB idxB_run (fun x k => rfl)
end
end Go.Proofs.YtegknlkeokfghaaDoor.E
set_option linter.unusedVariables false
set_option maxRecDepth 100000
namespace Go.Proofs.YtegknlkeokfghaaDoor.E
open Go.Proofs
noncomputable section
variable {R : Type}
/-! internal/stringslite.IndexByte: function 59 -/
@[reducible] def stringslite_IndexByte_d : Desc := ⟨[(0, .d .str), (1, .d (.int .u8))], []⟩
def stringslite_IndexByte_Fi (n : Nat) (a0 : ByteArray) (a1 : Int) (k0 : Int → Option R) : Option R :=
  bytealg_IndexByteString_F n a0 a1 (fun y1 => k0 y1)
def stringslite_IndexByte_F {R : Type} := lazyN (@stringslite_IndexByte_Fi R)
theorem stringslite_IndexByte_e : @stringslite_IndexByte_F R = @stringslite_IndexByte_Fi R := lazyN_eq _
def stringslite_IndexByte_g (n : Nat) : Gx R := typed 2 stringslite_IndexByte_d fun x k => stringslite_IndexByte_F n x.1 x.2.1 (fun y0 => k (.a (.c (.i .i64 y0))) [])
def stringslite_IndexByte_cs (R : Type) (n : Nat) : List (Nat × Gx R) := [(63, bytealg_IndexByteString_g n)]
def stringslite_IndexByte_cx (R : Type) (n : Nat) : Cx R := ⟨Tryd.prog, Gof (stringslite_IndexByte_cs R n), noDs, noDx, noLp, drawP Tryd.prog (Gof (stringslite_IndexByte_cs R n)), false, noJn, noFz⟩
theorem stringslite_IndexByte_ok (n : Nat) : Good Tryd.prog 59 (stringslite_IndexByte_g (R := R) n) := by
  unfold stringslite_IndexByte_g
  rw [stringslite_IndexByte_e]
  exact Good.fn (cx := stringslite_IndexByte_cx R n) (by kernel_rfl) (AllGood.cons (bytealg_IndexByteString_ok n) (AllGood.nil)) rfl Tryd.func59 (by kernel_rfl) rfl trivial 2 stringslite_IndexByte_d (by kernel_rfl) (fun x k => by kernel_rfl)
end
end Go.Proofs.YtegknlkeokfghaaDoor.E
set_option linter.unusedVariables false
set_option maxRecDepth 100000
namespace Go.Proofs.YtegknlkeokfghaaDoor.E
open Go.Proofs
noncomputable section
variable {R : Type}
/-! internal/stringslite.Index: function 56 -/
@[reducible] def stringslite_Index_d : Desc := ⟨[(0, .d .str), (1, .d .str)], []⟩
def stringslite_Index_Fi (n : Nat) (a0 : ByteArray) (a1 : ByteArray) (k0 : Int → Option R) : Option R :=
  if ((a1.size : Int) == 0) = true then (k0 0) else (if (a1.toList == a0.toList) = true then (k0 0) else (if ((a1.size : Int) == 1) = true then (if (0 : Int) ≤ 0 then if 0 < (a1.size : Int) then (stringslite_IndexByte_F n a0 (byteAt a1 0) (fun y1 => k0 y1)) else none else none) else (if (decide ((a1.size : Int) ≥ (a0.size : Int))) = true then (k0 (-1)) else none)))
def stringslite_Index_F {R : Type} := lazyN (@stringslite_Index_Fi R)
theorem stringslite_Index_e : @stringslite_Index_F R = @stringslite_Index_Fi R := lazyN_eq _
def stringslite_Index_g (n : Nat) : Gx R := typed 2 stringslite_Index_d fun x k => stringslite_Index_F n x.1 x.2.1 (fun y0 => k (.a (.c (.i .i64 y0))) [])
def stringslite_Index_cs (R : Type) (n : Nat) : List (Nat × Gx R) := [(59, stringslite_IndexByte_g n)]
def stringslite_Index_cx (R : Type) (n : Nat) : Cx R := ⟨Tryd.prog, Gof (stringslite_Index_cs R n), noDs, noDx, noLp, drawP Tryd.prog (Gof (stringslite_Index_cs R n)), false, noJn, noFz⟩
theorem stringslite_Index_ok (n : Nat) : Good Tryd.prog 56 (stringslite_Index_g (R := R) n) := by
  unfold stringslite_Index_g
  rw [stringslite_Index_e]
  exact Good.fn (cx := stringslite_Index_cx R n) (by kernel_rfl) (AllGood.cons (stringslite_IndexByte_ok n) (AllGood.nil)) rfl Tryd.func56 (by kernel_rfl) rfl (by
    have e : fnLoops noJn Tryd.f56 = [((fnLoops noJn Tryd.f56)[0]?).getD (false, .skip)] := by kernel_rfl
    show LoopRuns _ _ (fnLoops noJn _)
    rw [e]
    exact ⟨LoopRun.no (by kernel_rfl) (i := 15) (by kernel_rfl) (fun _ _ => rfl), trivial⟩) 2 stringslite_Index_d (by kernel_rfl) (fun x k => by kernel_rfl)
end
end Go.Proofs.YtegknlkeokfghaaDoor.E
set_option linter.unusedVariables false
set_option maxRecDepth 100000
namespace Go.Proofs.YtegknlkeokfghaaDoor.E
open Go.Proofs
noncomputable section
variable {R : Type}
/-! internal/stringslite.Cut: function 51 -/
@[reducible] def stringslite_Cut_d : Desc := ⟨[(0, .d .str), (1, .d .str)], []⟩
def stringslite_Cut_Fi (n : Nat) (a0 : ByteArray) (a1 : ByteArray) (k0 : ByteArray → ByteArray → Bool → Option R) : Option R :=
  stringslite_Index_F n a0 a1 (fun y1 => if (decide (y1 ≥ 0)) = true then (if (0 : Int) ≤ y1 ∧ y1 ≤ (a0.size : Int) then (if (0 : Int) ≤ (IntKind.i64.wrap (y1 + (a1.size : Int))) ∧ (IntKind.i64.wrap (y1 + (a1.size : Int))) ≤ (a0.size : Int) then (k0 (a0.extract 0 (Int.toNat y1)) (a0.extract (Int.toNat (IntKind.i64.wrap (y1 + (a1.size : Int)))) a0.size) true) else none) else none) else (k0 a0 (⟨#[]⟩ : ByteArray) false))
def stringslite_Cut_F {R : Type} := lazyN (@stringslite_Cut_Fi R)
theorem stringslite_Cut_e : @stringslite_Cut_F R = @stringslite_Cut_Fi R := lazyN_eq _
def stringslite_Cut_g (n : Nat) : Gx R := typed 2 stringslite_Cut_d fun x k => stringslite_Cut_F n x.1 x.2.1 (fun y0 y1 y2 => k (.tu [(.c (.s y0)), (.c (.s y1)), (.c (.b y2))]) [])
def stringslite_Cut_cs (R : Type) (n : Nat) : List (Nat × Gx R) := [(56, stringslite_Index_g n)]
def stringslite_Cut_cx (R : Type) (n : Nat) : Cx R := ⟨Tryd.prog, Gof (stringslite_Cut_cs R n), noDs, noDx, noLp, drawP Tryd.prog (Gof (stringslite_Cut_cs R n)), false, noJn, noFz⟩
theorem stringslite_Cut_ok (n : Nat) : Good Tryd.prog 51 (stringslite_Cut_g (R := R) n) := by
  unfold stringslite_Cut_g
  rw [stringslite_Cut_e]
  exact Good.fn (cx := stringslite_Cut_cx R n) (by kernel_rfl) (AllGood.cons (stringslite_Index_ok n) (AllGood.nil)) rfl Tryd.func51 (by kernel_rfl) rfl trivial 2 stringslite_Cut_d (by kernel_rfl) (fun x k => by kernel_rfl)
end
end Go.Proofs.YtegknlkeokfghaaDoor.E
set_option linter.unusedVariables false
set_option maxRecDepth 100000
namespace Go.Proofs.YtegknlkeokfghaaDoor.E
open Go.Proofs
noncomputable section
variable {R : Type}
/-! strings.Cut: function 39 -/
@[reducible] def strings_Cut_d : Desc := ⟨[(0, .d .str), (1, .d .str)], []⟩
def strings_Cut_Fi (n : Nat) (a0 : ByteArray) (a1 : ByteArray) (k0 : ByteArray → ByteArray → Bool → Option R) : Option R :=
  stringslite_Cut_F n a0 a1 (fun y1 y2 y3 => k0 y1 y2 y3)
def strings_Cut_F {R : Type} := lazyN (@strings_Cut_Fi R)
theorem strings_Cut_e : @strings_Cut_F R = @strings_Cut_Fi R := lazyN_eq _
def strings_Cut_g (n : Nat) : Gx R := typed 2 strings_Cut_d fun x k => strings_Cut_F n x.1 x.2.1 (fun y0 y1 y2 => k (.tu [(.c (.s y0)), (.c (.s y1)), (.c (.b y2))]) [])
def strings_Cut_cs (R : Type) (n : Nat) : List (Nat × Gx R) := [(51, stringslite_Cut_g n)]
def strings_Cut_cx (R : Type) (n : Nat) : Cx R := ⟨Tryd.prog, Gof (strings_Cut_cs R n), noDs, noDx, noLp, drawP Tryd.prog (Gof (strings_Cut_cs R n)), false, noJn, noFz⟩
theorem strings_Cut_ok (n : Nat) : Good Tryd.prog 39 (strings_Cut_g (R := R) n) := by
  unfold strings_Cut_g
  rw [strings_Cut_e]
  exact Good.fn (cx := strings_Cut_cx R n) (by kernel_rfl) (AllGood.cons (stringslite_Cut_ok n) (AllGood.nil)) rfl Tryd.func39 (by kernel_rfl) rfl trivial 2 strings_Cut_d (by kernel_rfl) (fun x k => by kernel_rfl)
end
end Go.Proofs.YtegknlkeokfghaaDoor.E
set_option linter.unusedVariables false
set_option maxRecDepth 100000
namespace Go.Proofs.YtegknlkeokfghaaDoor.E
open Go.Proofs
noncomputable section
variable {R : Type}
/-! internal/stringslite.HasSuffix: function 57 -/
@[reducible] def stringslite_HasSuffix_d : Desc := ⟨[(0, .d .str), (1, .d .str)], []⟩
def stringslite_HasSuffix_Fi (n : Nat) (a0 : ByteArray) (a1 : ByteArray) (k0 : Bool → Option R) : Option R :=
  if (decide ((a0.size : Int) ≥ (a1.size : Int))) = true then (if (0 : Int) ≤ (IntKind.i64.wrap ((a0.size : Int) - (a1.size : Int))) ∧ (IntKind.i64.wrap ((a0.size : Int) - (a1.size : Int))) ≤ (a0.size : Int) then (k0 ((a0.extract (Int.toNat (IntKind.i64.wrap ((a0.size : Int) - (a1.size : Int)))) a0.size).toList == a1.toList)) else none) else (k0 false)
def stringslite_HasSuffix_F {R : Type} := lazyN (@stringslite_HasSuffix_Fi R)
theorem stringslite_HasSuffix_e : @stringslite_HasSuffix_F R = @stringslite_HasSuffix_Fi R := lazyN_eq _
def stringslite_HasSuffix_g (n : Nat) : Gx R := typed 2 stringslite_HasSuffix_d fun x k => stringslite_HasSuffix_F n x.1 x.2.1 (fun y0 => k (.a (.c (.b y0))) [])
def stringslite_HasSuffix_cs (R : Type) (n : Nat) : List (Nat × Gx R) := []
def stringslite_HasSuffix_cx (R : Type) (n : Nat) : Cx R := ⟨Tryd.prog, Gof (stringslite_HasSuffix_cs R n), noDs, noDx, noLp, drawP Tryd.prog (Gof (stringslite_HasSuffix_cs R n)), false, noJn, noFz⟩
theorem stringslite_HasSuffix_ok (n : Nat) : Good Tryd.prog 57 (stringslite_HasSuffix_g (R := R) n) := by
  unfold stringslite_HasSuffix_g
  rw [stringslite_HasSuffix_e]
  exact Good.fn (cx := stringslite_HasSuffix_cx R n) (by kernel_rfl) (AllGood.nil) rfl Tryd.func57 (by kernel_rfl) rfl trivial 2 stringslite_HasSuffix_d (by kernel_rfl) (fun x k => by kernel_rfl)
end
end Go.Proofs.YtegknlkeokfghaaDoor.E
set_option linter.unusedVariables false
set_option maxRecDepth 100000
namespace Go.Proofs.YtegknlkeokfghaaDoor.E
open Go.Proofs
noncomputable section
variable {R : Type}
/-! internal/stringslite.CutSuffix: function 52 -/
@[reducible] def stringslite_CutSuffix_d : Desc := ⟨[(0, .d .str), (1, .d .str)], []⟩
def stringslite_CutSuffix_Fi (n : Nat) (a0 : ByteArray) (a1 : ByteArray) (k0 : ByteArray → Bool → Option R) : Option R :=
  stringslite_HasSuffix_F n a0 a1 (fun y1 => if (!y1) = true then (k0 a0 false) else (if (0 : Int) ≤ (IntKind.i64.wrap ((a0.size : Int) - (a1.size : Int))) ∧ (IntKind.i64.wrap ((a0.size : Int) - (a1.size : Int))) ≤ (a0.size : Int) then (k0 (a0.extract 0 (Int.toNat (IntKind.i64.wrap ((a0.size : Int) - (a1.size : Int))))) true) else none))
def stringslite_CutSuffix_F {R : Type} := lazyN (@stringslite_CutSuffix_Fi R)
theorem stringslite_CutSuffix_e : @stringslite_CutSuffix_F R = @stringslite_CutSuffix_Fi R := lazyN_eq _
def stringslite_CutSuffix_g (n : Nat) : Gx R := typed 2 stringslite_CutSuffix_d fun x k => stringslite_CutSuffix_F n x.1 x.2.1 (fun y0 y1 => k (.tu [(.c (.s y0)), (.c (.b y1))]) [])
def stringslite_CutSuffix_cs (R : Type) (n : Nat) : List (Nat × Gx R) := [(57, stringslite_HasSuffix_g n)]
def stringslite_CutSuffix_cx (R : Type) (n : Nat) : Cx R := ⟨Tryd.prog, Gof (stringslite_CutSuffix_cs R n), noDs, noDx, noLp, drawP Tryd.prog (Gof (stringslite_CutSuffix_cs R n)), false, noJn, noFz⟩
theorem stringslite_CutSuffix_ok (n : Nat) : Good Tryd.prog 52 (stringslite_CutSuffix_g (R := R) n) := by
  unfold stringslite_CutSuffix_g
  rw [stringslite_CutSuffix_e]
  exact Good.fn (cx := stringslite_CutSuffix_cx R n) (by kernel_rfl) (AllGood.cons (stringslite_HasSuffix_ok n) (AllGood.nil)) rfl Tryd.func52 (by kernel_rfl) rfl trivial 2 stringslite_CutSuffix_d (by kernel_rfl) (fun x k => by kernel_rfl)
end
end Go.Proofs.YtegknlkeokfghaaDoor.E
set_option linter.unusedVariables false
set_option maxRecDepth 100000
namespace Go.Proofs.YtegknlkeokfghaaDoor.E
open Go.Proofs
noncomputable section
variable {R : Type}
/-! strings.CutSuffix: function 40 -/
@[reducible] def strings_CutSuffix_d : Desc := ⟨[(0, .d .str), (1, .d .str)], []⟩
def strings_CutSuffix_Fi (n : Nat) (a0 : ByteArray) (a1 : ByteArray) (k0 : ByteArray → Bool → Option R) : Option R :=
  stringslite_CutSuffix_F n a0 a1 (fun y1 y2 => k0 y1 y2)
def strings_CutSuffix_F {R : Type} := lazyN (@strings_CutSuffix_Fi R)
theorem strings_CutSuffix_e : @strings_CutSuffix_F R = @strings_CutSuffix_Fi R := lazyN_eq _
def strings_CutSuffix_g (n : Nat) : Gx R := typed 2 strings_CutSuffix_d fun x k => strings_CutSuffix_F n x.1 x.2.1 (fun y0 y1 => k (.tu [(.c (.s y0)), (.c (.b y1))]) [])
def strings_CutSuffix_cs (R : Type) (n : Nat) : List (Nat × Gx R) := [(52, stringslite_CutSuffix_g n)]
def strings_CutSuffix_cx (R : Type) (n : Nat) : Cx R := ⟨Tryd.prog, Gof (strings_CutSuffix_cs R n), noDs, noDx, noLp, drawP Tryd.prog (Gof (strings_CutSuffix_cs R n)), false, noJn, noFz⟩
theorem strings_CutSuffix_ok (n : Nat) : Good Tryd.prog 40 (strings_CutSuffix_g (R := R) n) := by
  unfold strings_CutSuffix_g
  rw [strings_CutSuffix_e]
  exact Good.fn (cx := strings_CutSuffix_cx R n) (by kernel_rfl) (AllGood.cons (stringslite_CutSuffix_ok n) (AllGood.nil)) rfl Tryd.func40 (by kernel_rfl) rfl trivial 2 strings_CutSuffix_d (by kernel_rfl) (fun x k => by kernel_rfl)
end
end Go.Proofs.YtegknlkeokfghaaDoor.E
set_option linter.unusedVariables false
set_option maxRecDepth 100000
namespace Go.Proofs.YtegknlkeokfghaaDoor.E
open Go.Proofs
noncomputable section
variable {R : Type}
/-! verderer/schema.word: function 26 -/
@[reducible] def schema_word_d : Desc := ⟨[(0, .d (.int .i64))], []⟩
def schema_word_Fi (n : Nat) (a0 : Int) (k0 : ByteArray → Option R) : Option R :=
  if (0 : Int) ≤ a0 ∧ a0 < (4 : Int) ∧ a0 < (List.length [(⟨#[]⟩ : ByteArray), (⟨#[98, 111, 111, 108]⟩ : ByteArray), (⟨#[105, 110, 116]⟩ : ByteArray), (⟨#[116, 101, 120, 116]⟩ : ByteArray)] : Int) then (k0 (List.getD [(⟨#[]⟩ : ByteArray), (⟨#[98, 111, 111, 108]⟩ : ByteArray), (⟨#[105, 110, 116]⟩ : ByteArray), (⟨#[116, 101, 120, 116]⟩ : ByteArray)] (Int.toNat a0) ByteArray.empty)) else none
def schema_word_F {R : Type} := lazyN (@schema_word_Fi R)
theorem schema_word_e : @schema_word_F R = @schema_word_Fi R := lazyN_eq _
def schema_word_g (n : Nat) : Gx R := typed 1 schema_word_d fun x k => schema_word_F n x.1 (fun y0 => k (.a (.c (.s y0))) [])
def schema_word_cs (R : Type) (n : Nat) : List (Nat × Gx R) := []
def schema_word_cx (R : Type) (n : Nat) : Cx R := ⟨Tryd.prog, Gof (schema_word_cs R n), noDs, noDx, noLp, drawP Tryd.prog (Gof (schema_word_cs R n)), false, noJn, noFz⟩
theorem schema_word_ok (n : Nat) : Good Tryd.prog 26 (schema_word_g (R := R) n) := by
  unfold schema_word_g
  rw [schema_word_e]
  exact Good.fn (cx := schema_word_cx R n) (by kernel_rfl) (AllGood.nil) rfl Tryd.func26 (by kernel_rfl) rfl trivial 1 schema_word_d (by kernel_rfl) (fun x k => by kernel_rfl)
end
end Go.Proofs.YtegknlkeokfghaaDoor.E
set_option linter.unusedVariables false
set_option maxRecDepth 100000
namespace Go.Proofs.YtegknlkeokfghaaDoor.E
open Go.Proofs
noncomputable section
variable {R : Type}
/-! verderer/schema.column: function 29 -/
def schema_column_ds : Nat → Desc
  | 5 => ⟨[(2, .pt 0 0), (4, .d .str), (7, .pt 1 0), (8, .d (.int .i64))], [.box false 51 [.d .str, .d (.int .i64), .d .bool], .box false 51 [.d .str, .d (.int .i64), .d .bool]]⟩
  | _ => ⟨[], []⟩
def schema_column_dx : Nat → List (X × Desc)
  | 5 => [(.e 0, ⟨[(2, .pt 0 0), (7, .pt 1 0)], [.box false 51 [.d .str, .d (.int .i64), .d .bool], .box false 51 [.d .str, .d (.int .i64), .d .bool]]⟩)]
  | _ => []
def schema_column_s5 (n : Nat) (x0 : ByteArray) (x1 : Int) (x2 : ByteArray) (x3 : Int) (x4 : Bool) (x5 : ByteArray) (x6 : Int) (x7 : Bool) (k1 : ByteArray → Int → ByteArray → Int → Bool → ByteArray → Int → Bool → Option R) (qe0 : ByteArray → Int → Bool → ByteArray → Int → Bool → Option R) : Option R :=
  if (decide (x1 ≤ 3)) = true then (schema_word_F n x1 (fun y6 => if (y6.toList == x0.toList) = true then (k1 x0 (IntKind.i64.wrap (x1 + 1)) x2 x3 x4 x5 x1 x7) else (k1 x0 (IntKind.i64.wrap (x1 + 1)) x2 x3 x4 x5 x6 x7))) else (qe0 x2 x3 x4 x5 x6 x7)
def schema_column_l5 (n : Nat) (a : (schema_column_ds 5).D) (k1 : (schema_column_ds 5).D → Option R) (k2 : exK R (schema_column_dx 5)) : Option R :=
  schema_column_s5 n a.1 a.2.1 a.2.2.1 a.2.2.2.1 a.2.2.2.2.1 a.2.2.2.2.2.1 a.2.2.2.2.2.2.1 a.2.2.2.2.2.2.2.1 (fun x0 x1 x2 x3 x4 x5 x6 x7 => k1 (x0, x1, x2, x3, x4, x5, x6, x7, ())) (fun x0 x1 x2 x3 x4 x5 => k2.1 (x0, x1, x2, x3, x4, x5, ()))
@[reducible] def schema_column_d : Desc := ⟨[(0, .d .str)], []⟩
def schema_column_Fi (n : Nat) (a0 : ByteArray) (k0 : ty51.D → Option R) : Option R :=
  strings_Cut_F n a0 (⟨#[58]⟩ : ByteArray) (fun y1 y2 y3 => strings_CutSuffix_F n y2 (⟨#[63]⟩ : ByteArray) (fun y4 y5 => runC (schema_column_l5 n) n (y4, 1, (⟨#[]⟩ : ByteArray), 0, false, y1, 0, y5, ()) (fun b12 => k0 (b12.2.2.2.1, b12.2.2.2.2.1, b12.2.2.2.2.2.1, ()), ())))
def schema_column_F {R : Type} := lazyN (@schema_column_Fi R)
theorem schema_column_e : @schema_column_F R = @schema_column_Fi R := lazyN_eq _
def schema_column_g (n : Nat) : Gx R := typed 1 schema_column_d fun x k => schema_column_F n x.1 (fun y0 => k (.a (encA ty51 y0)) [])
def schema_column_cs (R : Type) (n : Nat) : List (Nat × Gx R) := [(26, schema_word_g n), (39, strings_Cut_g n), (40, strings_CutSuffix_g n)]
def schema_column_lp (n : Nat) : (i : Nat) → (schema_column_ds i).D → exK R (schema_column_dx i) → Option R
  | 5, a, k => runC (schema_column_l5 n) n a k
  | _, _, _ => none
def schema_column_cx (R : Type) (n : Nat) : Cx R := ⟨Tryd.prog, Gof (schema_column_cs R n), schema_column_ds, schema_column_dx, schema_column_lp n, drawP Tryd.prog (Gof (schema_column_cs R n)), false, noJn, noFz⟩
theorem schema_column_ok (n : Nat) : Good Tryd.prog 29 (schema_column_g (R := R) n) := by
  unfold schema_column_g
  rw [schema_column_e]
  exact Good.fn (cx := schema_column_cx R n) (by kernel_rfl) (AllGood.cons (schema_word_ok n) (AllGood.cons (strings_Cut_ok n) (AllGood.cons (strings_CutSuffix_ok n) (AllGood.nil)))) rfl Tryd.func29 (by kernel_rfl) rfl (by
    have e : fnLoops noJn Tryd.f29 = [((fnLoops noJn Tryd.f29)[0]?).getD (false, .skip)] := by kernel_rfl
    show LoopRuns _ _ (fnLoops noJn _)
    rw [e]
    exact ⟨LoopRun.loop (by kernel_rfl) (i := 5) (m := n) (step := schema_column_l5 n) (by kernel_rfl) (fun a k1 k2 => by kernel_rfl) (fun _ _ => rfl), trivial⟩) 1 schema_column_d (by kernel_rfl) (fun x k => by kernel_rfl)
end
end Go.Proofs.YtegknlkeokfghaaDoor.E
set_option linter.unusedVariables false
set_option maxRecDepth 100000
namespace Go.Proofs.YtegknlkeokfghaaDoor.E
open Go.Proofs
noncomputable section
variable {R : Type}
/-! (*verderer/schema.Set).find$1: function 42 -/
@[reducible] def schema_Set_find_1_d : Desc := ⟨[(0, .d ty24), (1, .pt 0 0)], [.box true 9 [.d .str]]⟩
def schema_Set_find_1_Fi (n : Nat) (a0 : ty24.D) (a1 : ByteArray) (k0 : Bool → ByteArray → Option R) : Option R :=
  k0 (a0.1.toList == a1.toList) a1
def schema_Set_find_1_F {R : Type} := lazyN (@schema_Set_find_1_Fi R)
theorem schema_Set_find_1_e : @schema_Set_find_1_F R = @schema_Set_find_1_Fi R := lazyN_eq _
def schema_Set_find_1_g (n : Nat) : Gx R := typed 2 schema_Set_find_1_d fun x k => schema_Set_find_1_F n x.1 x.2.1 (fun y0 y1 => k (.a (.c (.b y0))) [(.box true 9 [(.s y1)])])
def schema_Set_find_1_cs (R : Type) (n : Nat) : List (Nat × Gx R) := []
def schema_Set_find_1_cx (R : Type) (n : Nat) : Cx R := ⟨Tryd.prog, Gof (schema_Set_find_1_cs R n), noDs, noDx, noLp, drawP Tryd.prog (Gof (schema_Set_find_1_cs R n)), false, noJn, noFz⟩
theorem schema_Set_find_1_ok (n : Nat) : Good Tryd.prog 42 (schema_Set_find_1_g (R := R) n) := by
  unfold schema_Set_find_1_g
  rw [schema_Set_find_1_e]
  exact Good.fn (cx := schema_Set_find_1_cx R n) (by kernel_rfl) (AllGood.nil) rfl Tryd.func42 (by kernel_rfl) rfl trivial 2 schema_Set_find_1_d (by kernel_rfl) (fun x k => by kernel_rfl)
end
end Go.Proofs.YtegknlkeokfghaaDoor.E
set_option linter.unusedVariables false
set_option maxRecDepth 100000
namespace Go.Proofs.YtegknlkeokfghaaDoor.E
open Go.Proofs
noncomputable section
variable {R : Type}
/-! slices.IndexFunc[[]verderer/api.Schema,verderer/api.Schema]: function 41 -/
def slices_IndexFunc_41_ds : Nat → Desc
  | 2 => ⟨[(0, .d (.sl ty24)), (1, .fn 42 [0]), (7, .d (.int .i64)), (8, .d (.int .i64))], [.box true 9 [.d .str]]⟩
  | _ => ⟨[], []⟩
def slices_IndexFunc_41_dx : Nat → List (X × Desc)
  | 2 => [(.r, ⟨[(4, .d (.int .i64))], [.box true 9 [.d .str]]⟩), (.e 0, ⟨[], [.box true 9 [.d .str]]⟩)]
  | _ => []
def slices_IndexFunc_41_s2 (n : Nat) (x0 : (List ty24.D)) (x1 : Int) (x2 : Int) (x3 : ByteArray) (k1 : (List ty24.D) → Int → Int → ByteArray → Option R) (qr : Int → ByteArray → Option R) (qe0 : ByteArray → Option R) : Option R :=
  if (decide (x2 < x1)) = true then (if (0 : Int) ≤ x2 ∧ x2 < (x0.length : Int) then (schema_Set_find_1_F n (x0.getD (Int.toNat x2) (Ty.z ty24)) x3 (fun y1 y2 => if y1 = true then (qr x2 y2) else (k1 x0 x1 (IntKind.i64.wrap (x2 + 1)) y2))) else none) else (qe0 x3)
def slices_IndexFunc_41_l2 (n : Nat) (a : (slices_IndexFunc_41_ds 2).D) (k1 : (slices_IndexFunc_41_ds 2).D → Option R) (k2 : exK R (slices_IndexFunc_41_dx 2)) : Option R :=
  slices_IndexFunc_41_s2 n a.1 a.2.1 a.2.2.1 a.2.2.2.1 (fun x0 x1 x2 x3 => k1 (x0, x1, x2, x3, ())) (fun x0 x1 => k2.1 (x0, x1, ())) (fun x0 => k2.2.1 (x0, ()))
@[reducible] def slices_IndexFunc_41_d : Desc := ⟨[(0, .d (.sl ty24)), (1, .fn 42 [0])], [.box true 9 [.d .str]]⟩
def slices_IndexFunc_41_Fi (n : Nat) (a0 : (List ty24.D)) (a1 : ByteArray) (k0 : Int → ByteArray → Option R) : Option R :=
  runC (slices_IndexFunc_41_l2 n) n (a0, (a0.length : Int), 0, a1, ()) (fun b4 => k0 b4.1 b4.2.1, fun b5 => k0 (-1) b5.1, ())
def slices_IndexFunc_41_F {R : Type} := lazyN (@slices_IndexFunc_41_Fi R)
theorem slices_IndexFunc_41_e : @slices_IndexFunc_41_F R = @slices_IndexFunc_41_Fi R := lazyN_eq _
def slices_IndexFunc_41_g (n : Nat) : Gx R := typed 2 slices_IndexFunc_41_d fun x k => slices_IndexFunc_41_F n x.1 x.2.1 (fun y0 y1 => k (.a (.c (.i .i64 y0))) [(.box true 9 [(.s y1)])])
def slices_IndexFunc_41_cs (R : Type) (n : Nat) : List (Nat × Gx R) := [(42, schema_Set_find_1_g n)]
def slices_IndexFunc_41_lp (n : Nat) : (i : Nat) → (slices_IndexFunc_41_ds i).D → exK R (slices_IndexFunc_41_dx i) → Option R
  | 2, a, k => runC (slices_IndexFunc_41_l2 n) n a k
  | _, _, _ => none
def slices_IndexFunc_41_cx (R : Type) (n : Nat) : Cx R := ⟨Tryd.prog, Gof (slices_IndexFunc_41_cs R n), slices_IndexFunc_41_ds, slices_IndexFunc_41_dx, slices_IndexFunc_41_lp n, drawP Tryd.prog (Gof (slices_IndexFunc_41_cs R n)), false, noJn, noFz⟩
theorem slices_IndexFunc_41_ok (n : Nat) : Good Tryd.prog 41 (slices_IndexFunc_41_g (R := R) n) := by
  unfold slices_IndexFunc_41_g
  rw [slices_IndexFunc_41_e]
  exact Good.fn (cx := slices_IndexFunc_41_cx R n) (by kernel_rfl) (AllGood.cons (schema_Set_find_1_ok n) (AllGood.nil)) rfl Tryd.func41 (by kernel_rfl) rfl (by
    have e : fnLoops noJn Tryd.f41 = [((fnLoops noJn Tryd.f41)[0]?).getD (false, .skip)] := by kernel_rfl
    show LoopRuns _ _ (fnLoops noJn _)
    rw [e]
    exact ⟨LoopRun.loop (by kernel_rfl) (i := 2) (m := n) (step := slices_IndexFunc_41_l2 n) (by kernel_rfl) (fun a k1 k2 => by kernel_rfl) (fun _ _ => rfl), trivial⟩) 2 slices_IndexFunc_41_d (by kernel_rfl) (fun x k => by kernel_rfl)
end
end Go.Proofs.YtegknlkeokfghaaDoor.E
set_option linter.unusedVariables false
set_option maxRecDepth 100000
namespace Go.Proofs.YtegknlkeokfghaaDoor.E
open Go.Proofs
noncomputable section
variable {R : Type}
/-! slices.Clone[[]verderer/api.Column,verderer/api.Column]: function 43 -/
@[reducible] def slices_Clone_43_d : Desc := ⟨[(0, .d (.sl ty51))], []⟩
def slices_Clone_43_Fi (n : Nat) (a0 : (List ty51.D)) (k0 : (List ty51.D) → Option R) : Option R :=
  if (List.length ([] : List ty51.D) + List.length a0) * 32 ≤ 140737488355328 then (k0 (([] : List ty51.D) ++ a0)) else none
def slices_Clone_43_F {R : Type} := lazyN (@slices_Clone_43_Fi R)
theorem slices_Clone_43_e : @slices_Clone_43_F R = @slices_Clone_43_Fi R := lazyN_eq _
def slices_Clone_43_g (n : Nat) : Gx R := typed 1 slices_Clone_43_d fun x k => slices_Clone_43_F n x.1 (fun y0 => k (.a (.c (.ow 0))) [(.arr 51 ty51 y0)])
def slices_Clone_43_cs (R : Type) (n : Nat) : List (Nat × Gx R) := []
def slices_Clone_43_cx (R : Type) (n : Nat) : Cx R := ⟨Tryd.prog, Gof (slices_Clone_43_cs R n), noDs, noDx, noLp, drawP Tryd.prog (Gof (slices_Clone_43_cs R n)), false, noJn, noFz⟩
theorem slices_Clone_43_ok (n : Nat) : Good Tryd.prog 43 (slices_Clone_43_g (R := R) n) := by
  unfold slices_Clone_43_g
  rw [slices_Clone_43_e]
  exact Good.nilOr (cx := slices_Clone_43_cx R n) (by kernel_rfl) (AllGood.nil) rfl Tryd.func43 (by kernel_rfl) rfl trivial ty51 (by kernel_rfl) (fun k => by kernel_rfl) (fun x k => by kernel_rfl)
end
end Go.Proofs.YtegknlkeokfghaaDoor.E
set_option linter.unusedVariables false
set_option maxRecDepth 100000
namespace Go.Proofs.YtegknlkeokfghaaDoor.E
open Go.Proofs
noncomputable section
variable {R : Type}
/-! verderer/schema.clone: function 33 -/
@[reducible] def schema_clone_d : Desc := ⟨[(0, .d ty24)], []⟩
def schema_clone_Fi (n : Nat) (a0 : ty24.D) (k0 : ByteArray → (List ty51.D) → Option R) : Option R :=
  slices_Clone_43_F n a0.2.1 (fun y1 => k0 a0.1 y1)
def schema_clone_F {R : Type} := lazyN (@schema_clone_Fi R)
theorem schema_clone_e : @schema_clone_F R = @schema_clone_Fi R := lazyN_eq _
def schema_clone_g (n : Nat) : Gx R := typed 1 schema_clone_d fun x k => schema_clone_F n x.1 (fun y0 y1 => k (.a (.ag [(.s y0), (.ow 0)])) [(.arr 51 ty51 y1)])
def schema_clone_cs (R : Type) (n : Nat) : List (Nat × Gx R) := [(43, slices_Clone_43_g n)]
def schema_clone_cx (R : Type) (n : Nat) : Cx R := ⟨Tryd.prog, Gof (schema_clone_cs R n), noDs, noDx, noLp, drawP Tryd.prog (Gof (schema_clone_cs R n)), false, noJn, noFz⟩
theorem schema_clone_ok (n : Nat) : Good Tryd.prog 33 (schema_clone_g (R := R) n) := by
  unfold schema_clone_g
  rw [schema_clone_e]
  exact Good.fn (cx := schema_clone_cx R n) (by kernel_rfl) (AllGood.cons (slices_Clone_43_ok n) (AllGood.nil)) rfl Tryd.func33 (by kernel_rfl) rfl trivial 1 schema_clone_d (by kernel_rfl) (fun x k => by kernel_rfl)
end
end Go.Proofs.YtegknlkeokfghaaDoor.E
set_option linter.unusedVariables false
set_option maxRecDepth 100000
namespace Go.Proofs.YtegknlkeokfghaaDoor.E
open Go.Proofs
noncomputable section
variable {R : Type}
/-! (*verderer/schema.Set).find: function 32 -/
@[reducible] def schema_Set_find_d : Desc := ⟨[(0, .pt 0 0), (1, .d .str)], [.box true 59 [.ow 1], .arr 24 ty24]⟩
def schema_Set_find_Fi (n : Nat) (a0 : ByteArray) (a1 : (List ty24.D)) (k0 : ty24.D → Bool → (List ty24.D) → Option R) : Option R :=
  slices_IndexFunc_41_F n a1 a0 (fun y1 y2 => if (decide (y1 < 0)) = true then (k0 ((⟨#[]⟩ : ByteArray), ([] : List ty51.D), ()) false a1) else (if (0 : Int) ≤ y1 ∧ y1 < (a1.length : Int) then (if (Int.toNat y1) < a1.length then (schema_clone_F n (a1.getD (Int.toNat y1) (Ty.z ty24)) (fun y3 y4 => k0 (y3, y4, ()) true a1)) else none) else none))
def schema_Set_find_F {R : Type} := lazyN (@schema_Set_find_Fi R)
theorem schema_Set_find_e : @schema_Set_find_F R = @schema_Set_find_Fi R := lazyN_eq _
def schema_Set_find_g (n : Nat) : Gx R := typed 2 schema_Set_find_d fun x k => schema_Set_find_F n x.1 x.2.1 (fun y0 y1 y2 => k (.tu [(encA ty24 y0), (.c (.b y1))]) [(.box true 59 [(.ow 1)]), (.arr 24 ty24 y2)])
def schema_Set_find_cs (R : Type) (n : Nat) : List (Nat × Gx R) := [(33, schema_clone_g n), (41, slices_IndexFunc_41_g n)]
def schema_Set_find_cx (R : Type) (n : Nat) : Cx R := ⟨Tryd.prog, Gof (schema_Set_find_cs R n), noDs, noDx, noLp, drawP Tryd.prog (Gof (schema_Set_find_cs R n)), true, noJn, noFz⟩
theorem schema_Set_find_ok (n : Nat) : Good Tryd.prog 32 (schema_Set_find_g (R := R) n) := by
  unfold schema_Set_find_g
  rw [schema_Set_find_e]
  exact Good.fn (cx := schema_Set_find_cx R n) (by kernel_rfl) (AllGood.cons (schema_clone_ok n) (AllGood.cons (slices_IndexFunc_41_ok n) (AllGood.nil))) rfl Tryd.func32 (by kernel_rfl) rfl trivial 2 schema_Set_find_d (by kernel_rfl) (fun x k => by kernel_rfl)
end
end Go.Proofs.YtegknlkeokfghaaDoor.E
set_option linter.unusedVariables false
set_option maxRecDepth 100000
namespace Go.Proofs.YtegknlkeokfghaaDoor.E
open Go.Proofs
noncomputable section
variable {R : Type}
/-! verderer/schema.letter: function 31 -/
@[reducible] def schema_letter_d : Desc := ⟨[(0, .d (.int .u8))], []⟩
def schema_letter_Fi (n : Nat) (a0 : Int) (k0 : Bool → Option R) : Option R :=
  if (decide (a0 ≥ 97)) = true then (k0 (decide (a0 ≤ 122))) else (k0 false)
def schema_letter_F {R : Type} := lazyN (@schema_letter_Fi R)
theorem schema_letter_e : @schema_letter_F R = @schema_letter_Fi R := lazyN_eq _
def schema_letter_g (n : Nat) : Gx R := typed 1 schema_letter_d fun x k => schema_letter_F n x.1 (fun y0 => k (.a (.c (.b y0))) [])
def schema_letter_cs (R : Type) (n : Nat) : List (Nat × Gx R) := []
def schema_letter_cx (R : Type) (n : Nat) : Cx R := ⟨Tryd.prog, Gof (schema_letter_cs R n), noDs, noDx, noLp, drawP Tryd.prog (Gof (schema_letter_cs R n)), false, noJn, noFz⟩
theorem schema_letter_ok (n : Nat) : Good Tryd.prog 31 (schema_letter_g (R := R) n) := by
  unfold schema_letter_g
  rw [schema_letter_e]
  exact Good.fn (cx := schema_letter_cx R n) (by kernel_rfl) (AllGood.nil) rfl Tryd.func31 (by kernel_rfl) rfl trivial 1 schema_letter_d (by kernel_rfl) (fun x k => by kernel_rfl)
end
end Go.Proofs.YtegknlkeokfghaaDoor.E
set_option linter.unusedVariables false
set_option maxRecDepth 100000
namespace Go.Proofs.YtegknlkeokfghaaDoor.E
open Go.Proofs
noncomputable section
variable {R : Type}
/-! verderer/schema.Name: function 15 -/
def schema_Name_ds : Nat → Desc
  | 4 => ⟨[(0, .d .str), (19, .d (.int .i64)), (20, .d (.int .i64))], []⟩
  | _ => ⟨[], []⟩
def schema_Name_dx : Nat → List (X × Desc)
  | 4 => [(.r, ⟨[(2, .d .bool)], []⟩), (.e 0, ⟨[], []⟩)]
  | _ => []
def schema_Name_s4 (n : Nat) (x0 : ByteArray) (x1 : Int) (x2 : Int) (k1 : ByteArray → Int → Int → Option R) (qr : Bool → Option R) (qe0 : Option R) : Option R :=
  if (decide (x2 < x1)) = true then (if (0 : Int) ≤ x2 then if x2 < (x0.size : Int) then (schema_letter_F n (byteAt x0 x2) (fun y2 => if (!y2) = true then (if (decide ((byteAt x0 x2) < 48)) = true then (if ((byteAt x0 x2) != 95) = true then (qr false) else (k1 x0 x1 (IntKind.i64.wrap (x2 + 1)))) else (if (decide ((byteAt x0 x2) > 57)) = true then (if ((byteAt x0 x2) != 95) = true then (qr false) else (k1 x0 x1 (IntKind.i64.wrap (x2 + 1)))) else (k1 x0 x1 (IntKind.i64.wrap (x2 + 1))))) else (k1 x0 x1 (IntKind.i64.wrap (x2 + 1))))) else none else none) else qe0
def schema_Name_l4 (n : Nat) (a : (schema_Name_ds 4).D) (k1 : (schema_Name_ds 4).D → Option R) (k2 : exK R (schema_Name_dx 4)) : Option R :=
  schema_Name_s4 n a.1 a.2.1 a.2.2.1 (fun x0 x1 x2 => k1 (x0, x1, x2, ())) (fun x0 => k2.1 (x0, ())) (k2.2.1 (()))
@[reducible] def schema_Name_d : Desc := ⟨[(0, .d .str)], []⟩
def schema_Name_Fi (n : Nat) (a0 : ByteArray) (k0 : Bool → Option R) : Option R :=
  if (a0.toList == (⟨#[]⟩ : ByteArray).toList) = true then (k0 false) else (if (decide ((a0.size : Int) > 16)) = true then (k0 false) else (if (0 : Int) ≤ 0 then if 0 < (a0.size : Int) then (schema_letter_F n (byteAt a0 0) (fun y1 => if (!y1) = true then (k0 false) else (runC (schema_Name_l4 n) n (a0, (a0.size : Int), 0, ()) (fun b3 => k0 b3.1, fun b3 => k0 true, ())))) else none else none))
def schema_Name_F {R : Type} := lazyN (@schema_Name_Fi R)
theorem schema_Name_e : @schema_Name_F R = @schema_Name_Fi R := lazyN_eq _
def schema_Name_g (n : Nat) : Gx R := typed 1 schema_Name_d fun x k => schema_Name_F n x.1 (fun y0 => k (.a (.c (.b y0))) [])
def schema_Name_cs (R : Type) (n : Nat) : List (Nat × Gx R) := [(31, schema_letter_g n)]
def schema_Name_lp (n : Nat) : (i : Nat) → (schema_Name_ds i).D → exK R (schema_Name_dx i) → Option R
  | 4, a, k => runC (schema_Name_l4 n) n a k
  | _, _, _ => none
def schema_Name_cx (R : Type) (n : Nat) : Cx R := ⟨Tryd.prog, Gof (schema_Name_cs R n), schema_Name_ds, schema_Name_dx, schema_Name_lp n, drawP Tryd.prog (Gof (schema_Name_cs R n)), false, noJn, noFz⟩
theorem schema_Name_ok (n : Nat) : Good Tryd.prog 15 (schema_Name_g (R := R) n) := by
  unfold schema_Name_g
  rw [schema_Name_e]
  exact Good.fn (cx := schema_Name_cx R n) (by kernel_rfl) (AllGood.cons (schema_letter_ok n) (AllGood.nil)) rfl Tryd.func15 (by kernel_rfl) rfl (by
    have e : fnLoops noJn Tryd.f15 = [((fnLoops noJn Tryd.f15)[0]?).getD (false, .skip)] := by kernel_rfl
    show LoopRuns _ _ (fnLoops noJn _)
    rw [e]
    exact ⟨LoopRun.loop (by kernel_rfl) (i := 4) (m := n) (step := schema_Name_l4 n) (by kernel_rfl) (fun a k1 k2 => by kernel_rfl) (fun _ _ => rfl), trivial⟩) 1 schema_Name_d (by kernel_rfl) (fun x k => by kernel_rfl)
end
end Go.Proofs.YtegknlkeokfghaaDoor.E
set_option linter.unusedVariables false
set_option maxRecDepth 100000
namespace Go.Proofs.YtegknlkeokfghaaDoor.E
open Go.Proofs
noncomputable section
variable {R : Type}
/-! verderer/schema.New: function 17 -/
def schema_New_ds : Nat → Desc
  | 17 => ⟨[(4, .pt 1 0), (6, .pt 3 0), (9, .mp 6), (17, .d (.sl ty24)), (18, .d (.int .i64)), (19, .d (.int .i64)), (36, .pt 3 0), (37, .d .str), (38, .d .bool), (60, .d (.sl ty51)), (61, .d (.int .i64)), (62, .d (.int .i64))], [.arr 24 ty24, .box false 59 [.ow 0], .no, .box false 24 [.d .str, .d (.sl ty51)], .no, .no, .mp .str .bool]⟩
  | 5 => ⟨[(4, .pt 1 0), (17, .d (.sl ty24)), (18, .d (.int .i64)), (19, .d (.int .i64))], [.arr 24 ty24, .box false 59 [.ow 0]]⟩
  | _ => ⟨[], []⟩
def schema_New_dx : Nat → List (X × Desc)
  | 17 => [(.r, ⟨[(2, .np), (3, .d (.int .i64))], []⟩), (.e 1, ⟨[(4, .pt 1 0), (17, .d (.sl ty24)), (18, .d (.int .i64)), (19, .d (.int .i64)), (36, .pt 3 0), (37, .d .str), (38, .d .bool), (77, .pt 7 1), (78, .d (.int .i64)), (79, .d .bool)], [.arr 24 ty24, .box false 59 [.ow 0], .no, .box false 24 [.d .str, .d (.sl ty51)], .no, .no, .no, .box false 51 [.d .str, .d (.int .i64), .d .bool]]⟩), (.e 3, ⟨[(4, .pt 1 0), (17, .d (.sl ty24)), (18, .d (.int .i64)), (19, .d (.int .i64)), (36, .pt 3 0), (37, .d .str), (38, .d .bool)], [.arr 24 ty24, .box false 59 [.ow 0], .no, .box false 24 [.d .str, .d (.sl ty51)]]⟩)]
  | 5 => [(.r, ⟨[(2, .np), (3, .d (.int .i64))], []⟩), (.e 0, ⟨[(4, .pt 1 0)], [.arr 24 ty24, .box false 59 [.ow 0]]⟩)]
  | _ => []
def schema_New_s17 (n : Nat) (x0 : (List ty24.D)) (x1 : Int) (x2 : Int) (x3 : ByteArray) (x4 : Bool) (x5 : (List ty51.D)) (x6 : Int) (x7 : Int) (x8 : (List ty24.D)) (x9 : ByteArray) (x10 : (List ty51.D)) (x11 : (List (ByteArray × Bool))) (k1 : (List ty24.D) → Int → Int → ByteArray → Bool → (List ty51.D) → Int → Int → (List ty24.D) → ByteArray → (List ty51.D) → (List (ByteArray × Bool)) → Option R) (qr : Int → Option R) (qe1 : (List ty24.D) → Int → Int → ByteArray → Bool → Int → Bool → (List ty24.D) → ByteArray → (List ty51.D) → ByteArray → Int → Bool → Option R) (qe3 : (List ty24.D) → Int → Int → ByteArray → Bool → (List ty24.D) → ByteArray → (List ty51.D) → Option R) : Option R :=
  if (decide (x7 < x6)) = true then (if (0 : Int) ≤ x7 ∧ x7 < (x5.length : Int) then (schema_Name_F n ((x5.getD (Int.toNat x7) (Ty.z ty51)).1) (fun y7 => if (!y7) = true then (qr 3) else (if (decide ((x5.getD (Int.toNat x7) (Ty.z ty51)).2.1 < 1)) = true then (qr 11) else (if (decide ((x5.getD (Int.toNat x7) (Ty.z ty51)).2.1 > 3)) = true then (qr 11) else (if (mval (kt := .str) (vt := .bool) x11 ((x5.getD (Int.toNat x7) (Ty.z ty51)).1) false) = true then (qr 4) else (if (x7 == (IntKind.i64.wrap ((x10.length : Int) - 1))) = true then (qe1 x0 x1 x2 x3 x4 ((x5.getD (Int.toNat x7) (Ty.z ty51)).2.1) (decide ((x5.getD (Int.toNat x7) (Ty.z ty51)).2.1 > 3)) x8 x9 x10 ((x5.getD (Int.toNat x7) (Ty.z ty51)).1) ((x5.getD (Int.toNat x7) (Ty.z ty51)).2.1) ((x5.getD (Int.toNat x7) (Ty.z ty51)).2.2.1)) else (k1 x0 x1 x2 x3 x4 x5 x6 (IntKind.i64.wrap (x7 + 1)) x8 x9 x10 (mput (kt := .str) (vt := .bool) x11 ((x5.getD (Int.toNat x7) (Ty.z ty51)).1) true)))))))) else none) else (qe3 x0 x1 x2 x3 x4 x8 x9 x10)
def schema_New_l17 (n : Nat) (a : (schema_New_ds 17).D) (k1 : (schema_New_ds 17).D → Option R) (k2 : exK R (schema_New_dx 17)) : Option R :=
  schema_New_s17 n a.1 a.2.1 a.2.2.1 a.2.2.2.1 a.2.2.2.2.1 a.2.2.2.2.2.1 a.2.2.2.2.2.2.1 a.2.2.2.2.2.2.2.1 a.2.2.2.2.2.2.2.2.1 a.2.2.2.2.2.2.2.2.2.1 a.2.2.2.2.2.2.2.2.2.2.1 a.2.2.2.2.2.2.2.2.2.2.2.1 (fun x0 x1 x2 x3 x4 x5 x6 x7 x8 x9 x10 x11 => k1 (x0, x1, x2, x3, x4, x5, x6, x7, x8, x9, x10, x11, ())) (fun x0 => k2.1 (x0, ())) (fun x0 x1 x2 x3 x4 x5 x6 x7 x8 x9 x10 x11 x12 => k2.2.1 (x0, x1, x2, x3, x4, x5, x6, x7, x8, x9, x10, x11, x12, ())) (fun x0 x1 x2 x3 x4 x5 x6 x7 => k2.2.2.1 (x0, x1, x2, x3, x4, x5, x6, x7, ()))
def schema_New_s5 (n : Nat) (x0 : (List ty24.D)) (x1 : Int) (x2 : Int) (x3 : (List ty24.D)) (k1 : (List ty24.D) → Int → Int → (List ty24.D) → Option R) (qr : Int → Option R) (qe0 : (List ty24.D) → Option R) : Option R :=
  if (decide (x2 < x1)) = true then (if (0 : Int) ≤ x2 ∧ x2 < (x0.length : Int) then (schema_Set_find_F n ((x0.getD (Int.toNat x2) (Ty.z ty24)).1) x3 (fun y1 y2 y3 => schema_Name_F n ((x0.getD (Int.toNat x2) (Ty.z ty24)).1) (fun y4 => if (!y4) = true then (qr 3) else (if (((x0.getD (Int.toNat x2) (Ty.z ty24)).1).toList == (⟨#[116, 101, 110, 97, 110, 116]⟩ : ByteArray).toList) = true then (qr 3) else (if y2 = true then (qr 4) else (if (decide ((((x0.getD (Int.toNat x2) (Ty.z ty24)).2.1).length : Int) > 6)) = true then (qr 9) else (schema_clone_F n (x0.getD (Int.toNat x2) (Ty.z ty24)) (fun y5 y6 => if (List.length y3 + List.length [(y5, y6, ())]) * 40 ≤ 140737488355328 then (runC (schema_New_l17 n) n (x0, x1, x2, (x0.getD (Int.toNat x2) (Ty.z ty24)).1, (((x0.getD (Int.toNat x2) (Ty.z ty24)).1).toList == (⟨#[116, 101, 110, 97, 110, 116]⟩ : ByteArray).toList), (x0.getD (Int.toNat x2) (Ty.z ty24)).2.1, (((x0.getD (Int.toNat x2) (Ty.z ty24)).2.1).length : Int), 0, (y3 ++ [(y5, y6, ())]), (x0.getD (Int.toNat x2) (Ty.z ty24)).1, (x0.getD (Int.toNat x2) (Ty.z ty24)).2.1, [], ()) (fun b8 => qr b8.1, fun b21 => k1 b21.1 b21.2.1 (IntKind.i64.wrap (b21.2.2.1 + 1)) b21.2.2.2.2.2.2.2.1, fun b29 => k1 b29.1 b29.2.1 (IntKind.i64.wrap (b29.2.2.1 + 1)) b29.2.2.2.2.2.1, ())) else none)))))))) else none) else (qe0 x3)
def schema_New_l5 (n : Nat) (a : (schema_New_ds 5).D) (k1 : (schema_New_ds 5).D → Option R) (k2 : exK R (schema_New_dx 5)) : Option R :=
  schema_New_s5 n a.1 a.2.1 a.2.2.1 a.2.2.2.1 (fun x0 x1 x2 x3 => k1 (x0, x1, x2, x3, ())) (fun x0 => k2.1 (x0, ())) (fun x0 => k2.2.1 (x0, ()))
@[reducible] def schema_New_d : Desc := ⟨[(0, .d (.sl ty24))], []⟩
def schema_New_Fi (n : Nat) (a0 : (List ty24.D)) (k0 : Int → Option R) (k1 : Int → (List ty24.D) → Option R) : Option R :=
  if (decide ((a0.length : Int) > 8)) = true then (k0 9) else (runC (schema_New_l5 n) n (a0, (a0.length : Int), 0, ([] : List ty24.D), ()) (fun b30 => k0 b30.1, fun b31 => k1 0 b31.1, ()))
def schema_New_F {R : Type} := lazyN (@schema_New_Fi R)
theorem schema_New_e : @schema_New_F R = @schema_New_Fi R := lazyN_eq _
def schema_New_g (n : Nat) : Gx R := typed 1 schema_New_d fun x k => schema_New_F n x.1 (fun y0 => k (.tu [(.c (.np)), (.c (.i .i64 y0))]) []) (fun y0 y1 => k (.tu [(.c (.pt 0 0)), (.c (.i .i64 y0))]) [(.box false 59 [(.ow 1)]), (.arr 24 ty24 y1)])
def schema_New_cs (R : Type) (n : Nat) : List (Nat × Gx R) := [(15, schema_Name_g n), (32, schema_Set_find_g n), (33, schema_clone_g n)]
def schema_New_lp (n : Nat) : (i : Nat) → (schema_New_ds i).D → exK R (schema_New_dx i) → Option R
  | 17, a, k => runC (schema_New_l17 n) n a k
  | 5, a, k => runC (schema_New_l5 n) n a k
  | _, _, _ => none
def schema_New_cx (R : Type) (n : Nat) : Cx R := ⟨Tryd.prog, Gof (schema_New_cs R n), schema_New_ds, schema_New_dx, schema_New_lp n, drawP Tryd.prog (Gof (schema_New_cs R n)), false, noJn, noFz⟩
theorem schema_New_ok (n : Nat) : Good Tryd.prog 17 (schema_New_g (R := R) n) := by
  unfold schema_New_g
  rw [schema_New_e]
  exact Good.fn (cx := schema_New_cx R n) (by kernel_rfl) (AllGood.cons (schema_Name_ok n) (AllGood.cons (schema_Set_find_ok n) (AllGood.cons (schema_clone_ok n) (AllGood.nil)))) rfl Tryd.func17 (by kernel_rfl) rfl (by
    have e : fnLoops noJn Tryd.f17 = [((fnLoops noJn Tryd.f17)[0]?).getD (false, .skip), ((fnLoops noJn Tryd.f17)[1]?).getD (false, .skip)] := by kernel_rfl
    show LoopRuns _ _ (fnLoops noJn _)
    rw [e]
    exact ⟨LoopRun.loop (by kernel_rfl) (i := 5) (m := n) (step := schema_New_l5 n) (by kernel_rfl) (fun a k1 k2 => by kernel_rfl) (fun _ _ => rfl), ⟨LoopRun.loop (by kernel_rfl) (i := 17) (m := n) (step := schema_New_l17 n) (by kernel_rfl) (fun a k1 k2 => by kernel_rfl) (fun _ _ => rfl), trivial⟩⟩) 1 schema_New_d (by kernel_rfl) (fun x k => by kernel_rfl)
end
end Go.Proofs.YtegknlkeokfghaaDoor.E
set_option linter.unusedVariables false
set_option maxRecDepth 100000
namespace Go.Proofs.YtegknlkeokfghaaDoor.E
open Go.Proofs
noncomputable section
variable {R : Type}
/-! verderer/schema.Line: function 10 -/
def schema_Line_ds : Nat → Desc
  | 6 => ⟨[(5, .d .str), (20, .d (.sl ty51)), (21, .d (.int .i64)), (22, .d (.int .i64))], []⟩
  | _ => ⟨[], []⟩
def schema_Line_dx : Nat → List (X × Desc)
  | 6 => [(.e 0, ⟨[(5, .d .str)], []⟩)]
  | _ => []
def schema_Line_s6 (n : Nat) (x0 : ByteArray) (x1 : (List ty51.D)) (x2 : Int) (x3 : Int) (k1 : ByteArray → (List ty51.D) → Int → Int → Option R) (qe0 : ByteArray → Option R) : Option R :=
  if (decide (x3 < x2)) = true then (if (0 : Int) ≤ x3 ∧ x3 < (x1.length : Int) then (if (⟨#[32]⟩ : ByteArray).size + ((x1.getD (Int.toNat x3) (Ty.z ty51)).1).size ≤ 9223372036854775807 then (if ((⟨#[32]⟩ : ByteArray) ++ (x1.getD (Int.toNat x3) (Ty.z ty51)).1).size + (⟨#[58]⟩ : ByteArray).size ≤ 9223372036854775807 then (schema_word_F n ((x1.getD (Int.toNat x3) (Ty.z ty51)).2.1) (fun y2 => if (((⟨#[32]⟩ : ByteArray) ++ (x1.getD (Int.toNat x3) (Ty.z ty51)).1) ++ (⟨#[58]⟩ : ByteArray)).size + y2.size ≤ 9223372036854775807 then (if x0.size + ((((⟨#[32]⟩ : ByteArray) ++ (x1.getD (Int.toNat x3) (Ty.z ty51)).1) ++ (⟨#[58]⟩ : ByteArray)) ++ y2).size ≤ 9223372036854775807 then (if (x1.getD (Int.toNat x3) (Ty.z ty51)).2.2.1 = true then (if (x0 ++ ((((⟨#[32]⟩ : ByteArray) ++ (x1.getD (Int.toNat x3) (Ty.z ty51)).1) ++ (⟨#[58]⟩ : ByteArray)) ++ y2)).size + (⟨#[63]⟩ : ByteArray).size ≤ 9223372036854775807 then (k1 ((x0 ++ ((((⟨#[32]⟩ : ByteArray) ++ (x1.getD (Int.toNat x3) (Ty.z ty51)).1) ++ (⟨#[58]⟩ : ByteArray)) ++ y2)) ++ (⟨#[63]⟩ : ByteArray)) x1 x2 (IntKind.i64.wrap (x3 + 1))) else none) else (k1 (x0 ++ ((((⟨#[32]⟩ : ByteArray) ++ (x1.getD (Int.toNat x3) (Ty.z ty51)).1) ++ (⟨#[58]⟩ : ByteArray)) ++ y2)) x1 x2 (IntKind.i64.wrap (x3 + 1)))) else none) else none)) else none) else none) else none) else (qe0 x0)
def schema_Line_l6 (n : Nat) (a : (schema_Line_ds 6).D) (k1 : (schema_Line_ds 6).D → Option R) (k2 : exK R (schema_Line_dx 6)) : Option R :=
  schema_Line_s6 n a.1 a.2.1 a.2.2.1 a.2.2.2.1 (fun x0 x1 x2 x3 => k1 (x0, x1, x2, x3, ())) (fun x0 => k2.1 (x0, ()))
@[reducible] def schema_Line_d : Desc := ⟨[(0, .d ty24)], []⟩
def schema_Line_Fi (n : Nat) (a0 : ty24.D) (k0 : ByteArray → Option R) : Option R :=
  schema_New_F n [a0] (fun y1 => if (y1 != 0) = true then (k0 (⟨#[]⟩ : ByteArray)) else (if (⟨#[107, 105, 110, 100, 32]⟩ : ByteArray).size + a0.1.size ≤ 9223372036854775807 then (runC (schema_Line_l6 n) n (((⟨#[107, 105, 110, 100, 32]⟩ : ByteArray) ++ a0.1), a0.2.1, (a0.2.1.length : Int), 0, ()) (fun b3 => k0 b3.1, ())) else none)) (fun y4 y5 => if (y4 != 0) = true then (k0 (⟨#[]⟩ : ByteArray)) else (if (⟨#[107, 105, 110, 100, 32]⟩ : ByteArray).size + a0.1.size ≤ 9223372036854775807 then (runC (schema_Line_l6 n) n (((⟨#[107, 105, 110, 100, 32]⟩ : ByteArray) ++ a0.1), a0.2.1, (a0.2.1.length : Int), 0, ()) (fun b6 => k0 b6.1, ())) else none))
def schema_Line_F {R : Type} := lazyN (@schema_Line_Fi R)
theorem schema_Line_e : @schema_Line_F R = @schema_Line_Fi R := lazyN_eq _
def schema_Line_g (n : Nat) : Gx R := typed 1 schema_Line_d fun x k => schema_Line_F n x.1 (fun y0 => k (.a (.c (.s y0))) [])
def schema_Line_cs (R : Type) (n : Nat) : List (Nat × Gx R) := [(17, schema_New_g n), (26, schema_word_g n)]
def schema_Line_lp (n : Nat) : (i : Nat) → (schema_Line_ds i).D → exK R (schema_Line_dx i) → Option R
  | 6, a, k => runC (schema_Line_l6 n) n a k
  | _, _, _ => none
def schema_Line_cx (R : Type) (n : Nat) : Cx R := ⟨Tryd.prog, Gof (schema_Line_cs R n), schema_Line_ds, schema_Line_dx, schema_Line_lp n, drawP Tryd.prog (Gof (schema_Line_cs R n)), false, noJn, noFz⟩
theorem schema_Line_ok (n : Nat) : Good Tryd.prog 10 (schema_Line_g (R := R) n) := by
  unfold schema_Line_g
  rw [schema_Line_e]
  exact Good.fn (cx := schema_Line_cx R n) (by kernel_rfl) (AllGood.cons (schema_New_ok n) (AllGood.cons (schema_word_ok n) (AllGood.nil))) rfl Tryd.func10 (by kernel_rfl) rfl (by
    have e : fnLoops noJn Tryd.f10 = [((fnLoops noJn Tryd.f10)[0]?).getD (false, .skip)] := by kernel_rfl
    show LoopRuns _ _ (fnLoops noJn _)
    rw [e]
    exact ⟨LoopRun.loop (by kernel_rfl) (i := 6) (m := n) (step := schema_Line_l6 n) (by kernel_rfl) (fun a k1 k2 => by kernel_rfl) (fun _ _ => rfl), trivial⟩) 1 schema_Line_d (by kernel_rfl) (fun x k => by kernel_rfl)
end
end Go.Proofs.YtegknlkeokfghaaDoor.E
set_option linter.unusedVariables false
set_option maxRecDepth 100000
namespace Go.Proofs.YtegknlkeokfghaaDoor.E
open Go.Proofs
noncomputable section
variable {R : Type}
/-! verderer/schema.Read: function 12 -/
def schema_Read_ds : Nat → Desc
  | 3 => ⟨[(0, .d .str), (2, .pt 1 0), (4, .pt 3 0), (8, .ow 4), (9, .d (.int .i64)), (10, .d (.int .i64))], [.arr 51 ty51, .box false 24 [.d .str, .ow 0], .arr 51 ty51, .box false 24 [.d .str, .ow 2], .arr 9 .str]⟩
  | _ => ⟨[], []⟩
def schema_Read_dx : Nat → List (X × Desc)
  | 3 => [(.e 0, ⟨[(0, .d .str), (2, .pt 1 0), (4, .pt 3 0)], [.arr 51 ty51, .box false 24 [.d .str, .ow 0], .arr 51 ty51, .box false 24 [.d .str, .ow 2]]⟩)]
  | _ => []
def schema_Read_s3 (n : Nat) (x0 : ByteArray) (x1 : Int) (x2 : Int) (x3 : (List ty51.D)) (x4 : ByteArray) (x5 : (List ty51.D)) (x6 : ByteArray) (x7 : (List ByteArray)) (k1 : ByteArray → Int → Int → (List ty51.D) → ByteArray → (List ty51.D) → ByteArray → (List ByteArray) → Option R) (qe0 : ByteArray → (List ty51.D) → ByteArray → (List ty51.D) → ByteArray → Option R) : Option R :=
  if (decide (x2 < x1)) = true then (if (0 : Int) ≤ x2 ∧ x2 < (x7.length : Int) then (if (Int.toNat x2) < x7.length then (if (x2 == 0) = true then (k1 x0 x1 (IntKind.i64.wrap (x2 + 1)) x3 x4 x5 x6 x7) else (if (x2 == 1) = true then (k1 x0 x1 (IntKind.i64.wrap (x2 + 1)) x3 x4 x5 (x7.getD (Int.toNat x2) (Ty.z .str)) x7) else (schema_column_F n (x7.getD (Int.toNat x2) (Ty.z .str)) (fun y2 => if (List.length x5 + List.length [y2]) * 32 ≤ 140737488355328 then (k1 x0 x1 (IntKind.i64.wrap (x2 + 1)) x3 x4 (x5 ++ [y2]) x6 x7) else none)))) else none) else none) else (qe0 x0 x3 x4 x5 x6)
def schema_Read_l3 (n : Nat) (a : (schema_Read_ds 3).D) (k1 : (schema_Read_ds 3).D → Option R) (k2 : exK R (schema_Read_dx 3)) : Option R :=
  schema_Read_s3 n a.1 a.2.1 a.2.2.1 a.2.2.2.1 a.2.2.2.2.1 a.2.2.2.2.2.1 a.2.2.2.2.2.2.1 a.2.2.2.2.2.2.2.1 (fun x0 x1 x2 x3 x4 x5 x6 x7 => k1 (x0, x1, x2, x3, x4, x5, x6, x7, ())) (fun x0 x1 x2 x3 x4 => k2.1 (x0, x1, x2, x3, x4, ()))
@[reducible] def schema_Read_d : Desc := ⟨[(0, .d .str)], []⟩
def schema_Read_Fi (n : Nat) (a0 : ByteArray) (k0 : ByteArray → Int → (List ty51.D) → Option R) : Option R :=
  strings_Split_F n a0 (⟨#[32]⟩ : ByteArray) (fun y1 => runC (schema_Read_l3 n) n (a0, (y1.length : Int), 0, ([] : List ty51.D), (⟨#[]⟩ : ByteArray), ([] : List ty51.D), (⟨#[]⟩ : ByteArray), y1, ()) (fun b7 => if (b7.1.toList == (⟨#[]⟩ : ByteArray).toList) = true then (k0 (⟨#[]⟩ : ByteArray) 7 ([] : List ty51.D)) else (schema_Line_F n (b7.2.2.2.2.1, b7.2.2.2.1, ()) (fun y8 => if (!(y8.toList == b7.1.toList)) = true then (k0 (⟨#[]⟩ : ByteArray) 7 ([] : List ty51.D)) else (k0 b7.2.2.2.2.1 0 b7.2.2.2.1))), ()))
def schema_Read_F {R : Type} := lazyN (@schema_Read_Fi R)
theorem schema_Read_e : @schema_Read_F R = @schema_Read_Fi R := lazyN_eq _
def schema_Read_g (n : Nat) : Gx R := typed 1 schema_Read_d fun x k => schema_Read_F n x.1 (fun y0 y1 y2 => k (.tu [(.ag [(.s y0), (.ow 0)]), (.c (.i .i64 y1))]) [(.arr 51 ty51 y2)])
def schema_Read_cs (R : Type) (n : Nat) : List (Nat × Gx R) := [(10, schema_Line_g n), (28, strings_Split_g n), (29, schema_column_g n)]
def schema_Read_lp (n : Nat) : (i : Nat) → (schema_Read_ds i).D → exK R (schema_Read_dx i) → Option R
  | 3, a, k => runC (schema_Read_l3 n) n a k
  | _, _, _ => none
def schema_Read_cx (R : Type) (n : Nat) : Cx R := ⟨Tryd.prog, Gof (schema_Read_cs R n), schema_Read_ds, schema_Read_dx, schema_Read_lp n, drawP Tryd.prog (Gof (schema_Read_cs R n)), false, noJn, noFz⟩
theorem schema_Read_ok (n : Nat) : Good Tryd.prog 12 (schema_Read_g (R := R) n) := by
  unfold schema_Read_g
  rw [schema_Read_e]
  exact Good.fn (cx := schema_Read_cx R n) (by kernel_rfl) (AllGood.cons (schema_Line_ok n) (AllGood.cons (strings_Split_ok n) (AllGood.cons (schema_column_ok n) (AllGood.nil)))) rfl Tryd.func12 (by kernel_rfl) rfl (by
    have e : fnLoops noJn Tryd.f12 = [((fnLoops noJn Tryd.f12)[0]?).getD (false, .skip)] := by kernel_rfl
    show LoopRuns _ _ (fnLoops noJn _)
    rw [e]
    exact ⟨LoopRun.loop (by kernel_rfl) (i := 3) (m := n) (step := schema_Read_l3 n) (by kernel_rfl) (fun a k1 k2 => by kernel_rfl) (fun _ _ => rfl), trivial⟩) 1 schema_Read_d (by kernel_rfl) (fun x k => by kernel_rfl)
end
end Go.Proofs.YtegknlkeokfghaaDoor.E
set_option linter.unusedVariables false
set_option maxRecDepth 100000
namespace Go.Proofs.YtegknlkeokfghaaDoor.E
open Go.Proofs
noncomputable section
variable {R : Type}
/-! (*verderer/schema.Set).Columns: function 22 -/
@[reducible] def schema_Set_Columns_d : Desc := ⟨[(0, .np), (1, .d .str)], []⟩
def schema_Set_Columns_Fi (n : Nat) (a0 : ByteArray) (k0 : Int → (List ty51.D) → Option R) : Option R :=
  k0 1 ([] : List ty51.D)
def schema_Set_Columns_F {R : Type} := lazyN (@schema_Set_Columns_Fi R)
theorem schema_Set_Columns_e : @schema_Set_Columns_F R = @schema_Set_Columns_Fi R := lazyN_eq _
def schema_Set_Columns_g (n : Nat) : Gx R := typed 2 schema_Set_Columns_d fun x k => schema_Set_Columns_F n x.1 (fun y0 y1 => k (.tu [(.c (.ow 0)), (.c (.i .i64 y0))]) [(.arr 51 ty51 y1)])
def schema_Set_Columns_cs (R : Type) (n : Nat) : List (Nat × Gx R) := []
def schema_Set_Columns_cx (R : Type) (n : Nat) : Cx R := ⟨Tryd.prog, Gof (schema_Set_Columns_cs R n), noDs, noDx, noLp, drawP Tryd.prog (Gof (schema_Set_Columns_cs R n)), false, noJn, noFz⟩
theorem schema_Set_Columns_ok (n : Nat) : Good Tryd.prog 22 (schema_Set_Columns_g (R := R) n) := by
  unfold schema_Set_Columns_g
  rw [schema_Set_Columns_e]
  exact Good.fn (cx := schema_Set_Columns_cx R n) (by kernel_rfl) (AllGood.nil) rfl Tryd.func22 (by kernel_rfl) rfl trivial 2 schema_Set_Columns_d (by kernel_rfl) (fun x k => by kernel_rfl)
end
end Go.Proofs.YtegknlkeokfghaaDoor.E
set_option linter.unusedVariables false
set_option maxRecDepth 100000
namespace Go.Proofs.YtegknlkeokfghaaDoor.E
open Go.Proofs
noncomputable section
variable {R : Type}
/-! verderer/schema.text: function 35 -/
@[reducible] def schema_text_d : Desc := ⟨[(0, .d .str)], []⟩
def schema_text_Fi (n : Nat) (a0 : ByteArray) (k0 : ty51.D → Option R) : Option R :=
  k0 (a0, 3, false, ())
def schema_text_F {R : Type} := lazyN (@schema_text_Fi R)
theorem schema_text_e : @schema_text_F R = @schema_text_Fi R := lazyN_eq _
def schema_text_g (n : Nat) : Gx R := typed 1 schema_text_d fun x k => schema_text_F n x.1 (fun y0 => k (.a (encA ty51 y0)) [])
def schema_text_cs (R : Type) (n : Nat) : List (Nat × Gx R) := []
def schema_text_cx (R : Type) (n : Nat) : Cx R := ⟨Tryd.prog, Gof (schema_text_cs R n), noDs, noDx, noLp, drawP Tryd.prog (Gof (schema_text_cs R n)), false, noJn, noFz⟩
theorem schema_text_ok (n : Nat) : Good Tryd.prog 35 (schema_text_g (R := R) n) := by
  unfold schema_text_g
  rw [schema_text_e]
  exact Good.fn (cx := schema_text_cx R n) (by kernel_rfl) (AllGood.nil) rfl Tryd.func35 (by kernel_rfl) rfl trivial 1 schema_text_d (by kernel_rfl) (fun x k => by kernel_rfl)
end
end Go.Proofs.YtegknlkeokfghaaDoor.E
set_option linter.unusedVariables false
set_option maxRecDepth 100000
namespace Go.Proofs.YtegknlkeokfghaaDoor.E
open Go.Proofs
noncomputable section
variable {R : Type}
/-! (*verderer/schema.Set).Find: function 20 -/
@[reducible] def schema_Set_Find_d : Desc := ⟨[(0, .pt 0 0), (1, .d .str)], [.box true 59 [.ow 1], .arr 24 ty24]⟩
def schema_Set_Find_Fi (n : Nat) (a0 : ByteArray) (a1 : (List ty24.D)) (k0 : ty24.D → Int → (List ty24.D) → Option R) : Option R :=
  schema_Set_find_F n a0 a1 (fun y1 y2 y3 => if (!y2) = true then (k0 ((⟨#[]⟩ : ByteArray), ([] : List ty51.D), ()) 20 y3) else (k0 y1 0 y3))
def schema_Set_Find_F {R : Type} := lazyN (@schema_Set_Find_Fi R)
theorem schema_Set_Find_e : @schema_Set_Find_F R = @schema_Set_Find_Fi R := lazyN_eq _
def schema_Set_Find_g (n : Nat) : Gx R := typed 2 schema_Set_Find_d fun x k => schema_Set_Find_F n x.1 x.2.1 (fun y0 y1 y2 => k (.tu [(encA ty24 y0), (.c (.i .i64 y1))]) [(.box true 59 [(.ow 1)]), (.arr 24 ty24 y2)])
def schema_Set_Find_cs (R : Type) (n : Nat) : List (Nat × Gx R) := [(32, schema_Set_find_g n)]
def schema_Set_Find_cx (R : Type) (n : Nat) : Cx R := ⟨Tryd.prog, Gof (schema_Set_Find_cs R n), noDs, noDx, noLp, drawP Tryd.prog (Gof (schema_Set_Find_cs R n)), true, noJn, noFz⟩
theorem schema_Set_Find_ok (n : Nat) : Good Tryd.prog 20 (schema_Set_Find_g (R := R) n) := by
  unfold schema_Set_Find_g
  rw [schema_Set_Find_e]
  exact Good.fn (cx := schema_Set_Find_cx R n) (by kernel_rfl) (AllGood.cons (schema_Set_find_ok n) (AllGood.nil)) rfl Tryd.func20 (by kernel_rfl) rfl trivial 2 schema_Set_Find_d (by kernel_rfl) (fun x k => by kernel_rfl)
end
end Go.Proofs.YtegknlkeokfghaaDoor.E
set_option linter.unusedVariables false
set_option maxRecDepth 100000
namespace Go.Proofs.YtegknlkeokfghaaDoor.E
open Go.Proofs
noncomputable section
variable {R : Type}
/-! (*verderer/schema.Set).Columns: function 22 -/
@[reducible] def schema_Set_Columns_v1_d : Desc := ⟨[(0, .pt 0 0), (1, .d .str)], [.box true 59 [.ow 1], .arr 24 ty24]⟩
def schema_Set_Columns_v1_Fi (n : Nat) (a0 : ByteArray) (a1 : (List ty24.D)) (k0 : Int → (List ty24.D) → (List ty51.D) → Option R) : Option R :=
  if (a0.toList == (⟨#[116, 101, 110, 97, 110, 116]⟩ : ByteArray).toList) = true then (schema_text_F n (⟨#[110, 97, 109, 101]⟩ : ByteArray) (fun y1 => schema_text_F n (⟨#[112, 97, 114, 101, 110, 116]⟩ : ByteArray) (fun y2 => k0 0 a1 [y1, y2]))) else (schema_Set_Find_F n a0 a1 (fun y3 y4 y5 => if (y4 != 0) = true then (k0 y4 y5 ([] : List ty51.D)) else (schema_text_F n (⟨#[115, 112, 97, 99, 101]⟩ : ByteArray) (fun y6 => schema_text_F n (⟨#[110, 97, 109, 101]⟩ : ByteArray) (fun y7 => if (List.length [y6, y7] + List.length y3.2.1) * 32 ≤ 140737488355328 then (k0 0 y5 ([y6, y7] ++ y3.2.1)) else none)))))
def schema_Set_Columns_v1_F {R : Type} := lazyN (@schema_Set_Columns_v1_Fi R)
theorem schema_Set_Columns_v1_e : @schema_Set_Columns_v1_F R = @schema_Set_Columns_v1_Fi R := lazyN_eq _
def schema_Set_Columns_v1_g (n : Nat) : Gx R := typed 2 schema_Set_Columns_v1_d fun x k => schema_Set_Columns_v1_F n x.1 x.2.1 (fun y0 y1 y2 => k (.tu [(.c (.ow 2)), (.c (.i .i64 y0))]) [(.box true 59 [(.ow 1)]), (.arr 24 ty24 y1), (.arr 51 ty51 y2)])
def schema_Set_Columns_v1_cs (R : Type) (n : Nat) : List (Nat × Gx R) := [(20, schema_Set_Find_g n), (35, schema_text_g n)]
def schema_Set_Columns_v1_cx (R : Type) (n : Nat) : Cx R := ⟨Tryd.prog, Gof (schema_Set_Columns_v1_cs R n), noDs, noDx, noLp, drawP Tryd.prog (Gof (schema_Set_Columns_v1_cs R n)), false, noJn, noFz⟩
theorem schema_Set_Columns_v1_ok (n : Nat) : Good Tryd.prog 22 (schema_Set_Columns_v1_g (R := R) n) := by
  unfold schema_Set_Columns_v1_g
  rw [schema_Set_Columns_v1_e]
  exact Good.fn (cx := schema_Set_Columns_v1_cx R n) (by kernel_rfl) (AllGood.cons (schema_Set_Find_ok n) (AllGood.cons (schema_text_ok n) (AllGood.nil))) rfl Tryd.func22 (by kernel_rfl) rfl trivial 2 schema_Set_Columns_v1_d (by kernel_rfl) (fun x k => by kernel_rfl)
end
end Go.Proofs.YtegknlkeokfghaaDoor.E
set_option linter.unusedVariables false
set_option maxRecDepth 100000
namespace Go.Proofs.YtegknlkeokfghaaDoor.E
open Go.Proofs
noncomputable section
variable {R : Type}
/-! verderer/verdererlaw07.known: function 9 -/
@[reducible] def verdererlaw07_known_d : Desc := ⟨[], []⟩
def verdererlaw07_known_Fi (n : Nat) (k0 : Bool → Option R) : Option R :=
  schema_Read_F n (⟨#[107, 105, 110, 100, 32, 112, 111, 100, 32, 105, 109, 97, 103, 101, 58, 116, 101, 120, 116, 32, 99, 112, 117, 58, 105, 110, 116, 32, 110, 111, 100, 101, 58, 116, 101, 120, 116, 63]⟩ : ByteArray) (fun y1 y2 y3 => schema_New_F n [(y1, y3, ())] (fun y4 => schema_Set_Columns_F n (⟨#[112, 111, 100]⟩ : ByteArray) (fun y5 y6 => if (y2 == 0) = true then (if ((y3.length : Int) == 3) = true then (if (0 : Int) ≤ 2 ∧ 2 < (y3.length : Int) then (if (y3.getD (Int.toNat 2) (Ty.z ty51)).2.2.1 = true then (if (y4 == 0) = true then (if (y5 == 0) = true then (if ((y6.length : Int) == 5) = true then (if (0 : Int) ≤ 0 ∧ 0 < (y6.length : Int) then (if (Int.toNat 0) < y6.length then (if (((y6.getD (Int.toNat 0) (Ty.z ty51)).1).toList == (⟨#[115, 112, 97, 99, 101]⟩ : ByteArray).toList) = true then (schema_Line_F n (y1, y3, ()) (fun y7 => if (y7.toList == (⟨#[107, 105, 110, 100, 32, 112, 111, 100, 32, 105, 109, 97, 103, 101, 58, 116, 101, 120, 116, 32, 99, 112, 117, 58, 105, 110, 116, 32, 110, 111, 100, 101, 58, 116, 101, 120, 116, 63]⟩ : ByteArray).toList) = true then (schema_Name_F n (⟨#[97, 95, 49]⟩ : ByteArray) (fun y8 => if y8 = true then (schema_Name_F n (⟨#[49, 97]⟩ : ByteArray) (fun y9 => k0 (!y9))) else (k0 false))) else (k0 false))) else (k0 false)) else none) else none) else (k0 false)) else (k0 false)) else (k0 false)) else (k0 false)) else none) else (k0 false)) else (k0 false))) (fun y10 y11 => schema_Set_Columns_v1_F n (⟨#[112, 111, 100]⟩ : ByteArray) y11 (fun y12 y13 y14 => if (y2 == 0) = true then (if ((y3.length : Int) == 3) = true then (if (0 : Int) ≤ 2 ∧ 2 < (y3.length : Int) then (if (y3.getD (Int.toNat 2) (Ty.z ty51)).2.2.1 = true then (if (y10 == 0) = true then (if (y12 == 0) = true then (if ((y14.length : Int) == 5) = true then (if (0 : Int) ≤ 0 ∧ 0 < (y14.length : Int) then (if (Int.toNat 0) < y14.length then (if (((y14.getD (Int.toNat 0) (Ty.z ty51)).1).toList == (⟨#[115, 112, 97, 99, 101]⟩ : ByteArray).toList) = true then (schema_Line_F n (y1, y3, ()) (fun y15 => if (y15.toList == (⟨#[107, 105, 110, 100, 32, 112, 111, 100, 32, 105, 109, 97, 103, 101, 58, 116, 101, 120, 116, 32, 99, 112, 117, 58, 105, 110, 116, 32, 110, 111, 100, 101, 58, 116, 101, 120, 116, 63]⟩ : ByteArray).toList) = true then (schema_Name_F n (⟨#[97, 95, 49]⟩ : ByteArray) (fun y16 => if y16 = true then (schema_Name_F n (⟨#[49, 97]⟩ : ByteArray) (fun y17 => k0 (!y17))) else (k0 false))) else (k0 false))) else (k0 false)) else none) else none) else (k0 false)) else (k0 false)) else (k0 false)) else (k0 false)) else none) else (k0 false)) else (k0 false))))
def verdererlaw07_known_F {R : Type} := lazyN (@verdererlaw07_known_Fi R)
theorem verdererlaw07_known_e : @verdererlaw07_known_F R = @verdererlaw07_known_Fi R := lazyN_eq _
def verdererlaw07_known_g (n : Nat) : Gx R := typed 0 verdererlaw07_known_d fun x k => verdererlaw07_known_F n (fun y0 => k (.a (.c (.b y0))) [])
def verdererlaw07_known_cs (R : Type) (n : Nat) : List (Nat × Gx R) := [(10, schema_Line_g n), (12, schema_Read_g n), (15, schema_Name_g n), (17, schema_New_g n), (22, orG (schema_Set_Columns_g n) (schema_Set_Columns_v1_g n) (fits 2 schema_Set_Columns_d))]
def verdererlaw07_known_cx (R : Type) (n : Nat) : Cx R := ⟨Tryd.prog, Gof (verdererlaw07_known_cs R n), noDs, noDx, noLp, drawP Tryd.prog (Gof (verdererlaw07_known_cs R n)), false, noJn, noFz⟩
theorem verdererlaw07_known_ok (n : Nat) : Good Tryd.prog 9 (verdererlaw07_known_g (R := R) n) := by
  unfold verdererlaw07_known_g
  rw [verdererlaw07_known_e]
  exact Good.fn (cx := verdererlaw07_known_cx R n) (by kernel_rfl) (AllGood.cons (schema_Line_ok n) (AllGood.cons (schema_Read_ok n) (AllGood.cons (schema_Name_ok n) (AllGood.cons (schema_New_ok n) (AllGood.cons (Good.or (schema_Set_Columns_ok n) (schema_Set_Columns_v1_ok n) _) (AllGood.nil)))))) rfl Tryd.func9 (by kernel_rfl) rfl trivial 0 verdererlaw07_known_d (by kernel_rfl) (fun x k => by kernel_rfl)
end
end Go.Proofs.YtegknlkeokfghaaDoor.E
set_option linter.unusedVariables false
set_option maxRecDepth 100000
namespace Go.Proofs.YtegknlkeokfghaaDoor.E
open Go.Proofs
noncomputable section
variable {R : Type}
/-! verderer/verdererref07.Name: function 16 -/
def verdererref07_Name_ds : Nat → Desc
  | 4 => ⟨[(0, .d .str), (3, .d (.int .i64))], []⟩
  | _ => ⟨[], []⟩
def verdererref07_Name_dx : Nat → List (X × Desc)
  | 4 => [(.r, ⟨[(2, .d .bool)], []⟩), (.e 0, ⟨[], []⟩)]
  | _ => []
def verdererref07_Name_s4 (n : Nat) (x0 : ByteArray) (x1 : Int) (k1 : ByteArray → Int → Option R) (qr : Bool → Option R) (qe0 : Option R) : Option R :=
  if (decide (x1 < (x0.size : Int))) = true then (if (0 : Int) ≤ x1 then if x1 < (x0.size : Int) then (if (decide ((byteAt x0 x1) ≥ 97)) = true then (if (!(decide ((byteAt x0 x1) ≤ 122))) = true then (if (x1 == 0) = true then (qr false) else (if ((byteAt x0 x1) != 95) = true then (if (decide ((byteAt x0 x1) < 48)) = true then (qr false) else (if (decide ((byteAt x0 x1) > 57)) = true then (qr false) else (k1 x0 (IntKind.i64.wrap (x1 + 1))))) else (k1 x0 (IntKind.i64.wrap (x1 + 1))))) else (k1 x0 (IntKind.i64.wrap (x1 + 1)))) else (if (x1 == 0) = true then (qr false) else (if ((byteAt x0 x1) != 95) = true then (if (decide ((byteAt x0 x1) < 48)) = true then (qr false) else (if (decide ((byteAt x0 x1) > 57)) = true then (qr false) else (k1 x0 (IntKind.i64.wrap (x1 + 1))))) else (k1 x0 (IntKind.i64.wrap (x1 + 1)))))) else none else none) else qe0
def verdererref07_Name_l4 (n : Nat) (a : (verdererref07_Name_ds 4).D) (k1 : (verdererref07_Name_ds 4).D → Option R) (k2 : exK R (verdererref07_Name_dx 4)) : Option R :=
  verdererref07_Name_s4 n a.1 a.2.1 (fun x0 x1 => k1 (x0, x1, ())) (fun x0 => k2.1 (x0, ())) (k2.2.1 (()))
@[reducible] def verdererref07_Name_d : Desc := ⟨[(0, .d .str)], []⟩
def verdererref07_Name_Fi (n : Nat) (a0 : ByteArray) (k0 : Bool → Option R) : Option R :=
  if (decide ((a0.size : Int) < 1)) = true then (k0 false) else (if (decide ((a0.size : Int) > 16)) = true then (k0 false) else (runC (verdererref07_Name_l4 n) n (a0, 0, ()) (fun b1 => k0 b1.1, fun b1 => k0 true, ())))
def verdererref07_Name_F {R : Type} := lazyN (@verdererref07_Name_Fi R)
theorem verdererref07_Name_e : @verdererref07_Name_F R = @verdererref07_Name_Fi R := lazyN_eq _
def verdererref07_Name_g (n : Nat) : Gx R := typed 1 verdererref07_Name_d fun x k => verdererref07_Name_F n x.1 (fun y0 => k (.a (.c (.b y0))) [])
def verdererref07_Name_cs (R : Type) (n : Nat) : List (Nat × Gx R) := []
def verdererref07_Name_lp (n : Nat) : (i : Nat) → (verdererref07_Name_ds i).D → exK R (verdererref07_Name_dx i) → Option R
  | 4, a, k => runC (verdererref07_Name_l4 n) n a k
  | _, _, _ => none
def verdererref07_Name_cx (R : Type) (n : Nat) : Cx R := ⟨Tryd.prog, Gof (verdererref07_Name_cs R n), verdererref07_Name_ds, verdererref07_Name_dx, verdererref07_Name_lp n, drawP Tryd.prog (Gof (verdererref07_Name_cs R n)), false, noJn, noFz⟩
theorem verdererref07_Name_ok (n : Nat) : Good Tryd.prog 16 (verdererref07_Name_g (R := R) n) := by
  unfold verdererref07_Name_g
  rw [verdererref07_Name_e]
  exact Good.fn (cx := verdererref07_Name_cx R n) (by kernel_rfl) (AllGood.nil) rfl Tryd.func16 (by kernel_rfl) rfl (by
    have e : fnLoops noJn Tryd.f16 = [((fnLoops noJn Tryd.f16)[0]?).getD (false, .skip)] := by kernel_rfl
    show LoopRuns _ _ (fnLoops noJn _)
    rw [e]
    exact ⟨LoopRun.loop (by kernel_rfl) (i := 4) (m := n) (step := verdererref07_Name_l4 n) (by kernel_rfl) (fun a k1 k2 => by kernel_rfl) (fun _ _ => rfl), trivial⟩) 1 verdererref07_Name_d (by kernel_rfl) (fun x k => by kernel_rfl)
end
end Go.Proofs.YtegknlkeokfghaaDoor.E
set_option linter.unusedVariables false
set_option maxRecDepth 100000
namespace Go.Proofs.YtegknlkeokfghaaDoor.E
open Go.Proofs
noncomputable section
variable {R : Type}
/-! verderer/verdererref07.columns: function 34 -/
def verdererref07_columns_ds : Nat → Desc
  | 11 => ⟨[(0, .d (.sl ty51)), (3, .d (.int .i64)), (4, .d (.int .i64)), (28, .d (.sl ty51)), (29, .d (.int .i64)), (32, .d (.int .i64)), (33, .d .bool)], []⟩
  | 4 => ⟨[(0, .d (.sl ty51)), (3, .d (.int .i64))], []⟩
  | _ => ⟨[], []⟩
def verdererref07_columns_dx : Nat → List (X × Desc)
  | 11 => [(.r, ⟨[(2, .d (.int .i64))], []⟩), (.e 2, ⟨[(0, .d (.sl ty51)), (3, .d (.int .i64)), (28, .d (.sl ty51)), (29, .d (.int .i64)), (32, .d (.int .i64)), (33, .d .bool)], []⟩)]
  | 4 => [(.r, ⟨[(2, .d (.int .i64))], []⟩), (.e 0, ⟨[], []⟩)]
  | _ => []
def verdererref07_columns_s11 (n : Nat) (x0 : (List ty51.D)) (x1 : Int) (x2 : Int) (x3 : (List ty51.D)) (x4 : Int) (x5 : Int) (x6 : Bool) (k1 : (List ty51.D) → Int → Int → (List ty51.D) → Int → Int → Bool → Option R) (qr : Int → Option R) (qe2 : (List ty51.D) → Int → (List ty51.D) → Int → Int → Bool → Option R) : Option R :=
  if (decide (x2 < x1)) = true then (if (0 : Int) ≤ x2 ∧ x2 < (x0.length : Int) then (if (0 : Int) ≤ x1 ∧ x1 < (x0.length : Int) then (if (((x0.getD (Int.toNat x2) (Ty.z ty51)).1).toList == ((x0.getD (Int.toNat x1) (Ty.z ty51)).1).toList) = true then (qr 4) else (k1 x0 x1 (IntKind.i64.wrap (x2 + 1)) x3 x4 x5 x6)) else none) else none) else (qe2 x0 x1 x3 x4 x5 x6)
def verdererref07_columns_l11 (n : Nat) (a : (verdererref07_columns_ds 11).D) (k1 : (verdererref07_columns_ds 11).D → Option R) (k2 : exK R (verdererref07_columns_dx 11)) : Option R :=
  verdererref07_columns_s11 n a.1 a.2.1 a.2.2.1 a.2.2.2.1 a.2.2.2.2.1 a.2.2.2.2.2.1 a.2.2.2.2.2.2.1 (fun x0 x1 x2 x3 x4 x5 x6 => k1 (x0, x1, x2, x3, x4, x5, x6, ())) (fun x0 => k2.1 (x0, ())) (fun x0 x1 x2 x3 x4 x5 => k2.2.1 (x0, x1, x2, x3, x4, x5, ()))
def verdererref07_columns_s4 (n : Nat) (x0 : (List ty51.D)) (x1 : Int) (k1 : (List ty51.D) → Int → Option R) (qr : Int → Option R) (qe0 : Option R) : Option R :=
  if (decide (x1 < (x0.length : Int))) = true then (if (0 : Int) ≤ x1 ∧ x1 < (x0.length : Int) then (verdererref07_Name_F n ((x0.getD (Int.toNat x1) (Ty.z ty51)).1) (fun y1 => if (!y1) = true then (qr 3) else (if (0 : Int) ≤ x1 ∧ x1 < (x0.length : Int) then (if (decide ((x0.getD (Int.toNat x1) (Ty.z ty51)).2.1 < 1)) = true then (qr 11) else (if (0 : Int) ≤ x1 ∧ x1 < (x0.length : Int) then (if (decide ((x0.getD (Int.toNat x1) (Ty.z ty51)).2.1 > 3)) = true then (qr 11) else (runC (verdererref07_columns_l11 n) n (x0, x1, 0, x0, x1, (x0.getD (Int.toNat x1) (Ty.z ty51)).2.1, (decide ((x0.getD (Int.toNat x1) (Ty.z ty51)).2.1 > 3)), ()) (fun b2 => qr b2.1, fun b8 => k1 b8.1 (IntKind.i64.wrap (b8.2.1 + 1)), ()))) else none)) else none))) else none) else qe0
def verdererref07_columns_l4 (n : Nat) (a : (verdererref07_columns_ds 4).D) (k1 : (verdererref07_columns_ds 4).D → Option R) (k2 : exK R (verdererref07_columns_dx 4)) : Option R :=
  verdererref07_columns_s4 n a.1 a.2.1 (fun x0 x1 => k1 (x0, x1, ())) (fun x0 => k2.1 (x0, ())) (k2.2.1 (()))
@[reducible] def verdererref07_columns_d : Desc := ⟨[(0, .d (.sl ty51))], []⟩
def verdererref07_columns_Fi (n : Nat) (a0 : (List ty51.D)) (k0 : Int → Option R) : Option R :=
  if (decide ((a0.length : Int) > 6)) = true then (k0 9) else (runC (verdererref07_columns_l4 n) n (a0, 0, ()) (fun b9 => k0 b9.1, fun b9 => k0 0, ()))
def verdererref07_columns_F {R : Type} := lazyN (@verdererref07_columns_Fi R)
theorem verdererref07_columns_e : @verdererref07_columns_F R = @verdererref07_columns_Fi R := lazyN_eq _
def verdererref07_columns_g (n : Nat) : Gx R := typed 1 verdererref07_columns_d fun x k => verdererref07_columns_F n x.1 (fun y0 => k (.a (.c (.i .i64 y0))) [])
def verdererref07_columns_cs (R : Type) (n : Nat) : List (Nat × Gx R) := [(16, verdererref07_Name_g n)]
def verdererref07_columns_lp (n : Nat) : (i : Nat) → (verdererref07_columns_ds i).D → exK R (verdererref07_columns_dx i) → Option R
  | 11, a, k => runC (verdererref07_columns_l11 n) n a k
  | 4, a, k => runC (verdererref07_columns_l4 n) n a k
  | _, _, _ => none
def verdererref07_columns_cx (R : Type) (n : Nat) : Cx R := ⟨Tryd.prog, Gof (verdererref07_columns_cs R n), verdererref07_columns_ds, verdererref07_columns_dx, verdererref07_columns_lp n, drawP Tryd.prog (Gof (verdererref07_columns_cs R n)), false, noJn, noFz⟩
theorem verdererref07_columns_ok (n : Nat) : Good Tryd.prog 34 (verdererref07_columns_g (R := R) n) := by
  unfold verdererref07_columns_g
  rw [verdererref07_columns_e]
  exact Good.fn (cx := verdererref07_columns_cx R n) (by kernel_rfl) (AllGood.cons (verdererref07_Name_ok n) (AllGood.nil)) rfl Tryd.func34 (by kernel_rfl) rfl (by
    have e : fnLoops noJn Tryd.f34 = [((fnLoops noJn Tryd.f34)[0]?).getD (false, .skip), ((fnLoops noJn Tryd.f34)[1]?).getD (false, .skip)] := by kernel_rfl
    show LoopRuns _ _ (fnLoops noJn _)
    rw [e]
    exact ⟨LoopRun.loop (by kernel_rfl) (i := 4) (m := n) (step := verdererref07_columns_l4 n) (by kernel_rfl) (fun a k1 k2 => by kernel_rfl) (fun _ _ => rfl), ⟨LoopRun.loop (by kernel_rfl) (i := 11) (m := n) (step := verdererref07_columns_l11 n) (by kernel_rfl) (fun a k1 k2 => by kernel_rfl) (fun _ _ => rfl), trivial⟩⟩) 1 verdererref07_columns_d (by kernel_rfl) (fun x k => by kernel_rfl)
end
end Go.Proofs.YtegknlkeokfghaaDoor.E
set_option linter.unusedVariables false
set_option maxRecDepth 100000
namespace Go.Proofs.YtegknlkeokfghaaDoor.E
open Go.Proofs
noncomputable section
variable {R : Type}
/-! verderer/verdererref07.Check: function 18 -/
def verdererref07_Check_ds : Nat → Desc
  | 9 => ⟨[(0, .d (.sl ty24)), (3, .d (.int .i64)), (4, .d (.int .i64)), (23, .d (.sl ty24)), (24, .d (.int .i64)), (27, .d .str), (28, .d .bool)], []⟩
  | 4 => ⟨[(0, .d (.sl ty24)), (3, .d (.int .i64))], []⟩
  | _ => ⟨[], []⟩
def verdererref07_Check_dx : Nat → List (X × Desc)
  | 9 => [(.r, ⟨[(2, .d (.int .i64))], []⟩), (.e 2, ⟨[(0, .d (.sl ty24)), (3, .d (.int .i64)), (23, .d (.sl ty24)), (24, .d (.int .i64)), (27, .d .str), (28, .d .bool)], []⟩)]
  | 4 => [(.r, ⟨[(2, .d (.int .i64))], []⟩), (.e 0, ⟨[], []⟩)]
  | _ => []
def verdererref07_Check_s9 (n : Nat) (x0 : (List ty24.D)) (x1 : Int) (x2 : Int) (x3 : (List ty24.D)) (x4 : Int) (x5 : ByteArray) (x6 : Bool) (k1 : (List ty24.D) → Int → Int → (List ty24.D) → Int → ByteArray → Bool → Option R) (qr : Int → Option R) (qe2 : (List ty24.D) → Int → (List ty24.D) → Int → ByteArray → Bool → Option R) : Option R :=
  if (decide (x2 < x1)) = true then (if (0 : Int) ≤ x2 ∧ x2 < (x0.length : Int) then (if (0 : Int) ≤ x1 ∧ x1 < (x0.length : Int) then (if (((x0.getD (Int.toNat x2) (Ty.z ty24)).1).toList == ((x0.getD (Int.toNat x1) (Ty.z ty24)).1).toList) = true then (qr 4) else (k1 x0 x1 (IntKind.i64.wrap (x2 + 1)) x3 x4 x5 x6)) else none) else none) else (qe2 x0 x1 x3 x4 x5 x6)
def verdererref07_Check_l9 (n : Nat) (a : (verdererref07_Check_ds 9).D) (k1 : (verdererref07_Check_ds 9).D → Option R) (k2 : exK R (verdererref07_Check_dx 9)) : Option R :=
  verdererref07_Check_s9 n a.1 a.2.1 a.2.2.1 a.2.2.2.1 a.2.2.2.2.1 a.2.2.2.2.2.1 a.2.2.2.2.2.2.1 (fun x0 x1 x2 x3 x4 x5 x6 => k1 (x0, x1, x2, x3, x4, x5, x6, ())) (fun x0 => k2.1 (x0, ())) (fun x0 x1 x2 x3 x4 x5 => k2.2.1 (x0, x1, x2, x3, x4, x5, ()))
def verdererref07_Check_s4 (n : Nat) (x0 : (List ty24.D)) (x1 : Int) (k1 : (List ty24.D) → Int → Option R) (qr : Int → Option R) (qe0 : Option R) : Option R :=
  if (decide (x1 < (x0.length : Int))) = true then (if (0 : Int) ≤ x1 ∧ x1 < (x0.length : Int) then (verdererref07_Name_F n ((x0.getD (Int.toNat x1) (Ty.z ty24)).1) (fun y1 => if (!y1) = true then (qr 3) else (if (0 : Int) ≤ x1 ∧ x1 < (x0.length : Int) then (if (((x0.getD (Int.toNat x1) (Ty.z ty24)).1).toList == (⟨#[116, 101, 110, 97, 110, 116]⟩ : ByteArray).toList) = true then (qr 3) else (runC (verdererref07_Check_l9 n) n (x0, x1, 0, x0, x1, (x0.getD (Int.toNat x1) (Ty.z ty24)).1, (((x0.getD (Int.toNat x1) (Ty.z ty24)).1).toList == (⟨#[116, 101, 110, 97, 110, 116]⟩ : ByteArray).toList), ()) (fun b2 => qr b2.1, fun b8 => if (0 : Int) ≤ b8.2.1 ∧ b8.2.1 < (b8.1.length : Int) then (verdererref07_columns_F n ((b8.1.getD (Int.toNat b8.2.1) (Ty.z ty24)).2.1) (fun y9 => if (y9 != 0) = true then (qr y9) else (k1 b8.1 (IntKind.i64.wrap (b8.2.1 + 1))))) else none, ()))) else none))) else none) else qe0
def verdererref07_Check_l4 (n : Nat) (a : (verdererref07_Check_ds 4).D) (k1 : (verdererref07_Check_ds 4).D → Option R) (k2 : exK R (verdererref07_Check_dx 4)) : Option R :=
  verdererref07_Check_s4 n a.1 a.2.1 (fun x0 x1 => k1 (x0, x1, ())) (fun x0 => k2.1 (x0, ())) (k2.2.1 (()))
@[reducible] def verdererref07_Check_d : Desc := ⟨[(0, .d (.sl ty24))], []⟩
def verdererref07_Check_Fi (n : Nat) (a0 : (List ty24.D)) (k0 : Int → Option R) : Option R :=
  if (decide ((a0.length : Int) > 8)) = true then (k0 9) else (runC (verdererref07_Check_l4 n) n (a0, 0, ()) (fun b10 => k0 b10.1, fun b10 => k0 0, ()))
def verdererref07_Check_F {R : Type} := lazyN (@verdererref07_Check_Fi R)
theorem verdererref07_Check_e : @verdererref07_Check_F R = @verdererref07_Check_Fi R := lazyN_eq _
def verdererref07_Check_g (n : Nat) : Gx R := typed 1 verdererref07_Check_d fun x k => verdererref07_Check_F n x.1 (fun y0 => k (.a (.c (.i .i64 y0))) [])
def verdererref07_Check_cs (R : Type) (n : Nat) : List (Nat × Gx R) := [(16, verdererref07_Name_g n), (34, verdererref07_columns_g n)]
def verdererref07_Check_lp (n : Nat) : (i : Nat) → (verdererref07_Check_ds i).D → exK R (verdererref07_Check_dx i) → Option R
  | 9, a, k => runC (verdererref07_Check_l9 n) n a k
  | 4, a, k => runC (verdererref07_Check_l4 n) n a k
  | _, _, _ => none
def verdererref07_Check_cx (R : Type) (n : Nat) : Cx R := ⟨Tryd.prog, Gof (verdererref07_Check_cs R n), verdererref07_Check_ds, verdererref07_Check_dx, verdererref07_Check_lp n, drawP Tryd.prog (Gof (verdererref07_Check_cs R n)), false, noJn, noFz⟩
theorem verdererref07_Check_ok (n : Nat) : Good Tryd.prog 18 (verdererref07_Check_g (R := R) n) := by
  unfold verdererref07_Check_g
  rw [verdererref07_Check_e]
  exact Good.fn (cx := verdererref07_Check_cx R n) (by kernel_rfl) (AllGood.cons (verdererref07_Name_ok n) (AllGood.cons (verdererref07_columns_ok n) (AllGood.nil))) rfl Tryd.func18 (by kernel_rfl) rfl (by
    have e : fnLoops noJn Tryd.f18 = [((fnLoops noJn Tryd.f18)[0]?).getD (false, .skip), ((fnLoops noJn Tryd.f18)[1]?).getD (false, .skip)] := by kernel_rfl
    show LoopRuns _ _ (fnLoops noJn _)
    rw [e]
    exact ⟨LoopRun.loop (by kernel_rfl) (i := 4) (m := n) (step := verdererref07_Check_l4 n) (by kernel_rfl) (fun a k1 k2 => by kernel_rfl) (fun _ _ => rfl), ⟨LoopRun.loop (by kernel_rfl) (i := 9) (m := n) (step := verdererref07_Check_l9 n) (by kernel_rfl) (fun a k1 k2 => by kernel_rfl) (fun _ _ => rfl), trivial⟩⟩) 1 verdererref07_Check_d (by kernel_rfl) (fun x k => by kernel_rfl)
end
end Go.Proofs.YtegknlkeokfghaaDoor.E
set_option linter.unusedVariables false
set_option maxRecDepth 100000
namespace Go.Proofs.YtegknlkeokfghaaDoor.E
open Go.Proofs
noncomputable section
variable {R : Type}
/-! verderer/verdererref07.kind: function 27 -/
@[reducible] def verdererref07_kind_d : Desc := ⟨[(0, .d (.int .i64))], []⟩
def verdererref07_kind_Fi (n : Nat) (a0 : Int) (k0 : ByteArray → Option R) : Option R :=
  if (0 : Int) ≤ a0 ∧ a0 < ([(⟨#[]⟩ : ByteArray), (⟨#[98, 111, 111, 108]⟩ : ByteArray), (⟨#[105, 110, 116]⟩ : ByteArray), (⟨#[116, 101, 120, 116]⟩ : ByteArray)].length : Int) then (if (Int.toNat a0) < [(⟨#[]⟩ : ByteArray), (⟨#[98, 111, 111, 108]⟩ : ByteArray), (⟨#[105, 110, 116]⟩ : ByteArray), (⟨#[116, 101, 120, 116]⟩ : ByteArray)].length then (k0 ([(⟨#[]⟩ : ByteArray), (⟨#[98, 111, 111, 108]⟩ : ByteArray), (⟨#[105, 110, 116]⟩ : ByteArray), (⟨#[116, 101, 120, 116]⟩ : ByteArray)].getD (Int.toNat a0) (Ty.z .str))) else none) else none
def verdererref07_kind_F {R : Type} := lazyN (@verdererref07_kind_Fi R)
theorem verdererref07_kind_e : @verdererref07_kind_F R = @verdererref07_kind_Fi R := lazyN_eq _
def verdererref07_kind_g (n : Nat) : Gx R := typed 1 verdererref07_kind_d fun x k => verdererref07_kind_F n x.1 (fun y0 => k (.a (.c (.s y0))) [])
def verdererref07_kind_cs (R : Type) (n : Nat) : List (Nat × Gx R) := []
def verdererref07_kind_cx (R : Type) (n : Nat) : Cx R := ⟨Tryd.prog, Gof (verdererref07_kind_cs R n), noDs, noDx, noLp, drawP Tryd.prog (Gof (verdererref07_kind_cs R n)), false, noJn, noFz⟩
theorem verdererref07_kind_ok (n : Nat) : Good Tryd.prog 27 (verdererref07_kind_g (R := R) n) := by
  unfold verdererref07_kind_g
  rw [verdererref07_kind_e]
  exact Good.fn (cx := verdererref07_kind_cx R n) (by kernel_rfl) (AllGood.nil) rfl Tryd.func27 (by kernel_rfl) rfl trivial 1 verdererref07_kind_d (by kernel_rfl) (fun x k => by kernel_rfl)
end
end Go.Proofs.YtegknlkeokfghaaDoor.E
set_option linter.unusedVariables false
set_option maxRecDepth 100000
namespace Go.Proofs.YtegknlkeokfghaaDoor.E
open Go.Proofs
noncomputable section
variable {R : Type}
/-! verderer/verdererref07.Line: function 11 -/
def verdererref07_Line_ds : Nat → Desc
  | 5 => ⟨[(1, .pt 0 0), (3, .d .str), (4, .d (.int .i64))], [.box false 24 [.d .str, .d (.sl ty51)]]⟩
  | _ => ⟨[], []⟩
def verdererref07_Line_dx : Nat → List (X × Desc)
  | 5 => [(.e 0, ⟨[(3, .d .str)], []⟩)]
  | _ => []
def verdererref07_Line_s5 (n : Nat) (x0 : ByteArray) (x1 : Int) (x2 : ByteArray) (x3 : (List ty51.D)) (k1 : ByteArray → Int → ByteArray → (List ty51.D) → Option R) (qe0 : ByteArray → Option R) : Option R :=
  if (decide (x1 < (x3.length : Int))) = true then (if x0.size + (⟨#[32]⟩ : ByteArray).size ≤ 9223372036854775807 then (if (0 : Int) ≤ x1 ∧ x1 < (x3.length : Int) then (if (x0 ++ (⟨#[32]⟩ : ByteArray)).size + ((x3.getD (Int.toNat x1) (Ty.z ty51)).1).size ≤ 9223372036854775807 then (if ((x0 ++ (⟨#[32]⟩ : ByteArray)) ++ (x3.getD (Int.toNat x1) (Ty.z ty51)).1).size + (⟨#[58]⟩ : ByteArray).size ≤ 9223372036854775807 then (if (0 : Int) ≤ x1 ∧ x1 < (x3.length : Int) then (verdererref07_kind_F n ((x3.getD (Int.toNat x1) (Ty.z ty51)).2.1) (fun y2 => if (((x0 ++ (⟨#[32]⟩ : ByteArray)) ++ (x3.getD (Int.toNat x1) (Ty.z ty51)).1) ++ (⟨#[58]⟩ : ByteArray)).size + y2.size ≤ 9223372036854775807 then (if (0 : Int) ≤ x1 ∧ x1 < (x3.length : Int) then (if (x3.getD (Int.toNat x1) (Ty.z ty51)).2.2.1 = true then (if ((((x0 ++ (⟨#[32]⟩ : ByteArray)) ++ (x3.getD (Int.toNat x1) (Ty.z ty51)).1) ++ (⟨#[58]⟩ : ByteArray)) ++ y2).size + (⟨#[63]⟩ : ByteArray).size ≤ 9223372036854775807 then (k1 (((((x0 ++ (⟨#[32]⟩ : ByteArray)) ++ (x3.getD (Int.toNat x1) (Ty.z ty51)).1) ++ (⟨#[58]⟩ : ByteArray)) ++ y2) ++ (⟨#[63]⟩ : ByteArray)) (IntKind.i64.wrap (x1 + 1)) x2 x3) else none) else (k1 ((((x0 ++ (⟨#[32]⟩ : ByteArray)) ++ (x3.getD (Int.toNat x1) (Ty.z ty51)).1) ++ (⟨#[58]⟩ : ByteArray)) ++ y2) (IntKind.i64.wrap (x1 + 1)) x2 x3)) else none) else none)) else none) else none) else none) else none) else none) else (qe0 x0)
def verdererref07_Line_l5 (n : Nat) (a : (verdererref07_Line_ds 5).D) (k1 : (verdererref07_Line_ds 5).D → Option R) (k2 : exK R (verdererref07_Line_dx 5)) : Option R :=
  verdererref07_Line_s5 n a.1 a.2.1 a.2.2.1 a.2.2.2.1 (fun x0 x1 x2 x3 => k1 (x0, x1, x2, x3, ())) (fun x0 => k2.1 (x0, ()))
@[reducible] def verdererref07_Line_d : Desc := ⟨[(0, .d ty24)], []⟩
def verdererref07_Line_Fi (n : Nat) (a0 : ty24.D) (k0 : ByteArray → Option R) : Option R :=
  verdererref07_Check_F n [a0] (fun y1 => if (y1 != 0) = true then (k0 (⟨#[]⟩ : ByteArray)) else (if (⟨#[107, 105, 110, 100, 32]⟩ : ByteArray).size + a0.1.size ≤ 9223372036854775807 then (runC (verdererref07_Line_l5 n) n (((⟨#[107, 105, 110, 100, 32]⟩ : ByteArray) ++ a0.1), 0, a0.1, a0.2.1, ()) (fun b3 => k0 b3.1, ())) else none))
def verdererref07_Line_F {R : Type} := lazyN (@verdererref07_Line_Fi R)
theorem verdererref07_Line_e : @verdererref07_Line_F R = @verdererref07_Line_Fi R := lazyN_eq _
def verdererref07_Line_g (n : Nat) : Gx R := typed 1 verdererref07_Line_d fun x k => verdererref07_Line_F n x.1 (fun y0 => k (.a (.c (.s y0))) [])
def verdererref07_Line_cs (R : Type) (n : Nat) : List (Nat × Gx R) := [(18, verdererref07_Check_g n), (27, verdererref07_kind_g n)]
def verdererref07_Line_lp (n : Nat) : (i : Nat) → (verdererref07_Line_ds i).D → exK R (verdererref07_Line_dx i) → Option R
  | 5, a, k => runC (verdererref07_Line_l5 n) n a k
  | _, _, _ => none
def verdererref07_Line_cx (R : Type) (n : Nat) : Cx R := ⟨Tryd.prog, Gof (verdererref07_Line_cs R n), verdererref07_Line_ds, verdererref07_Line_dx, verdererref07_Line_lp n, drawP Tryd.prog (Gof (verdererref07_Line_cs R n)), false, noJn, noFz⟩
theorem verdererref07_Line_ok (n : Nat) : Good Tryd.prog 11 (verdererref07_Line_g (R := R) n) := by
  unfold verdererref07_Line_g
  rw [verdererref07_Line_e]
  exact Good.fn (cx := verdererref07_Line_cx R n) (by kernel_rfl) (AllGood.cons (verdererref07_Check_ok n) (AllGood.cons (verdererref07_kind_ok n) (AllGood.nil))) rfl Tryd.func11 (by kernel_rfl) rfl (by
    have e : fnLoops noJn Tryd.f11 = [((fnLoops noJn Tryd.f11)[0]?).getD (false, .skip)] := by kernel_rfl
    show LoopRuns _ _ (fnLoops noJn _)
    rw [e]
    exact ⟨LoopRun.loop (by kernel_rfl) (i := 5) (m := n) (step := verdererref07_Line_l5 n) (by kernel_rfl) (fun a k1 k2 => by kernel_rfl) (fun _ _ => rfl), trivial⟩) 1 verdererref07_Line_d (by kernel_rfl) (fun x k => by kernel_rfl)
end
end Go.Proofs.YtegknlkeokfghaaDoor.E
set_option linter.unusedVariables false
set_option maxRecDepth 100000
namespace Go.Proofs.YtegknlkeokfghaaDoor.E
open Go.Proofs
noncomputable section
variable {R : Type}
/-! verderer/verdererref07.Same: function 13 -/
def verdererref07_Same_ds : Nat → Desc
  | 4 => ⟨[(2, .pt 0 0), (3, .pt 1 0), (5, .d (.int .i64))], [.box false 24 [.d .str, .d (.sl ty51)], .box false 24 [.d .str, .d (.sl ty51)]]⟩
  | _ => ⟨[], []⟩
def verdererref07_Same_dx : Nat → List (X × Desc)
  | 4 => [(.r, ⟨[(4, .d .bool)], []⟩), (.e 0, ⟨[], []⟩)]
  | _ => []
def verdererref07_Same_s4 (n : Nat) (x0 : Int) (x1 : ByteArray) (x2 : (List ty51.D)) (x3 : ByteArray) (x4 : (List ty51.D)) (k1 : Int → ByteArray → (List ty51.D) → ByteArray → (List ty51.D) → Option R) (qr : Bool → Option R) (qe0 : Option R) : Option R :=
  if (decide (x0 < (x2.length : Int))) = true then (if (0 : Int) ≤ x0 ∧ x0 < (x2.length : Int) then (if (0 : Int) ≤ x0 ∧ x0 < (x4.length : Int) then (if (!((((x2.getD (Int.toNat x0) (Ty.z ty51)).1).toList == ((x4.getD (Int.toNat x0) (Ty.z ty51)).1).toList) && (((x2.getD (Int.toNat x0) (Ty.z ty51)).2.1 == (x4.getD (Int.toNat x0) (Ty.z ty51)).2.1) && (((x2.getD (Int.toNat x0) (Ty.z ty51)).2.2.1 == (x4.getD (Int.toNat x0) (Ty.z ty51)).2.2.1) && true)))) = true then (qr false) else (k1 (IntKind.i64.wrap (x0 + 1)) x1 x2 x3 x4)) else none) else none) else qe0
def verdererref07_Same_l4 (n : Nat) (a : (verdererref07_Same_ds 4).D) (k1 : (verdererref07_Same_ds 4).D → Option R) (k2 : exK R (verdererref07_Same_dx 4)) : Option R :=
  verdererref07_Same_s4 n a.1 a.2.1 a.2.2.1 a.2.2.2.1 a.2.2.2.2.1 (fun x0 x1 x2 x3 x4 => k1 (x0, x1, x2, x3, x4, ())) (fun x0 => k2.1 (x0, ())) (k2.2.1 (()))
@[reducible] def verdererref07_Same_d : Desc := ⟨[(0, .d ty24), (1, .d ty24)], []⟩
def verdererref07_Same_Fi (n : Nat) (a0 : ty24.D) (a1 : ty24.D) (k0 : Bool → Option R) : Option R :=
  if (!(a0.1.toList == a1.1.toList)) = true then (k0 false) else (if ((a0.2.1.length : Int) != (a1.2.1.length : Int)) = true then (k0 false) else (runC (verdererref07_Same_l4 n) n (0, a0.1, a0.2.1, a1.1, a1.2.1, ()) (fun b1 => k0 b1.1, fun b1 => k0 true, ())))
def verdererref07_Same_F {R : Type} := lazyN (@verdererref07_Same_Fi R)
theorem verdererref07_Same_e : @verdererref07_Same_F R = @verdererref07_Same_Fi R := lazyN_eq _
def verdererref07_Same_g (n : Nat) : Gx R := typed 2 verdererref07_Same_d fun x k => verdererref07_Same_F n x.1 x.2.1 (fun y0 => k (.a (.c (.b y0))) [])
def verdererref07_Same_cs (R : Type) (n : Nat) : List (Nat × Gx R) := []
def verdererref07_Same_lp (n : Nat) : (i : Nat) → (verdererref07_Same_ds i).D → exK R (verdererref07_Same_dx i) → Option R
  | 4, a, k => runC (verdererref07_Same_l4 n) n a k
  | _, _, _ => none
def verdererref07_Same_cx (R : Type) (n : Nat) : Cx R := ⟨Tryd.prog, Gof (verdererref07_Same_cs R n), verdererref07_Same_ds, verdererref07_Same_dx, verdererref07_Same_lp n, drawP Tryd.prog (Gof (verdererref07_Same_cs R n)), false, noJn, noFz⟩
theorem verdererref07_Same_ok (n : Nat) : Good Tryd.prog 13 (verdererref07_Same_g (R := R) n) := by
  unfold verdererref07_Same_g
  rw [verdererref07_Same_e]
  exact Good.fn (cx := verdererref07_Same_cx R n) (by kernel_rfl) (AllGood.nil) rfl Tryd.func13 (by kernel_rfl) rfl (by
    have e : fnLoops noJn Tryd.f13 = [((fnLoops noJn Tryd.f13)[0]?).getD (false, .skip)] := by kernel_rfl
    show LoopRuns _ _ (fnLoops noJn _)
    rw [e]
    exact ⟨LoopRun.loop (by kernel_rfl) (i := 4) (m := n) (step := verdererref07_Same_l4 n) (by kernel_rfl) (fun a k1 k2 => by kernel_rfl) (fun _ _ => rfl), trivial⟩) 2 verdererref07_Same_d (by kernel_rfl) (fun x k => by kernel_rfl)
end
end Go.Proofs.YtegknlkeokfghaaDoor.E
set_option linter.unusedVariables false
set_option maxRecDepth 100000
namespace Go.Proofs.YtegknlkeokfghaaDoor.E
open Go.Proofs
noncomputable section
variable {R : Type}
/-! verderer/verdererref07.Split: function 30 -/
def verdererref07_Split_ds : Nat → Desc
  | 3 => ⟨[(0, .d .str), (1, .d (.int .u8)), (5, .ow 1), (6, .d (.int .i64))], [.no, .arr 9 .str]⟩
  | _ => ⟨[], []⟩
def verdererref07_Split_dx : Nat → List (X × Desc)
  | 3 => [(.e 0, ⟨[(5, .ow 1)], [.no, .arr 9 .str]⟩)]
  | _ => []
def verdererref07_Split_s3 (n : Nat) (x0 : ByteArray) (x1 : Int) (x2 : Int) (x3 : (List ByteArray)) (k1 : ByteArray → Int → Int → (List ByteArray) → Option R) (qe0 : (List ByteArray) → Option R) : Option R :=
  if (decide (x2 < (x0.size : Int))) = true then (if (0 : Int) ≤ x2 then if x2 < (x0.size : Int) then (if ((byteAt x0 x2) == x1) = true then (if (List.length x3 + List.length [(⟨#[]⟩ : ByteArray)]) * 16 ≤ 140737488355328 then (k1 x0 x1 (IntKind.i64.wrap (x2 + 1)) (x3 ++ [(⟨#[]⟩ : ByteArray)])) else none) else (if (0 : Int) ≤ (IntKind.i64.wrap ((x3.length : Int) - 1)) ∧ (IntKind.i64.wrap ((x3.length : Int) - 1)) < (x3.length : Int) then (if (Int.toNat (IntKind.i64.wrap ((x3.length : Int) - 1))) < x3.length then (if (0 : Int) ≤ (IntKind.i64.wrap (x2 + 1)) ∧ (IntKind.i64.wrap (x2 + 1)) ≤ (x0.size : Int) then (if (0 : Int) ≤ x2 ∧ x2 ≤ ((Int.toNat (IntKind.i64.wrap (x2 + 1))) : Int) then (if (x3.getD (Int.toNat (IntKind.i64.wrap ((x3.length : Int) - 1))) (Ty.z .str)).size + (x0.extract (Int.toNat x2) (Int.toNat (IntKind.i64.wrap (x2 + 1)))).size ≤ 9223372036854775807 then (if (0 : Int) ≤ (IntKind.i64.wrap ((x3.length : Int) - 1)) ∧ (IntKind.i64.wrap ((x3.length : Int) - 1)) < (x3.length : Int) then (if (Int.toNat (IntKind.i64.wrap ((x3.length : Int) - 1))) < x3.length then (k1 x0 x1 (IntKind.i64.wrap (x2 + 1)) (x3.set (Int.toNat (IntKind.i64.wrap ((x3.length : Int) - 1))) ((x3.getD (Int.toNat (IntKind.i64.wrap ((x3.length : Int) - 1))) (Ty.z .str)) ++ (x0.extract (Int.toNat x2) (Int.toNat (IntKind.i64.wrap (x2 + 1))))))) else none) else none) else none) else none) else none) else none) else none)) else none else none) else (qe0 x3)
def verdererref07_Split_l3 (n : Nat) (a : (verdererref07_Split_ds 3).D) (k1 : (verdererref07_Split_ds 3).D → Option R) (k2 : exK R (verdererref07_Split_dx 3)) : Option R :=
  verdererref07_Split_s3 n a.1 a.2.1 a.2.2.1 a.2.2.2.1 (fun x0 x1 x2 x3 => k1 (x0, x1, x2, x3, ())) (fun x0 => k2.1 (x0, ()))
@[reducible] def verdererref07_Split_d : Desc := ⟨[(0, .d .str), (1, .d (.int .u8))], []⟩
def verdererref07_Split_Fi (n : Nat) (a0 : ByteArray) (a1 : Int) (k0 : (List ByteArray) → Option R) : Option R :=
  runC (verdererref07_Split_l3 n) n (a0, a1, 0, [(⟨#[]⟩ : ByteArray)], ()) (fun b1 => k0 b1.1, ())
def verdererref07_Split_F {R : Type} := lazyN (@verdererref07_Split_Fi R)
theorem verdererref07_Split_e : @verdererref07_Split_F R = @verdererref07_Split_Fi R := lazyN_eq _
def verdererref07_Split_g (n : Nat) : Gx R := typed 2 verdererref07_Split_d fun x k => verdererref07_Split_F n x.1 x.2.1 (fun y0 => k (.a (.c (.ow 0))) [(.arr 9 .str y0)])
def verdererref07_Split_cs (R : Type) (n : Nat) : List (Nat × Gx R) := []
def verdererref07_Split_lp (n : Nat) : (i : Nat) → (verdererref07_Split_ds i).D → exK R (verdererref07_Split_dx i) → Option R
  | 3, a, k => runC (verdererref07_Split_l3 n) n a k
  | _, _, _ => none
def verdererref07_Split_cx (R : Type) (n : Nat) : Cx R := ⟨Tryd.prog, Gof (verdererref07_Split_cs R n), verdererref07_Split_ds, verdererref07_Split_dx, verdererref07_Split_lp n, drawP Tryd.prog (Gof (verdererref07_Split_cs R n)), false, noJn, noFz⟩
theorem verdererref07_Split_ok (n : Nat) : Good Tryd.prog 30 (verdererref07_Split_g (R := R) n) := by
  unfold verdererref07_Split_g
  rw [verdererref07_Split_e]
  exact Good.fn (cx := verdererref07_Split_cx R n) (by kernel_rfl) (AllGood.nil) rfl Tryd.func30 (by kernel_rfl) rfl (by
    have e : fnLoops noJn Tryd.f30 = [((fnLoops noJn Tryd.f30)[0]?).getD (false, .skip)] := by kernel_rfl
    show LoopRuns _ _ (fnLoops noJn _)
    rw [e]
    exact ⟨LoopRun.loop (by kernel_rfl) (i := 3) (m := n) (step := verdererref07_Split_l3 n) (by kernel_rfl) (fun a k1 k2 => by kernel_rfl) (fun _ _ => rfl), trivial⟩) 2 verdererref07_Split_d (by kernel_rfl) (fun x k => by kernel_rfl)
end
end Go.Proofs.YtegknlkeokfghaaDoor.E
set_option linter.unusedVariables false
set_option maxRecDepth 100000
namespace Go.Proofs.YtegknlkeokfghaaDoor.E
open Go.Proofs
noncomputable section
variable {R : Type}
/-! verderer/verdererref07.Read: function 14 -/
def verdererref07_Read_ds : Nat → Desc
  | 15 => ⟨[(0, .d .str), (2, .pt 1 0), (4, .ow 2), (5, .pt 4 0), (6, .d (.int .i64)), (7, .ow 6), (8, .pt 7 0), (9, .d (.int .i64))], [.arr 51 ty51, .box false 24 [.d .str, .ow 0], .arr 9 .str, .no, .box false 24 [.d .str, .ow 5], .arr 51 ty51, .arr 9 .str, .box false 51 [.d .str, .d (.int .i64), .d .bool]]⟩
  | 8 => ⟨[(0, .d .str), (2, .pt 1 0), (4, .ow 2), (5, .pt 4 0), (6, .d (.int .i64))], [.arr 51 ty51, .box false 24 [.d .str, .ow 0], .arr 9 .str, .no, .box false 24 [.d .str, .ow 5], .arr 51 ty51]⟩
  | _ => ⟨[], []⟩
def verdererref07_Read_dx : Nat → List (X × Desc)
  | 15 => [(.e 2, ⟨[(0, .d .str), (2, .pt 1 0), (4, .ow 2), (5, .pt 4 0), (6, .d (.int .i64)), (8, .pt 7 0)], [.arr 51 ty51, .box false 24 [.d .str, .ow 0], .arr 9 .str, .no, .box false 24 [.d .str, .ow 5], .arr 51 ty51, .no, .box false 51 [.d .str, .d (.int .i64), .d .bool]]⟩)]
  | 8 => [(.r, ⟨[(2, .pt 1 0), (3, .d (.int .i64))], [.no, .box false 24 [.d .str, .ow 7], .no, .no, .no, .no, .no, .arr 51 ty51]⟩), (.e 0, ⟨[(0, .d .str), (2, .pt 1 0), (5, .pt 4 0)], [.arr 51 ty51, .box false 24 [.d .str, .ow 0], .no, .no, .box false 24 [.d .str, .ow 5], .arr 51 ty51]⟩)]
  | _ => []
def verdererref07_Read_s15 (n : Nat) (x0 : ByteArray) (x1 : Int) (x2 : Int) (x3 : (List ty51.D)) (x4 : ByteArray) (x5 : (List ByteArray)) (x6 : ByteArray) (x7 : (List ty51.D)) (x8 : (List ByteArray)) (x9 : ByteArray) (x10 : Int) (x11 : Bool) (k1 : ByteArray → Int → Int → (List ty51.D) → ByteArray → (List ByteArray) → ByteArray → (List ty51.D) → (List ByteArray) → ByteArray → Int → Bool → Option R) (qe2 : ByteArray → Int → (List ty51.D) → ByteArray → (List ByteArray) → ByteArray → (List ty51.D) → ByteArray → Int → Bool → Option R) : Option R :=
  if (decide (x2 ≤ 3)) = true then (if (0 : Int) ≤ 1 ∧ 1 < (x8.length : Int) then (if (Int.toNat 1) < x8.length then (verdererref07_kind_F n x2 (fun y3 => if ((x8.getD (Int.toNat 1) (Ty.z .str)).toList == y3.toList) = true then (if (0 : Int) ≤ 1 ∧ 1 < (x8.length : Int) then (if (Int.toNat 1) < x8.length then (verdererref07_kind_F n x2 (fun y4 => if y4.size + (⟨#[63]⟩ : ByteArray).size ≤ 9223372036854775807 then (k1 x0 x1 (IntKind.i64.wrap (x2 + 1)) x3 x4 x5 x6 x7 x8 x9 x2 ((x8.getD (Int.toNat 1) (Ty.z .str)).toList == (y4 ++ (⟨#[63]⟩ : ByteArray)).toList)) else none)) else none) else none) else (if (0 : Int) ≤ 1 ∧ 1 < (x8.length : Int) then (if (Int.toNat 1) < x8.length then (verdererref07_kind_F n x2 (fun y5 => if y5.size + (⟨#[63]⟩ : ByteArray).size ≤ 9223372036854775807 then (if ((x8.getD (Int.toNat 1) (Ty.z .str)).toList == (y5 ++ (⟨#[63]⟩ : ByteArray)).toList) = true then (if (0 : Int) ≤ 1 ∧ 1 < (x8.length : Int) then (if (Int.toNat 1) < x8.length then (verdererref07_kind_F n x2 (fun y6 => if y6.size + (⟨#[63]⟩ : ByteArray).size ≤ 9223372036854775807 then (k1 x0 x1 (IntKind.i64.wrap (x2 + 1)) x3 x4 x5 x6 x7 x8 x9 x2 ((x8.getD (Int.toNat 1) (Ty.z .str)).toList == (y6 ++ (⟨#[63]⟩ : ByteArray)).toList)) else none)) else none) else none) else (k1 x0 x1 (IntKind.i64.wrap (x2 + 1)) x3 x4 x5 x6 x7 x8 x9 x10 x11)) else none)) else none) else none))) else none) else none) else (qe2 x0 x1 x3 x4 x5 x6 x7 x9 x10 x11)
def verdererref07_Read_l15 (n : Nat) (a : (verdererref07_Read_ds 15).D) (k1 : (verdererref07_Read_ds 15).D → Option R) (k2 : exK R (verdererref07_Read_dx 15)) : Option R :=
  verdererref07_Read_s15 n a.1 a.2.1 a.2.2.1 a.2.2.2.1 a.2.2.2.2.1 a.2.2.2.2.2.1 a.2.2.2.2.2.2.1 a.2.2.2.2.2.2.2.1 a.2.2.2.2.2.2.2.2.1 a.2.2.2.2.2.2.2.2.2.1 a.2.2.2.2.2.2.2.2.2.2.1 a.2.2.2.2.2.2.2.2.2.2.2.1 (fun x0 x1 x2 x3 x4 x5 x6 x7 x8 x9 x10 x11 => k1 (x0, x1, x2, x3, x4, x5, x6, x7, x8, x9, x10, x11, ())) (fun x0 x1 x2 x3 x4 x5 x6 x7 x8 x9 => k2.1 (x0, x1, x2, x3, x4, x5, x6, x7, x8, x9, ()))
def verdererref07_Read_s8 (n : Nat) (x0 : ByteArray) (x1 : Int) (x2 : (List ty51.D)) (x3 : ByteArray) (x4 : (List ByteArray)) (x5 : ByteArray) (x6 : (List ty51.D)) (k1 : ByteArray → Int → (List ty51.D) → ByteArray → (List ByteArray) → ByteArray → (List ty51.D) → Option R) (qr : Int → ByteArray → (List ty51.D) → Option R) (qe0 : ByteArray → (List ty51.D) → ByteArray → ByteArray → (List ty51.D) → Option R) : Option R :=
  if (decide (x1 < (x4.length : Int))) = true then (if (0 : Int) ≤ x1 ∧ x1 < (x4.length : Int) then (if (Int.toNat x1) < x4.length then (verdererref07_Split_F n (x4.getD (Int.toNat x1) (Ty.z .str)) 58 (fun y2 => if ((y2.length : Int) != 2) = true then (qr 7 (⟨#[]⟩ : ByteArray) ([] : List ty51.D)) else (if (0 : Int) ≤ 0 ∧ 0 < (y2.length : Int) then (if (Int.toNat 0) < y2.length then (runC (verdererref07_Read_l15 n) n (x0, x1, 1, x2, x3, x4, x5, x6, y2, (y2.getD (Int.toNat 0) (Ty.z .str)), 0, false, ()) (fun b16 => if (List.length b16.2.2.2.2.2.2.1 + List.length [(b16.2.2.2.2.2.2.2.1, b16.2.2.2.2.2.2.2.2.1, b16.2.2.2.2.2.2.2.2.2.1, ())]) * 32 ≤ 140737488355328 then (k1 b16.1 (IntKind.i64.wrap (b16.2.1 + 1)) b16.2.2.1 b16.2.2.2.1 b16.2.2.2.2.1 b16.2.2.2.2.2.1 (b16.2.2.2.2.2.2.1 ++ [(b16.2.2.2.2.2.2.2.1, b16.2.2.2.2.2.2.2.2.1, b16.2.2.2.2.2.2.2.2.2.1, ())])) else none, ())) else none) else none))) else none) else none) else (qe0 x0 x2 x3 x5 x6)
def verdererref07_Read_l8 (n : Nat) (a : (verdererref07_Read_ds 8).D) (k1 : (verdererref07_Read_ds 8).D → Option R) (k2 : exK R (verdererref07_Read_dx 8)) : Option R :=
  verdererref07_Read_s8 n a.1 a.2.1 a.2.2.1 a.2.2.2.1 a.2.2.2.2.1 a.2.2.2.2.2.1 a.2.2.2.2.2.2.1 (fun x0 x1 x2 x3 x4 x5 x6 => k1 (x0, x1, x2, x3, x4, x5, x6, ())) (fun x0 x1 x2 => k2.1 (x0, x1, x2, ())) (fun x0 x1 x2 x3 x4 => k2.2.1 (x0, x1, x2, x3, x4, ()))
@[reducible] def verdererref07_Read_d : Desc := ⟨[(0, .d .str)], []⟩
def verdererref07_Read_Fi (n : Nat) (a0 : ByteArray) (k0 : ByteArray → Int → (List ty51.D) → Option R) : Option R :=
  if (decide ((a0.size : Int) > 400)) = true then (k0 (⟨#[]⟩ : ByteArray) 7 ([] : List ty51.D)) else (verdererref07_Split_F n a0 32 (fun y1 => if (decide ((y1.length : Int) < 2)) = true then (k0 (⟨#[]⟩ : ByteArray) 7 ([] : List ty51.D)) else (if (0 : Int) ≤ 1 ∧ 1 < (y1.length : Int) then (if (Int.toNat 1) < y1.length then (runC (verdererref07_Read_l8 n) n (a0, 2, ([] : List ty51.D), (⟨#[]⟩ : ByteArray), y1, (y1.getD (Int.toNat 1) (Ty.z .str)), ([] : List ty51.D), ()) (fun b19 => k0 b19.2.1 b19.1 b19.2.2.1, fun b24 => verdererref07_Line_F n (b24.2.2.2.1, b24.2.2.2.2.1, ()) (fun y25 => if (!(y25.toList == b24.1.toList)) = true then (k0 (⟨#[]⟩ : ByteArray) 7 ([] : List ty51.D)) else (k0 b24.2.2.2.1 0 b24.2.2.2.2.1)), ())) else none) else none)))
def verdererref07_Read_F {R : Type} := lazyN (@verdererref07_Read_Fi R)
theorem verdererref07_Read_e : @verdererref07_Read_F R = @verdererref07_Read_Fi R := lazyN_eq _
def verdererref07_Read_g (n : Nat) : Gx R := typed 1 verdererref07_Read_d fun x k => verdererref07_Read_F n x.1 (fun y0 y1 y2 => k (.tu [(.ag [(.s y0), (.ow 0)]), (.c (.i .i64 y1))]) [(.arr 51 ty51 y2)])
def verdererref07_Read_cs (R : Type) (n : Nat) : List (Nat × Gx R) := [(11, verdererref07_Line_g n), (27, verdererref07_kind_g n), (30, verdererref07_Split_g n)]
def verdererref07_Read_lp (n : Nat) : (i : Nat) → (verdererref07_Read_ds i).D → exK R (verdererref07_Read_dx i) → Option R
  | 15, a, k => runC (verdererref07_Read_l15 n) n a k
  | 8, a, k => runC (verdererref07_Read_l8 n) n a k
  | _, _, _ => none
def verdererref07_Read_cx (R : Type) (n : Nat) : Cx R := ⟨Tryd.prog, Gof (verdererref07_Read_cs R n), verdererref07_Read_ds, verdererref07_Read_dx, verdererref07_Read_lp n, drawP Tryd.prog (Gof (verdererref07_Read_cs R n)), false, noJn, noFz⟩
theorem verdererref07_Read_ok (n : Nat) : Good Tryd.prog 14 (verdererref07_Read_g (R := R) n) := by
  unfold verdererref07_Read_g
  rw [verdererref07_Read_e]
  exact Good.fn (cx := verdererref07_Read_cx R n) (by kernel_rfl) (AllGood.cons (verdererref07_Line_ok n) (AllGood.cons (verdererref07_kind_ok n) (AllGood.cons (verdererref07_Split_ok n) (AllGood.nil)))) rfl Tryd.func14 (by kernel_rfl) rfl (by
    have e : fnLoops noJn Tryd.f14 = [((fnLoops noJn Tryd.f14)[0]?).getD (false, .skip), ((fnLoops noJn Tryd.f14)[1]?).getD (false, .skip)] := by kernel_rfl
    show LoopRuns _ _ (fnLoops noJn _)
    rw [e]
    exact ⟨LoopRun.loop (by kernel_rfl) (i := 8) (m := n) (step := verdererref07_Read_l8 n) (by kernel_rfl) (fun a k1 k2 => by kernel_rfl) (fun _ _ => rfl), ⟨LoopRun.loop (by kernel_rfl) (i := 15) (m := n) (step := verdererref07_Read_l15 n) (by kernel_rfl) (fun a k1 k2 => by kernel_rfl) (fun _ _ => rfl), trivial⟩⟩) 1 verdererref07_Read_d (by kernel_rfl) (fun x k => by kernel_rfl)
end
end Go.Proofs.YtegknlkeokfghaaDoor.E
set_option linter.unusedVariables false
set_option maxRecDepth 100000
namespace Go.Proofs.YtegknlkeokfghaaDoor.E
open Go.Proofs
noncomputable section
variable {R : Type}
/-! verderer/verdererlaw07.SchemaLines: function 3 -/
@[reducible] def verdererlaw07_SchemaLines_d : Desc := ⟨[(0, .d ty24), (1, .d .str)], []⟩
def verdererlaw07_SchemaLines_Fi (n : Nat) (a0 : ty24.D) (a1 : ByteArray) (k0 : Bool → Option R) : Option R :=
  verdererlaw07_few_F n [a0] (fun y1 => if (!y1) = true then (verdererlaw07_known_F n (fun y2 => k0 y2)) else (if (decide ((a1.size : Int) > 400)) = true then (verdererlaw07_known_F n (fun y3 => k0 y3)) else (schema_Line_F n a0 (fun y4 => verdererref07_Line_F n a0 (fun y5 => if (!(y4.toList == y5.toList)) = true then (k0 false) else (if (!(y4.toList == (⟨#[]⟩ : ByteArray).toList)) = true then (schema_Read_F n y4 (fun y6 y7 y8 => if (y7 != 0) = true then (k0 false) else (verdererref07_Same_F n a0 (y6, y8, ()) (fun y9 => if (!y9) = true then (k0 false) else (schema_Read_F n a1 (fun y10 y11 y12 => verdererref07_Read_F n a1 (fun y13 y14 y15 => verdererref07_Same_F n (y10, y12, ()) (y13, y15, ()) (fun y16 => if y16 = true then (if (y11 == y14) = true then (if (y11 != 0) = true then (verdererlaw07_known_F n (fun y17 => k0 y17)) else (schema_Line_F n (y10, y12, ()) (fun y18 => if (y18.toList == a1.toList) = true then (verdererlaw07_known_F n (fun y19 => k0 y19)) else (k0 false)))) else (k0 false)) else (k0 false))))))))) else (schema_Read_F n a1 (fun y20 y21 y22 => verdererref07_Read_F n a1 (fun y23 y24 y25 => verdererref07_Same_F n (y20, y22, ()) (y23, y25, ()) (fun y26 => if y26 = true then (if (y21 == y24) = true then (if (y21 != 0) = true then (verdererlaw07_known_F n (fun y27 => k0 y27)) else (schema_Line_F n (y20, y22, ()) (fun y28 => if (y28.toList == a1.toList) = true then (verdererlaw07_known_F n (fun y29 => k0 y29)) else (k0 false)))) else (k0 false)) else (k0 false)))))))))))
def verdererlaw07_SchemaLines_F {R : Type} := lazyN (@verdererlaw07_SchemaLines_Fi R)
theorem verdererlaw07_SchemaLines_e : @verdererlaw07_SchemaLines_F R = @verdererlaw07_SchemaLines_Fi R := lazyN_eq _
def verdererlaw07_SchemaLines_g (n : Nat) : Gx R := typed 2 verdererlaw07_SchemaLines_d fun x k => verdererlaw07_SchemaLines_F n x.1 x.2.1 (fun y0 => k (.a (.c (.b y0))) [])
def verdererlaw07_SchemaLines_cs (R : Type) (n : Nat) : List (Nat × Gx R) := [(8, verdererlaw07_few_g n), (9, verdererlaw07_known_g n), (10, schema_Line_g n), (11, verdererref07_Line_g n), (12, schema_Read_g n), (13, verdererref07_Same_g n), (14, verdererref07_Read_g n)]
def verdererlaw07_SchemaLines_cx (R : Type) (n : Nat) : Cx R := ⟨Tryd.prog, Gof (verdererlaw07_SchemaLines_cs R n), noDs, noDx, noLp, drawP Tryd.prog (Gof (verdererlaw07_SchemaLines_cs R n)), false, noJn, noFz⟩
theorem verdererlaw07_SchemaLines_ok (n : Nat) : Good Tryd.prog 3 (verdererlaw07_SchemaLines_g (R := R) n) := by
  unfold verdererlaw07_SchemaLines_g
  rw [verdererlaw07_SchemaLines_e]
  exact Good.fn (cx := verdererlaw07_SchemaLines_cx R n) (by kernel_rfl) (AllGood.cons (verdererlaw07_few_ok n) (AllGood.cons (verdererlaw07_known_ok n) (AllGood.cons (schema_Line_ok n) (AllGood.cons (verdererref07_Line_ok n) (AllGood.cons (schema_Read_ok n) (AllGood.cons (verdererref07_Same_ok n) (AllGood.cons (verdererref07_Read_ok n) (AllGood.nil)))))))) rfl Tryd.func3 (by kernel_rfl) rfl trivial 2 verdererlaw07_SchemaLines_d (by kernel_rfl) (fun x k => by kernel_rfl)
end
end Go.Proofs.YtegknlkeokfghaaDoor.E
set_option linter.unusedVariables false
set_option maxRecDepth 100000
namespace Go.Proofs.YtegknlkeokfghaaDoor.E
open Go.Proofs
noncomputable section
variable {R : Type}
/-! verderer/verdererlaw07.SchemaNames: function 4 -/
@[reducible] def verdererlaw07_SchemaNames_d : Desc := ⟨[(0, .d .str)], []⟩
def verdererlaw07_SchemaNames_Fi (n : Nat) (a0 : ByteArray) (k0 : Bool → Option R) : Option R :=
  schema_Name_F n a0 (fun y1 => verdererref07_Name_F n a0 (fun y2 => if (y1 == y2) = true then (verdererlaw07_known_F n (fun y3 => k0 y3)) else (k0 false)))
def verdererlaw07_SchemaNames_F {R : Type} := lazyN (@verdererlaw07_SchemaNames_Fi R)
theorem verdererlaw07_SchemaNames_e : @verdererlaw07_SchemaNames_F R = @verdererlaw07_SchemaNames_Fi R := lazyN_eq _
def verdererlaw07_SchemaNames_g (n : Nat) : Gx R := typed 1 verdererlaw07_SchemaNames_d fun x k => verdererlaw07_SchemaNames_F n x.1 (fun y0 => k (.a (.c (.b y0))) [])
def verdererlaw07_SchemaNames_cs (R : Type) (n : Nat) : List (Nat × Gx R) := [(9, verdererlaw07_known_g n), (15, schema_Name_g n), (16, verdererref07_Name_g n)]
def verdererlaw07_SchemaNames_cx (R : Type) (n : Nat) : Cx R := ⟨Tryd.prog, Gof (verdererlaw07_SchemaNames_cs R n), noDs, noDx, noLp, drawP Tryd.prog (Gof (verdererlaw07_SchemaNames_cs R n)), false, noJn, noFz⟩
theorem verdererlaw07_SchemaNames_ok (n : Nat) : Good Tryd.prog 4 (verdererlaw07_SchemaNames_g (R := R) n) := by
  unfold verdererlaw07_SchemaNames_g
  rw [verdererlaw07_SchemaNames_e]
  exact Good.fn (cx := verdererlaw07_SchemaNames_cx R n) (by kernel_rfl) (AllGood.cons (verdererlaw07_known_ok n) (AllGood.cons (schema_Name_ok n) (AllGood.cons (verdererref07_Name_ok n) (AllGood.nil)))) rfl Tryd.func4 (by kernel_rfl) rfl trivial 1 verdererlaw07_SchemaNames_d (by kernel_rfl) (fun x k => by kernel_rfl)
end
end Go.Proofs.YtegknlkeokfghaaDoor.E
set_option linter.unusedVariables false
set_option maxRecDepth 100000
namespace Go.Proofs.YtegknlkeokfghaaDoor.E
open Go.Proofs
noncomputable section
variable {R : Type}
/-! (*verderer/schema.Set).Kinds: function 19 -/
@[reducible] def schema_Set_Kinds_d : Desc := ⟨[(0, .np)], []⟩
def schema_Set_Kinds_Fi (n : Nat) (k0 : (List ty24.D) → Option R) : Option R :=
  k0 ([] : List ty24.D)
def schema_Set_Kinds_F {R : Type} := lazyN (@schema_Set_Kinds_Fi R)
theorem schema_Set_Kinds_e : @schema_Set_Kinds_F R = @schema_Set_Kinds_Fi R := lazyN_eq _
def schema_Set_Kinds_g (n : Nat) : Gx R := typed 1 schema_Set_Kinds_d fun x k => schema_Set_Kinds_F n (fun y0 => k (.a (.c (.ow 0))) [(.arr 24 ty24 y0)])
def schema_Set_Kinds_cs (R : Type) (n : Nat) : List (Nat × Gx R) := []
def schema_Set_Kinds_cx (R : Type) (n : Nat) : Cx R := ⟨Tryd.prog, Gof (schema_Set_Kinds_cs R n), noDs, noDx, noLp, drawP Tryd.prog (Gof (schema_Set_Kinds_cs R n)), false, noJn, noFz⟩
theorem schema_Set_Kinds_ok (n : Nat) : Good Tryd.prog 19 (schema_Set_Kinds_g (R := R) n) := by
  unfold schema_Set_Kinds_g
  rw [schema_Set_Kinds_e]
  exact Good.fn (cx := schema_Set_Kinds_cx R n) (by kernel_rfl) (AllGood.nil) rfl Tryd.func19 (by kernel_rfl) rfl (by
    have e : fnLoops noJn Tryd.f19 = [((fnLoops noJn Tryd.f19)[0]?).getD (false, .skip)] := by kernel_rfl
    show LoopRuns _ _ (fnLoops noJn _)
    rw [e]
    exact ⟨LoopRun.no (by kernel_rfl) (i := 5) (by kernel_rfl) (fun _ _ => rfl), trivial⟩) 1 schema_Set_Kinds_d (by kernel_rfl) (fun x k => by kernel_rfl)
end
end Go.Proofs.YtegknlkeokfghaaDoor.E
set_option linter.unusedVariables false
set_option maxRecDepth 100000
namespace Go.Proofs.YtegknlkeokfghaaDoor.E
open Go.Proofs
noncomputable section
variable {R : Type}
/-! (*verderer/schema.Set).Find: function 20 -/
@[reducible] def schema_Set_Find_v1_d : Desc := ⟨[(0, .np), (1, .d .str)], []⟩
def schema_Set_Find_v1_Fi (n : Nat) (a0 : ByteArray) (k0 : ByteArray → Int → (List ty51.D) → Option R) : Option R :=
  k0 (⟨#[]⟩ : ByteArray) 1 ([] : List ty51.D)
def schema_Set_Find_v1_F {R : Type} := lazyN (@schema_Set_Find_v1_Fi R)
theorem schema_Set_Find_v1_e : @schema_Set_Find_v1_F R = @schema_Set_Find_v1_Fi R := lazyN_eq _
def schema_Set_Find_v1_g (n : Nat) : Gx R := typed 2 schema_Set_Find_v1_d fun x k => schema_Set_Find_v1_F n x.1 (fun y0 y1 y2 => k (.tu [(.ag [(.s y0), (.ow 0)]), (.c (.i .i64 y1))]) [(.arr 51 ty51 y2)])
def schema_Set_Find_v1_cs (R : Type) (n : Nat) : List (Nat × Gx R) := []
def schema_Set_Find_v1_cx (R : Type) (n : Nat) : Cx R := ⟨Tryd.prog, Gof (schema_Set_Find_v1_cs R n), noDs, noDx, noLp, drawP Tryd.prog (Gof (schema_Set_Find_v1_cs R n)), false, noJn, noFz⟩
theorem schema_Set_Find_v1_ok (n : Nat) : Good Tryd.prog 20 (schema_Set_Find_v1_g (R := R) n) := by
  unfold schema_Set_Find_v1_g
  rw [schema_Set_Find_v1_e]
  exact Good.fn (cx := schema_Set_Find_v1_cx R n) (by kernel_rfl) (AllGood.nil) rfl Tryd.func20 (by kernel_rfl) rfl trivial 2 schema_Set_Find_v1_d (by kernel_rfl) (fun x k => by kernel_rfl)
end
end Go.Proofs.YtegknlkeokfghaaDoor.E
set_option linter.unusedVariables false
set_option maxRecDepth 100000
namespace Go.Proofs.YtegknlkeokfghaaDoor.E
open Go.Proofs
noncomputable section
variable {R : Type}
/-! verderer/verdererref07.Find: function 21 -/
def verdererref07_Find_ds : Nat → Desc
  | 2 => ⟨[(0, .d (.sl ty24)), (1, .d .str), (4, .pt 1 0), (6, .d (.int .i64))], [.arr 51 ty51, .box false 24 [.d .str, .ow 0]]⟩
  | _ => ⟨[], []⟩
def verdererref07_Find_dx : Nat → List (X × Desc)
  | 2 => [(.r, ⟨[(4, .pt 1 0), (5, .d (.int .i64))], [.no, .box false 24 [.d .str, .d (.sl ty51)]]⟩), (.e 0, ⟨[(4, .pt 1 0)], [.arr 51 ty51, .box false 24 [.d .str, .ow 0]]⟩)]
  | _ => []
def verdererref07_Find_s2 (n : Nat) (x0 : (List ty24.D)) (x1 : ByteArray) (x2 : Int) (x3 : (List ty51.D)) (x4 : ByteArray) (k1 : (List ty24.D) → ByteArray → Int → (List ty51.D) → ByteArray → Option R) (qr : Int → ByteArray → (List ty51.D) → Option R) (qe0 : (List ty51.D) → ByteArray → Option R) : Option R :=
  if (decide (x2 < (x0.length : Int))) = true then (if (0 : Int) ≤ x2 ∧ x2 < (x0.length : Int) then (if (((x0.getD (Int.toNat x2) (Ty.z ty24)).1).toList == x1.toList) = true then (if (0 : Int) ≤ x2 ∧ x2 < (x0.length : Int) then (qr 0 ((x0.getD (Int.toNat x2) (Ty.z ty24)).1) ((x0.getD (Int.toNat x2) (Ty.z ty24)).2.1)) else none) else (k1 x0 x1 (IntKind.i64.wrap (x2 + 1)) x3 x4)) else none) else (qe0 x3 x4)
def verdererref07_Find_l2 (n : Nat) (a : (verdererref07_Find_ds 2).D) (k1 : (verdererref07_Find_ds 2).D → Option R) (k2 : exK R (verdererref07_Find_dx 2)) : Option R :=
  verdererref07_Find_s2 n a.1 a.2.1 a.2.2.1 a.2.2.2.1 a.2.2.2.2.1 (fun x0 x1 x2 x3 x4 => k1 (x0, x1, x2, x3, x4, ())) (fun x0 x1 x2 => k2.1 (x0, x1, x2, ())) (fun x0 x1 => k2.2.1 (x0, x1, ()))
@[reducible] def verdererref07_Find_d : Desc := ⟨[(0, .d (.sl ty24)), (1, .d .str)], []⟩
def verdererref07_Find_Fi (n : Nat) (a0 : (List ty24.D)) (a1 : ByteArray) (k0 : ty24.D → Int → Option R) : Option R :=
  runC (verdererref07_Find_l2 n) n (a0, a1, 0, ([] : List ty51.D), (⟨#[]⟩ : ByteArray), ()) (fun b3 => k0 (b3.2.1, b3.2.2.1, ()) b3.1, fun b5 => k0 ((⟨#[]⟩ : ByteArray), ([] : List ty51.D), ()) 20, ())
def verdererref07_Find_F {R : Type} := lazyN (@verdererref07_Find_Fi R)
theorem verdererref07_Find_e : @verdererref07_Find_F R = @verdererref07_Find_Fi R := lazyN_eq _
def verdererref07_Find_g (n : Nat) : Gx R := typed 2 verdererref07_Find_d fun x k => verdererref07_Find_F n x.1 x.2.1 (fun y0 y1 => k (.tu [(encA ty24 y0), (.c (.i .i64 y1))]) [])
def verdererref07_Find_cs (R : Type) (n : Nat) : List (Nat × Gx R) := []
def verdererref07_Find_lp (n : Nat) : (i : Nat) → (verdererref07_Find_ds i).D → exK R (verdererref07_Find_dx i) → Option R
  | 2, a, k => runC (verdererref07_Find_l2 n) n a k
  | _, _, _ => none
def verdererref07_Find_cx (R : Type) (n : Nat) : Cx R := ⟨Tryd.prog, Gof (verdererref07_Find_cs R n), verdererref07_Find_ds, verdererref07_Find_dx, verdererref07_Find_lp n, drawP Tryd.prog (Gof (verdererref07_Find_cs R n)), false, noJn, noFz⟩
theorem verdererref07_Find_ok (n : Nat) : Good Tryd.prog 21 (verdererref07_Find_g (R := R) n) := by
  unfold verdererref07_Find_g
  rw [verdererref07_Find_e]
  exact Good.fnF (cx := verdererref07_Find_cx R n) (by kernel_rfl) (AllGood.nil) rfl Tryd.func21 (by kernel_rfl) rfl (by
    have e : fnLoops noJn Tryd.f21 = [((fnLoops noJn Tryd.f21)[0]?).getD (false, .skip)] := by kernel_rfl
    show LoopRuns _ _ (fnLoops noJn _)
    rw [e]
    exact ⟨LoopRun.loop (by kernel_rfl) (i := 2) (m := n) (step := verdererref07_Find_l2 n) (by kernel_rfl) (fun a k1 k2 => by kernel_rfl) (fun _ _ => rfl), trivial⟩) 2 verdererref07_Find_d (by kernel_rfl) rfl (fun x k => by kernel_rfl)
end
end Go.Proofs.YtegknlkeokfghaaDoor.E
set_option linter.unusedVariables false
set_option maxRecDepth 100000
namespace Go.Proofs.YtegknlkeokfghaaDoor.E
open Go.Proofs
noncomputable section
variable {R : Type}
/-! verderer/verdererref07.Columns: function 23 -/
@[reducible] def verdererref07_Columns_d : Desc := ⟨[(0, .d (.sl ty24)), (1, .d .str)], []⟩
def verdererref07_Columns_Fi (n : Nat) (a0 : (List ty24.D)) (a1 : ByteArray) (k0 : Int → (List ty51.D) → Option R) : Option R :=
  if (a1.toList == (⟨#[116, 101, 110, 97, 110, 116]⟩ : ByteArray).toList) = true then (k0 0 [((⟨#[110, 97, 109, 101]⟩ : ByteArray), 3, false, ()), ((⟨#[112, 97, 114, 101, 110, 116]⟩ : ByteArray), 3, false, ())]) else (verdererref07_Find_F n a0 a1 (fun y1 y2 => if (y2 != 0) = true then (k0 y2 ([] : List ty51.D)) else (if (List.length [((⟨#[115, 112, 97, 99, 101]⟩ : ByteArray), 3, false, ()), ((⟨#[110, 97, 109, 101]⟩ : ByteArray), 3, false, ())] + List.length y1.2.1) * 32 ≤ 140737488355328 then (k0 0 ([((⟨#[115, 112, 97, 99, 101]⟩ : ByteArray), 3, false, ()), ((⟨#[110, 97, 109, 101]⟩ : ByteArray), 3, false, ())] ++ y1.2.1)) else none)))
def verdererref07_Columns_F {R : Type} := lazyN (@verdererref07_Columns_Fi R)
theorem verdererref07_Columns_e : @verdererref07_Columns_F R = @verdererref07_Columns_Fi R := lazyN_eq _
def verdererref07_Columns_g (n : Nat) : Gx R := typed 2 verdererref07_Columns_d fun x k => verdererref07_Columns_F n x.1 x.2.1 (fun y0 y1 => k (.tu [(.c (.ow 0)), (.c (.i .i64 y0))]) [(.arr 51 ty51 y1)])
def verdererref07_Columns_cs (R : Type) (n : Nat) : List (Nat × Gx R) := [(21, verdererref07_Find_g n)]
def verdererref07_Columns_cx (R : Type) (n : Nat) : Cx R := ⟨Tryd.prog, Gof (verdererref07_Columns_cs R n), noDs, noDx, noLp, drawP Tryd.prog (Gof (verdererref07_Columns_cs R n)), false, noJn, noFz⟩
theorem verdererref07_Columns_ok (n : Nat) : Good Tryd.prog 23 (verdererref07_Columns_g (R := R) n) := by
  unfold verdererref07_Columns_g
  rw [verdererref07_Columns_e]
  exact Good.fn (cx := verdererref07_Columns_cx R n) (by kernel_rfl) (AllGood.cons (verdererref07_Find_ok n) (AllGood.nil)) rfl Tryd.func23 (by kernel_rfl) rfl trivial 2 verdererref07_Columns_d (by kernel_rfl) (fun x k => by kernel_rfl)
end
end Go.Proofs.YtegknlkeokfghaaDoor.E
set_option linter.unusedVariables false
set_option maxRecDepth 100000
namespace Go.Proofs.YtegknlkeokfghaaDoor.E
open Go.Proofs
noncomputable section
variable {R : Type}
/-! (*verderer/schema.Set).Kinds: function 19 -/
def schema_Set_Kinds_v1_ds : Nat → Desc
  | 5 => ⟨[(3, .ow 3), (11, .ow 1), (12, .d (.int .i64)), (13, .d (.int .i64))], [.box true 59 [.ow 1], .arr 24 ty24, .no, .arr 24 ty24]⟩
  | _ => ⟨[], []⟩
def schema_Set_Kinds_v1_dx : Nat → List (X × Desc)
  | 5 => [(.e 0, ⟨[(3, .ow 3)], [.box true 59 [.ow 1], .arr 24 ty24, .no, .arr 24 ty24]⟩)]
  | _ => []
def schema_Set_Kinds_v1_s5 (n : Nat) (x0 : Int) (x1 : Int) (x2 : (List ty24.D)) (x3 : (List ty24.D)) (k1 : Int → Int → (List ty24.D) → (List ty24.D) → Option R) (qe0 : (List ty24.D) → (List ty24.D) → Option R) : Option R :=
  if (decide (x1 < x0)) = true then (if (0 : Int) ≤ x1 ∧ x1 < (x2.length : Int) then (if (Int.toNat x1) < x2.length then (schema_clone_F n (x2.getD (Int.toNat x1) (Ty.z ty24)) (fun y1 y2 => if (List.length x3 + List.length [(y1, y2, ())]) * 40 ≤ 140737488355328 then (k1 x0 (IntKind.i64.wrap (x1 + 1)) x2 (x3 ++ [(y1, y2, ())])) else none)) else none) else none) else (qe0 x2 x3)
def schema_Set_Kinds_v1_l5 (n : Nat) (a : (schema_Set_Kinds_v1_ds 5).D) (k1 : (schema_Set_Kinds_v1_ds 5).D → Option R) (k2 : exK R (schema_Set_Kinds_v1_dx 5)) : Option R :=
  schema_Set_Kinds_v1_s5 n a.1 a.2.1 a.2.2.1 a.2.2.2.1 (fun x0 x1 x2 x3 => k1 (x0, x1, x2, x3, ())) (fun x0 x1 => k2.1 (x0, x1, ()))
@[reducible] def schema_Set_Kinds_v1_d : Desc := ⟨[(0, .pt 0 0)], [.box true 59 [.ow 1], .arr 24 ty24]⟩
def schema_Set_Kinds_v1_Fi (n : Nat) (a0 : (List ty24.D)) (k0 : (List ty24.D) → (List ty24.D) → Option R) : Option R :=
  runC (schema_Set_Kinds_v1_l5 n) n ((a0.length : Int), 0, a0, ([] : List ty24.D), ()) (fun b4 => k0 b4.1 b4.2.1, ())
def schema_Set_Kinds_v1_F {R : Type} := lazyN (@schema_Set_Kinds_v1_Fi R)
theorem schema_Set_Kinds_v1_e : @schema_Set_Kinds_v1_F R = @schema_Set_Kinds_v1_Fi R := lazyN_eq _
def schema_Set_Kinds_v1_g (n : Nat) : Gx R := typed 1 schema_Set_Kinds_v1_d fun x k => schema_Set_Kinds_v1_F n x.1 (fun y0 y1 => k (.a (.c (.ow 2))) [(.box true 59 [(.ow 1)]), (.arr 24 ty24 y0), (.arr 24 ty24 y1)])
def schema_Set_Kinds_v1_cs (R : Type) (n : Nat) : List (Nat × Gx R) := [(33, schema_clone_g n)]
def schema_Set_Kinds_v1_lp (n : Nat) : (i : Nat) → (schema_Set_Kinds_v1_ds i).D → exK R (schema_Set_Kinds_v1_dx i) → Option R
  | 5, a, k => runC (schema_Set_Kinds_v1_l5 n) n a k
  | _, _, _ => none
def schema_Set_Kinds_v1_cx (R : Type) (n : Nat) : Cx R := ⟨Tryd.prog, Gof (schema_Set_Kinds_v1_cs R n), schema_Set_Kinds_v1_ds, schema_Set_Kinds_v1_dx, schema_Set_Kinds_v1_lp n, drawP Tryd.prog (Gof (schema_Set_Kinds_v1_cs R n)), false, noJn, noFz⟩
theorem schema_Set_Kinds_v1_ok (n : Nat) : Good Tryd.prog 19 (schema_Set_Kinds_v1_g (R := R) n) := by
  unfold schema_Set_Kinds_v1_g
  rw [schema_Set_Kinds_v1_e]
  exact Good.fn (cx := schema_Set_Kinds_v1_cx R n) (by kernel_rfl) (AllGood.cons (schema_clone_ok n) (AllGood.nil)) rfl Tryd.func19 (by kernel_rfl) rfl (by
    have e : fnLoops noJn Tryd.f19 = [((fnLoops noJn Tryd.f19)[0]?).getD (false, .skip)] := by kernel_rfl
    show LoopRuns _ _ (fnLoops noJn _)
    rw [e]
    exact ⟨LoopRun.loop (by kernel_rfl) (i := 5) (m := n) (step := schema_Set_Kinds_v1_l5 n) (by kernel_rfl) (fun a k1 k2 => by kernel_rfl) (fun _ _ => rfl), trivial⟩) 1 schema_Set_Kinds_v1_d (by kernel_rfl) (fun x k => by kernel_rfl)
end
end Go.Proofs.YtegknlkeokfghaaDoor.E
set_option linter.unusedVariables false
set_option maxRecDepth 100000
namespace Go.Proofs.YtegknlkeokfghaaDoor.E
open Go.Proofs
noncomputable section
variable {R : Type}
/-! verderer/verdererlaw07.SchemaMakes: function 5 -/
def verdererlaw07_SchemaMakes_ds : Nat → Desc
  | 13 => ⟨[(0, .d (.sl ty24)), (1, .d .str), (5, .pt 0 0), (8, .ow 2), (9, .d (.int .i64))], [.box false 59 [.ow 1], .arr 24 ty24, .arr 24 ty24]⟩
  | _ => ⟨[], []⟩
def verdererlaw07_SchemaMakes_dx : Nat → List (X × Desc)
  | 13 => [(.r, ⟨[(4, .d .bool)], []⟩), (.e 0, ⟨[(0, .d (.sl ty24)), (1, .d .str), (5, .pt 0 0)], [.box false 59 [.ow 1], .arr 24 ty24]⟩)]
  | _ => []
def verdererlaw07_SchemaMakes_s13 (n : Nat) (x0 : (List ty24.D)) (x1 : ByteArray) (x2 : Int) (x3 : (List ty24.D)) (x4 : (List ty24.D)) (k1 : (List ty24.D) → ByteArray → Int → (List ty24.D) → (List ty24.D) → Option R) (qr : Bool → Option R) (qe0 : (List ty24.D) → ByteArray → (List ty24.D) → Option R) : Option R :=
  if (decide (x2 < (x0.length : Int))) = true then (if (decide (x2 < (x4.length : Int))) = true then (if (0 : Int) ≤ x2 ∧ x2 < (x4.length : Int) then (if (Int.toNat x2) < x4.length then (if (0 : Int) ≤ x2 ∧ x2 < (x0.length : Int) then (verdererref07_Same_F n (x4.getD (Int.toNat x2) (Ty.z ty24)) (x0.getD (Int.toNat x2) (Ty.z ty24)) (fun y13 => if (!y13) = true then (qr false) else (k1 x0 x1 (IntKind.i64.wrap (x2 + 1)) x3 x4))) else none) else none) else none) else (qe0 x0 x1 x3)) else (qe0 x0 x1 x3)
def verdererlaw07_SchemaMakes_l13 (n : Nat) (a : (verdererlaw07_SchemaMakes_ds 13).D) (k1 : (verdererlaw07_SchemaMakes_ds 13).D → Option R) (k2 : exK R (verdererlaw07_SchemaMakes_dx 13)) : Option R :=
  verdererlaw07_SchemaMakes_s13 n a.1 a.2.1 a.2.2.1 a.2.2.2.1 a.2.2.2.2.1 (fun x0 x1 x2 x3 x4 => k1 (x0, x1, x2, x3, x4, ())) (fun x0 => k2.1 (x0, ())) (fun x0 x1 x2 => k2.2.1 (x0, x1, x2, ()))
@[reducible] def verdererlaw07_SchemaMakes_d : Desc := ⟨[(0, .d (.sl ty24)), (1, .d .str)], []⟩
def verdererlaw07_SchemaMakes_Fi (n : Nat) (a0 : (List ty24.D)) (a1 : ByteArray) (k0 : Bool → Option R) : Option R :=
  verdererlaw07_few_F n a0 (fun y1 => if (!y1) = true then (verdererlaw07_known_F n (fun y2 => k0 y2)) else (schema_New_F n a0 (fun y3 => verdererref07_Check_F n a0 (fun y4 => if (y3 != y4) = true then (k0 false) else (if (!(true == (y4 != 0))) = true then (k0 false) else (if (y4 != 0) = true then (verdererlaw07_known_F n (fun y5 => k0 y5)) else (schema_Set_Kinds_F n (fun y6 => if ((y6.length : Int) != (a0.length : Int)) = true then (k0 false) else none)))))) (fun y7 y8 => verdererref07_Check_F n a0 (fun y9 => if (y7 != y9) = true then (k0 false) else (if (!(false == (y9 != 0))) = true then (k0 false) else (if (y9 != 0) = true then (verdererlaw07_known_F n (fun y10 => k0 y10)) else (schema_Set_Kinds_v1_F n y8 (fun y11 y12 => if ((y12.length : Int) != (a0.length : Int)) = true then (k0 false) else (runC (verdererlaw07_SchemaMakes_l13 n) n (a0, a1, 0, y11, y12, ()) (fun b14 => k0 b14.1, fun b17 => schema_Set_Find_F n b17.2.1 b17.2.2.1 (fun y18 y19 y20 => verdererref07_Find_F n b17.1 b17.2.1 (fun y21 y22 => schema_Set_Columns_v1_F n b17.2.1 y20 (fun y23 y24 y25 => verdererref07_Columns_F n b17.1 b17.2.1 (fun y26 y27 => verdererref07_Same_F n y18 y21 (fun y28 => if y28 = true then (if (y19 == y22) = true then (verdererref07_Same_F n ((⟨#[]⟩ : ByteArray), y25, ()) ((⟨#[]⟩ : ByteArray), y27, ()) (fun y29 => if y29 = true then (if (y23 == y26) = true then (verdererlaw07_known_F n (fun y30 => k0 y30)) else (k0 false)) else (k0 false))) else (k0 false)) else (k0 false)))))), ()))))))))))
def verdererlaw07_SchemaMakes_F {R : Type} := lazyN (@verdererlaw07_SchemaMakes_Fi R)
theorem verdererlaw07_SchemaMakes_e : @verdererlaw07_SchemaMakes_F R = @verdererlaw07_SchemaMakes_Fi R := lazyN_eq _
def verdererlaw07_SchemaMakes_g (n : Nat) : Gx R := typed 2 verdererlaw07_SchemaMakes_d fun x k => verdererlaw07_SchemaMakes_F n x.1 x.2.1 (fun y0 => k (.a (.c (.b y0))) [])
def verdererlaw07_SchemaMakes_cs (R : Type) (n : Nat) : List (Nat × Gx R) := [(8, verdererlaw07_few_g n), (9, verdererlaw07_known_g n), (13, verdererref07_Same_g n), (17, schema_New_g n), (18, verdererref07_Check_g n), (19, orG (schema_Set_Kinds_g n) (schema_Set_Kinds_v1_g n) (fits 1 schema_Set_Kinds_d)), (20, schema_Set_Find_g n), (21, verdererref07_Find_g n), (22, schema_Set_Columns_v1_g n), (23, verdererref07_Columns_g n)]
def verdererlaw07_SchemaMakes_lp (n : Nat) : (i : Nat) → (verdererlaw07_SchemaMakes_ds i).D → exK R (verdererlaw07_SchemaMakes_dx i) → Option R
  | 13, a, k => runC (verdererlaw07_SchemaMakes_l13 n) n a k
  | _, _, _ => none
def verdererlaw07_SchemaMakes_cx (R : Type) (n : Nat) : Cx R := ⟨Tryd.prog, Gof (verdererlaw07_SchemaMakes_cs R n), verdererlaw07_SchemaMakes_ds, verdererlaw07_SchemaMakes_dx, verdererlaw07_SchemaMakes_lp n, drawP Tryd.prog (Gof (verdererlaw07_SchemaMakes_cs R n)), false, noJn, noFz⟩
theorem verdererlaw07_SchemaMakes_ok (n : Nat) : Good Tryd.prog 5 (verdererlaw07_SchemaMakes_g (R := R) n) := by
  unfold verdererlaw07_SchemaMakes_g
  rw [verdererlaw07_SchemaMakes_e]
  exact Good.fn (cx := verdererlaw07_SchemaMakes_cx R n) (by kernel_rfl) (AllGood.cons (verdererlaw07_few_ok n) (AllGood.cons (verdererlaw07_known_ok n) (AllGood.cons (verdererref07_Same_ok n) (AllGood.cons (schema_New_ok n) (AllGood.cons (verdererref07_Check_ok n) (AllGood.cons (Good.or (schema_Set_Kinds_ok n) (schema_Set_Kinds_v1_ok n) _) (AllGood.cons (schema_Set_Find_ok n) (AllGood.cons (verdererref07_Find_ok n) (AllGood.cons (schema_Set_Columns_v1_ok n) (AllGood.cons (verdererref07_Columns_ok n) (AllGood.nil))))))))))) rfl Tryd.func5 (by kernel_rfl) rfl (by
    have e : fnLoops noJn Tryd.f5 = [((fnLoops noJn Tryd.f5)[0]?).getD (false, .skip)] := by kernel_rfl
    show LoopRuns _ _ (fnLoops noJn _)
    rw [e]
    exact ⟨LoopRun.loop (by kernel_rfl) (i := 13) (m := n) (step := verdererlaw07_SchemaMakes_l13 n) (by kernel_rfl) (fun a k1 k2 => by kernel_rfl) (fun _ _ => rfl), trivial⟩) 2 verdererlaw07_SchemaMakes_d (by kernel_rfl) (fun x k => by kernel_rfl)
end
end Go.Proofs.YtegknlkeokfghaaDoor.E
set_option linter.unusedVariables false
set_option maxRecDepth 100000
namespace Go.Proofs.YtegknlkeokfghaaDoor.E
open Go.Proofs
noncomputable section
variable {R : Type}
/-! verderer/value.Null: function 44 -/
@[reducible] def value_Null_d : Desc := ⟨[], []⟩
def value_Null_Fi (n : Nat) (k0 : ty66.D → Option R) : Option R :=
  k0 (0, false, 0, (⟨#[]⟩ : ByteArray), ())
def value_Null_F {R : Type} := lazyN (@value_Null_Fi R)
theorem value_Null_e : @value_Null_F R = @value_Null_Fi R := lazyN_eq _
def value_Null_g (n : Nat) : Gx R := typed 0 value_Null_d fun x k => value_Null_F n (fun y0 => k (.a (encA ty66 y0)) [])
def value_Null_cs (R : Type) (n : Nat) : List (Nat × Gx R) := []
def value_Null_cx (R : Type) (n : Nat) : Cx R := ⟨Tryd.prog, Gof (value_Null_cs R n), noDs, noDx, noLp, drawP Tryd.prog (Gof (value_Null_cs R n)), false, noJn, noFz⟩
theorem value_Null_ok (n : Nat) : Good Tryd.prog 44 (value_Null_g (R := R) n) := by
  unfold value_Null_g
  rw [value_Null_e]
  exact Good.fn (cx := value_Null_cx R n) (by kernel_rfl) (AllGood.nil) rfl Tryd.func44 (by kernel_rfl) rfl trivial 0 value_Null_d (by kernel_rfl) (fun x k => by kernel_rfl)
end
end Go.Proofs.YtegknlkeokfghaaDoor.E
set_option linter.unusedVariables false
set_option maxRecDepth 100000
namespace Go.Proofs.YtegknlkeokfghaaDoor.E
open Go.Proofs
noncomputable section
variable {R : Type}
/-! verderer/value.Bool: function 45 -/
@[reducible] def value_Bool_d : Desc := ⟨[(0, .d .bool)], []⟩
def value_Bool_Fi (n : Nat) (a0 : Bool) (k0 : ty66.D → Option R) : Option R :=
  k0 (1, a0, 0, (⟨#[]⟩ : ByteArray), ())
def value_Bool_F {R : Type} := lazyN (@value_Bool_Fi R)
theorem value_Bool_e : @value_Bool_F R = @value_Bool_Fi R := lazyN_eq _
def value_Bool_g (n : Nat) : Gx R := typed 1 value_Bool_d fun x k => value_Bool_F n x.1 (fun y0 => k (.a (encA ty66 y0)) [])
def value_Bool_cs (R : Type) (n : Nat) : List (Nat × Gx R) := []
def value_Bool_cx (R : Type) (n : Nat) : Cx R := ⟨Tryd.prog, Gof (value_Bool_cs R n), noDs, noDx, noLp, drawP Tryd.prog (Gof (value_Bool_cs R n)), false, noJn, noFz⟩
theorem value_Bool_ok (n : Nat) : Good Tryd.prog 45 (value_Bool_g (R := R) n) := by
  unfold value_Bool_g
  rw [value_Bool_e]
  exact Good.fn (cx := value_Bool_cx R n) (by kernel_rfl) (AllGood.nil) rfl Tryd.func45 (by kernel_rfl) rfl trivial 1 value_Bool_d (by kernel_rfl) (fun x k => by kernel_rfl)
end
end Go.Proofs.YtegknlkeokfghaaDoor.E
set_option linter.unusedVariables false
set_option maxRecDepth 100000
namespace Go.Proofs.YtegknlkeokfghaaDoor.E
open Go.Proofs
noncomputable section
variable {R : Type}
/-! verderer/value.Int: function 46 -/
@[reducible] def value_Int_d : Desc := ⟨[(0, .d (.int .i64))], []⟩
def value_Int_Fi (n : Nat) (a0 : Int) (k0 : ty66.D → Option R) : Option R :=
  k0 (2, false, a0, (⟨#[]⟩ : ByteArray), ())
def value_Int_F {R : Type} := lazyN (@value_Int_Fi R)
theorem value_Int_e : @value_Int_F R = @value_Int_Fi R := lazyN_eq _
def value_Int_g (n : Nat) : Gx R := typed 1 value_Int_d fun x k => value_Int_F n x.1 (fun y0 => k (.a (encA ty66 y0)) [])
def value_Int_cs (R : Type) (n : Nat) : List (Nat × Gx R) := []
def value_Int_cx (R : Type) (n : Nat) : Cx R := ⟨Tryd.prog, Gof (value_Int_cs R n), noDs, noDx, noLp, drawP Tryd.prog (Gof (value_Int_cs R n)), false, noJn, noFz⟩
theorem value_Int_ok (n : Nat) : Good Tryd.prog 46 (value_Int_g (R := R) n) := by
  unfold value_Int_g
  rw [value_Int_e]
  exact Good.fn (cx := value_Int_cx R n) (by kernel_rfl) (AllGood.nil) rfl Tryd.func46 (by kernel_rfl) rfl trivial 1 value_Int_d (by kernel_rfl) (fun x k => by kernel_rfl)
end
end Go.Proofs.YtegknlkeokfghaaDoor.E
set_option linter.unusedVariables false
set_option maxRecDepth 100000
namespace Go.Proofs.YtegknlkeokfghaaDoor.E
open Go.Proofs
noncomputable section
variable {R : Type}
/-! verderer/value.Text: function 47 -/
@[reducible] def value_Text_d : Desc := ⟨[(0, .d .str)], []⟩
def value_Text_Fi (n : Nat) (a0 : ByteArray) (k0 : ty66.D → Option R) : Option R :=
  k0 (3, false, 0, a0, ())
def value_Text_F {R : Type} := lazyN (@value_Text_Fi R)
theorem value_Text_e : @value_Text_F R = @value_Text_Fi R := lazyN_eq _
def value_Text_g (n : Nat) : Gx R := typed 1 value_Text_d fun x k => value_Text_F n x.1 (fun y0 => k (.a (encA ty66 y0)) [])
def value_Text_cs (R : Type) (n : Nat) : List (Nat × Gx R) := []
def value_Text_cx (R : Type) (n : Nat) : Cx R := ⟨Tryd.prog, Gof (value_Text_cs R n), noDs, noDx, noLp, drawP Tryd.prog (Gof (value_Text_cs R n)), false, noJn, noFz⟩
theorem value_Text_ok (n : Nat) : Good Tryd.prog 47 (value_Text_g (R := R) n) := by
  unfold value_Text_g
  rw [value_Text_e]
  exact Good.fn (cx := value_Text_cx R n) (by kernel_rfl) (AllGood.nil) rfl Tryd.func47 (by kernel_rfl) rfl trivial 1 value_Text_d (by kernel_rfl) (fun x k => by kernel_rfl)
end
end Go.Proofs.YtegknlkeokfghaaDoor.E
set_option linter.unusedVariables false
set_option maxRecDepth 100000
namespace Go.Proofs.YtegknlkeokfghaaDoor.E
open Go.Proofs
noncomputable section
variable {R : Type}
/-! verderer/value.Right: function 36 -/
@[reducible] def value_Right_d : Desc := ⟨[(0, .d ty66)], []⟩
def value_Right_Fi (n : Nat) (a0 : ty66.D) (k0 : Bool → Option R) : Option R :=
  if (a0.1 == 0) = true then (value_Null_F n (fun y1 => k0 ((a0.1 == y1.1) && ((a0.2.1 == y1.2.1) && ((a0.2.2.1 == y1.2.2.1) && ((a0.2.2.2.1.toList == y1.2.2.2.1.toList) && true)))))) else (if (a0.1 == 1) = true then (value_Bool_F n a0.2.1 (fun y2 => k0 ((a0.1 == y2.1) && ((a0.2.1 == y2.2.1) && ((a0.2.2.1 == y2.2.2.1) && ((a0.2.2.2.1.toList == y2.2.2.2.1.toList) && true)))))) else (if (a0.1 == 2) = true then (value_Int_F n a0.2.2.1 (fun y3 => k0 ((a0.1 == y3.1) && ((a0.2.1 == y3.2.1) && ((a0.2.2.1 == y3.2.2.1) && ((a0.2.2.2.1.toList == y3.2.2.2.1.toList) && true)))))) else (if (a0.1 == 3) = true then (value_Text_F n a0.2.2.2.1 (fun y4 => if ((a0.1 == y4.1) && ((a0.2.1 == y4.2.1) && ((a0.2.2.1 == y4.2.2.1) && ((a0.2.2.2.1.toList == y4.2.2.2.1.toList) && true)))) = true then (k0 (decide ((a0.2.2.2.1.size : Int) ≤ 60))) else (k0 false))) else (k0 false))))
def value_Right_F {R : Type} := lazyN (@value_Right_Fi R)
theorem value_Right_e : @value_Right_F R = @value_Right_Fi R := lazyN_eq _
def value_Right_g (n : Nat) : Gx R := typed 1 value_Right_d fun x k => value_Right_F n x.1 (fun y0 => k (.a (.c (.b y0))) [])
def value_Right_cs (R : Type) (n : Nat) : List (Nat × Gx R) := [(44, value_Null_g n), (45, value_Bool_g n), (46, value_Int_g n), (47, value_Text_g n)]
def value_Right_cx (R : Type) (n : Nat) : Cx R := ⟨Tryd.prog, Gof (value_Right_cs R n), noDs, noDx, noLp, drawP Tryd.prog (Gof (value_Right_cs R n)), false, noJn, noFz⟩
theorem value_Right_ok (n : Nat) : Good Tryd.prog 36 (value_Right_g (R := R) n) := by
  unfold value_Right_g
  rw [value_Right_e]
  exact Good.fn (cx := value_Right_cx R n) (by kernel_rfl) (AllGood.cons (value_Null_ok n) (AllGood.cons (value_Bool_ok n) (AllGood.cons (value_Int_ok n) (AllGood.cons (value_Text_ok n) (AllGood.nil))))) rfl Tryd.func36 (by kernel_rfl) rfl trivial 1 value_Right_d (by kernel_rfl) (fun x k => by kernel_rfl)
end
end Go.Proofs.YtegknlkeokfghaaDoor.E
set_option linter.unusedVariables false
set_option maxRecDepth 100000
namespace Go.Proofs.YtegknlkeokfghaaDoor.E
open Go.Proofs
noncomputable section
variable {R : Type}
/-! (*verderer/schema.Set).Fits: function 24 -/
def schema_Set_Fits_ds : Nat → Desc
  | 7 => ⟨[(7, .pt 2 0), (30, .d (.sl ty66)), (31, .d (.int .i64)), (32, .d (.int .i64))], [.arr 51 ty51, .no, .box false 24 [.d .str, .ow 0]]⟩
  | _ => ⟨[], []⟩
def schema_Set_Fits_dx : Nat → List (X × Desc)
  | 7 => [(.r, ⟨[(6, .d (.int .i64))], []⟩), (.e 1, ⟨[], []⟩)]
  | _ => []
def schema_Set_Fits_s7 (n : Nat) (x0 : (List ty66.D)) (x1 : Int) (x2 : Int) (x3 : (List ty51.D)) (x4 : ByteArray) (k1 : (List ty66.D) → Int → Int → (List ty51.D) → ByteArray → Option R) (qr : Int → Option R) (qe1 : Option R) : Option R :=
  if (decide (x2 < x1)) = true then (if (0 : Int) ≤ x2 ∧ x2 < (x0.length : Int) then (if (0 : Int) ≤ x2 ∧ x2 < (x3.length : Int) then (if (Int.toNat x2) < x3.length then (if (x3.getD (Int.toNat x2) (Ty.z ty51)).2.2.1 = true then (value_Right_F n (x0.getD (Int.toNat x2) (Ty.z ty66)) (fun y4 => if (!y4) = true then (qr 11) else (if ((x0.getD (Int.toNat x2) (Ty.z ty66)).1 != (x3.getD (Int.toNat x2) (Ty.z ty51)).2.1) = true then (if (!((x0.getD (Int.toNat x2) (Ty.z ty66)).1 == 0)) = true then (qr 11) else (k1 x0 x1 (IntKind.i64.wrap (x2 + 1)) x3 x4)) else (k1 x0 x1 (IntKind.i64.wrap (x2 + 1)) x3 x4)))) else (value_Right_F n (x0.getD (Int.toNat x2) (Ty.z ty66)) (fun y5 => if (!y5) = true then (qr 11) else (if ((x0.getD (Int.toNat x2) (Ty.z ty66)).1 != (x3.getD (Int.toNat x2) (Ty.z ty51)).2.1) = true then (qr 11) else (k1 x0 x1 (IntKind.i64.wrap (x2 + 1)) x3 x4))))) else none) else none) else none) else qe1
def schema_Set_Fits_l7 (n : Nat) (a : (schema_Set_Fits_ds 7).D) (k1 : (schema_Set_Fits_ds 7).D → Option R) (k2 : exK R (schema_Set_Fits_dx 7)) : Option R :=
  schema_Set_Fits_s7 n a.1 a.2.1 a.2.2.1 a.2.2.2.1 a.2.2.2.2.1 (fun x0 x1 x2 x3 x4 => k1 (x0, x1, x2, x3, x4, ())) (fun x0 => k2.1 (x0, ())) (k2.2.1 (()))
@[reducible] def schema_Set_Fits_d : Desc := ⟨[(0, .np), (1, .d .str), (2, .d (.sl ty66))], []⟩
def schema_Set_Fits_Fi (n : Nat) (a0 : ByteArray) (a1 : (List ty66.D)) (k0 : Int → Option R) : Option R :=
  schema_Set_Find_v1_F n a0 (fun y1 y2 y3 => if (y2 != 0) = true then (k0 y2) else (if ((a1.length : Int) != (y3.length : Int)) = true then (k0 9) else (runC (schema_Set_Fits_l7 n) n (a1, (a1.length : Int), 0, y3, y1, ()) (fun b6 => k0 b6.1, fun b6 => k0 0, ()))))
def schema_Set_Fits_F {R : Type} := lazyN (@schema_Set_Fits_Fi R)
theorem schema_Set_Fits_e : @schema_Set_Fits_F R = @schema_Set_Fits_Fi R := lazyN_eq _
def schema_Set_Fits_g (n : Nat) : Gx R := typed 3 schema_Set_Fits_d fun x k => schema_Set_Fits_F n x.1 x.2.1 (fun y0 => k (.a (.c (.i .i64 y0))) [])
def schema_Set_Fits_cs (R : Type) (n : Nat) : List (Nat × Gx R) := [(20, schema_Set_Find_v1_g n), (36, value_Right_g n)]
def schema_Set_Fits_lp (n : Nat) : (i : Nat) → (schema_Set_Fits_ds i).D → exK R (schema_Set_Fits_dx i) → Option R
  | 7, a, k => runC (schema_Set_Fits_l7 n) n a k
  | _, _, _ => none
def schema_Set_Fits_cx (R : Type) (n : Nat) : Cx R := ⟨Tryd.prog, Gof (schema_Set_Fits_cs R n), schema_Set_Fits_ds, schema_Set_Fits_dx, schema_Set_Fits_lp n, drawP Tryd.prog (Gof (schema_Set_Fits_cs R n)), false, noJn, noFz⟩
theorem schema_Set_Fits_ok (n : Nat) : Good Tryd.prog 24 (schema_Set_Fits_g (R := R) n) := by
  unfold schema_Set_Fits_g
  rw [schema_Set_Fits_e]
  exact Good.fn (cx := schema_Set_Fits_cx R n) (by kernel_rfl) (AllGood.cons (schema_Set_Find_v1_ok n) (AllGood.cons (value_Right_ok n) (AllGood.nil))) rfl Tryd.func24 (by kernel_rfl) rfl (by
    have e : fnLoops noJn Tryd.f24 = [((fnLoops noJn Tryd.f24)[0]?).getD (false, .skip)] := by kernel_rfl
    show LoopRuns _ _ (fnLoops noJn _)
    rw [e]
    exact ⟨LoopRun.loop (by kernel_rfl) (i := 7) (m := n) (step := schema_Set_Fits_l7 n) (by kernel_rfl) (fun a k1 k2 => by kernel_rfl) (fun _ _ => rfl), trivial⟩) 3 schema_Set_Fits_d (by kernel_rfl) (fun x k => by kernel_rfl)
end
end Go.Proofs.YtegknlkeokfghaaDoor.E
set_option linter.unusedVariables false
set_option maxRecDepth 100000
namespace Go.Proofs.YtegknlkeokfghaaDoor.E
open Go.Proofs
noncomputable section
variable {R : Type}
/-! verderer/verdererref01.Right: function 37 -/
@[reducible] def verdererref01_Right_d : Desc := ⟨[(0, .d ty66)], []⟩
def verdererref01_Right_Fi (n : Nat) (a0 : ty66.D) (k0 : Bool → Option R) : Option R :=
  if (decide (a0.1 < 0)) = true then (k0 false) else (if (decide (a0.1 > 3)) = true then (k0 false) else (if (a0.1 != 1) = true then (if a0.2.1 = true then (k0 false) else (if (a0.1 != 2) = true then (if (a0.2.2.1 != 0) = true then (k0 false) else (if (a0.1 != 3) = true then (if (!(a0.2.2.2.1.toList == (⟨#[]⟩ : ByteArray).toList)) = true then (k0 false) else (k0 (decide ((a0.2.2.2.1.size : Int) ≤ 60)))) else (k0 (decide ((a0.2.2.2.1.size : Int) ≤ 60))))) else (if (a0.1 != 3) = true then (if (!(a0.2.2.2.1.toList == (⟨#[]⟩ : ByteArray).toList)) = true then (k0 false) else (k0 (decide ((a0.2.2.2.1.size : Int) ≤ 60)))) else (k0 (decide ((a0.2.2.2.1.size : Int) ≤ 60)))))) else (if (a0.1 != 2) = true then (if (a0.2.2.1 != 0) = true then (k0 false) else (if (a0.1 != 3) = true then (if (!(a0.2.2.2.1.toList == (⟨#[]⟩ : ByteArray).toList)) = true then (k0 false) else (k0 (decide ((a0.2.2.2.1.size : Int) ≤ 60)))) else (k0 (decide ((a0.2.2.2.1.size : Int) ≤ 60))))) else (if (a0.1 != 3) = true then (if (!(a0.2.2.2.1.toList == (⟨#[]⟩ : ByteArray).toList)) = true then (k0 false) else (k0 (decide ((a0.2.2.2.1.size : Int) ≤ 60)))) else (k0 (decide ((a0.2.2.2.1.size : Int) ≤ 60)))))))
def verdererref01_Right_F {R : Type} := lazyN (@verdererref01_Right_Fi R)
theorem verdererref01_Right_e : @verdererref01_Right_F R = @verdererref01_Right_Fi R := lazyN_eq _
def verdererref01_Right_g (n : Nat) : Gx R := typed 1 verdererref01_Right_d fun x k => verdererref01_Right_F n x.1 (fun y0 => k (.a (.c (.b y0))) [])
def verdererref01_Right_cs (R : Type) (n : Nat) : List (Nat × Gx R) := []
def verdererref01_Right_cx (R : Type) (n : Nat) : Cx R := ⟨Tryd.prog, Gof (verdererref01_Right_cs R n), noDs, noDx, noLp, drawP Tryd.prog (Gof (verdererref01_Right_cs R n)), false, noJn, noFz⟩
theorem verdererref01_Right_ok (n : Nat) : Good Tryd.prog 37 (verdererref01_Right_g (R := R) n) := by
  unfold verdererref01_Right_g
  rw [verdererref01_Right_e]
  exact Good.fn (cx := verdererref01_Right_cx R n) (by kernel_rfl) (AllGood.nil) rfl Tryd.func37 (by kernel_rfl) rfl trivial 1 verdererref01_Right_d (by kernel_rfl) (fun x k => by kernel_rfl)
end
end Go.Proofs.YtegknlkeokfghaaDoor.E
set_option linter.unusedVariables false
set_option maxRecDepth 100000
namespace Go.Proofs.YtegknlkeokfghaaDoor.E
open Go.Proofs
noncomputable section
variable {R : Type}
/-! verderer/verdererref07.Fits: function 25 -/
def verdererref07_Fits_ds : Nat → Desc
  | 7 => ⟨[(2, .d (.sl ty66)), (7, .pt 1 0), (9, .d (.int .i64))], [.no, .box false 24 [.d .str, .d (.sl ty51)]]⟩
  | _ => ⟨[], []⟩
def verdererref07_Fits_dx : Nat → List (X × Desc)
  | 7 => [(.r, ⟨[(6, .d (.int .i64))], []⟩), (.e 0, ⟨[], []⟩)]
  | _ => []
def verdererref07_Fits_s7 (n : Nat) (x0 : (List ty66.D)) (x1 : Int) (x2 : ByteArray) (x3 : (List ty51.D)) (k1 : (List ty66.D) → Int → ByteArray → (List ty51.D) → Option R) (qr : Int → Option R) (qe0 : Option R) : Option R :=
  if (decide (x1 < (x0.length : Int))) = true then (if (decide (x1 < (x3.length : Int))) = true then (if (0 : Int) ≤ x1 ∧ x1 < (x0.length : Int) then (verdererref01_Right_F n (x0.getD (Int.toNat x1) (Ty.z ty66)) (fun y3 => if (!y3) = true then (qr 11) else (if (0 : Int) ≤ x1 ∧ x1 < (x3.length : Int) then (if ((x0.getD (Int.toNat x1) (Ty.z ty66)).1 != (x3.getD (Int.toNat x1) (Ty.z ty51)).2.1) = true then (if ((x0.getD (Int.toNat x1) (Ty.z ty66)).1 == 0) = true then (if (0 : Int) ≤ x1 ∧ x1 < (x3.length : Int) then (if (!(x3.getD (Int.toNat x1) (Ty.z ty51)).2.2.1) = true then (qr 11) else (k1 x0 (IntKind.i64.wrap (x1 + 1)) x2 x3)) else none) else (qr 11)) else (k1 x0 (IntKind.i64.wrap (x1 + 1)) x2 x3)) else none))) else none) else qe0) else qe0
def verdererref07_Fits_l7 (n : Nat) (a : (verdererref07_Fits_ds 7).D) (k1 : (verdererref07_Fits_ds 7).D → Option R) (k2 : exK R (verdererref07_Fits_dx 7)) : Option R :=
  verdererref07_Fits_s7 n a.1 a.2.1 a.2.2.1 a.2.2.2.1 (fun x0 x1 x2 x3 => k1 (x0, x1, x2, x3, ())) (fun x0 => k2.1 (x0, ())) (k2.2.1 (()))
@[reducible] def verdererref07_Fits_d : Desc := ⟨[(0, .d (.sl ty24)), (1, .d .str), (2, .d (.sl ty66))], []⟩
def verdererref07_Fits_Fi (n : Nat) (a0 : (List ty24.D)) (a1 : ByteArray) (a2 : (List ty66.D)) (k0 : Int → Option R) : Option R :=
  verdererref07_Find_F n a0 a1 (fun y1 y2 => if (y2 != 0) = true then (k0 y2) else (if ((a2.length : Int) != (y1.2.1.length : Int)) = true then (k0 9) else (runC (verdererref07_Fits_l7 n) n (a2, 0, y1.1, y1.2.1, ()) (fun b4 => k0 b4.1, fun b4 => k0 0, ()))))
def verdererref07_Fits_F {R : Type} := lazyN (@verdererref07_Fits_Fi R)
theorem verdererref07_Fits_e : @verdererref07_Fits_F R = @verdererref07_Fits_Fi R := lazyN_eq _
def verdererref07_Fits_g (n : Nat) : Gx R := typed 3 verdererref07_Fits_d fun x k => verdererref07_Fits_F n x.1 x.2.1 x.2.2.1 (fun y0 => k (.a (.c (.i .i64 y0))) [])
def verdererref07_Fits_cs (R : Type) (n : Nat) : List (Nat × Gx R) := [(21, verdererref07_Find_g n), (37, verdererref01_Right_g n)]
def verdererref07_Fits_lp (n : Nat) : (i : Nat) → (verdererref07_Fits_ds i).D → exK R (verdererref07_Fits_dx i) → Option R
  | 7, a, k => runC (verdererref07_Fits_l7 n) n a k
  | _, _, _ => none
def verdererref07_Fits_cx (R : Type) (n : Nat) : Cx R := ⟨Tryd.prog, Gof (verdererref07_Fits_cs R n), verdererref07_Fits_ds, verdererref07_Fits_dx, verdererref07_Fits_lp n, drawP Tryd.prog (Gof (verdererref07_Fits_cs R n)), false, noJn, noFz⟩
theorem verdererref07_Fits_ok (n : Nat) : Good Tryd.prog 25 (verdererref07_Fits_g (R := R) n) := by
  unfold verdererref07_Fits_g
  rw [verdererref07_Fits_e]
  exact Good.fn (cx := verdererref07_Fits_cx R n) (by kernel_rfl) (AllGood.cons (verdererref07_Find_ok n) (AllGood.cons (verdererref01_Right_ok n) (AllGood.nil))) rfl Tryd.func25 (by kernel_rfl) rfl (by
    have e : fnLoops noJn Tryd.f25 = [((fnLoops noJn Tryd.f25)[0]?).getD (false, .skip)] := by kernel_rfl
    show LoopRuns _ _ (fnLoops noJn _)
    rw [e]
    exact ⟨LoopRun.loop (by kernel_rfl) (i := 7) (m := n) (step := verdererref07_Fits_l7 n) (by kernel_rfl) (fun a k1 k2 => by kernel_rfl) (fun _ _ => rfl), trivial⟩) 3 verdererref07_Fits_d (by kernel_rfl) (fun x k => by kernel_rfl)
end
end Go.Proofs.YtegknlkeokfghaaDoor.E
set_option linter.unusedVariables false
set_option maxRecDepth 100000
namespace Go.Proofs.YtegknlkeokfghaaDoor.E
open Go.Proofs
noncomputable section
variable {R : Type}
/-! (*verderer/schema.Set).Fits: function 24 -/
def schema_Set_Fits_v1_ds : Nat → Desc
  | 7 => ⟨[(7, .pt 3 0), (30, .d (.sl ty66)), (31, .d (.int .i64)), (32, .d (.int .i64))], [.box true 59 [.ow 1], .arr 24 ty24, .no, .box false 24 [.d .str, .d (.sl ty51)]]⟩
  | _ => ⟨[], []⟩
def schema_Set_Fits_v1_dx : Nat → List (X × Desc)
  | 7 => [(.r, ⟨[(6, .d (.int .i64))], [.box true 59 [.ow 1], .arr 24 ty24]⟩), (.e 1, ⟨[], [.box true 59 [.ow 1], .arr 24 ty24]⟩)]
  | _ => []
def schema_Set_Fits_v1_s7 (n : Nat) (x0 : (List ty66.D)) (x1 : Int) (x2 : Int) (x3 : (List ty24.D)) (x4 : ByteArray) (x5 : (List ty51.D)) (k1 : (List ty66.D) → Int → Int → (List ty24.D) → ByteArray → (List ty51.D) → Option R) (qr : Int → (List ty24.D) → Option R) (qe1 : (List ty24.D) → Option R) : Option R :=
  if (decide (x2 < x1)) = true then (if (0 : Int) ≤ x2 ∧ x2 < (x0.length : Int) then (if (0 : Int) ≤ x2 ∧ x2 < (x5.length : Int) then (if (x5.getD (Int.toNat x2) (Ty.z ty51)).2.2.1 = true then (value_Right_F n (x0.getD (Int.toNat x2) (Ty.z ty66)) (fun y4 => if (!y4) = true then (qr 11 x3) else (if ((x0.getD (Int.toNat x2) (Ty.z ty66)).1 != (x5.getD (Int.toNat x2) (Ty.z ty51)).2.1) = true then (if (!((x0.getD (Int.toNat x2) (Ty.z ty66)).1 == 0)) = true then (qr 11 x3) else (k1 x0 x1 (IntKind.i64.wrap (x2 + 1)) x3 x4 x5)) else (k1 x0 x1 (IntKind.i64.wrap (x2 + 1)) x3 x4 x5)))) else (value_Right_F n (x0.getD (Int.toNat x2) (Ty.z ty66)) (fun y5 => if (!y5) = true then (qr 11 x3) else (if ((x0.getD (Int.toNat x2) (Ty.z ty66)).1 != (x5.getD (Int.toNat x2) (Ty.z ty51)).2.1) = true then (qr 11 x3) else (k1 x0 x1 (IntKind.i64.wrap (x2 + 1)) x3 x4 x5))))) else none) else none) else (qe1 x3)
def schema_Set_Fits_v1_l7 (n : Nat) (a : (schema_Set_Fits_v1_ds 7).D) (k1 : (schema_Set_Fits_v1_ds 7).D → Option R) (k2 : exK R (schema_Set_Fits_v1_dx 7)) : Option R :=
  schema_Set_Fits_v1_s7 n a.1 a.2.1 a.2.2.1 a.2.2.2.1 a.2.2.2.2.1 a.2.2.2.2.2.1 (fun x0 x1 x2 x3 x4 x5 => k1 (x0, x1, x2, x3, x4, x5, ())) (fun x0 x1 => k2.1 (x0, x1, ())) (fun x0 => k2.2.1 (x0, ()))
@[reducible] def schema_Set_Fits_v1_d : Desc := ⟨[(0, .pt 0 0), (1, .d .str), (2, .d (.sl ty66))], [.box true 59 [.ow 1], .arr 24 ty24]⟩
def schema_Set_Fits_v1_Fi (n : Nat) (a0 : ByteArray) (a1 : (List ty66.D)) (a2 : (List ty24.D)) (k0 : Int → (List ty24.D) → Option R) : Option R :=
  schema_Set_Find_F n a0 a2 (fun y1 y2 y3 => if (y2 != 0) = true then (k0 y2 y3) else (if ((a1.length : Int) != (y1.2.1.length : Int)) = true then (k0 9 y3) else (runC (schema_Set_Fits_v1_l7 n) n (a1, (a1.length : Int), 0, y3, y1.1, y1.2.1, ()) (fun b7 => k0 b7.1 b7.2.1, fun b8 => k0 0 b8.1, ()))))
def schema_Set_Fits_v1_F {R : Type} := lazyN (@schema_Set_Fits_v1_Fi R)
theorem schema_Set_Fits_v1_e : @schema_Set_Fits_v1_F R = @schema_Set_Fits_v1_Fi R := lazyN_eq _
def schema_Set_Fits_v1_g (n : Nat) : Gx R := typed 3 schema_Set_Fits_v1_d fun x k => schema_Set_Fits_v1_F n x.1 x.2.1 x.2.2.1 (fun y0 y1 => k (.a (.c (.i .i64 y0))) [(.box true 59 [(.ow 1)]), (.arr 24 ty24 y1)])
def schema_Set_Fits_v1_cs (R : Type) (n : Nat) : List (Nat × Gx R) := [(20, schema_Set_Find_g n), (36, value_Right_g n)]
def schema_Set_Fits_v1_lp (n : Nat) : (i : Nat) → (schema_Set_Fits_v1_ds i).D → exK R (schema_Set_Fits_v1_dx i) → Option R
  | 7, a, k => runC (schema_Set_Fits_v1_l7 n) n a k
  | _, _, _ => none
def schema_Set_Fits_v1_cx (R : Type) (n : Nat) : Cx R := ⟨Tryd.prog, Gof (schema_Set_Fits_v1_cs R n), schema_Set_Fits_v1_ds, schema_Set_Fits_v1_dx, schema_Set_Fits_v1_lp n, drawP Tryd.prog (Gof (schema_Set_Fits_v1_cs R n)), false, noJn, noFz⟩
theorem schema_Set_Fits_v1_ok (n : Nat) : Good Tryd.prog 24 (schema_Set_Fits_v1_g (R := R) n) := by
  unfold schema_Set_Fits_v1_g
  rw [schema_Set_Fits_v1_e]
  exact Good.fn (cx := schema_Set_Fits_v1_cx R n) (by kernel_rfl) (AllGood.cons (schema_Set_Find_ok n) (AllGood.cons (value_Right_ok n) (AllGood.nil))) rfl Tryd.func24 (by kernel_rfl) rfl (by
    have e : fnLoops noJn Tryd.f24 = [((fnLoops noJn Tryd.f24)[0]?).getD (false, .skip)] := by kernel_rfl
    show LoopRuns _ _ (fnLoops noJn _)
    rw [e]
    exact ⟨LoopRun.loop (by kernel_rfl) (i := 7) (m := n) (step := schema_Set_Fits_v1_l7 n) (by kernel_rfl) (fun a k1 k2 => by kernel_rfl) (fun _ _ => rfl), trivial⟩) 3 schema_Set_Fits_v1_d (by kernel_rfl) (fun x k => by kernel_rfl)
end
end Go.Proofs.YtegknlkeokfghaaDoor.E
set_option linter.unusedVariables false
set_option maxRecDepth 100000
namespace Go.Proofs.YtegknlkeokfghaaDoor.E
open Go.Proofs
noncomputable section
variable {R : Type}
/-! verderer/verdererlaw07.SchemaFits: function 6 -/
@[reducible] def verdererlaw07_SchemaFits_d : Desc := ⟨[(0, .d (.sl ty24)), (1, .d .str), (2, .d (.sl ty66))], []⟩
def verdererlaw07_SchemaFits_Fi (n : Nat) (a0 : (List ty24.D)) (a1 : ByteArray) (a2 : (List ty66.D)) (k0 : Bool → Option R) : Option R :=
  verdererlaw07_few_F n a0 (fun y1 => if (!y1) = true then (verdererlaw07_known_F n (fun y2 => k0 y2)) else (if (decide ((a2.length : Int) > 50)) = true then (verdererlaw07_known_F n (fun y3 => k0 y3)) else (schema_New_F n a0 (fun y4 => if (y4 != 0) = true then (verdererlaw07_known_F n (fun y5 => k0 y5)) else (schema_Set_Fits_F n a1 a2 (fun y6 => verdererref07_Fits_F n a0 a1 a2 (fun y7 => if (y6 == y7) = true then (verdererlaw07_known_F n (fun y8 => k0 y8)) else (k0 false))))) (fun y9 y10 => if (y9 != 0) = true then (k0 false) else (schema_Set_Fits_v1_F n a1 a2 y10 (fun y11 y12 => verdererref07_Fits_F n a0 a1 a2 (fun y13 => if (y11 == y13) = true then (verdererlaw07_known_F n (fun y14 => k0 y14)) else (k0 false))))))))
def verdererlaw07_SchemaFits_F {R : Type} := lazyN (@verdererlaw07_SchemaFits_Fi R)
theorem verdererlaw07_SchemaFits_e : @verdererlaw07_SchemaFits_F R = @verdererlaw07_SchemaFits_Fi R := lazyN_eq _
def verdererlaw07_SchemaFits_g (n : Nat) : Gx R := typed 3 verdererlaw07_SchemaFits_d fun x k => verdererlaw07_SchemaFits_F n x.1 x.2.1 x.2.2.1 (fun y0 => k (.a (.c (.b y0))) [])
def verdererlaw07_SchemaFits_cs (R : Type) (n : Nat) : List (Nat × Gx R) := [(8, verdererlaw07_few_g n), (9, verdererlaw07_known_g n), (17, schema_New_g n), (24, orG (schema_Set_Fits_g n) (schema_Set_Fits_v1_g n) (fits 3 schema_Set_Fits_d)), (25, verdererref07_Fits_g n)]
def verdererlaw07_SchemaFits_cx (R : Type) (n : Nat) : Cx R := ⟨Tryd.prog, Gof (verdererlaw07_SchemaFits_cs R n), noDs, noDx, noLp, drawP Tryd.prog (Gof (verdererlaw07_SchemaFits_cs R n)), false, noJn, noFz⟩
theorem verdererlaw07_SchemaFits_ok (n : Nat) : Good Tryd.prog 6 (verdererlaw07_SchemaFits_g (R := R) n) := by
  unfold verdererlaw07_SchemaFits_g
  rw [verdererlaw07_SchemaFits_e]
  exact Good.fn (cx := verdererlaw07_SchemaFits_cx R n) (by kernel_rfl) (AllGood.cons (verdererlaw07_few_ok n) (AllGood.cons (verdererlaw07_known_ok n) (AllGood.cons (schema_New_ok n) (AllGood.cons (Good.or (schema_Set_Fits_ok n) (schema_Set_Fits_v1_ok n) _) (AllGood.cons (verdererref07_Fits_ok n) (AllGood.nil)))))) rfl Tryd.func6 (by kernel_rfl) rfl trivial 3 verdererlaw07_SchemaFits_d (by kernel_rfl) (fun x k => by kernel_rfl)
end
end Go.Proofs.YtegknlkeokfghaaDoor.E
set_option linter.unusedVariables false
set_option maxRecDepth 100000
namespace Go.Proofs.YtegknlkeokfghaaDoor.E
open Go.Proofs
noncomputable section
variable {R : Type}
/-! verderer/verdererlaw07.SchemaNil: function 7 -/
@[reducible] def verdererlaw07_SchemaNil_d : Desc := ⟨[(0, .d .str), (1, .d (.sl ty66))], []⟩
def verdererlaw07_SchemaNil_Fi (n : Nat) (a0 : ByteArray) (a1 : (List ty66.D)) (k0 : Bool → Option R) : Option R :=
  schema_Set_Find_v1_F n a0 (fun y1 y2 y3 => schema_Set_Columns_F n a0 (fun y4 y5 => schema_Set_Kinds_F n (fun y6 => if ((y6.length : Int) == 0) = true then (if (y2 == 1) = true then (schema_Set_Fits_F n a0 a1 (fun y7 => if (y7 == 1) = true then (if (y4 == 1) = true then (verdererlaw07_known_F n (fun y8 => k0 y8)) else (k0 false)) else (k0 false))) else (k0 false)) else (k0 false))))
def verdererlaw07_SchemaNil_F {R : Type} := lazyN (@verdererlaw07_SchemaNil_Fi R)
theorem verdererlaw07_SchemaNil_e : @verdererlaw07_SchemaNil_F R = @verdererlaw07_SchemaNil_Fi R := lazyN_eq _
def verdererlaw07_SchemaNil_g (n : Nat) : Gx R := typed 2 verdererlaw07_SchemaNil_d fun x k => verdererlaw07_SchemaNil_F n x.1 x.2.1 (fun y0 => k (.a (.c (.b y0))) [])
def verdererlaw07_SchemaNil_cs (R : Type) (n : Nat) : List (Nat × Gx R) := [(9, verdererlaw07_known_g n), (19, schema_Set_Kinds_g n), (20, schema_Set_Find_v1_g n), (22, schema_Set_Columns_g n), (24, schema_Set_Fits_g n)]
def verdererlaw07_SchemaNil_cx (R : Type) (n : Nat) : Cx R := ⟨Tryd.prog, Gof (verdererlaw07_SchemaNil_cs R n), noDs, noDx, noLp, drawP Tryd.prog (Gof (verdererlaw07_SchemaNil_cs R n)), false, noJn, noFz⟩
theorem verdererlaw07_SchemaNil_ok (n : Nat) : Good Tryd.prog 7 (verdererlaw07_SchemaNil_g (R := R) n) := by
  unfold verdererlaw07_SchemaNil_g
  rw [verdererlaw07_SchemaNil_e]
  exact Good.fn (cx := verdererlaw07_SchemaNil_cx R n) (by kernel_rfl) (AllGood.cons (verdererlaw07_known_ok n) (AllGood.cons (schema_Set_Kinds_ok n) (AllGood.cons (schema_Set_Find_v1_ok n) (AllGood.cons (schema_Set_Columns_ok n) (AllGood.cons (schema_Set_Fits_ok n) (AllGood.nil)))))) rfl Tryd.func7 (by kernel_rfl) rfl trivial 2 verdererlaw07_SchemaNil_d (by kernel_rfl) (fun x k => by kernel_rfl)
end
end Go.Proofs.YtegknlkeokfghaaDoor.E
