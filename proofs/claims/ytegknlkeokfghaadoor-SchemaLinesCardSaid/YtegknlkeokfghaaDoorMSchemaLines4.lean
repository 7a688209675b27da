/- A text of the proof that the law SchemaLines returns true: nothing is assumed in it. -/
import Derived.Test.YtegknlkeokfghaaDoorMSchemaLines3
import Derived.ChangeArms
import Derived.ChangeSame
import Derived.WideLaws
import Derived.Deep.Slices
import Derived.Laws.Bits64
import Derived.KernelRfl
set_option linter.unusedVariables false
set_option linter.unusedSimpArgs false
namespace Go.Proofs.YtegknlkeokfghaaDoor.E
open Go.RowKit
/-! # 15. From the form's reading of an argument to data, and from a function's row to its calls -/
/-- what a reading pays -/
def Fine : (t : Ty) → t.D → Prop
  | .bool, _ => True
  | .int k, n => (Lit.int k n).wf = true
  | .str, s => s.size ≤ 9223372036854775807
  | .sl e, l => l.length ≤ 9223372036854775807 ∧ ∀ x ∈ l, Fine e x
  | .pr a b, x => Fine a x.1 ∧ Fine b x.2
  | .un, _ => True
def chkF (q : Nat → Ty → Bool) (P : Program) : List Field → Nat → Ty → Bool
  | f :: fs, off, .pr a b => Nat.beq f.offset off && q f.type a && Nat.beq (P.cellsOf f.type) a.sz && chkF q P fs (off + a.sz) b
  | [], _, .un => true
  | _, _, _ => false
def chkTy (P : Program) : Nat → Nat → Ty → Bool
  | 0, _, _ => false
  | d + 1, t, ty => match P.underlying t, ty with
    | some .bool, .bool => true
    | some (.int k), .int k' => decide (k = k')
    | some .string, .str => true
    | some (.slice e), .sl x => chkTy P d e x && Nat.beq (P.cellsOf e) x.sz && Nat.blt 0 x.sz
    | some (.struct fs), ty => chkF (chkTy P d) P fs.toList 0 ty && Nat.beq (P.cellsOf t) ty.sz
    | _, _ => false
theorem mapM_mem {α β : Type} {f : α → Option β} : ∀ {l : List α} {r : List β}, l.mapM f = some r → r.length = l.length ∧ ∀ (i : Nat) (a : α), l[i]? = some a → ∃ b, r[i]? = some b ∧ f a = some b
  | [], r, h => by
    simp only [List.mapM_nil] at h
    injection h with h
    subst h
    exact ⟨rfl, fun i a ha => by simp at ha⟩
  | x :: l, r, h => by
    simp only [List.mapM_cons, Option.bind_eq_bind] at h
    obtain ⟨b, hb, h⟩ := Option.bind_eq_some_iff.1 h
    obtain ⟨bs, hbs, h⟩ := Option.bind_eq_some_iff.1 h
    injection h with h
    subst h
    obtain ⟨hl, hi⟩ := mapM_mem hbs
    refine ⟨by simp [hl], fun i a ha => ?_⟩
    cases i with
    | zero => simp at ha; subst ha; exact ⟨b, rfl, hb⟩
    | succ i => simpa using hi i a (by simpa using ha)
theorem exists_list {α : Type} (Q : Nat → α → Prop) : ∀ n, (∀ i, i < n → ∃ x, Q i x) → ∃ l : List α, l.length = n ∧ ∀ i x, l[i]? = some x → Q i x
  | 0, _ => ⟨[], rfl, fun i x h => by simp at h⟩
  | n + 1, h => by
    obtain ⟨l, hl, hq⟩ := exists_list Q n (fun i hi => h i (by omega))
    obtain ⟨x, hx⟩ := h n (by omega)
    refine ⟨l ++ [x], by simp [hl], fun i y hy => ?_⟩
    rcases Nat.lt_or_ge i l.length with hi | hi
    · rw [List.getElem?_append_left hi] at hy; exact hq i y hy
    · rw [List.getElem?_append_right hi] at hy
      have : i - l.length = 0 := by
        rcases Nat.eq_zero_or_pos (i - l.length) with h0 | h0
        · exact h0
        · rw [List.getElem?_eq_none (by simp; omega)] at hy; cases hy
      rw [this] at hy
      simp at hy
      subst hy
      have : i = n := by omega
      rw [this]; exact hx
theorem cells_at {w : World} {base : Nat} {a : Addr} {n : Nat} {cs : List Value} (h : w.cells? base a n = some cs) : cs.length = n ∧ ∀ i u, cs[i]? = some u → w.cell? (a.add i) = some u := by
  unfold World.cells? at h
  split at h
  · obtain ⟨hl, hi⟩ := mapM_mem h
    simp only [List.length_range] at hl
    refine ⟨hl, fun i u hu => ?_⟩
    have hlt : i < n := by rw [← hl]; exact (List.getElem?_eq_some_iff.1 hu).1
    obtain ⟨b, hb, hc⟩ := hi i i (by rw [List.getElem?_range hlt])
    rw [hu] at hb
    injection hb with hb
    subst hb
    exact hc
  · cases h
theorem add_add (a : Addr) (i j : Nat) : (a.add i).add j = a.add (i + j) := by
  unfold Addr.add
  by_cases hi : i = 0
  · subst hi; simp
  · by_cases hj : j = 0
    · subst hj; simp [hi]
    · simp [hi, hj, Nat.add_assoc]
theorem cell_spot {w : World} {a : Addr} {u : Value} (h : w.cell? a = some u) : a.spot = none ∧ a.block < w.heap.size := by
  unfold World.cell? at h
  split at h
  · rename_i c e f hb
    split at h
    · cases h
    · rename_i hs
      refine ⟨?_, (Array.getElem?_eq_some_iff.1 hb).1⟩
      cases hsp : a.spot with
      | none => rfl
      | some _ => rw [hsp] at hs; simp at hs
  · cases h
/-- whatever reads at a type is data of it, and good -/
theorem trod_chk {P : Program} : ∀ (d t : Nat) (ty : Ty), chkTy P d t ty = true → ∀ (H : Type) (enc : TypeId × Value → H) (w : World) (sp : Nat → Bool) (fuel : Nat) (cs : List Value) (y : DataW H × List MemPlace),
    DataW.trod enc P w 0 sp true fuel t cs = some y → ∃ x : ty.D, DRep w (fun b => b < w.heap.size) ty x cs ∧ Fine ty x
  | 0, _, _, h => by cases h
  | d + 1, t, ty, h => by
    intro H enc w sp fuel cs y hy
    simp only [chkTy] at h
    split at h
    · rename_i hu
      obtain ⟨n, rfl, _⟩ := DataW.trod_bool hu hy
      exact ⟨n, rfl, trivial⟩
    · rename_i k k' hu
      have : k = k' := by simpa using h
      subst this
      obtain ⟨n, rfl, _, hw⟩ := DataW.trod_int hu hy
      exact ⟨n, rfl, hw⟩
    · rename_i hu
      obtain ⟨s, rfl, _, hs⟩ := DataW.trod_string hu hy
      exact ⟨s, rfl, by unfold maxLen at hs; exact hs⟩
    · rename_i e x hu
      simp only [Bool.and_eq_true] at h
      obtain ⟨⟨h1, h2⟩, h3⟩ := h
      have hs := Nat.eq_of_beq_eq_true h2
      have hpos : 0 < x.sz := Nat.le_of_ble_eq_true h3
      rcases DataW.trod_slice hu hy with ⟨rfl, _⟩ | ⟨a, len, cap, elems, rest, n, _, rfl, _, _, hlc, hcm, hel, hi, _⟩
      · exact ⟨[], ⟨none, 0, rfl, ⟨Nat.le_refl _, fun _ => rfl⟩, fun i hi => by simp at hi⟩, by simp [Fine]⟩
      · obtain ⟨l, hl, hq⟩ := exists_list (fun i (v : x.D) => (∃ c, c.length = x.sz ∧ DRep w (fun b => b < w.heap.size) x v c ∧ ∀ j u, c[j]? = some u → w.cell? (a.add (i * x.sz + j)) = some u) ∧ Fine x v) len (fun i hlt => by
          have hb := hi i hlt
          obtain ⟨z, hz⟩ : ∃ z, elems[i]? = some z := ⟨elems[i]'(by omega), List.getElem?_eq_getElem _⟩
          rw [hz] at hb
          obtain ⟨c, hc, hz'⟩ := Option.bind_eq_some_iff.1 hb
          obtain ⟨v, hK, hG⟩ := trod_chk d e x h1 H enc w sp n c z hz'
          obtain ⟨hcl, hcell⟩ := cells_at hc
          refine ⟨v, ⟨c, by rw [hcl, hs], hK, fun j u hu => ?_⟩, hG⟩
          have := hcell j u hu
          rw [hs, add_add] at this
          exact this)
        refine ⟨l, ⟨some a, cap, by rw [hl], ⟨by omega, fun h => by cases h⟩, fun i hi => ?_⟩, by unfold maxLen at hcm; omega, fun v hv => ?_⟩
        · obtain ⟨⟨c, hcl, hK, hcell⟩, _⟩ := hq i _ (List.getElem?_eq_getElem hi)
          obtain ⟨⟨c0, hcl0, _, hcell0⟩, _⟩ := hq 0 _ (List.getElem?_eq_getElem (by omega))
          have h0 := hcell0 0 (c0[0]'(by omega)) (List.getElem?_eq_getElem _)
          have ha0 : a.add (0 * x.sz + 0) = a := by simp [Addr.add]
          rw [ha0] at h0
          obtain ⟨sp1, sp2⟩ := cell_spot h0
          obtain ⟨b, o, s⟩ := a
          simp only at sp1 sp2
          subst sp1
          refine ⟨b, o, c, rfl, sp2, fun j u hu => ?_, hK⟩
          have := hcell j u hu
          rw [Addr.add_mid] at this
          rw [← this, Nat.add_assoc]
        · obtain ⟨j, hj⟩ := List.getElem?_of_mem hv
          exact (hq j v hj).2
    · rename_i fs hu
      simp only [Bool.and_eq_true] at h
      obtain ⟨h1, h2⟩ := h
      have hsz := Nat.eq_of_beq_eq_true h2
      obtain ⟨xs, n, _, _, hl, hx, hi⟩ := DataW.trod_struct hu hy
      have each : ∀ f ∈ fs.toList, ∃ y, DataW.trod enc P w 0 sp true n f.type ((cs.drop f.offset).take (P.cellsOf f.type)) = some y := by
        intro f hf
        obtain ⟨i, hf⟩ := List.getElem?_of_mem hf
        have hlt : i < fs.size := by have := (List.getElem?_eq_some_iff.1 hf).1; simpa using this
        have := hi i f (by simpa using hf)
        rw [List.getElem?_eq_getElem (by omega)] at this
        exact ⟨_, this⟩
      have key : ∀ (l : List Field) (off : Nat) (ty : Ty), chkF (chkTy P d) P l off ty = true → (∀ f ∈ l, ∃ y, DataW.trod enc P w 0 sp true n f.type ((cs.drop f.offset).take (P.cellsOf f.type)) = some y) →
          ∃ x : ty.D, DRep w (fun b => b < w.heap.size) ty x ((cs.drop off).take ty.sz) ∧ Fine ty x := by
        intro l
        induction l with
        | nil =>
          intro off ty h _
          cases ty <;> first | cases h | skip
          exact ⟨(), by simp [DRep, Ty.sz], trivial⟩
        | cons f l ih =>
          intro off ty h hf
          cases ty with
          | pr a b =>
            simp only [chkF, Bool.and_eq_true] at h
            obtain ⟨⟨⟨g1, g2⟩, g3⟩, g4⟩ := h
            have e1 := Nat.eq_of_beq_eq_true g1
            have e3 := Nat.eq_of_beq_eq_true g3
            obtain ⟨y1, hy1⟩ := hf f (by simp)
            rw [e1, e3] at hy1
            obtain ⟨x1, k1, f1⟩ := trod_chk d f.type a g2 H enc w sp n _ y1 hy1
            obtain ⟨x2, k2, f2⟩ := ih (off + a.sz) b g4 fun f hm => hf f (List.mem_cons_of_mem _ hm)
            refine ⟨(x1, x2), ⟨_, _, ?_, k1, k2⟩, f1, f2⟩
            show (cs.drop off).take (a.sz + b.sz) = _
            rw [List.take_add, List.drop_drop]
          | _ => cases h
      obtain ⟨x, hk, hg⟩ := key fs.toList 0 _ h1 each
      refine ⟨x, ?_, hg⟩
      rw [List.drop_zero, List.take_of_length_le (by omega)] at hk
      exact hk
    · cases h
section
variable {P : Program} {w : World} {F : Nat → Prop}
theorem repA_row (a b : Ty) {x : (Ty.pr a b).D} {cs : List Value} (h : DRep w F (.pr a b) x cs) : RepA w F [] (.agg cs.toArray) (encA (.pr a b) x) :=
  ⟨_, rfl, enc_rep h⟩
/-- a law: it comes to true, and leaves all that there was -/
theorem law_calls {f : Nat} {g : Gx Unit} (h : Good P f g) {fn : Func} (hf : P.funcs[f]? = some fn) (hname : (fn.name == "runtime.NumGoroutine") = false) (hb : fn.body.isSome = true) {args : List A} {vs : List Value} {W : World} (ha : All2 (RepA W (fun b => b < W.heap.size) []) vs args)
    (ht : g args [] (fun x _ => match x with | .a (.c (.b b)) => (bif b then some () else none) | _ => none) = some ()) : Calls P f vs.toArray W fun e W' => e = .returned (.bool true) ∧ Below W.heap.size W W' := by
  have hd := h.1 args [] _ () ht vs W _ [] (Inv.nil fun _ h => h) ha
  rcases hd with ⟨_, hd⟩ | ⟨v, hd, _⟩
  rotate_left
  · have h1 : ¬ fn.name = "runtime.NumGoroutine" := by simpa using hname
    have h2 : ¬ fn.body = none := by intro e; rw [e] at hb; cases hb
    simp [callFunc, hf, h1, h2, Sem.run_pure] at hd
  refine hd.mono ?_
  rintro e W' ⟨x, HN, v, F', hvN, hk, rfl, iN, hx⟩
  have hv : v = .bool true := by
    split at hk
    · rename_i b
      cases b with
      | true => exact hx
      | false => cases hk
    · cases hk
  subst hv
  exact ⟨rfl, iN.os, iN.tape, iN.output, iN.size, fun k hk => iN.old k hk noU⟩
end
end Go.Proofs.YtegknlkeokfghaaDoor.E
namespace Go.Proofs.YtegknlkeokfghaaDoor.E
open Go.RowKit
/-! # 16. Plain lemmas -/
theorem wrap_i64 {x : Int} (h1 : -9223372036854775808 ≤ x) (h2 : x < 9223372036854775808) : IntKind.i64.wrap x = x := by
  simp [IntKind.wrap, IntKind.bits, IntKind.signed]
  split <;> omega
theorem wrap_succ (i : Nat) (h : i < 9223372036854775807) : IntKind.i64.wrap ((i : Int) + 1) = ((i + 1 : Nat) : Int) := by
  rw [wrap_i64 (by omega) (by omega)]
  rfl
theorem runC_st {α β R : Type} {step : α → (α → Option R) → β → Option R} (k : β) (r : Option R) (st : Nat → α) (m : Nat)
    (hs : ∀ i, i < m → (∀ k1, step (st i) k1 k = k1 (st (i + 1))) ∨ ∀ k1, step (st i) k1 k = r) (he : ∀ k1, step (st m) k1 k = r) {n : Nat} (hn : m < n) : runC step n (st 0) k = r := by
  have go : ∀ (d i n : Nat), i + d = m → d < n → runC step n (st i) k = r := by
    intro d
    induction d with
    | zero =>
      intro i n hi hn
      obtain ⟨n, rfl⟩ : ∃ q, n = q + 1 := ⟨n - 1, by omega⟩
      have : i = m := by omega
      subst this
      exact he _
    | succ d ih =>
      intro i n hi hn
      obtain ⟨n, rfl⟩ : ∃ q, n = q + 1 := ⟨n - 1, by omega⟩
      rcases hs i (by omega) with h | h
      · exact (h _).trans (ih (i + 1) n (by omega) (by omega))
      · exact h _
  exact go m 0 n (by omega) hn
theorem runC_up {α β R : Type} {step : α → (α → Option R) → β → Option R} (k : β) (r : Option R) (I : Nat → α → Prop) (m : Nat)
    (hs : ∀ i a, i < m → I i a → (∃ a', I (i + 1) a' ∧ ∀ k1, step a k1 k = k1 a') ∨ ∀ k1, step a k1 k = r) (he : ∀ a, I m a → ∀ k1, step a k1 k = r) {n : Nat} {a : α} (hn : m < n) (ha : I 0 a) : runC step n a k = r := by
  have go : ∀ (d i n : Nat) (a : α), i + d = m → d < n → I i a → runC step n a k = r := by
    intro d
    induction d with
    | zero =>
      intro i n a hi hn ha
      obtain ⟨n, rfl⟩ : ∃ q, n = q + 1 := ⟨n - 1, by omega⟩
      have : i = m := by omega
      subst this
      exact he a ha _
    | succ d ih =>
      intro i n a hi hn ha
      obtain ⟨n, rfl⟩ : ∃ q, n = q + 1 := ⟨n - 1, by omega⟩
      rcases hs i a (by omega) ha with ⟨a', h1, h2⟩ | h
      · exact (h2 _).trans (ih (i + 1) n a' (by omega) (by omega) h1)
      · exact h _
  exact go m 0 n a (by omega) hn ha
theorem runC_ex {α β γ R : Type} {step : α → (α → Option R) → β → Option R} (out : γ → β → Option R) (Q : Nat → γ → Prop) (st : Nat → α) (m : Nat)
    (hs : ∀ i, i < m → ((∀ k1 k2, step (st i) k1 k2 = k1 (st (i + 1))) ∧ ∀ y, Q (i + 1) y → Q i y) ∨ ∃ y, Q i y ∧ ∀ k1 k2, step (st i) k1 k2 = out y k2)
    (he : ∃ y, Q m y ∧ ∀ k1 k2, step (st m) k1 k2 = out y k2) {n : Nat} (hn : m < n) : ∃ y, Q 0 y ∧ ∀ k2, runC step n (st 0) k2 = out y k2 := by
  have go : ∀ (d i n : Nat), i + d = m → d < n → ∃ y, Q i y ∧ ∀ k2, runC step n (st i) k2 = out y k2 := by
    intro d
    induction d with
    | zero =>
      intro i n hi hn
      obtain ⟨n, rfl⟩ : ∃ q, n = q + 1 := ⟨n - 1, by omega⟩
      have : i = m := by omega
      subst this
      obtain ⟨y, h1, h2⟩ := he
      exact ⟨y, h1, fun k2 => h2 _ k2⟩
    | succ d ih =>
      intro i n hi hn
      obtain ⟨n, rfl⟩ : ∃ q, n = q + 1 := ⟨n - 1, by omega⟩
      rcases hs i (by omega) with ⟨h1, h2⟩ | ⟨y, h1, h2⟩
      · obtain ⟨y, h3, h4⟩ := ih (i + 1) n (by omega) (by omega)
        exact ⟨y, h2 y h3, fun k2 => (h1 _ k2).trans (h4 k2)⟩
      · exact ⟨y, h1, fun k2 => h2 _ k2⟩
  exact go m 0 n (by omega) hn
theorem beqB (a b : ByteArray) : (a.toList == b.toList) = decide (a = b) := by
  rw [← beq_toListBytes]
  by_cases h : a = b
  · subst h; simpa using (MapKept.bytes_beq a a).2 rfl
  · rw [decide_eq_false h]
    cases e : (a == b) with
    | false => rfl
    | true => exact absurd ((MapKept.bytes_beq a b).1 e) h
instance decMem (s : ByteArray) (l : List ByteArray) : Decidable (s ∈ l) := decidable_of_iff (l.any (fun y => decide (y = s)) = true) (by simp)
theorem getD_nat {α : Type} (l : List α) (i : Nat) (h : i < l.length) (z : α) : l.getD i z = l[i] := by
  rw [List.getD_eq_getElem?_getD, List.getElem?_eq_getElem h]
  rfl
theorem in_nat {i m : Nat} (h : i < m) : (0 ≤ (i : Int) ∧ (i : Int) < (m : Int)) = True := by simp; omega
theorem lt_nat {i m : Nat} : (decide ((i : Int) < (m : Int))) = decide (i < m) := by simp
theorem take_snoc {α : Type} (l : List α) (i : Nat) (h : i < l.length) : l.take (i + 1) = l.take i ++ [l[i]] := by
  rw [List.take_add_one, List.getElem?_eq_getElem h]
  rfl
end Go.Proofs.YtegknlkeokfghaaDoor.E
namespace Go.Proofs.YtegknlkeokfghaaDoor.E
open Go.RowKit
variable {R : Type}
/-! loops that look for the first place where something is so -/
theorem runC_scan {α β R ρ : Type} {step : α → (α → Option R) → β → Option R} (k : β) (K : ρ → Option R) (E : Option R) (f : Nat → Option ρ) (st : Nat → α) (m : Nat)
    (hs : ∀ i, i < m → ∀ k1, step (st i) k1 k = match f i with
      | none => k1 (st (i + 1))
      | some y => K y) (he : ∀ k1, step (st m) k1 k = E) {n : Nat} (hn : m < n) : runC step n (st 0) k = match (List.range m).findSome? f with
      | none => E
      | some y => K y := by
  have go : ∀ (d i n : Nat), i + d = m → d < n → runC step n (st i) k = match (List.range' i d).findSome? f with
      | none => E
      | some y => K y := by
    intro d
    induction d with
    | zero =>
      intro i n hi hn
      obtain ⟨n, rfl⟩ : ∃ q, n = q + 1 := ⟨n - 1, by omega⟩
      have : i = m := by omega
      subst this
      exact he _
    | succ d ih =>
      intro i n hi hn
      obtain ⟨n, rfl⟩ : ∃ q, n = q + 1 := ⟨n - 1, by omega⟩
      rw [List.range'_succ, List.findSome?_cons]
      have h := hs i (by omega) (fun b => runC step n b k)
      refine Eq.trans (show _ = step (st i) (fun b => runC step n b k) k from rfl) (h.trans ?_)
      cases hf : f i with
      | some y => rfl
      | none => exact ih (i + 1) n (by omega) (by omega)
  have := go m 0 n (by omega) hn
  rw [← List.range_eq_range'] at this
  exact this
theorem runC_all {α β R : Type} {step : α → (α → Option R) → β → Option R} (k : β) (K E : Option R) (p : Nat → Bool) (st : Nat → α) (m : Nat)
    (hs : ∀ i, i < m → ∀ k1, step (st i) k1 k = if p i = true then k1 (st (i + 1)) else K) (he : ∀ k1, step (st m) k1 k = E) {n : Nat} (hn : m < n) : runC step n (st 0) k = if ((List.range m).all p) = true then E else K := by
  have h := runC_scan (ρ := Unit) k (fun _ => K) E (fun i => if p i = true then none else some ()) st m (fun i hi k1 => by rw [hs i hi k1]; by_cases hp : p i = true <;> simp [hp]) he hn
  rw [h]
  by_cases ha : (List.range m).all p = true
  · rw [if_pos ha]
    have : (List.range m).findSome? (fun i => if p i = true then none else some ()) = none := by
      rw [List.findSome?_eq_none_iff]
      intro i hi
      rw [if_pos (List.all_eq_true.1 ha i hi)]
    rw [this]
  · rw [if_neg ha]
    cases hf : (List.range m).findSome? (fun i => if p i = true then none else some ()) with
    | some y => rfl
    | none =>
      refine absurd (List.all_eq_true.2 fun i hi => ?_) ha
      have := (List.findSome?_eq_none_iff.1 hf) i hi
      by_cases hp : p i = true
      · exact hp
      · rw [if_neg hp] at this; cases this
/-! names -/
def letS (c : Int) : Bool := decide (97 ≤ c) && decide (c ≤ 122)
def othS (c : Int) : Bool := decide (c = 95) || (!decide (c < 48) && !decide (57 < c))
def chS (s : ByteArray) (i : Nat) : Bool := letS (byteAt s i) || (decide (i ≠ 0) && othS (byteAt s i))
def nameS (s : ByteArray) : Bool := decide (1 ≤ s.size) && (decide (s.size ≤ 16) && (List.range s.size).all (chS s))
theorem letter_F (n : Nat) (c : Int) (k : Bool → Option R) : schema_letter_F n c k = k (letS c) := by
  rw [schema_letter_e]
  unfold schema_letter_Fi letS
  by_cases h : 97 ≤ c <;> simp [h]
theorem in_size {i m : Nat} (h : i < m) : ((0 : Int) ≤ (i : Int)) = True ∧ ((i : Int) < (m : Int)) = True := by simp; omega
theorem refName_F (n : Nat) (s : ByteArray) (hn : 16 < n) (k : Bool → Option R) : verdererref07_Name_F n s k = k (nameS s) := by
  rw [verdererref07_Name_e]
  unfold verdererref07_Name_Fi nameS
  by_cases h1 : 1 ≤ s.size
  · by_cases h2 : s.size ≤ 16
    · have h1' : ¬ ((s.size : Int) < 1) := by omega
      have h2' : ¬ ((s.size : Int) > 16) := by omega
      simp only [h1, h2, h1', h2', decide_true, decide_false, Bool.true_and, Bool.false_eq_true, if_false]
      refine (runC_all (R := R) (step := verdererref07_Name_l4 n) _ (k false) (k true) (chS s) (fun i => (s, (i : Int), ())) s.size (fun i hi k1 => ?_) (fun k1 => ?_) (by omega)).trans ?_
      · simp only [verdererref07_Name_l4, verdererref07_Name_s4, lt_nat, hi, (in_size hi).1, (in_size hi).2, decide_true, if_true, wrap_succ i (by omega), chS, letS, othS]
        obtain ⟨c, hc⟩ : ∃ c, byteAt s i = c := ⟨_, rfl⟩
        simp only [hc]
        by_cases c1 : 97 ≤ c <;> by_cases c2 : c ≤ 122 <;> by_cases c3 : i = 0 <;> by_cases c4 : c = 95 <;> by_cases c5 : c < 48 <;> by_cases c6 : 57 < c <;> simp [c1, c2, c3, c4, c5, c6]
      · simp only [verdererref07_Name_l4, verdererref07_Name_s4, lt_nat, Nat.lt_irrefl, decide_false, Bool.false_eq_true, if_false]
      · cases (List.range s.size).all (chS s) <;> rfl
    · have h1' : ¬ ((s.size : Int) < 1) := by omega
      have h2' : ((s.size : Int) > 16) := by omega
      simp only [h1, h2, h1', h2', decide_true, decide_false, Bool.true_and, Bool.false_and, Bool.false_eq_true, if_false, if_true]
  · have h1' : ((s.size : Int) < 1) := by omega
    simp only [h1, h1', decide_true, decide_false, Bool.false_and, if_true]
theorem schName_F (n : Nat) (s : ByteArray) (hn : 16 < n) (k : Bool → Option R) : schema_Name_F n s k = k (nameS s) := by
  rw [schema_Name_e]
  unfold schema_Name_Fi
  simp only [beqB]
  by_cases h0 : s = (⟨#[]⟩ : ByteArray)
  · subst h0
    have : nameS (⟨#[]⟩ : ByteArray) = false := by unfold nameS; rfl
    simp [this]
  have h1 : 1 ≤ s.size := by
    rcases Nat.eq_zero_or_pos s.size with h | h
    · exact absurd (ByteArray.size_eq_zero_iff.1 h) h0
    · exact h
  by_cases h2 : s.size ≤ 16
  · have h2' : ¬ ((s.size : Int) > 16) := by omega
    have h3' : ((0 : Int) < (s.size : Int)) := by omega
    simp only [h0, h2', h3', decide_false, Bool.false_eq_true, if_false, Int.le_refl, if_true, letter_F]
    have e0 : byteAt s 0 = byteAt s ((0 : Nat) : Int) := rfl
    cases hl : letS (byteAt s 0) with
    | false =>
      simp only [Bool.not_false, if_true]
      have : nameS s = false := by
        unfold nameS
        have : (List.range s.size).all (chS s) = false := by
          rw [List.all_eq_false]
          exact ⟨0, List.mem_range.2 h1, by simp [chS, ← e0, hl]⟩
        rw [this]; simp
      rw [this]
    | true =>
      simp only [Bool.not_true, Bool.false_eq_true, if_false]
      refine (runC_all (R := R) (step := schema_Name_l4 n) _ (k false) (k true) (fun i => letS (byteAt s i) || othS (byteAt s i)) (fun i => (s, (s.size : Int), (i : Int), ())) s.size (fun i hi k1 => ?_) (fun k1 => ?_) (by omega)).trans ?_
      · simp only [schema_Name_l4, schema_Name_s4, lt_nat, hi, (in_size hi).1, (in_size hi).2, decide_true, if_true, wrap_succ i (by omega), letter_F, othS]
        obtain ⟨c, hc⟩ : ∃ c, byteAt s i = c := ⟨_, rfl⟩
        simp only [hc]
        cases letS c with
        | true => simp
        | false =>
          by_cases c4 : c = 95 <;> by_cases c5 : c < 48 <;> by_cases c6 : 57 < c <;> simp [c4, c5, c6]
      · simp only [schema_Name_l4, schema_Name_s4, lt_nat, Nat.lt_irrefl, decide_false, Bool.false_eq_true, if_false]
      · have : (List.range s.size).all (fun i => letS (byteAt s i) || othS (byteAt s i)) = (List.range s.size).all (chS s) := by
          rw [Bool.eq_iff_iff, List.all_eq_true, List.all_eq_true]
          refine forall_congr' fun i => forall_congr' fun hi => ?_
          unfold chS
          by_cases hi0 : i = 0
          · subst hi0; rw [← e0, hl]; simp
          · simp [hi0]
        rw [this]
        unfold nameS
        simp only [h1, h2, decide_true, Bool.true_and]
        cases (List.range s.size).all (chS s) <;> rfl
  · have h2' : ((s.size : Int) > 16) := by omega
    simp only [h0, h2', decide_false, decide_true, Bool.false_eq_true, if_false, if_true, nameS, h2, Bool.false_and, Bool.and_false]
theorem known07 (m : Nat) (k : Bool → Option R) : verdererlaw07_known_F (m + 500) k = k true := by kernel_rfl
end Go.Proofs.YtegknlkeokfghaaDoor.E
namespace Go.Proofs.YtegknlkeokfghaaDoor.E
open Go.RowKit
variable {R : Type}
theorem beq_b (a b : ByteArray) : (a.toList == b.toList) = decide (a = b) := beqB a b
/-! columns -/
def twin {α : Type} (key : α → ByteArray) (l : List α) (v : ByteArray) : Bool := l.any fun x => decide (key x = v)
theorem twin_snoc {α : Type} (key : α → ByteArray) (l : List α) (x : α) (v : ByteArray) : twin key (l ++ [x]) v = (twin key l v || decide (key x = v)) := by
  unfold twin; rw [List.any_append]; simp
def colF (l : List ty51.D) (i : Nat) : Option Int :=
  if nameS (l.getD i (Ty.z ty51)).1 = true then (if (l.getD i (Ty.z ty51)).2.1 < 1 then some 11 else if (l.getD i (Ty.z ty51)).2.1 > 3 then some 11 else if twin (fun c : ty51.D => c.1) (l.take i) (l.getD i (Ty.z ty51)).1 = true then some 4 else none) else some 3
def colsE (l : List ty51.D) : Int := if l.length > 6 then 9 else ((List.range l.length).findSome? (colF l)).getD 0
theorem colF_ne (l : List ty51.D) (i : Nat) (e : Int) (h : colF l i = some e) : e ≠ 0 := by
  unfold colF at h
  split at h
  · split at h
    · injection h with h; omega
    · split at h
      · injection h with h; omega
      · split at h
        · injection h with h; omega
        · cases h
  · injection h with h; omega
/-- is one of the first m like the i-th? -/
theorem any_take {α : Type} (p : α → Bool) (z : α) : ∀ (l : List α) (m : Nat), m ≤ l.length → (l.take m).any p = (List.range m).any fun j => p (l.getD j z) := by
  intro l m
  induction m with
  | zero => intro _; simp
  | succ m ih =>
    intro h
    rw [take_snoc l m h, List.any_append, ih (by omega), List.range_succ, List.any_append]
    simp only [List.any_cons, List.any_nil, Bool.or_false, getD_nat l m h]
theorem refCols_F (n : Nat) (l : List ty51.D) (hn : 16 < n) (k : Int → Option R) : verdererref07_columns_F n l k = k (colsE l) := by
  rw [verdererref07_columns_e]
  unfold verdererref07_columns_Fi colsE
  by_cases h6 : l.length > 6
  · have h6' : ((l.length : Int) > 6) := by omega
    simp only [h6, h6', decide_true, if_true]
  have h6' : ¬ ((l.length : Int) > 6) := by omega
  simp only [h6, h6', decide_false, Bool.false_eq_true, if_false]
  refine (runC_scan (R := R) (step := verdererref07_columns_l4 n) _ k (k 0) (colF l) (fun i => (l, (i : Int), ())) l.length (fun i hi k1 => ?_) (fun k1 => ?_) (by omega)).trans ?_
  · simp only [verdererref07_columns_l4, verdererref07_columns_s4, lt_nat, hi, in_nat hi, decide_true, if_true, Int.toNat_natCast]
    rw [refName_F _ _ hn]
    unfold colF
    obtain ⟨x, hx⟩ : ∃ x, l.getD i (Ty.z ty51) = x := ⟨_, rfl⟩
    simp only [hx]
    obtain ⟨x0, x1, x2⟩ := x
    simp only
    cases nameS x0 with
    | false => simp
    | true =>
      simp only [Bool.not_true, Bool.false_eq_true, if_false, if_true]
      by_cases c1 : x1 < 1
      · simp only [c1, decide_true, if_true]
      · simp only [c1, decide_false, Bool.false_eq_true, if_false]
        by_cases c2 : x1 > 3
        · simp only [c2, decide_true, if_true]
        · simp only [c2, decide_false, Bool.false_eq_true, if_false]
          refine (runC_all (R := R) (step := verdererref07_columns_l11 n) _ (k 4) (k1 (l, ((i + 1 : Nat) : Int), ())) (fun j => !decide ((l.getD j (Ty.z ty51)).1 = x0)) (fun j => (l, (i : Int), (j : Int), l, (i : Int), x1, false, ())) i (fun j hj k1 => ?_) (fun k1 => ?_) (by omega)).trans ?_
          · have hj2 : j < l.length := by omega
            simp only [verdererref07_columns_l11, verdererref07_columns_s11, lt_nat, hj, in_nat hj2, in_nat hi, decide_true, if_true, Int.toNat_natCast, hx, beq_b, wrap_succ j (by omega)]
            by_cases c3 : (l.getD j (Ty.z ty51)).1 = x0
            · simp only [c3, decide_true, if_true, Bool.not_true, Bool.false_eq_true, if_false]
            · simp only [c3, decide_false, if_true, Bool.not_false, Bool.false_eq_true, if_false]
          · simp only [verdererref07_columns_l11, verdererref07_columns_s11, lt_nat, Nat.lt_irrefl, decide_false, Bool.false_eq_true, if_false, wrap_succ i (by omega)]
          · have : twin (fun c : ty51.D => c.1) (l.take i) x0 = !((List.range i).all fun j => !decide ((l.getD j (Ty.z ty51)).1 = x0)) := by
              unfold twin
              rw [any_take _ (Ty.z ty51) l i (by omega)]
              rw [List.not_all_eq_any_not]
              simp
            rw [this]
            cases (List.range i).all fun j => !decide ((l.getD j (Ty.z ty51)).1 = x0) <;> rfl
  · simp only [verdererref07_columns_l4, verdererref07_columns_s4, lt_nat, Nat.lt_irrefl, decide_false, Bool.false_eq_true, if_false]
  · cases (List.range l.length).findSome? (colF l) <;> rfl
/-! kinds -/
def tenS : ByteArray := ⟨#[116, 101, 110, 97, 110, 116]⟩
def schF (l : List ty24.D) (i : Nat) : Option Int :=
  if nameS (l.getD i (Ty.z ty24)).1 = true then (if (l.getD i (Ty.z ty24)).1 = tenS then some 3 else if twin (fun c : ty24.D => c.1) (l.take i) (l.getD i (Ty.z ty24)).1 = true then some 4 else if colsE (l.getD i (Ty.z ty24)).2.1 = 0 then none else some (colsE (l.getD i (Ty.z ty24)).2.1)) else some 3
def chkE (l : List ty24.D) : Int := if l.length > 8 then 9 else ((List.range l.length).findSome? (schF l)).getD 0
theorem schF_ne (l : List ty24.D) (i : Nat) (e : Int) (h : schF l i = some e) : e ≠ 0 := by
  unfold schF at h
  split at h
  · split at h
    · injection h with h; omega
    · split at h
      · injection h with h; omega
      · split at h
        · cases h
        · injection h with h; omega
  · injection h with h; omega
theorem refCheck_F (n : Nat) (l : List ty24.D) (hn : 16 < n) (k : Int → Option R) : verdererref07_Check_F n l k = k (chkE l) := by
  rw [verdererref07_Check_e]
  unfold verdererref07_Check_Fi chkE
  by_cases h6 : l.length > 8
  · have h6' : ((l.length : Int) > 8) := by omega
    simp only [h6, h6', decide_true, if_true]
  have h6' : ¬ ((l.length : Int) > 8) := by omega
  simp only [h6, h6', decide_false, Bool.false_eq_true, if_false]
  refine (runC_scan (R := R) (step := verdererref07_Check_l4 n) _ k (k 0) (schF l) (fun i => (l, (i : Int), ())) l.length (fun i hi k1 => ?_) (fun k1 => ?_) (by omega)).trans ?_
  · simp only [verdererref07_Check_l4, verdererref07_Check_s4, lt_nat, hi, in_nat hi, decide_true, if_true, Int.toNat_natCast]
    rw [refName_F _ _ hn]
    unfold schF
    obtain ⟨x, hx⟩ : ∃ x, l.getD i (Ty.z ty24) = x := ⟨_, rfl⟩
    simp only [hx]
    obtain ⟨x0, x1, x2⟩ := x
    simp only [beq_b]
    cases nameS x0 with
    | false => simp
    | true =>
      simp only [Bool.not_true, Bool.false_eq_true, if_false, if_true]
      by_cases c1 : x0 = tenS
      · have c1' : x0 = (⟨#[116, 101, 110, 97, 110, 116]⟩ : ByteArray) := c1
        simp only [c1, decide_true, if_true]
        rw [if_pos (by simp [tenS])]
      · have c1' : ¬ x0 = (⟨#[116, 101, 110, 97, 110, 116]⟩ : ByteArray) := c1
        simp only [c1, c1', decide_false, Bool.false_eq_true, if_false]
        refine (runC_all (R := R) (step := verdererref07_Check_l9 n) _ (k 4) (if (colsE x1 != 0) = true then k (colsE x1) else k1 (l, ((i + 1 : Nat) : Int), ())) (fun j => !decide ((l.getD j (Ty.z ty24)).1 = x0)) (fun j => (l, (i : Int), (j : Int), l, (i : Int), x0, false, ())) i (fun j hj k1 => ?_) (fun k1 => ?_) (by omega)).trans ?_
        · have hj2 : j < l.length := by omega
          simp only [verdererref07_Check_l9, verdererref07_Check_s9, lt_nat, hj, in_nat hj2, in_nat hi, decide_true, if_true, Int.toNat_natCast, hx, beq_b, wrap_succ j (by omega)]
          by_cases c3 : (l.getD j (Ty.z ty24)).1 = x0
          · simp only [c3, decide_true, if_true, Bool.not_true, Bool.false_eq_true, if_false]
          · simp only [c3, decide_false, if_true, Bool.not_false, Bool.false_eq_true, if_false]
        · simp only [verdererref07_Check_l9, verdererref07_Check_s9, lt_nat, Nat.lt_irrefl, decide_false, Bool.false_eq_true, if_false, in_nat hi, if_true, Int.toNat_natCast, hx, refCols_F _ _ hn, wrap_succ i (by omega)]
        · have : twin (fun c : ty24.D => c.1) (l.take i) x0 = !((List.range i).all fun j => !decide ((l.getD j (Ty.z ty24)).1 = x0)) := by
            unfold twin
            rw [any_take _ (Ty.z ty24) l i (by omega)]
            rw [List.not_all_eq_any_not]
            simp
          rw [this]
          cases (List.range i).all fun j => !decide ((l.getD j (Ty.z ty24)).1 = x0) with
          | false => rfl
          | true =>
            by_cases c4 : colsE x1 = 0
            · simp [c4]
            · simp [c4]
  · simp only [verdererref07_Check_l4, verdererref07_Check_s4, lt_nat, Nat.lt_irrefl, decide_false, Bool.false_eq_true, if_false]
  · cases (List.range l.length).findSome? (schF l) <;> rfl
end Go.Proofs.YtegknlkeokfghaaDoor.E
namespace Go.Proofs.YtegknlkeokfghaaDoor.E
open Go.RowKit
variable {R : Type}
/-! a map from texts -/
theorem keq_s (a b : ByteArray) : keq .str a b = decide (a = b) := beqB a b
theorem mval_cons (p : ByteArray × Bool) (r : List (ByteArray × Bool)) (q : ByteArray) (z : Bool) : mval (kt := .str) (vt := .bool) (p :: r) q z = if q = p.1 then p.2 else mval (kt := .str) (vt := .bool) r q z := by
  unfold mval
  simp only [midx, keq_s]
  by_cases h : q = p.1
  · simp [h]
  · simp [h]
theorem mput_cons (p : ByteArray × Bool) (r : List (ByteArray × Bool)) (q : ByteArray) (y : Bool) : mput (kt := .str) (vt := .bool) (p :: r) q y = if q = p.1 then (q, y) :: r else p :: mput (kt := .str) (vt := .bool) r q y := by
  unfold mput mhas
  simp only [midx, keq_s]
  by_cases h : q = p.1
  · simp [h]
  · simp only [h, decide_false, cond_false, if_false, List.length_cons, Nat.add_lt_add_iff_right]
    by_cases h2 : midx (kt := .str) (vt := .bool) r q < r.length
    · simp [h2]
    · simp [h2]
theorem mval_mput (l : List (ByteArray × Bool)) (q v : ByteArray) (y z : Bool) : mval (kt := .str) (vt := .bool) (mput (kt := .str) (vt := .bool) l q y) v z = if v = q then y else mval (kt := .str) (vt := .bool) l v z := by
  induction l with
  | nil =>
    show mval (kt := .str) (vt := .bool) [(q, y)] v z = _
    rw [mval_cons]
  | cons p r ih =>
    rw [mput_cons]
    by_cases h : q = p.1
    · rw [if_pos h, mval_cons, mval_cons]
      by_cases h2 : v = q
      · simp [h2]
      · rw [if_neg h2, if_neg h2, if_neg (by rw [← h]; exact h2)]
    · rw [if_neg h, mval_cons, mval_cons, ih]
      by_cases h2 : v = p.1
      · rw [if_pos h2, if_pos h2, if_neg (by rw [h2]; exact fun e => h e.symm)]
      · rw [if_neg h2, if_neg h2]
def seenM (l : List ty51.D) : List (ByteArray × Bool) := l.foldl (fun m c => mput (kt := .str) (vt := .bool) m c.1 true) []
theorem seen_val (l : List ty51.D) (v : ByteArray) : mval (kt := .str) (vt := .bool) (seenM l) v false = twin (fun c : ty51.D => c.1) l v := by
  have go : ∀ (l : List ty51.D) (m : List (ByteArray × Bool)), mval (kt := .str) (vt := .bool) (l.foldl (fun m c => mput (kt := .str) (vt := .bool) m c.1 true) m) v false = (twin (fun c : ty51.D => c.1) l v || mval (kt := .str) (vt := .bool) m v false) := by
    intro l
    induction l with
    | nil => intro m; rfl
    | cons c l ih =>
      intro m
      rw [List.foldl_cons, ih, mval_mput]
      unfold twin
      rw [List.any_cons]
      by_cases h : v = c.1
      · simp [h]
      · have h2 : ¬ c.1 = v := fun e => h e.symm
        simp [h, h2]
  have := go l []
  rw [show mval (kt := .str) (vt := .bool) [] v false = false from rfl, Bool.or_false] at this
  exact this
/-! where something is -/
theorem range_find {α : Type} (p : α → Bool) (z : α) : ∀ l : List α, (match (List.range l.length).findSome? (fun i => if p (l.getD i z) = true then some i else none) with
    | none => l.find? p = none
    | some i => i < l.length ∧ l.find? p = some (l.getD i z)) := by
  intro l
  induction l with
  | nil => simp
  | cons x l ih =>
    rw [List.length_cons, List.range_succ_eq_map, List.findSome?_cons, List.findSome?_map]
    simp only [List.getD_cons_zero]
    by_cases h : p x = true
    · simp [h]
    · rw [if_neg h]
      simp only
      have e : (fun i => if p ((x :: l).getD i z) = true then some i else none) ∘ Nat.succ = fun i => (if p (l.getD i z) = true then some i else none).map Nat.succ := by
        funext i
        simp only [Function.comp, List.getD_cons_succ]
        split <;> rfl
      rw [e]
      have e2 : ∀ r : List Nat, r.findSome? (fun i => (if p (l.getD i z) = true then some i else none).map Nat.succ) = (r.findSome? fun i => if p (l.getD i z) = true then some i else none).map Nat.succ := by
        intro r
        induction r with
        | nil => rfl
        | cons i r ih2 =>
          rw [List.findSome?_cons, List.findSome?_cons, ih2]
          cases (if p (l.getD i z) = true then some i else none) <;> rfl
      rw [e2]
      cases hf : (List.range l.length).findSome? (fun i => if p (l.getD i z) = true then some i else none) with
      | none =>
        rw [hf] at ih
        simp only [Option.map_none] at ih ⊢
        rw [List.find?_cons, show p x = false by simpa using h]
        exact ih
      | some i =>
        rw [hf] at ih
        simp only [Option.map_some] at ih ⊢
        refine ⟨by simpa using ih.1, ?_⟩
        rw [List.find?_cons, show p x = false by simpa using h]
        exact ih.2
def findS (l : List ty24.D) (kind : ByteArray) : Option ty24.D := l.find? fun x => decide (x.1 = kind)
theorem index_F (n : Nat) (l : List ty24.D) (s : ByteArray) (hn : l.length < n) (hl : l.length < 1000000000) (k : Int → ByteArray → Option R) : slices_IndexFunc_41_F n l s k = match (List.range l.length).findSome? (fun i => if decide ((l.getD i (Ty.z ty24)).1 = s) = true then some i else none) with
    | none => k (-1) s
    | some i => k (i : Int) s := by
  rw [slices_IndexFunc_41_e]
  unfold slices_IndexFunc_41_Fi
  refine (runC_scan (R := R) (step := slices_IndexFunc_41_l2 n) _ (fun i : Nat => k (i : Int) s) (k (-1) s) (fun i => if decide ((l.getD i (Ty.z ty24)).1 = s) = true then some i else none) (fun i => (l, (l.length : Int), (i : Int), s, ())) l.length (fun i hi k1 => ?_) (fun k1 => ?_) hn).trans ?_
  · simp only [slices_IndexFunc_41_l2, slices_IndexFunc_41_s2, lt_nat, hi, in_nat hi, decide_true, if_true, Int.toNat_natCast]
    rw [schema_Set_find_1_e]
    unfold schema_Set_find_1_Fi
    simp only [beq_b, wrap_succ i (by omega)]
    by_cases h : (l.getD i (Ty.z ty24)).1 = s
    · simp only [h, decide_true, if_true]
    · simp only [h, decide_false, Bool.false_eq_true, if_false]
  · simp only [slices_IndexFunc_41_l2, slices_IndexFunc_41_s2, lt_nat, Nat.lt_irrefl, decide_false, Bool.false_eq_true, if_false]
  · cases (List.range l.length).findSome? (fun i => if decide ((l.getD i (Ty.z ty24)).1 = s) = true then some i else none) <;> rfl
theorem clone24_F (n : Nat) (x : ty24.D) (hx : x.2.1.length ≤ 1000000) (k : ByteArray → List ty51.D → Option R) : schema_clone_F n x k = k x.1 x.2.1 := by
  rw [schema_clone_e]
  unfold schema_clone_Fi
  rw [slices_Clone_43_e]
  unfold slices_Clone_43_Fi
  simp only [List.length_nil, List.nil_append]
  rw [if_pos (by omega)]
theorem find_F (n : Nat) (s : ByteArray) (l : List ty24.D) (hn : l.length < n) (hl : l.length < 1000000000) (hb : ∀ x ∈ l, x.2.1.length ≤ 1000000) (k : ty24.D → Bool → List ty24.D → Option R) : schema_Set_find_F n s l k = match findS l s with
    | none => k ((⟨#[]⟩ : ByteArray), ([] : List ty51.D), ()) false l
    | some x => k x true l := by
  rw [schema_Set_find_e]
  unfold schema_Set_find_Fi
  rw [index_F n l s hn hl]
  have h := range_find (fun x : ty24.D => decide (x.1 = s)) (Ty.z ty24) l
  cases hf : (List.range l.length).findSome? (fun i => if decide ((l.getD i (Ty.z ty24)).1 = s) = true then some i else none) with
  | none =>
    rw [hf] at h
    unfold findS
    rw [show l.find? (fun x => decide (x.1 = s)) = none from h]
    rfl
  | some i =>
    rw [hf] at h
    obtain ⟨hi, h⟩ := h
    unfold findS
    rw [show l.find? (fun x => decide (x.1 = s)) = some (l.getD i (Ty.z ty24)) from h]
    have h0 : ¬ ((i : Int) < 0) := by omega
    have hm : (l.getD i (Ty.z ty24)) ∈ l := by rw [getD_nat l i hi]; exact List.getElem_mem hi
    simp only [h0, decide_false, Bool.false_eq_true, if_false, in_nat hi, if_true, Int.toNat_natCast, hi, clone24_F n _ (hb _ hm)]
theorem findS_twin (l : List ty24.D) (s : ByteArray) : (findS l s).isSome = twin (fun c : ty24.D => c.1) l s := by
  unfold findS twin
  rw [List.isSome_find?]
end Go.Proofs.YtegknlkeokfghaaDoor.E
namespace Go.Proofs.YtegknlkeokfghaaDoor.E
open Go.RowKit
variable {R : Type}
/-- the same; what came before was not so -/
theorem runC_scanP {α β R ρ : Type} {step : α → (α → Option R) → β → Option R} (k : β) (K : ρ → Option R) (E : Option R) (f : Nat → Option ρ) (st : Nat → α) (m : Nat)
    (hs : ∀ i, i < m → (∀ j, j < i → f j = none) → ∀ k1, step (st i) k1 k = match f i with
      | none => k1 (st (i + 1))
      | some y => K y) (he : ∀ k1, step (st m) k1 k = E) {n : Nat} (hn : m < n) : runC step n (st 0) k = match (List.range m).findSome? f with
      | none => E
      | some y => K y := by
  have go : ∀ (d i n : Nat), i + d = m → d < n → (∀ j, j < i → f j = none) → runC step n (st i) k = match (List.range' i d).findSome? f with
      | none => E
      | some y => K y := by
    intro d
    induction d with
    | zero =>
      intro i n hi hn _
      obtain ⟨n, rfl⟩ : ∃ q, n = q + 1 := ⟨n - 1, by omega⟩
      have : i = m := by omega
      subst this
      exact he _
    | succ d ih =>
      intro i n hi hn hp
      obtain ⟨n, rfl⟩ : ∃ q, n = q + 1 := ⟨n - 1, by omega⟩
      rw [List.range'_succ, List.findSome?_cons]
      have h := hs i (by omega) hp (fun b => runC step n b k)
      refine Eq.trans (show _ = step (st i) (fun b => runC step n b k) k from rfl) (h.trans ?_)
      cases hf : f i with
      | some y => rfl
      | none =>
        refine ih (i + 1) n (by omega) (by omega) (fun j hj => ?_)
        by_cases e : j = i
        · subst e; exact hf
        · exact hp j (by omega)
  have := go m 0 n (by omega) hn (fun j hj => absurd hj (Nat.not_lt_zero j))
  rw [← List.range_eq_range'] at this
  exact this
def inF (l : List ty51.D) (j : Nat) : Option (Int ⊕ Nat) := match colF l j with
  | some e => some (.inl e)
  | none => if j + 1 = l.length then some (.inr j) else none
theorem in_scan (l : List ty51.D) : ∀ m, m ≤ l.length → (List.range m).findSome? (inF l) = match (List.range m).findSome? (colF l) with
    | some e => some (.inl e)
    | none => if m = l.length ∧ 0 < m then some (.inr (m - 1)) else none := by
  intro m
  induction m with
  | zero => intro _; simp
  | succ m ih =>
    intro h
    rw [List.range_succ, List.findSome?_append, List.findSome?_append, ih (by omega)]
    cases hf : (List.range m).findSome? (colF l) with
    | some e => rfl
    | none =>
      simp only []
      rw [if_neg (by omega)]
      simp only [Option.none_or, List.findSome?_cons, List.findSome?_nil]
      unfold inF
      cases hc : colF l m with
      | some e => rfl
      | none =>
        simp only []
        by_cases h2 : m + 1 = l.length
        · rw [if_pos h2, if_pos ⟨h2, by omega⟩]
          rfl
        · rw [if_neg h2, if_neg (by omega)]
theorem seen_take (l : List ty51.D) (j : Nat) (h : j < l.length) : seenM (l.take (j + 1)) = mput (kt := .str) (vt := .bool) (seenM (l.take j)) (l.getD j (Ty.z ty51)).1 true := by
  rw [take_snoc l j h, getD_nat l j h]
  unfold seenM
  rw [List.foldl_append]
  rfl
theorem new_F (n : Nat) (l : List ty24.D) (hn : 16 < n) (k0 : Int → Option R) (k1 : Int → List ty24.D → Option R) : schema_New_F n l k0 k1 = if chkE l = 0 then k1 0 l else k0 (chkE l) := by
  rw [schema_New_e]
  unfold schema_New_Fi chkE
  by_cases h6 : l.length > 8
  · have h6' : ((l.length : Int) > 8) := by omega
    simp only [h6, h6', decide_true, if_true]
    rfl
  have h6' : ¬ ((l.length : Int) > 8) := by omega
  simp only [h6, h6', decide_false, Bool.false_eq_true, if_false]
  refine (runC_scanP (R := R) (step := schema_New_l5 n) _ k0 (k1 0 l) (schF l) (fun i => (l, (l.length : Int), (i : Int), l.take i, ())) l.length (fun i hi hpre k2 => ?_) (fun k1 => ?_) (by omega)).trans ?_
  · have hcl : ∀ x ∈ l.take i, x.2.1.length ≤ 6 := by
      intro x hx
      obtain ⟨j, hj, rfl⟩ := List.mem_iff_getElem.1 hx
      rw [List.length_take] at hj
      rw [List.getElem_take]
      have h1 := hpre j (by omega)
      unfold schF at h1
      rw [getD_nat l j (by omega)] at h1
      split at h1
      · split at h1
        · cases h1
        · split at h1
          · cases h1
          · split at h1
            · rename_i hc
              unfold colsE at hc
              split at hc
              · omega
              · omega
            · cases h1
      · cases h1
    simp only [schema_New_l5, schema_New_s5, lt_nat, hi, in_nat hi, decide_true, if_true, Int.toNat_natCast]
    rw [find_F n _ _ (by rw [List.length_take]; omega) (by rw [List.length_take]; omega) (fun x hx => Nat.le_trans (hcl x hx) (by omega))]
    unfold schF
    have htk := take_snoc l i hi
    rw [← getD_nat l i hi (Ty.z ty24)] at htk
    obtain ⟨x, hx⟩ : ∃ x, l.getD i (Ty.z ty24) = x := ⟨_, rfl⟩
    simp only [hx] at htk ⊢
    obtain ⟨x0, x1, x2⟩ := x
    have htw := findS_twin (l.take i) x0
    cases hfs : findS (l.take i) x0 with
    | some y =>
      rw [hfs] at htw
      have htw' : twin (fun c : ty24.D => c.1) (l.take i) x0 = true := htw.symm
      simp only [schName_F n _ hn, beq_b, htw']
      cases nameS x0 with
      | false => simp
      | true =>
        by_cases c1 : x0 = tenS
        · have c1' : x0 = (⟨#[116, 101, 110, 97, 110, 116]⟩ : ByteArray) := c1
          simp only [Bool.not_true, Bool.false_eq_true, if_false, if_true, c1', decide_true]
          rw [if_pos (show (⟨#[116, 101, 110, 97, 110, 116]⟩ : ByteArray) = tenS from rfl)]
        · have c1' : ¬ x0 = (⟨#[116, 101, 110, 97, 110, 116]⟩ : ByteArray) := c1
          simp only [Bool.not_true, Bool.false_eq_true, if_false, if_true, c1', c1, decide_false]
    | none =>
      rw [hfs] at htw
      have htw' : twin (fun c : ty24.D => c.1) (l.take i) x0 = false := htw.symm
      simp only [schName_F n _ hn, beq_b, htw']
      cases nameS x0 with
      | false => simp
      | true =>
        by_cases c1 : x0 = tenS
        · have c1' : x0 = (⟨#[116, 101, 110, 97, 110, 116]⟩ : ByteArray) := c1
          simp only [Bool.not_true, Bool.false_eq_true, if_false, if_true, c1', decide_true]
          rw [if_pos (show (⟨#[116, 101, 110, 97, 110, 116]⟩ : ByteArray) = tenS from rfl)]
        · have c1' : ¬ x0 = (⟨#[116, 101, 110, 97, 110, 116]⟩ : ByteArray) := c1
          simp only [Bool.not_true, Bool.false_eq_true, if_false, if_true, c1', c1, decide_false]
          by_cases c2 : x1.length > 6
          · have c2' : ((x1.length : Int) > 6) := by omega
            simp only [c2', decide_true, if_true, colsE, c2]
            simp
          · have c2' : ¬ ((x1.length : Int) > 6) := by omega
            simp only [c2', decide_false, Bool.false_eq_true, if_false]
            rw [clone24_F n _ (show x1.length ≤ 1000000 by omega)]
            simp only
            rw [if_pos (by simp only [List.length_take, List.length_cons, List.length_nil]; omega)]
            have hacc : l.take i ++ [(x0, x1, ())] = l.take (i + 1) := htk.symm
            rw [hacc]
            refine (runC_scan (R := R) (step := schema_New_l17 n) _ (fun y : Int ⊕ Nat => match y with
              | .inl e => k0 e
              | .inr _ => k2 (l, (l.length : Int), ((i + 1 : Nat) : Int), l.take (i + 1), ())) (k2 (l, (l.length : Int), ((i + 1 : Nat) : Int), l.take (i + 1), ())) (inF x1) (fun j => (l, (l.length : Int), (i : Int), x0, false, x1, (x1.length : Int), (j : Int), l.take (i + 1), x0, x1, seenM (x1.take j), ())) x1.length (fun j hj k3 => ?_) (fun k3 => ?_) (by omega)).trans ?_
            · simp only [schema_New_l17, schema_New_s17, lt_nat, hj, in_nat hj, decide_true, if_true, Int.toNat_natCast, schName_F n _ hn, seen_val]
              rw [seen_take x1 j hj]
              unfold inF colF
              obtain ⟨c, hc⟩ : ∃ c, x1.getD j (Ty.z ty51) = c := ⟨_, rfl⟩
              simp only [hc]
              obtain ⟨y0, y1, y2, y3⟩ := c
              simp only
              have hw : IntKind.i64.wrap ((x1.length : Int) - 1) = (x1.length : Int) - 1 := wrap_i64 (by omega) (by omega)
              cases nameS y0 with
              | false => simp
              | true =>
                by_cases d1 : y1 < 1
                · simp [d1]
                · by_cases d2 : y1 > 3
                  · simp [d1, d2]
                  · cases d3 : twin (fun c : ty51.D => c.1) (x1.take j) y0 with
                    | true => simp [d1, d2]
                    | false =>
                      simp only [Bool.not_true, Bool.false_eq_true, if_false, if_true, d1, d2, decide_false, hw]
                      by_cases d4 : j + 1 = x1.length
                      · have d4' : ((j : Int) == (x1.length : Int) - 1) = true := by simp; omega
                        simp only [d4', if_true, d4, wrap_succ i (by omega)]
                      · have d4' : ((j : Int) == (x1.length : Int) - 1) = false := by simp; omega
                        simp only [d4', Bool.false_eq_true, if_false, d4, wrap_succ j (by omega)]
            · simp only [schema_New_l17, schema_New_s17, lt_nat, Nat.lt_irrefl, decide_false, Bool.false_eq_true, if_false, wrap_succ i (by omega)]
            · rw [in_scan x1 x1.length (Nat.le_refl _)]
              simp only [colsE, c2, if_false]
              cases hf : (List.range x1.length).findSome? (colF x1) with
              | some e =>
                have hne : e ≠ 0 := by
                  obtain ⟨j, _, hj⟩ := List.exists_of_findSome?_eq_some hf
                  exact colF_ne x1 j e hj
                simp only [Option.getD_some, hne, if_false]
              | none =>
                simp only [Option.getD_none, if_true]
                split <;> (rename_i h; split at h <;> first | rfl | (cases h; rfl) | cases h)
  · simp only [schema_New_l5, schema_New_s5, lt_nat, Nat.lt_irrefl, decide_false, Bool.false_eq_true, if_false, List.take_length]
  · cases hf : (List.range l.length).findSome? (schF l) with
    | none => simp
    | some e =>
      have hne : e ≠ 0 := by
        obtain ⟨j, _, hj⟩ := List.exists_of_findSome?_eq_some hf
        exact schF_ne l j e hj
      simp [hne]
end Go.Proofs.YtegknlkeokfghaaDoor.E
namespace Go.Proofs.YtegknlkeokfghaaDoor.E
open Go.RowKit
variable {R : Type}
theorem known_K (k : Bool → Option R) : verdererlaw07_known_F 1000 k = k true := known07 500 k
/-! few -/
theorem few_ex (n : Nat) (l : List ty24.D) (hn : 20 < n) : ∃ b : Bool, (b = true → l.length ≤ 20 ∧ ∀ x ∈ l, x.2.1.length ≤ 20 ∧ x.1.size ≤ 100) ∧ ∀ k : Bool → Option R, verdererlaw07_few_F n l k = k b := by
  by_cases h1 : (l.length : Int) > 20
  · refine ⟨false, (fun h => by cases h), fun k => ?_⟩
    rw [verdererlaw07_few_e]
    unfold verdererlaw07_few_Fi
    simp only [h1, decide_true, if_true]
  · let p : Nat → Bool := fun i => decide (((l.getD i (Ty.z ty24)).2.1.length : Int) ≤ 20) && decide (((l.getD i (Ty.z ty24)).1.size : Int) ≤ 100)
    refine ⟨(List.range l.length).all p, fun h => ⟨by omega, fun x hx => ?_⟩, fun k => ?_⟩
    · obtain ⟨j, hj, rfl⟩ := List.mem_iff_getElem.1 hx
      have := List.all_eq_true.1 h j (List.mem_range.2 hj)
      simp only [p, getD_nat l j hj, Bool.and_eq_true, decide_eq_true_eq] at this
      omega
    · rw [verdererlaw07_few_e]
      unfold verdererlaw07_few_Fi
      simp only [h1, decide_false, Bool.false_eq_true, if_false]
      refine (runC_all (R := R) (step := verdererlaw07_few_l4 n) _ (k false) (k true) p (fun i => (l, (i : Int), ())) l.length (fun i hi k1 => ?_) (fun k1 => ?_) (by omega)).trans ?_
      · simp only [verdererlaw07_few_l4, verdererlaw07_few_s4, lt_nat, hi, in_nat hi, decide_true, if_true, Int.toNat_natCast, p, wrap_succ i (by omega)]
        obtain ⟨x, hx⟩ : ∃ x, l.getD i (Ty.z ty24) = x := ⟨_, rfl⟩
        simp only [hx]
        by_cases c1 : ((x.2.1.length : Nat) : Int) > 20
        · have c1' : ¬ ((x.2.1.length : Nat) : Int) ≤ 20 := by omega
          simp only [c1, c1', decide_true, decide_false, if_true, Bool.false_and, Bool.false_eq_true, if_false]
        · have c1' : ((x.2.1.length : Nat) : Int) ≤ 20 := by omega
          simp only [c1, c1', decide_true, decide_false, if_true, Bool.true_and, Bool.false_eq_true, if_false]
          by_cases c2 : ((x.1.size : Nat) : Int) > 100
          · have c2' : ¬ ((x.1.size : Nat) : Int) ≤ 100 := by omega
            simp only [c2, c2', decide_true, decide_false, if_true, Bool.false_eq_true, if_false]
          · have c2' : ((x.1.size : Nat) : Int) ≤ 100 := by omega
            simp only [c2, c2', decide_true, decide_false, if_true, Bool.false_eq_true, if_false]
      · simp only [verdererlaw07_few_l4, verdererlaw07_few_s4, lt_nat, Nat.lt_irrefl, decide_false, Bool.false_eq_true, if_false]
      · cases (List.range l.length).all p <;> rfl
/-! values -/
def rightS (v : ty66.D) : Bool :=
  if v.1 = 0 then !v.2.1 && (decide (v.2.2.1 = 0) && decide (v.2.2.2.1 = (⟨#[]⟩ : ByteArray)))
  else if v.1 = 1 then decide (v.2.2.1 = 0) && decide (v.2.2.2.1 = (⟨#[]⟩ : ByteArray))
  else if v.1 = 2 then !v.2.1 && decide (v.2.2.2.1 = (⟨#[]⟩ : ByteArray))
  else if v.1 = 3 then !v.2.1 && (decide (v.2.2.1 = 0) && decide ((v.2.2.2.1.size : Int) ≤ 60)) else false
theorem right_F (n : Nat) (v : ty66.D) (k : Bool → Option R) : value_Right_F n v k = k (rightS v) := by
  rw [value_Right_e]
  unfold value_Right_Fi rightS
  rw [value_Null_e, value_Bool_e, value_Int_e, value_Text_e]
  unfold value_Null_Fi value_Bool_Fi value_Int_Fi value_Text_Fi
  obtain ⟨a, b, c, d, u⟩ := v
  simp only [beqB, Bool.and_true]
  by_cases h0 : a = 0
  · subst h0; cases b <;> simp <;> rfl
  · by_cases h1 : a = 1
    · subst h1; cases b <;> simp <;> rfl
    · by_cases h2 : a = 2
      · subst h2; cases b <;> simp <;> rfl
      · by_cases h3 : a = 3
        · subst h3
          cases b
          · by_cases hc : c = 0 <;> simp [hc]
          · simp
        · simp [h0, h1, h2, h3]
theorem four (a : Int) (h0 : ¬ a = 0) (h1 : ¬ a = 1) (h2 : ¬ a = 2) (h3 : ¬ a = 3) (h4 : ¬ a < 0) : a > 3 := by omega
theorem refRight_F (n : Nat) (v : ty66.D) (k : Bool → Option R) : verdererref01_Right_F n v k = k (rightS v) := by
  rw [verdererref01_Right_e]
  unfold verdererref01_Right_Fi rightS
  obtain ⟨a, b, c, d, u⟩ := v
  simp only [beqB]
  have he : ((⟨#[]⟩ : ByteArray).size : Int) ≤ 60 := by decide
  by_cases h0 : a = 0
  · subst h0
    cases b
    · by_cases hc : c = 0
      · by_cases hd : d = (⟨#[]⟩ : ByteArray)
        · subst hd; simp [hc]; exact congrArg k (decide_eq_true he)
        · simp [hc, hd]
      · simp [hc]
    · simp
  · by_cases h1 : a = 1
    · subst h1
      by_cases hc : c = 0
      · by_cases hd : d = (⟨#[]⟩ : ByteArray)
        · subst hd; simp [hc]; exact congrArg k (decide_eq_true he)
        · simp [hc, hd]
      · simp [hc]
    · by_cases h2 : a = 2
      · subst h2
        cases b
        · by_cases hd : d = (⟨#[]⟩ : ByteArray)
          · subst hd; simp; exact congrArg k (decide_eq_true he)
          · simp [hd]
        · simp
      · by_cases h3 : a = 3
        · subst h3
          cases b
          · by_cases hc : c = 0 <;> simp [hc]
          · simp
        · by_cases h4 : a < 0
          · simp [h0, h1, h2, h3, h4]
          · have h5 : a > 3 := four a h0 h1 h2 h3 h4
            simp [h0, h1, h2, h3, h4, h5]
/-! find -/
theorem setFind_F (n : Nat) (s : ByteArray) (l : List ty24.D) (hn : l.length < n) (hl : l.length < 1000000000) (hb : ∀ x ∈ l, x.2.1.length ≤ 1000000) (k : ty24.D → Int → List ty24.D → Option R) : schema_Set_Find_F n s l k = match findS l s with
    | none => k ((⟨#[]⟩ : ByteArray), ([] : List ty51.D), ()) 20 l
    | some x => k x 0 l := by
  rw [schema_Set_Find_e]
  unfold schema_Set_Find_Fi
  rw [find_F n s l hn hl hb]
  cases findS l s <;> simp
theorem refFind_F (n : Nat) (s : ByteArray) (l : List ty24.D) (hn : l.length < n) (hl : l.length < 1000000000) (k : ty24.D → Int → Option R) : verdererref07_Find_F n l s k = match findS l s with
    | none => k ((⟨#[]⟩ : ByteArray), ([] : List ty51.D), ()) 20
    | some x => k x 0 := by
  rw [verdererref07_Find_e]
  unfold verdererref07_Find_Fi
  refine (runC_scan (R := R) (step := verdererref07_Find_l2 n) _ (fun i : Nat => k (l.getD i (Ty.z ty24)) 0) (k ((⟨#[]⟩ : ByteArray), ([] : List ty51.D), ()) 20) (fun i => if decide ((l.getD i (Ty.z ty24)).1 = s) = true then some i else none) (fun i => (l, s, (i : Int), ([] : List ty51.D), (⟨#[]⟩ : ByteArray), ())) l.length (fun i hi k1 => ?_) (fun k1 => ?_) hn).trans ?_
  · simp only [verdererref07_Find_l2, verdererref07_Find_s2, lt_nat, hi, in_nat hi, decide_true, if_true, Int.toNat_natCast, beq_b, wrap_succ i (by omega)]
    by_cases h : (l.getD i (Ty.z ty24)).1 = s
    · simp only [h, decide_true, if_true]
      rw [← h]
    · simp only [h, decide_false, Bool.false_eq_true, if_false]
  · simp only [verdererref07_Find_l2, verdererref07_Find_s2, lt_nat, Nat.lt_irrefl, decide_false, Bool.false_eq_true, if_false]
  · have h := range_find (fun x : ty24.D => decide (x.1 = s)) (Ty.z ty24) l
    unfold findS
    cases hf : (List.range l.length).findSome? (fun i => if decide ((l.getD i (Ty.z ty24)).1 = s) = true then some i else none) with
    | none =>
      rw [hf] at h
      rw [show l.find? (fun x => decide (x.1 = s)) = none from h]
    | some i =>
      rw [hf] at h
      rw [show l.find? (fun x => decide (x.1 = s)) = some (l.getD i (Ty.z ty24)) from h.2]
/-! cells -/
def fitF (cols : List ty51.D) (cells : List ty66.D) (i : Nat) : Option Int :=
  if rightS (cells.getD i (Ty.z ty66)) = true then (if (cells.getD i (Ty.z ty66)).1 = (cols.getD i (Ty.z ty51)).2.1 then none else if (cells.getD i (Ty.z ty66)).1 = 0 ∧ (cols.getD i (Ty.z ty51)).2.2.1 = true then none else some 11) else some 11
def fitE (l : List ty24.D) (s : ByteArray) (cells : List ty66.D) : Int := match findS l s with
  | none => 20
  | some x => if cells.length = x.2.1.length then ((List.range cells.length).findSome? (fitF x.2.1 cells)).getD 0 else 9
theorem setFits_F (n : Nat) (s : ByteArray) (cells : List ty66.D) (l : List ty24.D) (hn : l.length < n) (hc : cells.length < n) (hl : n < 1000000000) (hb : ∀ x ∈ l, x.2.1.length ≤ 1000000) (k : Int → List ty24.D → Option R) : schema_Set_Fits_v1_F n s cells l k = k (fitE l s cells) l := by
  rw [schema_Set_Fits_v1_e]
  unfold schema_Set_Fits_v1_Fi fitE
  rw [setFind_F n s l hn (by omega) hb]
  cases findS l s with
  | none => simp
  | some x =>
    obtain ⟨x0, cols, u⟩ := x
    simp only
    rw [if_neg (by decide)]
    by_cases h1 : cells.length = cols.length
    · have h1' : (((cells.length : Nat) : Int) != ((cols.length : Nat) : Int)) = false := by simp [h1]
      rw [if_pos h1, if_neg (by rw [h1']; exact Bool.false_ne_true)]
      refine (runC_scan (R := R) (step := schema_Set_Fits_v1_l7 n) _ (fun e => k e l) (k 0 l) (fitF cols cells) (fun i => (cells, (cells.length : Int), (i : Int), l, x0, cols, ())) cells.length (fun i hi k1 => ?_) (fun k1 => ?_) hc).trans ?_
      · have hi2 : i < cols.length := by omega
        simp only [schema_Set_Fits_v1_l7, schema_Set_Fits_v1_s7, lt_nat, hi, in_nat hi, in_nat hi2, decide_true, if_true, Int.toNat_natCast, right_F, wrap_succ i (by omega), fitF]
        obtain ⟨v, hv⟩ : ∃ x, cells.getD i (Ty.z ty66) = x := ⟨_, rfl⟩
        obtain ⟨c, hcc⟩ : ∃ x, cols.getD i (Ty.z ty51) = x := ⟨_, rfl⟩
        simp only [hv, hcc]
        cases rightS v with
        | false => cases c.2.2.1 <;> simp
        | true =>
          by_cases c1 : v.1 = c.2.1
          · cases c.2.2.1 <;> simp [c1]
          · cases c.2.2.1
            · simp [c1]
            · by_cases c2 : v.1 = 0
              · simp [c1, c2]
              · simp [c1, c2]
      · simp only [schema_Set_Fits_v1_l7, schema_Set_Fits_v1_s7, lt_nat, Nat.lt_irrefl, decide_false, Bool.false_eq_true, if_false]
      · cases (List.range cells.length).findSome? (fitF cols cells) <;> rfl
    · have h1' : (((cells.length : Nat) : Int) != ((cols.length : Nat) : Int)) = true := by simp; omega
      rw [if_neg h1, if_pos h1']
theorem refFits_F (n : Nat) (s : ByteArray) (cells : List ty66.D) (l : List ty24.D) (hn : l.length < n) (hc : cells.length < n) (hl : n < 1000000000) (k : Int → Option R) : verdererref07_Fits_F n l s cells k = k (fitE l s cells) := by
  rw [verdererref07_Fits_e]
  unfold verdererref07_Fits_Fi fitE
  rw [refFind_F n s l hn (by omega)]
  cases findS l s with
  | none => simp
  | some x =>
    obtain ⟨x0, cols, u⟩ := x
    simp only
    rw [if_neg (by decide)]
    by_cases h1 : cells.length = cols.length
    · have h1' : (((cells.length : Nat) : Int) != ((cols.length : Nat) : Int)) = false := by simp [h1]
      rw [if_pos h1, if_neg (by rw [h1']; exact Bool.false_ne_true)]
      refine (runC_scan (R := R) (step := verdererref07_Fits_l7 n) _ k (k 0) (fitF cols cells) (fun i => (cells, (i : Int), x0, cols, ())) cells.length (fun i hi k1 => ?_) (fun k1 => ?_) hc).trans ?_
      · have hi2 : i < cols.length := by omega
        simp only [verdererref07_Fits_l7, verdererref07_Fits_s7, lt_nat, hi, hi2, in_nat hi, in_nat hi2, decide_true, if_true, Int.toNat_natCast, refRight_F, wrap_succ i (by omega), fitF]
        obtain ⟨v, hv⟩ : ∃ x, cells.getD i (Ty.z ty66) = x := ⟨_, rfl⟩
        obtain ⟨c, hcc⟩ : ∃ x, cols.getD i (Ty.z ty51) = x := ⟨_, rfl⟩
        simp only [hv, hcc]
        cases rightS v with
        | false => simp
        | true =>
          by_cases c1 : v.1 = c.2.1
          · simp [c1]
          · by_cases c2 : v.1 = 0
            · have c1' : ¬ (0 = c.2.1) := by rw [← c2]; exact c1
              cases c.2.2.1 <;> simp [c1', c2]
            · simp [c1, c2]
      · simp only [verdererref07_Fits_l7, verdererref07_Fits_s7, lt_nat, Nat.lt_irrefl, decide_false, Bool.false_eq_true, if_false]
      · cases (List.range cells.length).findSome? (fitF cols cells) <;> rfl
    · have h1' : (((cells.length : Nat) : Int) != ((cols.length : Nat) : Int)) = true := by simp; omega
      rw [if_neg h1, if_pos h1']
end Go.Proofs.YtegknlkeokfghaaDoor.E
namespace Go.Proofs.YtegknlkeokfghaaDoor.E
open Go.RowKit
variable {R : Type}
theorem same_refl (n : Nat) (x : ty24.D) (hn : x.2.1.length < n) (hl : n < 1000000000) (k : Bool → Option R) : verdererref07_Same_F n x x k = k true := by
  rw [verdererref07_Same_e]
  unfold verdererref07_Same_Fi
  obtain ⟨x0, l, u⟩ := x
  replace hn : l.length < n := hn
  simp only [beq_b, decide_true, Bool.not_true, Bool.false_eq_true, if_false, bne_self_eq_false]
  refine runC_st (R := R) (step := verdererref07_Same_l4 n) _ _ (fun i => ((i : Int), x0, l, x0, l, ())) l.length (fun i hi => .inl fun k1 => ?_) (fun k1 => ?_) hn
  · simp only [verdererref07_Same_l4, verdererref07_Same_s4, lt_nat, hi, in_nat hi, decide_true, if_true, Int.toNat_natCast, wrap_succ i (by omega), beq_self_eq_true, Bool.and_true, Bool.not_true, Bool.false_eq_true, if_false]
  · simp only [verdererref07_Same_l4, verdererref07_Same_s4, lt_nat, Nat.lt_irrefl, decide_false, Bool.false_eq_true, if_false]
theorem kinds_F (n : Nat) (l : List ty24.D) (hn : l.length < n) (hl : n < 1000000000) (hb : ∀ x ∈ l, x.2.1.length ≤ 1000000) (k : List ty24.D → List ty24.D → Option R) : schema_Set_Kinds_v1_F n l k = k l l := by
  rw [schema_Set_Kinds_v1_e]
  unfold schema_Set_Kinds_v1_Fi
  refine runC_st (R := R) (step := schema_Set_Kinds_v1_l5 n) _ _ (fun i => ((l.length : Int), (i : Int), l, l.take i, ())) l.length (fun i hi => .inl fun k1 => ?_) (fun k1 => ?_) hn
  · simp only [schema_Set_Kinds_v1_l5, schema_Set_Kinds_v1_s5, lt_nat, hi, in_nat hi, decide_true, if_true, Int.toNat_natCast, wrap_succ i (by omega)]
    rw [getD_nat l i hi, clone24_F n _ (hb _ (List.getElem_mem hi))]
    have : l.take i ++ [((l[i]).1, (l[i]).2.1, ())] = l.take (i + 1) := (take_snoc l i hi).symm
    rw [this, if_pos (by simp only [List.length_take, List.length_cons, List.length_nil]; omega)]
  · simp only [schema_Set_Kinds_v1_l5, schema_Set_Kinds_v1_s5, lt_nat, Nat.lt_irrefl, decide_false, Bool.false_eq_true, if_false, List.take_length]
def spS : ByteArray := ⟨#[115, 112, 97, 99, 101]⟩
def nmS : ByteArray := ⟨#[110, 97, 109, 101]⟩
def paS : ByteArray := ⟨#[112, 97, 114, 101, 110, 116]⟩
def colS (s : ByteArray) : ty51.D := (s, 3, false, ())
theorem setColumns_F (n : Nat) (s : ByteArray) (l : List ty24.D) (hn : l.length < n) (hl : l.length < 1000000000) (hb : ∀ x ∈ l, x.2.1.length ≤ 1000000) (k : Int → List ty24.D → List ty51.D → Option R) : schema_Set_Columns_v1_F n s l k = if s = tenS then k 0 l [colS nmS, colS paS] else match findS l s with
    | none => k 20 l []
    | some x => k 0 l ([colS spS, colS nmS] ++ x.2.1) := by
  rw [schema_Set_Columns_v1_e]
  unfold schema_Set_Columns_v1_Fi
  rw [schema_text_e]
  unfold schema_text_Fi
  simp only [beq_b]
  by_cases h : s = tenS
  · have h' : s = (⟨#[116, 101, 110, 97, 110, 116]⟩ : ByteArray) := h
    rw [if_pos h, if_pos (by rw [h']; simp)]
    rfl
  · have h' : ¬ s = (⟨#[116, 101, 110, 97, 110, 116]⟩ : ByteArray) := h
    rw [if_neg h, if_neg (by simpa using h'), setFind_F n s l hn hl hb]
    cases hf : findS l s with
    | none => simp
    | some x =>
      have hx := hb x (List.mem_of_find?_eq_some hf)
      simp only
      rw [if_neg (by decide), if_pos (by simp only [List.length_cons, List.length_nil]; omega)]
      rfl
theorem refColumns_F (n : Nat) (s : ByteArray) (l : List ty24.D) (hn : l.length < n) (hl : l.length < 1000000000) (hb : ∀ x ∈ l, x.2.1.length ≤ 1000000) (k : Int → List ty51.D → Option R) : verdererref07_Columns_F n l s k = if s = tenS then k 0 [colS nmS, colS paS] else match findS l s with
    | none => k 20 []
    | some x => k 0 ([colS spS, colS nmS] ++ x.2.1) := by
  rw [verdererref07_Columns_e]
  unfold verdererref07_Columns_Fi
  simp only [beq_b]
  by_cases h : s = tenS
  · have h' : s = (⟨#[116, 101, 110, 97, 110, 116]⟩ : ByteArray) := h
    rw [if_pos h, if_pos (by rw [h']; simp)]
    rfl
  · have h' : ¬ s = (⟨#[116, 101, 110, 97, 110, 116]⟩ : ByteArray) := h
    rw [if_neg h, if_neg (by simpa using h'), refFind_F n s l hn hl]
    cases hf : findS l s with
    | none => simp
    | some x =>
      have hx := hb x (List.mem_of_find?_eq_some hf)
      simp only
      rw [if_neg (by decide), if_pos (by simp only [List.length_cons, List.length_nil]; omega)]
      rfl
theorem makes_F (n : Nat) (l : List ty24.D) (s : ByteArray) (hn : 100 < n) (hl : n < 1000000000) (k : Bool → Option R) (hk : verdererlaw07_known_F n k = k true) (hkk : ∀ k2 : Bool → Option R, verdererlaw07_known_F n k2 = k2 true) : verdererlaw07_SchemaMakes_F n l s k = k true := by
  rw [verdererlaw07_SchemaMakes_e]
  unfold verdererlaw07_SchemaMakes_Fi
  obtain ⟨b, hb, hfew⟩ := few_ex (R := R) n l (by omega)
  rw [hfew]
  cases b with
  | false => simp [hkk]
  | true =>
    obtain ⟨hln, hx⟩ := hb rfl
    have hb6 : ∀ x ∈ l, x.2.1.length ≤ 1000000 := fun x hm => Nat.le_trans (hx x hm).1 (by omega)
    simp only [Bool.not_true, Bool.false_eq_true, if_false]
    rw [new_F n l (by omega)]
    by_cases h2 : chkE l = 0
    · rw [if_pos h2, refCheck_F n l (by omega), h2]
      rw [if_neg (by decide), if_neg (by decide), if_neg (by decide), kinds_F n l (by omega) hl hb6]
      rw [if_neg (by simp)]
      refine runC_st (R := R) (step := verdererlaw07_SchemaMakes_l13 n) _ _ (fun i => (l, s, (i : Int), l, l, ())) l.length (fun i hi => .inl fun k1 => ?_) (fun k1 => ?_) (by omega)
      · simp only [verdererlaw07_SchemaMakes_l13, verdererlaw07_SchemaMakes_s13, lt_nat, hi, in_nat hi, decide_true, if_true, Int.toNat_natCast, wrap_succ i (by omega)]
        rw [same_refl n _ (by rw [getD_nat l i hi]; have := (hx _ (List.getElem_mem hi)).1; omega) hl]
        simp
      · simp only [verdererlaw07_SchemaMakes_l13, verdererlaw07_SchemaMakes_s13, lt_nat, Nat.lt_irrefl, decide_false, Bool.false_eq_true, if_false]
        rw [setFind_F n s l (by omega) (by omega) hb6]
        cases hf : findS l s with
        | none =>
          simp only [refFind_F n s l (by omega) (by omega), hf, setColumns_F n s l (by omega) (by omega) hb6, refColumns_F n s l (by omega) (by omega) hb6]
          by_cases ht : s = tenS
          · simp only [ht, if_true]
            rw [same_refl n _ (by simp; omega) hl]
            simp only [if_true, beq_self_eq_true]
            rw [same_refl n _ (by simp; omega) hl]
            simp [hkk]
          · simp only [ht, if_false]
            rw [same_refl n _ (by simp; omega) hl]
            simp only [if_true, beq_self_eq_true]
            rw [same_refl n _ (by simp; omega) hl]
            simp [hkk]
        | some x =>
          have hxl := (hx x (List.mem_of_find?_eq_some hf)).1
          simp only [refFind_F n s l (by omega) (by omega), hf, setColumns_F n s l (by omega) (by omega) hb6, refColumns_F n s l (by omega) (by omega) hb6]
          by_cases ht : s = tenS
          · simp only [ht, if_true]
            rw [same_refl n _ (by omega) hl]
            simp only [if_true, beq_self_eq_true]
            rw [same_refl n _ (by simp; omega) hl]
            simp [hkk]
          · simp only [ht, if_false]
            rw [same_refl n _ (by omega) hl]
            simp only [if_true, beq_self_eq_true]
            rw [same_refl n _ (by simp; omega) hl]
            simp [hkk]
    · rw [if_neg h2, refCheck_F n l (by omega)]
      have e1 : (chkE l != chkE l) = false := by simp
      have e2 : (chkE l != 0) = true := by simpa using h2
      rw [e1, e2]
      simp [hkk]
end Go.Proofs.YtegknlkeokfghaaDoor.E
namespace Go.Proofs.YtegknlkeokfghaaDoor.E
open Go.RowKit
variable {R : Type}
/-! a text in pieces -/
def pieces (c : UInt8) : List UInt8 → List (List UInt8)
  | [] => [[]]
  | x :: r => if x = c then [] :: pieces c r else match pieces c r with
    | p :: ps => (x :: p) :: ps
    | [] => [[x]]
theorem pieces_cons (c x : UInt8) (r : List UInt8) : pieces c (x :: r) = if x = c then [] :: pieces c r else match pieces c r with
    | p :: ps => (x :: p) :: ps
    | [] => [[x]] := rfl
theorem pieces_ne (c : UInt8) : ∀ l, pieces c l ≠ []
  | [] => by simp [pieces]
  | x :: r => by
    rw [pieces_cons]
    split
    · simp
    · split <;> simp
theorem pieces_one {c : UInt8} : ∀ {a : List UInt8}, c ∉ a → pieces c a = [a]
  | [], _ => rfl
  | x :: a, h => by
    have h1 : ¬ x = c := fun e => h (by rw [e]; exact List.mem_cons_self)
    have h2 := pieces_one (a := a) fun e => h (List.mem_cons_of_mem _ e)
    rw [pieces_cons, if_neg h1, h2]
theorem pieces_app {c : UInt8} : ∀ {a : List UInt8} (b : List UInt8), c ∉ a → pieces c (a ++ c :: b) = a :: pieces c b
  | [], b, _ => by simp [pieces]
  | x :: a, b, h => by
    have h1 : ¬ x = c := fun e => h (by rw [e]; exact List.mem_cons_self)
    have h2 := pieces_app (a := a) b fun e => h (List.mem_cons_of_mem _ e)
    rw [List.cons_append, pieces_cons, if_neg h1, h2]
theorem pieces_snoc (c x : UInt8) : ∀ l : List UInt8, pieces c (l ++ [x]) = if x = c then pieces c l ++ [[]] else (pieces c l).set ((pieces c l).length - 1) ((pieces c l).getD ((pieces c l).length - 1) [] ++ [x])
  | [] => by
    by_cases h : x = c <;> simp [pieces, h]
  | y :: l => by
    have ih := pieces_snoc c x l
    rw [List.cons_append, pieces_cons, pieces_cons]
    by_cases hy : y = c
    · rw [if_pos hy, if_pos hy, ih]
      by_cases h : x = c
      · simp [h]
      · rw [if_neg h, if_neg h]
        have hne := pieces_ne c l
        cases hp : pieces c l with
        | nil => exact absurd hp hne
        | cons p ps => simp
    · rw [if_neg hy, if_neg hy, ih]
      have hne := pieces_ne c l
      cases hp : pieces c l with
      | nil => exact absurd hp hne
      | cons p ps =>
        by_cases h : x = c
        · simp [h]
        · rw [if_neg h, if_neg h]
          cases ps with
          | nil => simp
          | cons q qs => simp
def mkB (l : List UInt8) : ByteArray := ⟨l.toArray⟩
theorem mkB_data (s : ByteArray) : mkB s.data.toList = s := by
  cases s; rfl
theorem indexByte_no {c : UInt8} : ∀ {a : List UInt8}, c ∉ a → Lib.indexByte a c = -1
  | [], _ => rfl
  | x :: a, h => by
    have h1 : ¬ x = c := fun e => h (by rw [e]; exact List.mem_cons_self)
    have h2 := indexByte_no (a := a) fun e => h (List.mem_cons_of_mem _ e)
    simp [Lib.indexByte, h1, h2]
theorem indexByte_at {c : UInt8} : ∀ {a : List UInt8} (b : List UInt8), c ∉ a → Lib.indexByte (a ++ c :: b) c = a.length
  | [], b, _ => by simp [Lib.indexByte]
  | x :: a, b, h => by
    have h1 : ¬ x = c := fun e => h (by rw [e]; exact List.mem_cons_self)
    have h2 := indexByte_at (a := a) b fun e => h (List.mem_cons_of_mem _ e)
    simp [Lib.indexByte, h1, h2]
theorem first_in {c : UInt8} : ∀ {l : List UInt8}, c ∈ l → ∃ a b, l = a ++ c :: b ∧ c ∉ a
  | x :: l, h => by
    by_cases hx : x = c
    · exact ⟨[], l, by rw [hx]; rfl, by simp⟩
    · rcases List.mem_cons.1 h with h | h
      · exact absurd h.symm hx
      · obtain ⟨a, b, e, ha⟩ := first_in h
        refine ⟨x :: a, b, by rw [e]; rfl, fun hm => ?_⟩
        rcases List.mem_cons.1 hm with hm | hm
        · exact hx hm.symm
        · exact ha hm
theorem splitK_pieces (c : UInt8) : ∀ (k : Nat) (l : List UInt8), l.count c = k → Lib.splitK [c] 0 k l = pieces c l := by
  intro k
  induction k with
  | zero =>
    intro l h
    rw [pieces_one (List.count_eq_zero.1 h)]
    rfl
  | succ k ih =>
    intro l h
    obtain ⟨a, b, e, ha⟩ := first_in (c := c) (l := l) (by rw [← List.count_pos_iff]; omega)
    subst e
    have hc : b.count c = k := by
      rw [List.count_append, List.count_cons_self, List.count_eq_zero.2 ha] at h
      omega
    unfold Lib.splitK
    have hne : ¬ ((a.length : Int) == -1) = true := by simp
    rw [Lib.index_one, indexByte_at b ha, pieces_app b ha, if_neg hne, ← ih b hc]
    have e1 : ((a.length : Int).toNat + [c].length) = a.length + 1 := by simp
    have e2 : ((a.length : Int).toNat + 0) = a.length := by simp
    rw [e1, e2, List.take_left, show a.length + 1 = (a ++ [c]).length by simp, show a ++ c :: b = (a ++ [c]) ++ b by simp, List.drop_left]
theorem splL_pieces (s : ByteArray) (c : UInt8) : splL s ⟨#[c]⟩ = (pieces c s.data.toList).map mkB := by
  have h1 := Lib.splitB_data ⟨#[c]⟩ 0 (Lib.countB s ⟨#[c]⟩) s
  have h2 : Lib.splitK [c] 0 (Lib.countB s ⟨#[c]⟩) s.data.toList = pieces c s.data.toList := splitK_pieces c _ _ (by
    show _ = Lib.count s.data.toList [c]
    rw [Lib.count_one])
  have h3 : (splL s ⟨#[c]⟩).map (·.data.toList) = pieces c s.data.toList := h1.trans h2
  rw [← h3, List.map_map]
  have : (mkB ∘ fun x : ByteArray => x.data.toList) = id := by funext x; exact mkB_data x
  rw [this, List.map_id]
end Go.Proofs.YtegknlkeokfghaaDoor.E
namespace Go.Proofs.YtegknlkeokfghaaDoor.E
open Go.RowKit
variable {R : Type}
theorem pieces_len (c : UInt8) : ∀ l : List UInt8, (pieces c l).length ≤ l.length + 1 ∧ ∀ p ∈ pieces c l, p.length ≤ l.length
  | [] => ⟨by simp [pieces], fun p hp => by simp [pieces] at hp; simp [hp]⟩
  | x :: l => by
    obtain ⟨h1, h2⟩ := pieces_len c l
    rw [pieces_cons]
    split
    · refine ⟨by simp; omega, fun p hp => ?_⟩
      rcases List.mem_cons.1 hp with rfl | hp
      · simp
      · have := h2 p hp; simp; omega
    · cases hp : pieces c l with
      | nil => exact absurd hp (pieces_ne c l)
      | cons q qs =>
        rw [hp] at h1 h2
        refine ⟨by simp at h1 ⊢; omega, fun p hm => ?_⟩
        rcases List.mem_cons.1 hm with rfl | hm
        · have := h2 q List.mem_cons_self; simp; omega
        · have := h2 p (List.mem_cons_of_mem _ hm); simp; omega
theorem pieces_pos (c : UInt8) (l : List UInt8) : 1 ≤ (pieces c l).length := by
  rcases Nat.eq_zero_or_pos (pieces c l).length with h | h
  · exact absurd (List.length_eq_zero_iff.1 h) (pieces_ne c l)
  · exact h
theorem mkB_append (a b : List UInt8) : mkB (a ++ b) = mkB a ++ mkB b := by
  apply ByteArray.ext
  simp [mkB, ByteArray.data_append]
theorem mkB_size (a : List UInt8) : (mkB a).size = a.length := by
  simp [mkB, ByteArray.size]
theorem size_data (s : ByteArray) : s.data.toList.length = s.size := by rw [Array.length_toList]; rfl
theorem extract_one (s : ByteArray) (i : Nat) (h : i < s.data.toList.length) : s.extract i (i + 1) = mkB [s.data.toList[i]] := by
  rw [← mkB_data (s.extract i (i + 1)), Lib.extract_data, Nat.add_sub_cancel_left, List.drop_eq_getElem_cons h]
  rfl
theorem byte_eq (s : ByteArray) (i : Nat) (h : i < s.data.toList.length) (c : UInt8) : (byteAt s (i : Int) == (c.toNat : Int)) = decide (s.data.toList[i] = c) := by
  unfold byteAt
  rw [Int.toNat_natCast, getD_nat _ i h]
  by_cases e : s.data.toList[i] = c
  · simp [e]
  · have : ¬ (s.data.toList[i]).toNat = c.toNat := fun e2 => e (UInt8.toNat_inj.1 e2)
    simp only [e, decide_false, beq_eq_false_iff_ne, ne_eq]
    omega
theorem refSplit_F (n : Nat) (s : ByteArray) (c : UInt8) (ci : Int) (hci : ci = (c.toNat : Int)) (hn : s.size < n) (hl : s.size ≤ 1000000) (k : List ByteArray → Option R) : verdererref07_Split_F n s ci k = k ((pieces c s.data.toList).map mkB) := by
  rw [verdererref07_Split_e]
  unfold verdererref07_Split_Fi
  have hsz := size_data s
  subst hci
  refine runC_st (R := R) (step := verdererref07_Split_l3 n) _ _ (fun i => (s, (c.toNat : Int), (i : Int), (pieces c (s.data.toList.take i)).map mkB, ())) s.size (fun i hi => .inl fun k1 => ?_) (fun k1 => ?_) hn
  · have hi2 : i < s.data.toList.length := by omega
    simp only [verdererref07_Split_l3, verdererref07_Split_s3, lt_nat, hi, (in_size hi).1, (in_size hi).2, decide_true, if_true, byte_eq s i hi2 c]
    rw [take_snoc _ i hi2, pieces_snoc]
    have hw1 : IntKind.i64.wrap ((i : Int) + 1) = ((i + 1 : Nat) : Int) := wrap_succ i (by omega)
    obtain ⟨hp1, hp2⟩ := pieces_len c (s.data.toList.take i)
    have hpp := pieces_pos c (s.data.toList.take i)
    have htl : (s.data.toList.take i).length ≤ 1000000 := by rw [List.length_take]; omega
    generalize pieces c (s.data.toList.take i) = P at *
    have hlP : (P.map mkB).length = P.length := List.length_map _
    by_cases hx : s.data.toList[i] = c
    · simp only [hx, decide_true, if_true, hw1]
      rw [if_pos (by simp only [List.length_map, List.length_cons, List.length_nil]; omega)]
      rw [List.map_append]
      rfl
    · have hw2 : IntKind.i64.wrap (((P.map mkB).length : Int) - 1) = ((P.length - 1 : Nat) : Int) := by
        rw [hlP, wrap_i64 (by omega) (by omega)]; omega
      simp only [hx, decide_false, Bool.false_eq_true, if_false, hw1, hw2, Int.toNat_natCast]
      have hlt : P.length - 1 < (P.map mkB).length := by rw [hlP]; omega
      have hg : (P.map mkB).getD (P.length - 1) (Ty.z .str) = mkB (P.getD (P.length - 1) []) := by
        rw [getD_nat _ _ hlt, List.getElem_map, getD_nat P (P.length - 1) (by omega)]
      have hgl : (P.getD (P.length - 1) []).length ≤ 1000000 := by
        rw [getD_nat P (P.length - 1) (by omega)]
        exact Nat.le_trans (hp2 _ (List.getElem_mem _)) htl
      have hb1 : ((0 : Int) ≤ ((i + 1 : Nat) : Int) ∧ ((i + 1 : Nat) : Int) ≤ (s.size : Int)) := by omega
      have hb2 : (True ∧ (i : Int) ≤ ((i + 1 : Nat) : Int)) := ⟨trivial, by omega⟩
      have hb3 : (mkB (P.getD (P.length - 1) [])).size + (s.extract i (i + 1)).size ≤ 9223372036854775807 := by
        rw [extract_one s i hi2, mkB_size, mkB_size]
        simp only [List.length_cons, List.length_nil]
        omega
      simp only [in_nat hlt, hlt, hg, if_true]
      rw [if_pos hb1, if_pos hb2, if_pos hb3, extract_one s i hi2, ← mkB_append, ← List.map_set]
  · simp only [verdererref07_Split_l3, verdererref07_Split_s3, lt_nat, Nat.lt_irrefl, decide_false, Bool.false_eq_true, if_false]
    rw [← hsz, List.take_length]
end Go.Proofs.YtegknlkeokfghaaDoor.E
namespace Go.Proofs.YtegknlkeokfghaaDoor.E
open Go.RowKit
variable {R : Type}
/-! what is checked -/
theorem colsE_zero {l : List ty51.D} (h : colsE l = 0) : l.length ≤ 6 ∧ ∀ i (hi : i < l.length), nameS (l[i]).1 = true ∧ 1 ≤ (l[i]).2.1 ∧ (l[i]).2.1 ≤ 3 := by
  unfold colsE at h
  split at h
  · cases h
  · rename_i h6
    refine ⟨by omega, fun i hi => ?_⟩
    cases hf : (List.range l.length).findSome? (colF l) with
    | some e =>
      rw [hf] at h
      obtain ⟨j, _, hj⟩ := List.exists_of_findSome?_eq_some hf
      exact absurd h (colF_ne l j e hj)
    | none =>
      have h1 := (List.findSome?_eq_none_iff.1 hf) i (List.mem_range.2 hi)
      unfold colF at h1
      rw [getD_nat l i hi] at h1
      split at h1
      · rename_i hn
        split at h1
        · cases h1
        · split at h1
          · cases h1
          · rename_i c1 c2
            exact ⟨hn, Int.not_lt.1 c1, Int.not_lt.1 c2⟩
      · cases h1
theorem chkE_zero {x : ty24.D} (h : chkE [x] = 0) : nameS x.1 = true ∧ colsE x.2.1 = 0 := by
  unfold chkE at h
  rw [if_neg (by simp)] at h
  cases hf : (List.range [x].length).findSome? (schF [x]) with
  | some e =>
    rw [hf] at h
    obtain ⟨j, _, hj⟩ := List.exists_of_findSome?_eq_some hf
    exact absurd h (schF_ne [x] j e hj)
  | none =>
    have h1 := (List.findSome?_eq_none_iff.1 hf) 0 (by simp)
    unfold schF at h1
    simp only [List.getD_cons_zero] at h1
    split at h1
    · rename_i hn
      split at h1
      · cases h1
      · split at h1
        · cases h1
        · split at h1
          · rename_i hc
            exact ⟨hn, hc⟩
          · cases h1
    · cases h1
theorem nameS_len {s : ByteArray} (h : nameS s = true) : 1 ≤ s.size ∧ s.size ≤ 16 := by
  unfold nameS at h
  simp only [Bool.and_eq_true, decide_eq_true_eq] at h
  exact ⟨h.1, h.2.1⟩
theorem nameS_no {s : ByteArray} (h : nameS s = true) (c : UInt8) (hc : c = 32 ∨ c = 58 ∨ c = 63) : c ∉ s.data.toList := by
  intro hm
  obtain ⟨i, hi, e⟩ := List.mem_iff_getElem.1 hm
  unfold nameS at h
  simp only [Bool.and_eq_true] at h
  have h1 := List.all_eq_true.1 h.2.2 i (List.mem_range.2 (by rw [size_data] at hi; exact hi))
  have hb : byteAt s (i : Int) = (c.toNat : Int) := by
    unfold byteAt
    rw [Int.toNat_natCast, getD_nat _ i hi, e]
  unfold chS letS othS at h1
  rw [hb] at h1
  rcases hc with rfl | rfl | rfl <;> simp at h1
/-! words of kinds -/
def wordL : List ByteArray := [(⟨#[]⟩ : ByteArray), (⟨#[98, 111, 111, 108]⟩ : ByteArray), (⟨#[105, 110, 116]⟩ : ByteArray), (⟨#[116, 101, 120, 116]⟩ : ByteArray)]
def wordS (k : Int) : ByteArray := wordL.getD k.toNat ByteArray.empty
theorem kinds3 {P : Int → Prop} (h1 : P 1) (h2 : P 2) (h3 : P 3) (k : Int) (a : 1 ≤ k) (b : k ≤ 3) : P k := by
  have : k = 1 ∨ k = 2 ∨ k = 3 := by omega
  rcases this with rfl | rfl | rfl <;> assumption
theorem word_F (n : Nat) (kd : Int) (h1 : 1 ≤ kd) (h2 : kd ≤ 3) (k : ByteArray → Option R) : schema_word_F n kd k = k (wordS kd) := by
  rw [schema_word_e]
  unfold schema_word_Fi
  rw [if_pos ⟨by omega, by omega, by simp; omega⟩]
  rfl
theorem refKind_F (n : Nat) (kd : Int) (h1 : 1 ≤ kd) (h2 : kd ≤ 3) (k : ByteArray → Option R) : verdererref07_kind_F n kd k = k (wordS kd) := by
  rw [verdererref07_kind_e]
  unfold verdererref07_kind_Fi
  rw [if_pos ⟨by omega, by simp; omega⟩, if_pos (by simp; omega)]
  revert kd
  exact fun kd h1 h2 => kinds3 (P := fun kd => k (wordL.getD kd.toNat (Ty.z .str)) = k (wordS kd)) rfl rfl rfl kd h1 h2
theorem word_len (kd : Int) (h1 : 1 ≤ kd) (h2 : kd ≤ 3) : (wordS kd).data.toList.length ≤ 4 := kinds3 (P := fun kd => (wordS kd).data.toList.length ≤ 4) (by decide) (by decide) (by decide) kd h1 h2
/-! a kind as a line -/
def colL (c : ty51.D) : List UInt8 := c.1.data.toList ++ 58 :: ((wordS c.2.1).data.toList ++ if c.2.2.1 = true then [63] else [])
def headL (x : ty24.D) : List UInt8 := [107, 105, 110, 100, 32] ++ x.1.data.toList
def lineL (x : ty24.D) : List UInt8 := headL x ++ x.2.1.flatMap fun c => 32 :: colL c
def lineS (x : ty24.D) : ByteArray := if chkE [x] = 0 then mkB (lineL x) else ⟨#[]⟩
theorem colL_len {c : ty51.D} (h : nameS c.1 = true) (h1 : 1 ≤ c.2.1) (h2 : c.2.1 ≤ 3) : (colL c).length ≤ 22 := by
  have a := (nameS_len h).2
  have b := word_len c.2.1 h1 h2
  have d := size_data c.1
  unfold colL
  simp only [List.length_append, List.length_cons]
  split <;> simp only [List.length_cons, List.length_nil] <;> omega
theorem flat_len (l : List ty51.D) (h : ∀ c ∈ l, (colL c).length ≤ 22) : (l.flatMap fun c => 32 :: colL c).length ≤ 23 * l.length := by
  induction l with
  | nil => simp
  | cons c l ih =>
    have h1 := ih fun d hd => h d (List.mem_cons_of_mem _ hd)
    have h2 := h c List.mem_cons_self
    simp only [List.flatMap_cons, List.length_append, List.length_cons] at h1 ⊢
    omega
theorem sch_line_F (n : Nat) (x : ty24.D) (hn : 16 < n) (k : ByteArray → Option R) : schema_Line_F n x k = k (lineS x) := by
  rw [schema_Line_e]
  unfold schema_Line_Fi
  rw [new_F n [x] hn]
  unfold lineS
  by_cases hc : chkE [x] = 0
  · rw [if_pos hc, if_pos hc, if_neg (by decide)]
    obtain ⟨hnm, hcols⟩ := chkE_zero hc
    obtain ⟨h6, hcol⟩ := colsE_zero hcols
    have hnl := (nameS_len hnm).2
    have hsx := size_data x.1
    have e0 : (⟨#[107, 105, 110, 100, 32]⟩ : ByteArray) ++ x.1 = mkB (headL x) := by
      unfold headL
      rw [mkB_append, mkB_data]
      rfl
    have hsz : (⟨#[107, 105, 110, 100, 32]⟩ : ByteArray).size + x.1.size ≤ 9223372036854775807 := by
      have : (⟨#[107, 105, 110, 100, 32]⟩ : ByteArray).size = 5 := rfl
      omega
    rw [if_pos hsz, e0]
    have hhl : (headL x).length ≤ 21 := by unfold headL; simp only [List.length_append, List.length_cons, List.length_nil]; omega
    unfold lineL
    generalize headL x = A at *
    generalize x.2.1 = l at *
    have hall : ∀ c ∈ l, (colL c).length ≤ 22 := by
      intro c hm
      obtain ⟨i, hi, rfl⟩ := List.mem_iff_getElem.1 hm
      obtain ⟨a, b, d⟩ := hcol i hi
      exact colL_len a b d
    have eA : mkB A = mkB (A ++ (l.take 0).flatMap fun c => 32 :: colL c) := by simp
    conv => lhs; rw [eA]
    refine runC_st (R := R) (step := schema_Line_l6 n) _ _ (fun i => (mkB (A ++ (l.take i).flatMap fun c => 32 :: colL c), l, (l.length : Int), (i : Int), ())) l.length (fun i hi => .inl fun k1 => ?_) (fun k1 => ?_) (show l.length < n by omega)
    · have hfl := flat_len (l.take i) fun c hm => hall c (List.mem_of_mem_take hm)
      have htl : (l.take i).length ≤ 6 := by rw [List.length_take]; omega
      obtain ⟨a, b, d⟩ := hcol i hi
      simp only [schema_Line_l6, schema_Line_s6, lt_nat, hi, in_nat hi, decide_true, if_true, Int.toNat_natCast, getD_nat l i hi, word_F n _ b d, wrap_succ i (by omega)]
      rw [take_snoc l i hi, List.flatMap_append]
      have hw := word_len _ b d
      have hn1 := (nameS_len a).2
      have hs1 := size_data (l[i]).1
      generalize (l.take i).flatMap (fun c => 32 :: colL c) = B at *
      have e1 : (⟨#[32]⟩ : ByteArray) = mkB [32] := rfl
      have e2 : (⟨#[58]⟩ : ByteArray) = mkB [58] := rfl
      have e3 : (⟨#[63]⟩ : ByteArray) = mkB [63] := rfl
      have e4 : (l[i]).1 = mkB (l[i]).1.data.toList := (mkB_data _).symm
      have e5 : wordS (l[i]).2.1 = mkB (wordS (l[i]).2.1).data.toList := (mkB_data _).symm
      rw [e4, e5]
      simp only [e1, e2, e3, ← mkB_append, mkB_size, List.length_append, List.length_cons, List.length_nil]
      rw [if_pos (by omega), if_pos (by omega), if_pos (by omega), if_pos (by omega)]
      by_cases hz : (l[i]).2.2.1 = true
      · rw [if_pos hz, if_pos (by omega)]
        have e6 : A ++ B ++ ([32] ++ (l[i]).1.data.toList ++ [58] ++ (wordS (l[i]).2.1).data.toList) ++ [63] = A ++ (B ++ [l[i]].flatMap fun c => 32 :: colL c) := by simp [colL, hz]
        rw [e6]
      · rw [if_neg hz]
        have e6 : A ++ B ++ ([32] ++ (l[i]).1.data.toList ++ [58] ++ (wordS (l[i]).2.1).data.toList) = A ++ (B ++ [l[i]].flatMap fun c => 32 :: colL c) := by simp [colL, hz]
        rw [e6]
    · simp only [schema_Line_l6, schema_Line_s6, lt_nat, Nat.lt_irrefl, decide_false, Bool.false_eq_true, if_false, List.take_length]
  · rw [if_neg hc, if_neg hc]
    have : (chkE [x] != 0) = true := by simpa using hc
    rw [if_pos this]
theorem ref_line_F (n : Nat) (x : ty24.D) (hn : 16 < n) (k : ByteArray → Option R) : verdererref07_Line_F n x k = k (lineS x) := by
  rw [verdererref07_Line_e]
  unfold verdererref07_Line_Fi
  rw [refCheck_F n [x] hn]
  unfold lineS
  by_cases hc : chkE [x] = 0
  · rw [if_pos hc, if_neg (by rw [hc]; decide)]
    obtain ⟨hnm, hcols⟩ := chkE_zero hc
    obtain ⟨h6, hcol⟩ := colsE_zero hcols
    have hnl := (nameS_len hnm).2
    have hsx := size_data x.1
    have e0 : (⟨#[107, 105, 110, 100, 32]⟩ : ByteArray) ++ x.1 = mkB (headL x) := by
      unfold headL
      rw [mkB_append, mkB_data]
      rfl
    have hsz : (⟨#[107, 105, 110, 100, 32]⟩ : ByteArray).size + x.1.size ≤ 9223372036854775807 := by
      have : (⟨#[107, 105, 110, 100, 32]⟩ : ByteArray).size = 5 := rfl
      omega
    rw [if_pos hsz, e0]
    have hhl : (headL x).length ≤ 21 := by unfold headL; simp only [List.length_append, List.length_cons, List.length_nil]; omega
    unfold lineL
    generalize headL x = A at *
    generalize x.2.1 = l at *
    generalize x.1 = nm at *
    have hall : ∀ c ∈ l, (colL c).length ≤ 22 := by
      intro c hm
      obtain ⟨i, hi, rfl⟩ := List.mem_iff_getElem.1 hm
      obtain ⟨a, b, d⟩ := hcol i hi
      exact colL_len a b d
    have eA : mkB A = mkB (A ++ (l.take 0).flatMap fun c => 32 :: colL c) := by simp
    conv => lhs; rw [eA]
    refine runC_st (R := R) (step := verdererref07_Line_l5 n) _ _ (fun i => (mkB (A ++ (l.take i).flatMap fun c => 32 :: colL c), (i : Int), nm, l, ())) l.length (fun i hi => .inl fun k1 => ?_) (fun k1 => ?_) (show l.length < n by omega)
    · have hfl := flat_len (l.take i) fun c hm => hall c (List.mem_of_mem_take hm)
      have htl : (l.take i).length ≤ 6 := by rw [List.length_take]; omega
      obtain ⟨a, b, d⟩ := hcol i hi
      simp only [verdererref07_Line_l5, verdererref07_Line_s5, lt_nat, hi, in_nat hi, decide_true, if_true, Int.toNat_natCast, getD_nat l i hi, refKind_F n _ b d, wrap_succ i (by omega)]
      rw [take_snoc l i hi, List.flatMap_append]
      have hw := word_len _ b d
      have hn1 := (nameS_len a).2
      have hs1 := size_data (l[i]).1
      generalize (l.take i).flatMap (fun c => 32 :: colL c) = B at *
      have e1 : (⟨#[32]⟩ : ByteArray) = mkB [32] := rfl
      have e2 : (⟨#[58]⟩ : ByteArray) = mkB [58] := rfl
      have e3 : (⟨#[63]⟩ : ByteArray) = mkB [63] := rfl
      have e4 : (l[i]).1 = mkB (l[i]).1.data.toList := (mkB_data _).symm
      have e5 : wordS (l[i]).2.1 = mkB (wordS (l[i]).2.1).data.toList := (mkB_data _).symm
      rw [e4, e5]
      simp only [e1, e2, e3, ← mkB_append, mkB_size, List.length_append, List.length_cons, List.length_nil]
      rw [if_pos (by omega), if_pos (by omega), if_pos (by omega), if_pos (by omega)]
      by_cases hz : (l[i]).2.2.1 = true
      · rw [if_pos hz, if_pos (by omega)]
        have e6 : A ++ B ++ [32] ++ (l[i]).1.data.toList ++ [58] ++ (wordS (l[i]).2.1).data.toList ++ [63] = A ++ (B ++ [l[i]].flatMap fun c => 32 :: colL c) := by simp [colL, hz]
        rw [e6]
      · rw [if_neg hz]
        have e6 : A ++ B ++ [32] ++ (l[i]).1.data.toList ++ [58] ++ (wordS (l[i]).2.1).data.toList = A ++ (B ++ [l[i]].flatMap fun c => 32 :: colL c) := by simp [colL, hz]
        rw [e6]
    · simp only [verdererref07_Line_l5, verdererref07_Line_s5, lt_nat, Nat.lt_irrefl, decide_false, Bool.false_eq_true, if_false, List.take_length]
  · rw [if_neg hc]
    have : (chkE [x] != 0) = true := by simpa using hc
    rw [if_pos this]
end Go.Proofs.YtegknlkeokfghaaDoor.E
namespace Go.Proofs.YtegknlkeokfghaaDoor.E
open Go.RowKit
variable {R : Type}
theorem idxB_list (s : ByteArray) (c : UInt8) : idxB s (c.toNat : Int) = Lib.indexByte s.data.toList c := by
  unfold idxB
  rw [Int.toNat_natCast, show c.toNat.toUInt8 = c from by simp]
  exact Lib.firstIdx_eq s c
def cutS (w : ByteArray) : ByteArray × ByteArray := if 0 ≤ Lib.indexByte w.data.toList 58 then (w.extract 0 (Lib.indexByte w.data.toList 58).toNat, w.extract ((Lib.indexByte w.data.toList 58).toNat + 1) w.size) else (w, ⟨#[]⟩)
theorem index_le : ∀ (l : List UInt8) (c : UInt8), Lib.indexByte l c < l.length ∨ Lib.indexByte l c = -1
  | [], _ => .inr rfl
  | b :: l, c => by
    have ih := index_le l c
    have := Lib.indexByte_ge l c
    unfold Lib.indexByte
    split
    · left; simp only [List.length_cons]; omega
    · split
      · right; rfl
      · left; simp only [List.length_cons]; rcases ih with h | h
        · omega
        · rename_i h2; simp [h] at h2
theorem sIndex_F (n : Nat) (w : ByteArray) (k : Int → Option R) : stringslite_Index_F n w (⟨#[58]⟩ : ByteArray) k = k (Lib.indexByte w.data.toList 58) := by
  rw [stringslite_Index_e]
  unfold stringslite_Index_Fi
  simp only [beqB]
  rw [if_neg (by decide)]
  by_cases h : (⟨#[58]⟩ : ByteArray) = w
  · rw [if_pos (by simpa using h), ← h]
    rfl
  · rw [if_neg (by simpa using h), if_pos (by decide), if_pos (by decide), if_pos (by decide)]
    rw [stringslite_IndexByte_e]
    unfold stringslite_IndexByte_Fi
    rw [bytealg_IndexByteString_e]
    unfold bytealg_IndexByteString_Fi
    rw [← idxB_list]
    rfl
theorem sCut_F (n : Nat) (w : ByteArray) (hw : w.size ≤ 1000000) (k : ByteArray → ByteArray → Option R) : strings_Cut_F n w (⟨#[58]⟩ : ByteArray) (fun a b _ => k a b) = k (cutS w).1 (cutS w).2 := by
  rw [strings_Cut_e]
  unfold strings_Cut_Fi
  rw [stringslite_Cut_e]
  unfold stringslite_Cut_Fi
  rw [sIndex_F]
  unfold cutS
  have hle := index_le w.data.toList 58
  rw [size_data] at hle
  generalize Lib.indexByte w.data.toList 58 = i at *
  have e1 : (((⟨#[58]⟩ : ByteArray).size : Nat) : Int) = 1 := rfl
  by_cases h : 0 ≤ i
  · have hw1 : IntKind.i64.wrap (i + 1) = i + 1 := wrap_i64 (by omega) (by omega)
    rw [if_pos h, if_pos (by simpa using h), e1, hw1, if_pos (by omega), if_pos (by omega)]
    have e2 : (i + 1).toNat = i.toNat + 1 := by omega
    rw [e2]
  · rw [if_neg h, if_neg (by simpa using h)]
def sufS (v : ByteArray) : ByteArray × Bool := if 1 ≤ v.size ∧ v.extract (v.size - 1) v.size = ⟨#[63]⟩ then (v.extract 0 (v.size - 1), true) else (v, false)
theorem sSuf_F (n : Nat) (v : ByteArray) (hv : v.size ≤ 1000000) (k : ByteArray → Bool → Option R) : strings_CutSuffix_F n v (⟨#[63]⟩ : ByteArray) k = k (sufS v).1 (sufS v).2 := by
  rw [strings_CutSuffix_e]
  unfold strings_CutSuffix_Fi
  rw [stringslite_CutSuffix_e]
  unfold stringslite_CutSuffix_Fi
  rw [stringslite_HasSuffix_e]
  unfold stringslite_HasSuffix_Fi
  have e1 : (((⟨#[63]⟩ : ByteArray).size : Nat) : Int) = 1 := rfl
  simp only [beqB, e1]
  by_cases h : 1 ≤ v.size
  · have hw1 : IntKind.i64.wrap ((v.size : Int) - 1) = ((v.size - 1 : Nat) : Int) := by rw [wrap_i64 (by omega) (by omega)]; omega
    have hc : ((0 : Int) ≤ ((v.size - 1 : Nat) : Int) ∧ ((v.size - 1 : Nat) : Int) ≤ (v.size : Int)) := by omega
    rw [if_pos (by simp; omega), hw1, if_pos hc, Int.toNat_natCast]
    by_cases h2 : v.extract (v.size - 1) v.size = ⟨#[63]⟩
    · have es : sufS v = (v.extract 0 (v.size - 1), true) := if_pos ⟨h, h2⟩
      rw [es]
      simp [h2]
    · have es : sufS v = (v, false) := if_neg (fun e => h2 e.2)
      rw [es]
      simp [h2]
  · have es : sufS v = (v, false) := if_neg (fun e => h e.1)
    rw [es, if_neg (by simp; omega)]
    simp
def kAfter (q : ByteArray) : Nat → Int
  | 0 => 0
  | i + 1 => if wordS ((i + 1 : Nat) : Int) = q then ((i + 1 : Nat) : Int) else kAfter q i
def colR (w : ByteArray) : ty51.D := ((cutS w).1, kAfter (sufS (cutS w).2).1 3, (sufS (cutS w).2).2, ())
theorem cut_size (w : ByteArray) : (cutS w).2.size ≤ w.size := by
  unfold cutS
  split
  · simp only [ByteArray.size_extract]; omega
  · exact Nat.zero_le _
theorem column_F (n : Nat) (w : ByteArray) (hn : 16 < n) (hw : w.size ≤ 1000000) (k : ty51.D → Option R) : schema_column_F n w k = k (colR w) := by
  rw [schema_column_e]
  unfold schema_column_Fi
  rw [sCut_F n w hw fun y1 y2 => strings_CutSuffix_F n y2 (⟨#[63]⟩ : ByteArray) (fun y4 y5 => runC (schema_column_l5 n) n (y4, 1, (⟨#[]⟩ : ByteArray), 0, false, y1, 0, y5, ()) (fun b12 => k (b12.2.2.2.1, b12.2.2.2.2.1, b12.2.2.2.2.2.1, ()), ()))]
  rw [sSuf_F n _ (Nat.le_trans (cut_size w) hw)]
  unfold colR
  generalize (cutS w).1 = nm
  generalize (sufS (cutS w).2).1 = q
  generalize (sufS (cutS w).2).2 = nl
  refine runC_st (R := R) (step := schema_column_l5 n) _ _ (fun i => (q, ((i + 1 : Nat) : Int), (⟨#[]⟩ : ByteArray), 0, false, nm, kAfter q i, nl, ())) 3 (fun i hi => .inl fun k1 => ?_) (fun k1 => ?_) (show 3 < n by omega)
  · have hc : ((i + 1 : Nat) : Int) ≤ 3 := by omega
    simp only [schema_column_l5, schema_column_s5, hc, decide_true, if_true]
    rw [word_F n _ (by omega) hc, wrap_succ (i + 1) (by omega)]
    simp only [beqB, kAfter]
    by_cases h : wordS ((i + 1 : Nat) : Int) = q
    · rw [if_pos (by simpa using h), if_pos h]
    · rw [if_neg (by simpa using h), if_neg h]
  · simp only [schema_column_l5, schema_column_s5]
    rw [if_neg (by simp)]
end Go.Proofs.YtegknlkeokfghaaDoor.E
namespace Go.Proofs.YtegknlkeokfghaaDoor.E
open Go.RowKit
variable {R : Type}
def psS (s : ByteArray) : List ByteArray := (pieces 32 s.data.toList).map mkB
theorem psS_len (s : ByteArray) : (psS s).length ≤ s.size + 1 ∧ 1 ≤ (psS s).length ∧ ∀ p ∈ psS s, p.size ≤ s.size := by
  have h := pieces_len 32 s.data.toList
  have h2 := pieces_pos 32 s.data.toList
  rw [size_data] at h
  unfold psS
  rw [List.length_map]
  refine ⟨h.1, h2, fun p hp => ?_⟩
  obtain ⟨q, hq, rfl⟩ := List.mem_map.1 hp
  rw [mkB_size]
  exact h.2 q hq
/-- what is read, whether or not it is a line -/
def readX (s : ByteArray) : ty24.D := (if 2 ≤ (psS s).length then (psS s).getD 1 (Ty.z .str) else ⟨#[]⟩, ((psS s).drop 2).map colR, ())
def readS (s : ByteArray) : ByteArray × Int × List ty51.D := if s = ⟨#[]⟩ then (⟨#[]⟩, 7, []) else if lineS (readX s) = s then ((readX s).1, 0, (readX s).2.1) else (⟨#[]⟩, 7, [])
theorem read_F (n : Nat) (s : ByteArray) (hs : s.size ≤ 1000) (hn : 1002 < n) (k : ByteArray → Int → List ty51.D → Option R) : schema_Read_F n s k = k (readS s).1 (readS s).2.1 (readS s).2.2 := by
  rw [schema_Read_e]
  unfold schema_Read_Fi
  rw [strings_Split_e]
  unfold strings_Split_Fi
  rw [if_pos ⟨rfl, by omega⟩, splL_pieces]
  obtain ⟨hp1, hp2, hp3⟩ := psS_len s
  have e0 : (pieces 32 s.data.toList).map mkB = psS s := rfl
  rw [e0]
  unfold readS readX
  generalize psS s = ps at *
  refine runC_st (R := R) (step := schema_Read_l3 n) _ _ (fun i => (s, (ps.length : Int), (i : Int), ([] : List ty51.D), (⟨#[]⟩ : ByteArray), ((ps.take i).drop 2).map colR, (if 2 ≤ i then ps.getD 1 (Ty.z .str) else (⟨#[]⟩ : ByteArray)), ps, ())) ps.length (fun i hi => .inl fun k1 => ?_) (fun k1 => ?_) (show ps.length < n by omega)
  · simp only [schema_Read_l3, schema_Read_s3, lt_nat, hi, in_nat hi, decide_true, if_true, Int.toNat_natCast, wrap_succ i (by omega)]
    by_cases h0 : i = 0
    · subst h0
      have ht : ((ps.take (0 + 1)).drop 2).map colR = ((ps.take 0).drop 2).map colR := by
        rw [List.drop_eq_nil_of_le (by rw [List.length_take]; omega), List.drop_eq_nil_of_le (by rw [List.length_take]; omega)]
      rw [if_pos (by decide), ht]
      rfl
    · have h0' : ((i : Int) == 0) = false := by simp; omega
      rw [h0']
      simp only [Bool.false_eq_true, if_false]
      by_cases h1 : i = 1
      · subst h1
        have ht : ((ps.take (1 + 1)).drop 2).map colR = ((ps.take 1).drop 2).map colR := by
          rw [List.drop_eq_nil_of_le (by rw [List.length_take]; omega), List.drop_eq_nil_of_le (by rw [List.length_take]; omega)]
        rw [if_pos (by decide), ht]
        rfl
      · have h1' : ((i : Int) == 1) = false := by simp; omega
        rw [h1']
        simp only [Bool.false_eq_true, if_false]
        have hg : ps.getD i (Ty.z .str) = ps[i] := getD_nat ps i hi _
        rw [hg, column_F n _ (by omega) (Nat.le_trans (hp3 _ (List.getElem_mem hi)) (by omega))]
        have hl : (((ps.take i).drop 2).map colR).length ≤ 1001 := by
          rw [List.length_map, List.length_drop, List.length_take]; omega
        rw [if_pos (by simp only [List.length_cons, List.length_nil]; omega)]
        have ht : ((ps.take i).drop 2).map colR ++ [colR ps[i]] = ((ps.take (i + 1)).drop 2).map colR := by
          rw [take_snoc ps i hi, List.drop_append_of_le_length (by rw [List.length_take]; omega), List.map_append]
          rfl
        have hn1 : (if 2 ≤ i then ps.getD 1 (Ty.z .str) else (⟨#[]⟩ : ByteArray)) = (if 2 ≤ i + 1 then ps.getD 1 (Ty.z .str) else (⟨#[]⟩ : ByteArray)) := by
          rw [if_pos (by omega), if_pos (by omega)]
        rw [ht, hn1]
  · simp only [schema_Read_l3, schema_Read_s3, lt_nat, Nat.lt_irrefl, decide_false, Bool.false_eq_true, if_false, List.take_length, beqB]
    by_cases he : s = ⟨#[]⟩
    · rw [if_pos (by simpa using he), if_pos he]
    · rw [if_neg (by simpa using he), if_neg he, sch_line_F n _ (by omega)]
      by_cases hl : lineS ((if 2 ≤ ps.length then ps.getD 1 (Ty.z .str) else (⟨#[]⟩ : ByteArray)), (ps.drop 2).map colR, ()) = s
      · rw [if_neg (by simpa using hl), if_pos hl]
      · rw [if_pos (by simpa using hl), if_neg hl]
/-! the reference's reader -/
def rkA (q : ByteArray) : Nat → Int × Bool
  | 0 => (0, false)
  | i + 1 => if q = wordS ((i + 1 : Nat) : Int) ∨ q = wordS ((i + 1 : Nat) : Int) ++ ⟨#[63]⟩ then (((i + 1 : Nat) : Int), decide (q = wordS ((i + 1 : Nat) : Int) ++ ⟨#[63]⟩)) else rkA q i
theorem rkA_succ (q : ByteArray) (i : Nat) : rkA q (i + 1) = if q = wordS ((i + 1 : Nat) : Int) ∨ q = wordS ((i + 1 : Nat) : Int) ++ ⟨#[63]⟩ then (((i + 1 : Nat) : Int), decide (q = wordS ((i + 1 : Nat) : Int) ++ ⟨#[63]⟩)) else rkA q i := rfl
def pcS (w : ByteArray) : List ByteArray := (pieces 58 w.data.toList).map mkB
def rcolS (w : ByteArray) : ty51.D := ((pcS w).getD 0 (Ty.z .str), (rkA ((pcS w).getD 1 (Ty.z .str)) 3).1, (rkA ((pcS w).getD 1 (Ty.z .str)) 3).2, ())
def badF (ps : List ByteArray) (j : Nat) : Option Unit := if (pcS (ps.getD (j + 2) (Ty.z .str))).length = 2 then none else some ()
def refX (s : ByteArray) : ty24.D := ((psS s).getD 1 (Ty.z .str), ((psS s).drop 2).map rcolS, ())
def refS (s : ByteArray) : ByteArray × Int × List ty51.D := if (psS s).length < 2 then (⟨#[]⟩, 7, []) else if (List.range ((psS s).length - 2)).findSome? (badF (psS s)) = none ∧ lineS (refX s) = s then ((refX s).1, 0, (refX s).2.1) else (⟨#[]⟩, 7, [])
theorem word_size (i : Nat) (h : i < 3) : (wordS ((i + 1 : Nat) : Int)).size ≤ 4 := by
  have := word_len ((i + 1 : Nat) : Int) (by omega) (by omega)
  rw [size_data] at this
  exact this
theorem refRead_F (n : Nat) (s : ByteArray) (hs : s.size ≤ 400) (hn : 1002 < n) (k : ByteArray → Int → List ty51.D → Option R) : verdererref07_Read_F n s k = k (refS s).1 (refS s).2.1 (refS s).2.2 := by
  rw [verdererref07_Read_e]
  unfold verdererref07_Read_Fi
  rw [if_neg (by simp; omega), refSplit_F n s 32 32 rfl (by omega) (by omega)]
  obtain ⟨hp1, hp2, hp3⟩ := psS_len s
  have e0 : (pieces 32 s.data.toList).map mkB = psS s := rfl
  rw [e0]
  unfold refS refX
  generalize psS s = ps at *
  by_cases h2 : ps.length < 2
  · rw [if_pos (by simp; omega), if_pos h2]
  · rw [if_neg (by simp; omega), if_neg h2]
    have h1 : 1 < ps.length := by omega
    rw [if_pos ⟨by omega, by omega⟩, if_pos (show (1 : Int).toNat < ps.length from h1)]
    have eg : ps.getD (1 : Int).toNat (Ty.z .str) = ps.getD 1 (Ty.z .str) := rfl
    rw [eg]
    generalize hnm : ps.getD 1 (Ty.z .str) = nm
    refine (runC_scan (R := R) (step := verdererref07_Read_l8 n) _ (fun _ : Unit => k (⟨#[]⟩ : ByteArray) 7 ([] : List ty51.D)) (if lineS (nm, (ps.drop 2).map rcolS, ()) = s then k nm 0 ((ps.drop 2).map rcolS) else k (⟨#[]⟩ : ByteArray) 7 ([] : List ty51.D)) (badF ps)
      (fun j => (s, ((j + 2 : Nat) : Int), ([] : List ty51.D), (⟨#[]⟩ : ByteArray), ps, nm, ((ps.drop 2).take j).map rcolS, ())) (ps.length - 2) (fun j hj k1 => ?_) (fun k1 => ?_) (by omega)).trans ?_
    · have hj2 : j + 2 < ps.length := by omega
      simp only [verdererref07_Read_l8, verdererref07_Read_s8, lt_nat, hj2, in_nat hj2, decide_true, if_true, Int.toNat_natCast]
      have hg : ps.getD (j + 2) (Ty.z .str) = ps[j + 2] := getD_nat ps (j + 2) hj2 _
      have hsz := hp3 _ (List.getElem_mem hj2)
      rw [refSplit_F n _ 58 58 rfl (by rw [hg]; omega) (by rw [hg]; omega)]
      have e1 : (pieces 58 (ps.getD (j + 2) (Ty.z .str)).data.toList).map mkB = pcS (ps.getD (j + 2) (Ty.z .str)) := rfl
      rw [e1]
      unfold badF
      by_cases hq : (pcS (ps.getD (j + 2) (Ty.z .str))).length = 2
      · have hq' : (((pcS (ps.getD (j + 2) (Ty.z .str))).length : Int) != 2) = false := by rw [hq]; rfl
        rw [if_pos hq, hq', if_neg Bool.false_ne_true]
        have hq0 : (0 : Int).toNat < (pcS (ps.getD (j + 2) (Ty.z .str))).length := by rw [hq]; decide
        have hq1 : (1 : Int).toNat < (pcS (ps.getD (j + 2) (Ty.z .str))).length := by rw [hq]; decide
        rw [if_pos ⟨by omega, by omega⟩, if_pos hq0]
        have hrc : rcolS (ps.getD (j + 2) (Ty.z .str)) = ((pcS (ps.getD (j + 2) (Ty.z .str))).getD 0 (Ty.z .str), (rkA ((pcS (ps.getD (j + 2) (Ty.z .str))).getD 1 (Ty.z .str)) 3).1, (rkA ((pcS (ps.getD (j + 2) (Ty.z .str))).getD 1 (Ty.z .str)) 3).2, ()) := rfl
        have htk : ((ps.drop 2).take j).map rcolS ++ [rcolS (ps.getD (j + 2) (Ty.z .str))] = ((ps.drop 2).take (j + 1)).map rcolS := by
          rw [take_snoc (ps.drop 2) j (by rw [List.length_drop]; omega), List.map_append, List.getElem_drop, hg]
          simp [Nat.add_comm]
        have hln : (((ps.drop 2).take j).map rcolS).length ≤ 402 := by
          rw [List.length_map, List.length_take, List.length_drop]; omega
        rw [← htk, hrc]
        generalize ((ps.drop 2).take j).map rcolS = out at *
        generalize pcS (ps.getD (j + 2) (Ty.z .str)) = pc at *
        have eg0 : pc.getD (0 : Int).toNat (Ty.z .str) = pc.getD 0 (Ty.z .str) := rfl
        rw [eg0]
        have eg1 : pc.getD (1 : Int).toNat (Ty.z .str) = pc.getD 1 (Ty.z .str) := rfl
        generalize hp0 : pc.getD 0 (Ty.z .str) = p0
        refine runC_st (R := R) (step := verdererref07_Read_l15 n) _ _ (fun i => (s, ((j + 2 : Nat) : Int), ((i + 1 : Nat) : Int), ([] : List ty51.D), (⟨#[]⟩ : ByteArray), ps, nm, out, pc, p0, (rkA (pc.getD 1 (Ty.z .str)) i).1, (rkA (pc.getD 1 (Ty.z .str)) i).2, ())) 3 (fun i hi => .inl fun k2 => ?_) (fun k2 => ?_) (show 3 < n by omega)
        · have hc : ((i + 1 : Nat) : Int) ≤ 3 := by omega
          have hin : ((0 : Int) ≤ 1 ∧ (1 : Int) < (pc.length : Int)) := ⟨by omega, by omega⟩
          have hws := word_size i hi
          have e63 : (⟨#[63]⟩ : ByteArray).size = 1 := rfl
          have hov : (wordS ((i + 1 : Nat) : Int)).size + (⟨#[63]⟩ : ByteArray).size ≤ 9223372036854775807 := by omega
          simp only [verdererref07_Read_l15, verdererref07_Read_s15, hc, decide_true, if_true]
          simp only [if_pos hin, if_pos hq1, eg1, beqB, refKind_F n _ (show (1 : Int) ≤ ((i + 1 : Nat) : Int) by omega) hc, wrap_succ (i + 1) (show i + 1 < 9223372036854775807 by omega), if_pos hov, rkA_succ]
          generalize pc.getD 1 (Ty.z .str) = q
          generalize rkA q i = old
          by_cases c1 : q = wordS ((i + 1 : Nat) : Int)
          · rw [if_pos (decide_eq_true c1), if_pos (.inl c1)]
          · rw [if_neg (fun e => c1 (of_decide_eq_true e))]
            by_cases c2 : q = wordS ((i + 1 : Nat) : Int) ++ ⟨#[63]⟩
            · rw [if_pos (decide_eq_true c2), if_pos (.inr c2)]
            · rw [if_neg (fun e => c2 (of_decide_eq_true e)), if_neg (fun e => e.elim c1 c2)]
        · simp only [verdererref07_Read_l15, verdererref07_Read_s15]
          rw [if_neg (by simp)]
          rw [if_pos (by simp only [List.length_cons, List.length_nil]; omega), wrap_succ (j + 2) (by omega)]
      · have hq' : (((pcS (ps.getD (j + 2) (Ty.z .str))).length : Int) != 2) = true := by rw [bne_iff_ne]; omega
        rw [if_neg hq, if_pos hq']
    · have e2 : ((ps.length - 2 + 2 : Nat) : Int) = (ps.length : Int) := by omega
      simp only [verdererref07_Read_l8, verdererref07_Read_s8, e2, Int.lt_irrefl, decide_false, Bool.false_eq_true, if_false]
      have e3 : (ps.drop 2).take (ps.length - 2) = ps.drop 2 := List.take_of_length_le (by rw [List.length_drop]; omega)
      rw [e3, ref_line_F n _ (by omega)]
      simp only [beqB]
      by_cases hl : lineS (nm, (ps.drop 2).map rcolS, ()) = s
      · rw [if_pos hl, if_neg (by simpa using hl)]
      · rw [if_neg hl, if_pos (by simpa using hl)]
    · cases hf : (List.range (ps.length - 2)).findSome? (badF ps) with
      | some y =>
        have hne : ¬ ((some y : Option Unit) = none ∧ lineS (nm, (ps.drop 2).map rcolS, ()) = s) := fun e => by cases e.1
        rw [if_neg hne]
      | none =>
        simp only [true_and]
        by_cases hl : lineS (nm, (ps.drop 2).map rcolS, ()) = s
        · rw [if_pos hl, if_pos hl]
        · rw [if_neg hl, if_neg hl]
end Go.Proofs.YtegknlkeokfghaaDoor.E
namespace Go.Proofs.YtegknlkeokfghaaDoor.E
open Go.RowKit
variable {R : Type}
/-! there and back -/
theorem flat_pieces : ∀ (l : List ty51.D) (a : List UInt8), (32 : UInt8) ∉ a → (∀ c ∈ l, (32 : UInt8) ∉ colL c) → pieces 32 (a ++ l.flatMap fun c => 32 :: colL c) = a :: l.map colL
  | [], a, ha, _ => by rw [List.flatMap_nil, List.append_nil, pieces_one ha]; rfl
  | c :: l, a, ha, hl => by
    rw [List.flatMap_cons, List.cons_append, pieces_app _ ha, flat_pieces l (colL c) (hl c List.mem_cons_self) fun d hd => hl d (List.mem_cons_of_mem _ hd)]
    rfl
def tailL (k : Int) (z : Bool) : List UInt8 := (wordS k).data.toList ++ if z = true then [63] else []
theorem tail_no (k : Int) (z : Bool) (h1 : 1 ≤ k) (h2 : k ≤ 3) (c : UInt8) (hc : c = 32 ∨ c = 58) : c ∉ tailL k z := by
  refine kinds3 (P := fun k => c ∉ tailL k z) ?_ ?_ ?_ k h1 h2 <;> cases z <;> rcases hc with rfl | rfl <;> decide
theorem colL_eq (c : ty51.D) : colL c = c.1.data.toList ++ 58 :: tailL c.2.1 c.2.2.1 := rfl
theorem colL_no {c : ty51.D} (hn : nameS c.1 = true) (h1 : 1 ≤ c.2.1) (h2 : c.2.1 ≤ 3) : (32 : UInt8) ∉ colL c := by
  rw [colL_eq]
  intro h
  rcases List.mem_append.1 h with h | h
  · exact nameS_no hn 32 (.inl rfl) h
  · rcases List.mem_cons.1 h with h | h
    · exact absurd h (by decide)
    · exact tail_no _ _ h1 h2 32 (.inl rfl) h
/-- the ends of columns, both ways -/
theorem suf_tail (k : Int) (z : Bool) (h1 : 1 ≤ k) (h2 : k ≤ 3) : sufS (mkB (tailL k z)) = (wordS k, z) := by
  refine kinds3 (P := fun k => sufS (mkB (tailL k z)) = (wordS k, z)) ?_ ?_ ?_ k h1 h2 <;> cases z <;> kernel_rfl
theorem after_word (k : Int) (h1 : 1 ≤ k) (h2 : k ≤ 3) : kAfter (wordS k) 3 = k := by
  refine kinds3 (P := fun k => kAfter (wordS k) 3 = k) ?_ ?_ ?_ k h1 h2 <;> kernel_rfl
theorem rk_tail (k : Int) (z : Bool) (h1 : 1 ≤ k) (h2 : k ≤ 3) : rkA (mkB (tailL k z)) 3 = (k, z) := by
  refine kinds3 (P := fun k => rkA (mkB (tailL k z)) 3 = (k, z)) ?_ ?_ ?_ k h1 h2 <;> cases z <;> kernel_rfl
theorem mkB_list (l : List UInt8) : (mkB l).data.toList = l := by simp [mkB]
theorem cut_col {c : ty51.D} (hn : nameS c.1 = true) : cutS (mkB (colL c)) = (c.1, mkB (tailL c.2.1 c.2.2.1)) := by
  unfold cutS
  rw [mkB_list, colL_eq, indexByte_at _ (nameS_no hn 58 (.inr (.inl rfl))), if_pos (by omega), Int.toNat_natCast, mkB_size]
  generalize tailL c.2.1 c.2.2.1 = t
  have e1 : (mkB (c.1.data.toList ++ 58 :: t)).extract 0 c.1.data.toList.length = c.1 := by
    rw [← mkB_data ((mkB _).extract _ _), Lib.extract_data, mkB_list]
    rw [List.drop_zero, Nat.sub_zero, List.take_left, mkB_data]
  have e2 : (mkB (c.1.data.toList ++ 58 :: t)).extract (c.1.data.toList.length + 1) (c.1.data.toList ++ 58 :: t).length = mkB t := by
    rw [← mkB_data ((mkB _).extract _ _), Lib.extract_data, mkB_list]
    rw [show c.1.data.toList ++ 58 :: t = (c.1.data.toList ++ [58]) ++ t by simp, show c.1.data.toList.length + 1 = (c.1.data.toList ++ [58]).length by simp, List.drop_left]
    rw [List.take_of_length_le (by simp only [List.length_append]; omega)]
  rw [e1, e2]
theorem colR_col {c : ty51.D} (hn : nameS c.1 = true) (h1 : 1 ≤ c.2.1) (h2 : c.2.1 ≤ 3) : colR (mkB (colL c)) = c := by
  unfold colR
  rw [cut_col hn]
  simp only
  rw [suf_tail _ _ h1 h2]
  simp only
  rw [after_word _ h1 h2]
theorem pc_col {c : ty51.D} (hn : nameS c.1 = true) (h1 : 1 ≤ c.2.1) (h2 : c.2.1 ≤ 3) : pcS (mkB (colL c)) = [c.1, mkB (tailL c.2.1 c.2.2.1)] := by
  unfold pcS
  rw [mkB_list, colL_eq, pieces_app _ (nameS_no hn 58 (.inr (.inl rfl))), pieces_one (tail_no _ _ h1 h2 58 (.inr rfl))]
  simp only [List.map_cons, List.map_nil, mkB_data]
theorem rcol_col {c : ty51.D} (hn : nameS c.1 = true) (h1 : 1 ≤ c.2.1) (h2 : c.2.1 ≤ 3) : rcolS (mkB (colL c)) = c := by
  unfold rcolS
  rw [pc_col hn h1 h2]
  simp only [List.getD_cons_zero, List.getD_cons_succ]
  rw [rk_tail _ _ h1 h2]
section
variable {x : ty24.D} (hc : chkE [x] = 0)
include hc
theorem cols_ok : ∀ c ∈ x.2.1, nameS c.1 = true ∧ 1 ≤ c.2.1 ∧ c.2.1 ≤ 3 := by
  intro c hm
  obtain ⟨i, hi, rfl⟩ := List.mem_iff_getElem.1 hm
  exact (colsE_zero (chkE_zero hc).2).2 i hi
theorem ps_line : psS (lineS x) = (⟨#[107, 105, 110, 100]⟩ : ByteArray) :: x.1 :: x.2.1.map fun c => mkB (colL c) := by
  unfold psS lineS
  rw [if_pos hc, mkB_list]
  unfold lineL headL
  have e : [107, 105, 110, 100, 32] ++ x.1.data.toList ++ x.2.1.flatMap (fun c => 32 :: colL c) = [107, 105, 110, 100] ++ 32 :: (x.1.data.toList ++ x.2.1.flatMap fun c => 32 :: colL c) := by simp
  rw [e, pieces_app _ (by decide), flat_pieces _ _ (nameS_no (chkE_zero hc).1 32 (.inl rfl)) fun c hm => by
    obtain ⟨a, b, d⟩ := cols_ok hc c hm
    exact colL_no a b d]
  simp only [List.map_cons, List.map_map, mkB_data]
  rfl
theorem line_ne : lineS x ≠ ⟨#[]⟩ := by
  intro e
  have := ps_line hc
  rw [e] at this
  have h2 : psS (⟨#[]⟩ : ByteArray) = [⟨#[]⟩] := rfl
  rw [h2] at this
  injection this with _ h3
  cases h3
theorem readX_line : readX (lineS x) = x := by
  unfold readX
  rw [ps_line hc]
  have : ((((⟨#[107, 105, 110, 100]⟩ : ByteArray) :: x.1 :: x.2.1.map fun c => mkB (colL c)).drop 2).map colR) = x.2.1 := by
    rw [List.drop_succ_cons, List.drop_succ_cons, List.drop_zero, List.map_map]
    conv => rhs; rw [← List.map_id x.2.1]
    refine List.map_congr_left fun c hm => ?_
    obtain ⟨a, b, d⟩ := cols_ok hc c hm
    exact colR_col a b d
  rw [this, if_pos (by simp)]
  rfl
theorem refX_line : refX (lineS x) = x := by
  unfold refX
  rw [ps_line hc]
  have : ((((⟨#[107, 105, 110, 100]⟩ : ByteArray) :: x.1 :: x.2.1.map fun c => mkB (colL c)).drop 2).map rcolS) = x.2.1 := by
    rw [List.drop_succ_cons, List.drop_succ_cons, List.drop_zero, List.map_map]
    conv => rhs; rw [← List.map_id x.2.1]
    refine List.map_congr_left fun c hm => ?_
    obtain ⟨a, b, d⟩ := cols_ok hc c hm
    exact rcol_col a b d
  rw [this]
  rfl
theorem good_line : ¬ (psS (lineS x)).length < 2 ∧ (List.range ((psS (lineS x)).length - 2)).findSome? (badF (psS (lineS x))) = none := by
  rw [ps_line hc]
  refine ⟨by simp, ?_⟩
  rw [List.findSome?_eq_none_iff]
  intro j hj
  have hj2 := List.mem_range.1 hj
  simp only [List.length_cons, List.length_map] at hj2
  have hj3 : j < x.2.1.length := by omega
  unfold badF
  rw [List.getD_cons_succ, List.getD_cons_succ, getD_nat _ j (by rw [List.length_map]; exact hj3), List.getElem_map]
  obtain ⟨a, b, d⟩ := cols_ok hc _ (List.getElem_mem hj3)
  rw [pc_col a b d]
  rfl
theorem readS_line : readS (lineS x) = (x.1, 0, x.2.1) := by
  unfold readS
  rw [if_neg (line_ne hc), readX_line hc, if_pos rfl]
theorem refS_line : refS (lineS x) = (x.1, 0, x.2.1) := by
  unfold refS
  obtain ⟨h1, h2⟩ := good_line hc
  rw [if_neg h1, refX_line hc, if_pos ⟨h2, rfl⟩]
end
theorem chk_of_line {x : ty24.D} {s : ByteArray} (h : lineS x = s) (hs : s ≠ ⟨#[]⟩) : chkE [x] = 0 := by
  by_cases hc : chkE [x] = 0
  · exact hc
  · unfold lineS at h
    rw [if_neg hc] at h
    exact absurd h.symm hs
theorem reads_same (s : ByteArray) : readS s = refS s := by
  by_cases h0 : s = ⟨#[]⟩
  · subst h0; rfl
  · by_cases h1 : lineS (readX s) = s
    · have hc := chk_of_line h1 h0
      rw [← h1, readS_line hc, refS_line hc]
    · have e1 : readS s = (⟨#[]⟩, 7, []) := by unfold readS; rw [if_neg h0, if_neg h1]
      rw [e1]
      unfold refS
      split
      · rfl
      · split
        · rename_i h2
          have hc := chk_of_line h2.2 h0
          have := readX_line hc
          rw [h2.2] at this
          rw [this] at h1
          exact absurd h2.2 h1
        · rfl
theorem read_cases (s : ByteArray) : (readS s = (⟨#[]⟩, 7, [])) ∨ ∃ x : ty24.D, chkE [x] = 0 ∧ lineS x = s ∧ readS s = (x.1, 0, x.2.1) := by
  by_cases h0 : s = ⟨#[]⟩
  · left; unfold readS; rw [if_pos h0]
  · by_cases h1 : lineS (readX s) = s
    · right
      have hc := chk_of_line h1 h0
      exact ⟨readX s, hc, h1, by unfold readS; rw [if_neg h0, if_pos h1]⟩
    · left; unfold readS; rw [if_neg h0, if_neg h1]
end Go.Proofs.YtegknlkeokfghaaDoor.E
namespace Go.Proofs.YtegknlkeokfghaaDoor.E
open Go.RowKit
variable {R : Type}
theorem lineS_size (x : ty24.D) : (lineS x).size ≤ 1000 := by
  unfold lineS
  by_cases hc : chkE [x] = 0
  · rw [if_pos hc, mkB_size]
    unfold lineL headL
    have h1 := (nameS_len (chkE_zero hc).1).2
    have h2 := (colsE_zero (chkE_zero hc).2).1
    have h3 := flat_len x.2.1 fun c hm => by
      obtain ⟨a, b, d⟩ := cols_ok hc c hm
      exact colL_len a b d
    have h4 := size_data x.1
    simp only [List.length_append, List.length_cons, List.length_nil]
    omega
  · rw [if_neg hc]
    exact Nat.zero_le _
theorem second_F (n : Nat) (s : ByteArray) (hs : s.size ≤ 400) (hn : 1002 < n) (hl : n < 1000000000) (k : Bool → Option R) (hk : ∀ k2 : Bool → Option R, verdererlaw07_known_F n k2 = k2 true) :
    schema_Read_F n s (fun y10 y11 y12 => verdererref07_Read_F n s (fun y13 y14 y15 => verdererref07_Same_F n (y10, y12, ()) (y13, y15, ()) (fun y16 => if y16 = true then (if (y11 == y14) = true then (if (y11 != 0) = true then (verdererlaw07_known_F n (fun y17 => k y17)) else (schema_Line_F n (y10, y12, ()) (fun y18 => if (y18.toList == s.toList) = true then (verdererlaw07_known_F n (fun y19 => k y19)) else (k false)))) else (k false)) else (k false)))) = k true := by
  rw [read_F n s (by omega) hn, refRead_F n s hs hn, ← reads_same]
  rcases read_cases s with h | ⟨x, hc, hx, h⟩
  · rw [h]
    simp only
    rw [same_refl n _ (show ([] : List ty51.D).length < n by simp; omega) hl]
    rw [if_pos rfl, if_pos (by decide), if_pos (by decide), hk]
  · rw [h]
    simp only
    have h6 := (colsE_zero (chkE_zero hc).2).1
    rw [same_refl n _ (show x.2.1.length < n by omega) hl]
    rw [if_pos rfl, if_pos (by decide), if_neg (by decide), sch_line_F n _ (by omega)]
    have : lineS (x.1, x.2.1, ()) = s := hx
    rw [this, beqB, if_pos (by simp), hk]
theorem lines_F (n : Nat) (x : ty24.D) (s : ByteArray) (hn : 1002 < n) (hl : n < 1000000000) (k : Bool → Option R) (hk : ∀ k2 : Bool → Option R, verdererlaw07_known_F n k2 = k2 true) : verdererlaw07_SchemaLines_F n x s k = k true := by
  rw [verdererlaw07_SchemaLines_e]
  unfold verdererlaw07_SchemaLines_Fi
  obtain ⟨b, hb, hfew⟩ := few_ex (R := R) n [x] (by omega)
  rw [hfew]
  cases b with
  | false => simp [hk]
  | true =>
    rw [if_neg (by decide)]
    by_cases h1 : ((s.size : Nat) : Int) > 400
    · rw [if_pos (by simpa using h1), hk]
    · rw [if_neg (by simpa using h1), sch_line_F n x (by omega), ref_line_F n x (by omega)]
      have hs : s.size ≤ 400 := by omega
      rw [if_neg (by rw [beqB]; simp)]
      have e2 := second_F (R := R) n s hs hn hl k hk
      by_cases h2 : lineS x = ⟨#[]⟩
      · rw [if_neg (by rw [beqB]; simpa using h2)]
        exact e2
      · rw [if_pos (by rw [beqB]; simpa using h2)]
        have hc := chk_of_line rfl h2
        have h6 := (colsE_zero (chkE_zero hc).2).1
        rw [read_F n _ (lineS_size x) hn, readS_line hc]
        simp only
        rw [if_neg (by decide)]
        have e3 : verdererref07_Same_F n x (x.1, x.2.1, ()) = verdererref07_Same_F (R := R) n x x := rfl
        rw [e3, same_refl n x (by omega) hl, if_neg (by decide)]
        exact e2
theorem SchemaLines_true (a0 : ty24.D) (a1 : ByteArray) (w0 : Fine ty24 a0) (w1 : a1.size ≤ 140737488351232) : ∃ n, verdererlaw07_SchemaLines_F (R := Unit) n a0 a1 (fun b => bif b then some () else none) = some () :=
  ⟨1500 + 500, lines_F _ _ _ (by omega) (by omega) _ (fun k => known07 1500 k)⟩
end Go.Proofs.YtegknlkeokfghaaDoor.E
