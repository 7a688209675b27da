/- From the form's reading of an argument (DataW.trod) to the print's kinds (Kd): what an argument's cells say, with the bounds that the reading itself pays. -/
import Derived.Test.YtikikmkfeeljgaaWWords
import Derived.ChangeArms
import Derived.ChangeSame
import Derived.WideLaws
import Derived.KernelRfl
import Derived.Deep.Slices
namespace Go.Proofs.Ytikikmkfeeljgaa
open Go.RowKit Go.Proofs.YtikikmkfeeljgaaW.PrintWords
/-- Whatever reads at type t is of kind d, and good. -/
def Opn (P : Program) (t : TypeId) {α : Type} (d : Kd α) (G : α → Prop) : Prop :=
 ∀ (H : Type) (enc : TypeId × Value → H) (w : World) (sp : Nat → Bool) (fuel : Nat) (cs : List Value) (y : DataW H × List MemPlace),
  DataW.trod enc P w 0 sp true fuel t cs = some y → ∃ x : α, d.K w x cs ∧ G x
theorem Opn.int {P : Program} {t : TypeId} {k : IntKind} (ht : P.underlying t = some (.int k)) : Opn P t (Kd.int k) (fun x => (Lit.int k x).wf = true) := by
 intro H enc w sp fuel cs y h
 obtain ⟨n, rfl, _, hw⟩ := DataW.trod_int ht h
 exact ⟨n, rfl, hw⟩
theorem Opn.bool {P : Program} {t : TypeId} (ht : P.underlying t = some .bool) : Opn P t Kd.bool (fun _ => True) := by
 intro H enc w sp fuel cs y h
 obtain ⟨n, rfl, _⟩ := DataW.trod_bool ht h
 exact ⟨n, rfl, trivial⟩
theorem Opn.string {P : Program} {t : TypeId} (ht : P.underlying t = some .string) : Opn P t Kd.string (fun s => s.size ≤ 9223372036854775807) := by
 intro H enc w sp fuel cs y h
 obtain ⟨s, rfl, _, hs⟩ := DataW.trod_string ht h
 exact ⟨s, rfl, by unfold maxLen at hs; exact hs⟩
theorem mapM_mem {α β : Type} {f : α → Option β} : ∀ {l : List α} {r : List β}, l.mapM f = some r → r.length = l.length ∧ ∀ (i : Nat) (a : α), l[i]? = some a → ∃ b, r[i]? = some b ∧ f a = some b
 | [], r, h => by
  simp only [List.mapM_nil] at h
  injection h with h
  subst h
  exact ⟨rfl, fun i a ha => by simp at ha⟩
 | x :: l, r, h => by
  simp only [List.mapM_cons, Option.bind_eq_bind] at h
  obtain ⟨b, hb, h⟩ := Option.bind_eq_some_iff.1 h
  obtain ⟨bs, hbs, h⟩ := Option.bind_eq_some_iff.1 h
  injection h with h
  subst h
  obtain ⟨hl, hi⟩ := mapM_mem hbs
  refine ⟨by simp [hl], fun i a ha => ?_⟩
  cases i with
  | zero => simp at ha; subst ha; exact ⟨b, rfl, hb⟩
  | succ i => simpa using hi i a (by simpa using ha)
theorem exists_list {α : Type} (Q : Nat → α → Prop) : ∀ n, (∀ i, i < n → ∃ x, Q i x) → ∃ l : List α, l.length = n ∧ ∀ i x, l[i]? = some x → Q i x
 | 0, _ => ⟨[], rfl, fun i x h => by simp at h⟩
 | n + 1, h => by
  obtain ⟨l, hl, hq⟩ := exists_list Q n (fun i hi => h i (by omega))
  obtain ⟨x, hx⟩ := h n (by omega)
  refine ⟨l ++ [x], by simp [hl], fun i y hy => ?_⟩
  rcases Nat.lt_or_ge i l.length with hi | hi
  · rw [List.getElem?_append_left hi] at hy; exact hq i y hy
  ·
   rw [List.getElem?_append_right hi] at hy
   have : i - l.length = 0 := by
    rcases Nat.eq_zero_or_pos (i - l.length) with h0 | h0
    · exact h0
    · rw [List.getElem?_eq_none (by simp; omega)] at hy; cases hy
   rw [this] at hy
   simp at hy
   subst hy
   have : i = n := by omega
   rw [this]; exact hx
theorem cells_at {w : World} {base : Nat} {a : Addr} {n : Nat} {cs : List Value} (h : w.cells? base a n = some cs) : cs.length = n ∧ ∀ i u, cs[i]? = some u → w.cell? (a.add i) = some u := by
 unfold World.cells? at h
 split at h
 ·
  obtain ⟨hl, hi⟩ := mapM_mem h
  simp only [List.length_range] at hl
  refine ⟨hl, fun i u hu => ?_⟩
  have hlt : i < n := by rw [← hl]; exact (List.getElem?_eq_some_iff.1 hu).1
  obtain ⟨b, hb, hc⟩ := hi i i (by rw [List.getElem?_range hlt])
  rw [hu] at hb
  injection hb with hb
  subst hb
  exact hc
 · cases h
theorem Opn.slice {P : Program} {t e : TypeId} {α : Type} {d : Kd α} {G : α → Prop} (ht : P.underlying t = some (.slice e)) (hs : P.cellsOf e = d.sz) (h : Opn P e d G) :
  Opn P t (Kd.slice e d) (fun l => l.length ≤ 9223372036854775807 ∧ ∀ x ∈ l, G x) := by
 intro H enc w sp fuel cs y hy
 rcases DataW.trod_slice ht hy with ⟨rfl, _⟩ | ⟨a, len, cap, elems, rest, n, _, rfl, _, _, hlc, hcm, hel, hi, _⟩
 · exact ⟨[], ⟨none, 0, rfl, Nat.le_refl _, rfl, by simp, fun h0 => absurd h0 (by simp)⟩, by simp, fun x hx => by simp at hx⟩
 ·
  obtain ⟨l, hl, hq⟩ := exists_list (fun i (x : α) => (∃ c, c.length = d.sz ∧ d.K w x c ∧ ∀ j u, c[j]? = some u → w.cell? (a.add (i * d.sz + j)) = some u) ∧ G x) len (fun i hlt => by
   have hb := hi i hlt
   obtain ⟨z, hz⟩ : ∃ z, elems[i]? = some z := ⟨elems[i]'(by omega), List.getElem?_eq_getElem _⟩
   rw [hz] at hb
   obtain ⟨c, hc, hz'⟩ := Option.bind_eq_some_iff.1 hb
   obtain ⟨x, hK, hG⟩ := h H enc w sp n c z hz'
   obtain ⟨hcl, hcell⟩ := cells_at hc
   refine ⟨x, ⟨c, by rw [hcl, hs], hK, fun j u hu => ?_⟩, hG⟩
   have := hcell j u hu
   rw [hs] at this
   rw [← this, Go.Proofs.YtikikmkfeeljgaaW.PrintWords.add_add])
  refine ⟨l, ⟨some a, cap, by rw [hl], by omega, rfl, by rw [hl]; unfold maxLen at hcm; omega, fun _ => ⟨a, rfl, fun j p hj => (hq j p hj).1⟩⟩, by unfold maxLen at hcm; omega, fun x hx => ?_⟩
  obtain ⟨j, hj⟩ := List.getElem?_of_mem hx
  exact (hq j x hj).2
/-- the fields of a struct, from a place in its cells on -/
def OpnF (P : Program) (fs : List Field) (off : Nat) {α : Type} (d : Kd α) (G : α → Prop) : Prop :=
 ∀ (H : Type) (enc : TypeId × Value → H) (w : World) (sp : Nat → Bool) (n : Nat) (cs : List Value),
  (∀ f ∈ fs, ∃ y, DataW.trod enc P w 0 sp true n f.type ((cs.drop f.offset).take (P.cellsOf f.type)) = some y) → ∃ x : α, d.K w x ((cs.drop off).take d.sz) ∧ G x
theorem OpnF.last {P : Program} {f : Field} {off : Nat} {α : Type} {d : Kd α} {G : α → Prop} (h : Opn P f.type d G) (ho : f.offset = off) (hs : P.cellsOf f.type = d.sz) : OpnF P [f] off d G := by
 intro H enc w sp n cs hf
 obtain ⟨y, hy⟩ := hf f List.mem_cons_self
 rw [ho, hs] at hy
 exact h H enc w sp n _ y hy
theorem OpnF.cons {P : Program} {f : Field} {fs : List Field} {off : Nat} {α β : Type} {a : Kd α} {b : Kd β} {G : α → Prop} {K : β → Prop} (h : Opn P f.type a G) (ho : f.offset = off) (hs : P.cellsOf f.type = a.sz)
  (h2 : OpnF P fs (off + a.sz) b K) : OpnF P (f :: fs) off (Kd.pair a b) (fun x => G x.1 ∧ K x.2) := by
 intro H enc w sp n cs hf
 obtain ⟨y, hy⟩ := hf f List.mem_cons_self
 rw [ho, hs] at hy
 obtain ⟨x1, k1, g1⟩ := h H enc w sp n _ y hy
 obtain ⟨x2, k2, g2⟩ := h2 H enc w sp n cs (fun f' hf' => hf f' (List.mem_cons_of_mem _ hf'))
 refine ⟨(x1, x2), ⟨_, _, ?_, k1, k2⟩, g1, g2⟩
 show (cs.drop off).take (a.sz + b.sz) = _
 rw [List.take_add, List.drop_drop]
theorem Opn.struct {P : Program} {t : TypeId} {fs : Array Field} {α : Type} {d : Kd α} {G : α → Prop} (ht : P.underlying t = some (.struct fs)) (hs : P.cellsOf t = d.sz) (h : OpnF P fs.toList 0 d G) : Opn P t d G := by
 intro H enc w sp fuel cs y hy
 obtain ⟨xs, n, _, _, hl, hx, hi⟩ := DataW.trod_struct ht hy
 obtain ⟨x, hk, hg⟩ := h H enc w sp n cs (fun f hf => by
  obtain ⟨i, hf⟩ := List.getElem?_of_mem hf
  have hlt : i < fs.size := by have := (List.getElem?_eq_some_iff.1 hf).1; simpa using this
  have := hi i f (by simpa using hf)
  rw [List.getElem?_eq_getElem (by omega)] at this
  exact ⟨_, this⟩)
 refine ⟨x, ?_, hg⟩
 rw [List.drop_zero, List.take_of_length_le (by omega)] at hk
 exact hk
theorem Opn.iso {P : Program} {t : TypeId} {α β : Type} {d : Kd α} {f : β → α} {G : α → Prop} (g : α → β) (hg : ∀ x, f (g x) = x) (h : Opn P t d G) : Opn P t (Kd.iso d f) (fun y => G (f y)) := by
 intro H enc w sp fuel cs y hy
 obtain ⟨x, hk, hx⟩ := h H enc w sp fuel cs y hy
 exact ⟨g x, by show d.K w (f (g x)) cs; rw [hg]; exact hk, by show G (f (g x)); rw [hg]; exact hx⟩
end Go.Proofs.Ytikikmkfeeljgaa
