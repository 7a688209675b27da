/- For the law PrintBack. -/
import Derived.RangeFuncNested
import Derived.Maps.OwnIn
import Derived.Test.YtnnbinmomendnaaGreatDoorMPrintBack4
import Derived.Test.YtnnbinmomendnaaGreatDoorMPrintBack3
import Derived.Test.YtnnbinmomendnaaGreatDoorProg
import Derived.KernelRfl
set_option linter.unusedVariables false
set_option linter.unusedSimpArgs false
set_option linter.unusedSectionVars false
namespace Go.Proofs.YtnnbinmomendnaaGreatDoor
open Go.RowKit Go.Shelf
attribute [local go_sem] Oper.semAt_some
section
variable {sk : ByteArray → Nat → Nat} {one : ByteArray → Option Tok}
theorem tokens_in (n : Nat) (s : ByteArray) (w : World) :
    CallsIn Fence.wide n Tryz.prog 35 #[.string s] w fun e w' => e = .returned (.func (.func 55) #[] #[.pointer (some ⟨w.heap.size, 0, none⟩)]) ∧ w' = w.alloc (.cells #[.string s] 9) := by
  refine callsIn_of_wp Tryz.func35 rfl trivial ?_ rfl
  simp only [Tryz.ntmps35, List.size_toArray, List.length_cons, List.length_nil, Nat.reduceAdd, Nat.reduceSub, Array.replicate_succ, Array.replicate_zero, List.push_toArray, List.append_toArray, List.nil_append, List.cons_append]
  gi_wp2
  go_ret
  exact ⟨rfl, rfl⟩
theorem it_stops (C : Calls2 sk one) (n : Nat) (hn : 1 ≤ n) (Bs b5 m : Nat) (hBs : Bs < m) (hne : Bs ≠ b5) (h5 : b5 < m) (hlay : ∀ g ∈ E.layG, g < m ∧ g ≠ b5) (s : ByteArray) (hs : s.size ≤ 300) (w : World) (hok : OKW b5 m w) (hm : m ≤ w.heap.size) (hc : E.LayC w)
    (hbox : w.heap[Bs]? = some (.cells #[.string s] 9 (0, 0))) :
    SeqStopsK Fence.wide n Tryz.prog 55 #[.pointer (some ⟨Bs, 0, none⟩)] encX (Kp b5 m) (Whole sk one s) (Part sk one s) 301 w := fun l J Jx W hW hJ _ hY h0 =>
  it_in C n hn l Bs b5 m hBs hne h5 hlay s hs J Jx hY W (hok.grow (hW.block b5 (by omega)) hW.size) (Nat.le_trans hm hW.size) (E.LayC.same (fun g hg => hW.block g (Nat.lt_of_lt_of_le (hlay g hg).1 hm)) hc) ((hW.block Bs (by omega)).trans hbox) hJ h0
def rowC (xs : List (Tok × Bool)) : List Value := xs.flatMap fun x => (tokC x.1).toList
def AllOk (xs : List (Tok × Bool)) : Prop := ∀ x ∈ xs, x.2 = true
structure At (w : World) (xs : List (Tok × Bool)) (W : World) : Prop where
  ok : AllOk xs
  b2 : Boxed W w.heap.size 35 (.slice none 0 0)
  b3 : Boxed W (w.heap.size + 1) 3 (.int .i64 0)
  b4 : Boxed W (w.heap.size + 1 + 1) 26 (.int .i64 0)
  b5 : ∃ v, Boxed W (w.heap.size + 1 + 1 + 1) 35 v ∧ W.ownsRow (w.heap.size + 5) 78 7 v xs.length (rowC xs)
  below : Below w.heap.size w W
  sz : w.heap.size + 5 ≤ W.heap.size
theorem infoTok : (Tryz.prog.info? 78).map (fun i => (i.zero, i.size, i.bytes)) = some (some (.agg (tokC (0, ⟨#[]⟩, (0, false, 0, ⟨#[]⟩, ()), 0, ()))), 7, 72) := by kernel_rfl
theorem cells_new (w : World) (cs : Array Value) (t : TypeId) : ∀ j u, cs.toList[j]? = some u → (w.alloc (.cells cs t)).cell? ((⟨w.heap.size, 0, none⟩ : Addr).add j) = some u := by
  intro j u hj
  have e := World.alloc_heap_new w (.cells cs t)
  rw [Addr.add_mid]
  simp only [World.cell?, e]
  simpa using hj
theorem ownsRow_alloc' {W : World} {base : Nat} {e : TypeId} {size : Nat} {v : Value} {k : Nat} {xs : List Value} (h : W.ownsRow base e size v k xs) (o : Obj) : (W.alloc o).ownsRow base e size v k xs := h.alloc o
theorem ownsRow_base {W : World} {base base' : Nat} {e : TypeId} {size : Nat} {v : Value} {k : Nat} {xs : List Value} (h : W.ownsRow base e size v k xs) (hb : base' ≤ base) : W.ownsRow base' e size v k xs := by
  refine ⟨h.1, ?_⟩
  rcases h.2 with h0 | ⟨g, cap, cur, e1, hg, r⟩
  · exact .inl h0
  · exact .inr ⟨g, cap, cur, e1, by omega, r⟩
theorem boxed_from {β : Type} (B : Nat) (t : TypeId) (v : Value) {D : Nat} : OwnFrom D (fun (_ : β) W => Boxed W B t v) := Own.from (boxed_own B t fun _ => v) D
theorem At.own {w : World} {D : Nat} (hD : w.heap.size ≤ D) : OwnFrom D (fun pre W => At w pre W) := fun xs X Y row h hg hr => by
  obtain ⟨v, h5, h6⟩ := h.b5
  obtain ⟨v', h5', h6', _⟩ := (Own.from (holdsRow_own (w.heap.size + 5) (w.heap.size + 1 + 1 + 1) 35 78 7 (fun xs : List (Tok × Bool) => xs.length) rowC (fun _ _ => True)) D) xs X Y row ⟨v, h5, h6, trivial⟩ hg hr
  exact ⟨h.ok, boxed_from (β := Unit) _ _ _ () X Y row h.b2 hg hr, boxed_from (β := Unit) _ _ _ () X Y row h.b3 hg hr, boxed_from (β := Unit) _ _ _ () X Y row h.b4 hg hr, ⟨v', h5', h6'⟩, ownFrom_below (β := Unit) (Nat.le_refl _) hD () X Y row h.below hg hr, Nat.le_trans h.sz hg.size⟩
theorem At.alloc {w W : World} {pre : List (Tok × Bool)} (h : At w pre W) (o : Obj) : At w pre (W.alloc o) := At.own (Nat.le_refl _) pre W _ none h (World.grownBy_alloc W o none) (fun r e => by cases e)
theorem Kp.alloc {b5 m : Nat} {W : World} (h5 : b5 < W.heap.size) (hm : m ≤ W.heap.size) (o : Obj) : Kp b5 m W (W.alloc o) := by
  have e5 : (W.alloc o).heap[b5]? = W.heap[b5]? := Below.heap_alloc _ _ _ h5
  have hs : (W.alloc o).heap.size = W.heap.size + 1 := by simp
  refine ⟨fun ok => ok.grow e5 (by omega), by omega, fun k h1 _ => Below.heap_alloc _ _ _ (by omega), fun k o1 h1 _ _ _ => (Below.heap_alloc _ _ _ (Array.getElem?_eq_some_iff.1 h1).1).trans h1, fun r hr => .inl (by rw [rowOf_same e5] at hr; exact hr)⟩
theorem Stop.own {w : World} {D : Nat} (hD : w.heap.size ≤ D) (c : Code) : OwnFrom D (fun (pre : List (Tok × Bool)) W => c = .ret ∧ Below w.heap.size w W ∧ ∃ p z, pre = p ++ [(z, false)] ∧ AllOk p ∧ Boxed W w.heap.size 35 (.slice none 0 0) ∧ Boxed W (w.heap.size + 1) 3 (.int .i64 z.2.2.2.1) ∧ Boxed W (w.heap.size + 1 + 1) 26 (.int .i64 7)) := fun xs X Y row h hg hr => by
  obtain ⟨e, hB, p, z, h1, h2, h3, h4, h5⟩ := h
  exact ⟨e, ownFrom_below (β := Unit) (Nat.le_refl _) hD () X Y row hB hg hr, p, z, h1, h2, boxed_from (β := Unit) _ _ _ () X Y row h3 hg hr, boxed_from (β := Unit) _ _ _ () X Y row h4 hg hr, boxed_from (β := Unit) _ _ _ () X Y row h5 hg hr⟩
theorem body_ok {w W w3 : World} {pre : List (Tok × Bool)} {v : Value} {g' cap' D : Nat} {o : Obj} {tok : Tok} {Ix : Code → List (Tok × Bool) → World → Prop} {a' : Act} (hA : At w pre W) (h5 : Boxed W (w.heap.size + 1 + 1 + 1) 35 v) (h6 : W.ownsRow (w.heap.size + 5) 78 7 v pre.length (rowC pre))
    (hown : w3.ownsRow (w.heap.size + 5) 78 7 (.slice (some ⟨g', 0, none⟩) (pre.length + 1) cap') (pre.length + 1) (rowC pre ++ (tokC tok).toList)) (hg : (W.alloc o).grownBy w3 v.ownBlock)
    (hat : (Value.slice (some ⟨g', 0, none⟩) (pre.length + 1) cap').ownBlock = v.ownBlock ∨ (Value.slice (some ⟨g', 0, none⟩) (pre.length + 1) cap').ownBlock = some (W.alloc o).heap.size) :
    ownPostG D (Kp (w.heap.size + 1 + 1 + 1) (w.heap.size + 5)) (fun pre W => At w pre W) Ix (pre ++ [(tok, true)]) W Exit.normal a' (w3.setCell ⟨w.heap.size + 1 + 1 + 1, 0, none⟩ (.slice (some ⟨g', 0, none⟩) (pre.length + 1) cap')) := by
  have hsz := hA.sz
  have h6' := ownsRow_alloc' h6 o
  have hs3 := hg.size
  have hsa : (W.alloc o).heap.size = W.heap.size + 1 := by simp
  obtain ⟨w4, hw4⟩ : ∃ w4, w3.setCell ⟨w.heap.size + 1 + 1 + 1, 0, none⟩ (.slice (some ⟨g', 0, none⟩) (pre.length + 1) cap') = w4 := ⟨_, rfl⟩
  have hg4 : w3.grownBy w4 (some (w.heap.size + 1 + 1 + 1)) := by rw [← hw4]; exact grownBy_setCell' _ _ _
  have hs4 := hg4.size
  have b53 : Boxed w3 (w.heap.size + 1 + 1 + 1) 35 v := (h5.alloc _).kept hg ((h5.alloc _).not_row (by decide) h6')
  have b54 : Boxed w4 (w.heap.size + 1 + 1 + 1) 35 (.slice (some ⟨g', 0, none⟩) (pre.length + 1) cap') := by rw [← hw4]; exact b53.set _
  have same : ∀ k, k < W.heap.size → k ≠ w.heap.size + 1 + 1 + 1 → v.ownBlock ≠ some k → w4.heap[k]? = W.heap[k]? := fun k h1 h2 h3 =>
    (hg4.block k (by omega) (fun e => h2 (by cases e; rfl))).trans ((hg.block k (by omega) (fun e => h3 e.symm)).trans (Below.heap_alloc _ _ k h1))
  have hown4 : w4.ownsRow (w.heap.size + 5) 78 7 (.slice (some ⟨g', 0, none⟩) (pre.length + 1) cap') (pre.length + 1) (rowC pre ++ (tokC tok).toList) := hown.kept hg4 (by
    have := b53.not_row (by decide) hown
    exact .inr fun e => this e.symm)
  have hrow : rowOf (w.heap.size + 1 + 1 + 1) W = v.ownBlock := by unfold rowOf; rw [h5.cell]; rfl
  have hrow4 : rowOf (w.heap.size + 1 + 1 + 1) w4 = some g' := by unfold rowOf; rw [b54.cell]; rfl
  have hlt4 := hown4.lt g' rfl
  rw [hw4]
  refine ⟨(((KeepsOthers.alloc _ _).trans (KeepsOthers.of_grownBy hg ?_)).trans (by rw [← hw4]; exact KeepsOthers.setCell _ _ _)).from _, ⟨fun _ r hr => ?_, by omega, fun k h1 h2 => same k (by omega) h2 (fun e => ?_), fun k o h1 _ h3 h4 => (same k (Array.getElem?_eq_some_iff.1 h1).1 h3 (by rw [← hrow]; exact h4)).trans h1, fun r hr => ?_⟩, ?_⟩
  · intro j o' hj ho
    rcases h6'.2 with ⟨rfl, _⟩ | ⟨g, cap, cur, rfl, _, hgb, _⟩
    · simp [Value.ownBlock] at hj
    · have : g = j := by simpa [Value.ownBlock] using hj
      subst this
      rw [hgb] at ho
      cases ho
      rfl
  · rw [hrow4] at hr
    cases hr
    exact hlt4
  · have := (h6.lt k e).1
    omega
  · rw [hrow4] at hr
    cases hr
    rcases hat with e | e
    · exact .inl (by rw [hrow, ← e]; rfl)
    · have : g' = (W.alloc o).heap.size := by simpa [Value.ownBlock] using e
      exact .inr (by omega)
  · have keepB : ∀ {b : Nat} {t : TypeId} {u : Value}, Boxed W b t u → t ≠ 78 → b ≠ w.heap.size + 1 + 1 + 1 → Boxed w4 b t u := fun hb ht hne =>
      (same _ hb.lt hne (fun e => (hb.not_row ht h6) e.symm)).trans hb
    refine ⟨fun x hx => ?_, keepB hA.b2 (by decide) (by omega), keepB hA.b3 (by decide) (by omega), keepB hA.b4 (by decide) (by omega), ⟨_, b54, ?_⟩, ?_, by omega⟩
    · rcases List.mem_append.1 hx with hx | hx
      · exact hA.ok x hx
      · simp at hx
        rw [hx]
    · rw [List.length_append, List.length_singleton, show rowC (pre ++ [(tok, true)]) = rowC pre ++ (tokC tok).toList from by simp [rowC]]
      exact hown4
    · exact ((hA.below.alloc (by omega) _).grown hg (by omega) (fun k e => by have := (h6.lt k e).1; omega)).grown hg4 (by omega) (fun k e => by cases e; omega)
set_option maxRecDepth 100000 in
set_option maxHeartbeats 2000000 in
theorem read_in (C : Calls2 sk one) (s : ByteArray) (hs : s.size ≤ 300) (w : World) (hc : E.LayC w) (hl : ∀ g ∈ E.layG, g < w.heap.size) :
    CallsIn Fence.wide 5 Tryz.prog 13 #[.string s] w fun e w' => Below w.heap.size w w' ∧ ∃ v : Value, ∃ xs : List (Tok × Bool), AllOk xs ∧
      ((Pre sk one s s.size xs ∧ e = .returned (.tuple #[v, .int .i64 0, .int .i64 0]) ∧ w'.ownsRow w.heap.size 78 7 v (xs.length + 1) (rowC xs ++ (tokC (4, ⟨#[]⟩, (0, false, 0, ⟨#[]⟩, ()), (s.size : Int), ())).toList)) ∨
       (∃ i, Pre sk one s i xs ∧ i < s.size ∧ one (s.extract i s.size) = none ∧ e = .returned (.tuple #[.slice none 0 0, .int .i64 i, .int .i64 7]))) := by
  have t22 := Tryz.underlying35
  have t36 := Tryz.underlying78
  refine callsIn_of_wp_marks Tryz.func13 rfl trivial ?_ rfl
  simp only [Tryz.ntmps13, List.size_toArray, List.length_cons, List.length_nil, Nat.reduceAdd, Nat.reduceSub, Array.replicate_succ, Array.replicate_zero, List.push_toArray, List.append_toArray, List.nil_append, List.cons_append]
  have hd : ¬ (300 : Int) < s.size := by omega
  gi_wp2
  refine ⟨trivial, (tokens_in 4 s _).mono ?_⟩
  rintro e w' ⟨rfl, rfl⟩
  gi_wp2
  obtain ⟨W0, hW0⟩ : ∃ W0, (((((w.alloc (.cells #[.slice none 0 0] 35)).alloc (.cells #[.int .i64 0] 3)).alloc (.cells #[.int .i64 0] 26)).alloc (.cells #[.slice none 0 0] 35)).alloc (.cells #[.string s] 9)) = W0 := ⟨_, rfl⟩
  have hs0 : W0.heap.size = w.heap.size + 5 := by rw [← hW0]; simp
  have hB0 : Below w.heap.size w W0 := by
    rw [← hW0]
    exact (((((Below.refl _ w).alloc (Nat.le_refl _) _).alloc (by simp) _).alloc (by simp; omega) _).alloc (by simp; omega) _).alloc (by simp; omega) _
  have c2 : Boxed W0 w.heap.size 35 (.slice none 0 0) := by rw [← hW0]; exact ((((Boxed.new w _ _).alloc _).alloc _).alloc _).alloc _
  have c3 : Boxed W0 (w.heap.size + 1) 3 (.int .i64 0) := by
    rw [← hW0]
    have := Boxed.new (w.alloc (.cells #[.slice none 0 0] 35)) 3 (.int .i64 0)
    rw [World.size_alloc] at this
    exact ((this.alloc _).alloc _).alloc _
  have c4 : Boxed W0 (w.heap.size + 1 + 1) 26 (.int .i64 0) := by
    rw [← hW0]
    have := Boxed.new ((w.alloc (.cells #[.slice none 0 0] 35)).alloc (.cells #[.int .i64 0] 3)) 26 (.int .i64 0)
    rw [World.size_alloc, World.size_alloc] at this
    exact (this.alloc _).alloc _
  have c5 : Boxed W0 (w.heap.size + 1 + 1 + 1) 35 (.slice none 0 0) := by
    rw [← hW0]
    have := Boxed.new (((w.alloc (.cells #[.slice none 0 0] 35)).alloc (.cells #[.int .i64 0] 3)).alloc (.cells #[.int .i64 0] 26)) 35 (.slice none 0 0)
    rw [World.size_alloc, World.size_alloc, World.size_alloc] at this
    exact this.alloc _
  have c6 : W0.heap[w.heap.size + 1 + 1 + 1 + 1]? = some (.cells #[.string s] 9 (0, 0)) := by
    rw [← hW0]
    have := Boxed.new ((((w.alloc (.cells #[.slice none 0 0] 35)).alloc (.cells #[.int .i64 0] 3)).alloc (.cells #[.int .i64 0] 26)).alloc (.cells #[.slice none 0 0] 35)) 9 (.string s)
    rw [World.size_alloc, World.size_alloc, World.size_alloc, World.size_alloc] at this
    exact this
  have hrow0 : rowOf (w.heap.size + 1 + 1 + 1) W0 = none := by unfold rowOf; rw [c5.cell]; rfl
  have hok0 : OKW (w.heap.size + 1 + 1 + 1) (w.heap.size + 5) W0 := fun r hr => by rw [hrow0] at hr; cases hr
  have hc0 : E.LayC W0 := E.LayC.same (fun g hg => hB0.block g (hl g hg)) hc
  have hlay : ∀ g ∈ E.layG, g < w.heap.size + 5 ∧ g ≠ w.heap.size + 1 + 1 + 1 := fun g hg => by have := hl g hg; omega
  rw [hW0]
  clear hW0
  refine wpIn_rangeFunc_ownH rfl (by omega) (gf := 55) (lb := #[.pointer (some ⟨w.heap.size + 1 + 1 + 1 + 1, 0, none⟩)]) rfl trivial (enters_of Tryz.func55 (by kernel_rfl) rfl)
    (it_stops C 4 (by omega) (w.heap.size + 1 + 1 + 1 + 1) (w.heap.size + 1 + 1 + 1) (w.heap.size + 5) (by omega) (by omega) (by omega) hlay s hs W0 hok0 (by omega) hc0 c6)
    Kp.trans (Kp.book (by omega) (by omega)) (Below.refl _ _) (fun _ => rfl)
    (fun pre W => At w pre W)
    (fun c pre W => c = .ret ∧ Below w.heap.size w W ∧ ∃ p z, pre = p ++ [(z, false)] ∧ AllOk p ∧ Boxed W w.heap.size 35 (.slice none 0 0) ∧ Boxed W (w.heap.size + 1) 3 (.int .i64 z.2.2.2.1) ∧ Boxed W (w.heap.size + 1 + 1) 26 (.int .i64 7))
    (At.own (by omega)) (Stop.own (by omega))
    ⟨(fun x hx => by cases hx), c2, c3, c4, ⟨_, c5, ⟨rfl, .inl ⟨rfl, rfl⟩⟩⟩, hB0, by omega⟩
    (fun x a' W => ∃ k v, w.heap.size + 5 ≤ k ∧ (Boxed W (w.heap.size + 1 + 1 + 1) 35 v ∧ v.ownBlock ≠ some k) ∧ W.heap[k]? = some (.cells (tokC x.1) 78 (0, 0)) ∧ a' = { tmps := #[.string s, undef, .pointer (some ⟨w.heap.size, 0, none⟩), .pointer (some ⟨w.heap.size + 1, 0, none⟩), .pointer (some ⟨w.heap.size + 1 + 1, 0, none⟩), .pointer (some ⟨w.heap.size + 1 + 1 + 1, 0, none⟩), .pointer (some ⟨k, 0, none⟩), .bool x.2, .string s, .int .i64 s.size, .bool false, .string s, .func (.func 55) #[] #[.pointer (some ⟨w.heap.size + 1 + 1 + 1 + 1, 0, none⟩)], .agg (tokC x.1), .bool x.2, undef, undef, undef, undef, undef, undef, undef, undef, undef, undef, undef, undef, undef, undef], defers := [] })
    (fun x a' _ X Y row hs hg hr => by
      obtain ⟨k, v, h1, ⟨h2, h2'⟩, h3, h4⟩ := hs
      refine ⟨k, v, h1, ⟨boxed_from (β := Unit) _ _ _ () X Y row h2 hg hr, h2'⟩, (hg.block k (Array.getElem?_eq_some_iff.1 h3).1 (fun e => ?_)).trans h3, h4⟩
      obtain ⟨_, o, ho, hno⟩ := hr k e.symm
      rw [h3] at ho
      cases ho
      cases hno)
    ?assign ?body ?done ?stop
  case assign =>
    rintro l pre ⟨⟨a1, a2, ⟨a3, a4, a5, a6, ⟨⟩⟩, a7, ⟨⟩⟩, ok⟩ W K hA hK
    simp only [encX, tokC]
    gi_wp2
    obtain ⟨v, h5, h6⟩ := hA.b5
    have hsz := hA.sz
    refine hK _ _ ((KeepsOthers.alloc _ _).from _) (Kp.alloc (by omega) hsz _) (hA.alloc _) ⟨W.heap.size, v, hsz, ⟨h5.alloc _, fun e => ?_⟩, World.alloc_heap_new W _, rfl⟩
    have := (h6.lt _ e).2
    omega
  case body =>
    rintro l pre ⟨⟨a1, a2, ⟨a3, a4, a5, a6, ⟨⟩⟩, a7, ⟨⟩⟩, ok⟩ a' W hl ⟨r, hr⟩ hA ⟨k, v, hk1, ⟨hk2, hk2'⟩, hk3, rfl⟩ hlt
    obtain ⟨v', h5, h6⟩ := hA.b5
    obtain rfl : v = v' := by
      have := (show W.heap[_]? = _ from h5).symm.trans hk2
      simp at this
      exact this.symm
    have d2 := hA.b2; have d3 := hA.b3; have d4 := hA.b4
    have f2 := d2.frozen; have f3 := d3.frozen; have f4 := d4.frozen; have f5 := h5.frozen; have e5 := h5.cell
    simp only [tokC] at hk3
    have k6 : W.cell? ⟨k, 6, none⟩ = some (.int .i64 a7) := by simp [World.cell?, hk3]
    simp only [tokC]
    cases ok with
    | false =>
      gi_wp2
      have e2 := d2.cell; have e3 := d3.cell; have e4 := d4.cell
      have n2 : k ≠ w.heap.size := by omega
      have n2' : w.heap.size ≠ k := by omega
      gi_region
      all_goals
        gi_wp2
        refine ⟨((((KeepsOthers.setCell _ _ _).trans (KeepsOthers.setCell _ _ _)).trans (KeepsOthers.setCell _ _ _)).trans (KeepsOthers.drew _)).from _, rfl, ?_, pre, (a1, a2, (a3, a4, a5, a6, ()), a7, ()), rfl, hA.ok, ?_, ?_, ?_⟩
        · exact (((hA.below.setCell (p := ⟨w.heap.size, 0, none⟩) (by simp) _).setCell (p := ⟨w.heap.size + 1, 0, none⟩) (by simp) _).setCell (p := ⟨w.heap.size + 1 + 1, 0, none⟩) (by simp; omega) _).drew
        · show Boxed (((W.setCell ⟨w.heap.size, 0, none⟩ (.slice none 0 0)).setCell ⟨w.heap.size + 1, 0, none⟩ (.int .i64 a7)).setCell ⟨w.heap.size + 1 + 1, 0, none⟩ (.int .i64 7)) _ _ _
          exact ((d2.set _).other (by omega) _).other (by omega) _
        · show Boxed (((W.setCell ⟨w.heap.size, 0, none⟩ (.slice none 0 0)).setCell ⟨w.heap.size + 1, 0, none⟩ (.int .i64 a7)).setCell ⟨w.heap.size + 1 + 1, 0, none⟩ (.int .i64 7)) _ _ _
          exact ((d3.other (by omega) _).set _).other (by omega) _
        · show Boxed (((W.setCell ⟨w.heap.size, 0, none⟩ (.slice none 0 0)).setCell ⟨w.heap.size + 1, 0, none⟩ (.int .i64 a7)).setCell ⟨w.heap.size + 1 + 1, 0, none⟩ (.int .i64 7)) _ _ _
          exact ((d4.other (by omega) _).other (by omega) _).set _
    | true =>
      obtain ⟨i0, hi, hz0, hz1, hz2⟩ := info_parts infoTok
      have q0 : W.cell? ⟨k, 0, none⟩ = some (.int .i64 a1) := by simp [World.cell?, hk3]
      have q1 : W.cell? ⟨k, 1, none⟩ = some (.string a2) := by simp [World.cell?, hk3]
      have q2 : W.cell? ⟨k, 2, none⟩ = some (.int .i64 a3) := by simp [World.cell?, hk3]
      have q3 : W.cell? ⟨k, 3, none⟩ = some (.bool a4) := by simp [World.cell?, hk3]
      have q4 : W.cell? ⟨k, 4, none⟩ = some (.int .i64 a5) := by simp [World.cell?, hk3]
      have q5 : W.cell? ⟨k, 5, none⟩ = some (.string a6) := by simp [World.cell?, hk3]
      have hsz := hA.sz
      gi_wp2_with (first
        | (gi_at_builtin
           refine wpListIn_append_own_at _ rfl _ _ 35 rfl (w.heap.size + 5) 78 i0 (.agg (tokC (0, ⟨#[]⟩, (0, false, 0, ⟨#[]⟩, ()), 0, ()))) 7 72 t22 hi hz0 hz1 hz2 rfl (by decide) _ _ _ rfl (ownsRow_alloc' h6 _) ⟨W.heap.size, 0, none⟩ 1 1 [.int .i64 a1, .string a2, .int .i64 a3, .bool a4, .int .i64 a5, .string a6, .int .i64 a7] rfl rfl (cells_new W #[.int .i64 a1, .string a2, .int .i64 a3, .bool a4, .int .i64 a5, .string a6, .int .i64 a7] 78) (by simp [Value.oneCell']) (by unfold maxLen; omega) (by omega) (by simp; omega) ?_
           intro v' w3 hown' hg3 hnil3 hat3
           obtain ⟨g', cap', rfl⟩ := ownsRow_succ hown'
           have b53 : Boxed w3 (w.heap.size + 1 + 1 + 1) 35 v := (h5.alloc _).kept hg3 (h5.not_row (by decide) h6)
           have e53 := b53.cell
           have f53 := b53.frozen
           go_frame)
        | gi_in)
      exact body_ok hA h5 h6 hown' hg3 hat3 (tok := (a1, a2, (a3, a4, a5, a6, ()), a7, ()))
  case done =>
    rintro D xs W hD hx hA hK
    have hpre : Pre sk one s s.size xs := by
      rcases hx with h | ⟨i, pre, z, _, _, _, rfl⟩
      · exact h
      · have := hA.ok (setAt z i, false) (by simp)
        cases this
    obtain ⟨v, h5, h6⟩ := hA.b5
    obtain ⟨i0, hi, hz0, hz1, hz2⟩ := info_parts infoTok
    have d2 := hA.b2; have d3 := hA.b3; have d4 := hA.b4
    have e5 := h5.cell
    have hlen := (hpre.len C).2
    have hsz := hA.sz
    gi_wp2_with (first
      | (gi_at_builtin
         refine wpListIn_append_own_at _ rfl _ _ 35 rfl (w.heap.size + 5) 78 i0 (.agg (tokC (0, ⟨#[]⟩, (0, false, 0, ⟨#[]⟩, ()), 0, ()))) 7 72 t22 hi hz0 hz1 hz2 rfl (by decide) _ _ _ rfl (ownsRow_alloc' h6 _) ⟨W.heap.size, 0, none⟩ 1 1 (tokC (4, ⟨#[]⟩, (0, false, 0, ⟨#[]⟩, ()), (s.size : Int), ())).toList rfl rfl (cells_new W (tokC (4, ⟨#[]⟩, (0, false, 0, ⟨#[]⟩, ()), (s.size : Int), ())) 78) (by simp [tokC, Value.oneCell']) (by unfold maxLen; omega) (by omega) (by simp; omega) ?_
         intro v' w3 hown' hg3 hnil3 hat3
         obtain ⟨g', cap', rfl⟩ := ownsRow_succ hown'
         have b2 : Boxed w3 w.heap.size 35 (.slice none 0 0) := (d2.alloc _).kept hg3 (d2.not_row (by decide) h6)
         have b3 : Boxed w3 (w.heap.size + 1) 3 (.int .i64 0) := (d3.alloc _).kept hg3 (d3.not_row (by decide) h6)
         have b4 : Boxed w3 (w.heap.size + 1 + 1) 26 (.int .i64 0) := (d4.alloc _).kept hg3 (d4.not_row (by decide) h6)
         have f2 := b2.frozen; have f3 := b3.frozen; have f4 := b4.frozen
         have e2 := b2.cell; have e3 := b3.cell; have e4 := b4.cell
         go_frame)
      | gi_in)
    have hcells : ∀ (j : Nat) (o : Obj), v.ownBlock = some j → (W.alloc (.cells (tokC (4, ⟨#[]⟩, (0, false, 0, ⟨#[]⟩, ()), (s.size : Int), ())) 78)).heap[j]? = some o → o.isCells = true := by
      intro j o' hj ho
      rcases (ownsRow_alloc' h6 (.cells (tokC (4, ⟨#[]⟩, (0, false, 0, ⟨#[]⟩, ()), (s.size : Int), ())) 78)).2 with ⟨rfl, _⟩ | ⟨g, cap, cur, rfl, _, hgb, _⟩
      · simp [Value.ownBlock] at hj
      · have : g = j := by simpa [Value.ownBlock] using hj
        subst this
        rw [hgb] at ho
        cases ho
        rfl
    have hkA : KeepsOthers W w3 := (KeepsOthers.alloc _ _).trans (KeepsOthers.of_grownBy hg3 hcells)
    have hsA : (W.alloc (.cells (tokC (4, ⟨#[]⟩, (0, false, 0, ⟨#[]⟩, ()), (s.size : Int), ())) 78)).heap.size = W.heap.size + 1 := by simp
    have hs3 : W.heap.size + 1 ≤ w3.heap.size := by have := hg3.size; rw [← hsA]; exact this
    have hbA : Below w.heap.size w w3 := (hA.below.alloc (by omega) _).grown hg3 (by simp; omega) (fun k e => by have := (h6.lt k e).1; omega)
    obtain ⟨w4, hw4⟩ : ∃ w4, w3.setCell ⟨w.heap.size, 0, none⟩ (.slice (some ⟨g', 0, none⟩) (xs.length + 1) cap') = w4 := ⟨_, rfl⟩
    have hg4 : w3.grownBy w4 (some w.heap.size) := by rw [← hw4]; exact grownBy_setCell' _ _ _
    have b24 : Boxed w4 w.heap.size 35 (.slice (some ⟨g', 0, none⟩) (xs.length + 1) cap') := by rw [← hw4]; exact b2.set _
    have b34 : Boxed w4 (w.heap.size + 1) 3 (.int .i64 0) := by rw [← hw4]; exact b3.other (by omega) _
    have b44 : Boxed w4 (w.heap.size + 1 + 1) 26 (.int .i64 0) := by rw [← hw4]; exact b4.other (by omega) _
    have hk4 : KeepsOthers W w4 := hkA.trans (by rw [← hw4]; exact KeepsOthers.setCell _ _ _)
    have hown4 := hown'.kept hg4 (.inr fun e => (b2.not_row (by decide) hown') e.symm)
    have hb4 : Below w.heap.size w w4 := hbA.grown hg4 (by omega) (fun k e => by cases e; omega)
    rw [hw4]
    obtain ⟨w5, hw5⟩ : ∃ w5, w4.setCell ⟨w.heap.size + 1, 0, none⟩ (.int .i64 0) = w5 := ⟨_, rfl⟩
    have hg5 : w4.grownBy w5 (some (w.heap.size + 1)) := by rw [← hw5]; exact grownBy_setCell' _ _ _
    have b25 : Boxed w5 w.heap.size 35 (.slice (some ⟨g', 0, none⟩) (xs.length + 1) cap') := by rw [← hw5]; exact b24.other (by omega) _
    have b35 : Boxed w5 (w.heap.size + 1) 3 (.int .i64 0) := by rw [← hw5]; exact b34.set _
    have b45 : Boxed w5 (w.heap.size + 1 + 1) 26 (.int .i64 0) := by rw [← hw5]; exact b44.other (by omega) _
    have hk5 : KeepsOthers W w5 := hk4.trans (by rw [← hw5]; exact KeepsOthers.setCell _ _ _)
    have hown5 := hown4.kept hg5 (.inr fun e => (b34.not_row (by decide) hown4) e.symm)
    have hb5 : Below w.heap.size w w5 := hb4.grown hg5 (by have := hg4.size; omega) (fun k e => by cases e; omega)
    rw [hw5]
    obtain ⟨w6, hw6⟩ : ∃ w6, w5.setCell ⟨w.heap.size + 1 + 1, 0, none⟩ (.int .i64 0) = w6 := ⟨_, rfl⟩
    have hg6 : w5.grownBy w6 (some (w.heap.size + 1 + 1)) := by rw [← hw6]; exact grownBy_setCell' _ _ _
    have b26 : Boxed w6 w.heap.size 35 (.slice (some ⟨g', 0, none⟩) (xs.length + 1) cap') := by rw [← hw6]; exact b25.other (by omega) _
    have b36 : Boxed w6 (w.heap.size + 1) 3 (.int .i64 0) := by rw [← hw6]; exact b35.other (by omega) _
    have b46 : Boxed w6 (w.heap.size + 1 + 1) 26 (.int .i64 0) := by rw [← hw6]; exact b45.set _
    have hk6 : KeepsOthers W w6 := hk5.trans (by rw [← hw6]; exact KeepsOthers.setCell _ _ _)
    have hown6 := hown5.kept hg6 (.inr fun e => (b45.not_row (by decide) hown5) e.symm)
    have hb6 : Below w.heap.size w w6 := hb5.grown hg6 (by have := hg4.size; have := hg5.size; omega) (fun k e => by cases e; omega)
    rw [hw6]
    have hK6 := hk6.same D _ hK rfl
    refine ⟨by simp, .inl ⟨_, _, rfl, run_takeDeferred hK6, ?_⟩⟩
    have c2 := cell_kept b26.cell (grownBy_putObj' _ D (.deferred none)) (fun r e => by cases e; exact ⟨_, hK6, rfl⟩)
    have c3 := cell_kept b36.cell (grownBy_putObj' _ D (.deferred none)) (fun r e => by cases e; exact ⟨_, hK6, rfl⟩)
    have c4 := cell_kept b46.cell (grownBy_putObj' _ D (.deferred none)) (fun r e => by cases e; exact ⟨_, hK6, rfl⟩)
    refine ⟨.tuple #[.slice (some ⟨g', 0, none⟩) (xs.length + 1) cap', .int .i64 0, .int .i64 0], ?_, hb6.grown (grownBy_putObj' _ _ _) hb6.size (fun k e => by cases e; omega), _, xs, hA.ok, .inl ⟨hpre, rfl, ownsRow_base (ownsRow_putObj hown6 (.deferred none) hK6 rfl) (by omega)⟩⟩
    simp [results, Tryz.f13, go_sem, c2, c3, c4]
  case stop =>
    rintro D c pre W hD hx ⟨rfl, hB, p, z, rfl, hp, d2, d3, d4⟩ hK
    obtain ⟨i, pre, z', ok, hp1, hlt, ho1, ho2, he⟩ := hx
    have hpe : p = pre ∧ ((z, false) : Tok × Bool) = (setAt z' i, ok) := by
      have := List.append_inj' he rfl
      exact ⟨this.1, by simpa using this.2⟩
    obtain ⟨rfl, hze⟩ := hpe
    have hz1 : z = setAt z' i := congrArg Prod.fst hze
    have hz2 : false = ok := congrArg Prod.snd hze
    subst hz2
    gi_wp2
    refine ⟨by simp, .inl ⟨_, _, rfl, run_takeDeferred hK, ?_⟩⟩
    have c2 := cell_kept d2.cell (grownBy_putObj' _ D (.deferred none)) (fun r e => by cases e; exact ⟨_, hK, rfl⟩)
    have c3 := cell_kept d3.cell (grownBy_putObj' _ D (.deferred none)) (fun r e => by cases e; exact ⟨_, hK, rfl⟩)
    have c4 := cell_kept d4.cell (grownBy_putObj' _ D (.deferred none)) (fun r e => by cases e; exact ⟨_, hK, rfl⟩)
    refine ⟨.tuple #[.slice none 0 0, .int .i64 i, .int .i64 7], ?_, hB.grown (grownBy_putObj' _ _ _) hB.size (fun k e => by cases e; omega), .slice none 0 0, p, hp, .inr ⟨i, hp1, hlt, ho2 (by simp), rfl⟩⟩
    rw [hz1] at c3
    simp [results, Tryz.f13, go_sem, c2, c3, c4, setAt]
end
end Go.Proofs.YtnnbinmomendnaaGreatDoor
namespace Go.Proofs.YtnnbinmomendnaaGreatDoor
open Go.RowKit Go.Shelf
attribute [local go_sem] Oper.semAt_some
theorem read_long (s : ByteArray) (hs : 300 < s.size) (w : World) : CallsIn Fence.wide 5 Tryz.prog 13 #[.string s] w fun e w' => Below w.heap.size w w' ∧ e = .returned (.tuple #[.slice none 0 0, .int .i64 0, .int .i64 9]) := by
  refine callsIn_of_wp Tryz.func13 rfl trivial ?_ rfl
  simp only [Tryz.ntmps13, List.size_toArray, List.length_cons, List.length_nil, Nat.reduceAdd, Nat.reduceSub, Array.replicate_succ, Array.replicate_zero, List.push_toArray, List.append_toArray, List.nil_append, List.cons_append]
  have hd : (300 : Int) < s.size := by omega
  gi_wp2
  refine bodyPost_ret (v := .tuple #[.slice none 0 0, .int .i64 0, .int .i64 9]) ?_ rfl ?_
  · simp [results, Tryz.f13, go_sem]
  · refine ⟨?_, rfl⟩
    exact (((Below.refl _ w).alloc (Nat.le_refl _) _).alloc (by simp) _).alloc (by simp; omega) _
namespace E
theorem skN_stop (s : ByteArray) (i : Nat) (hi : i ≤ s.size) (h : skN s i < s.size) : blN (bt s (skN s i)) = false := by
  have go : ∀ (f i : Nat), i + f = s.size → scanN (fun j => blN (bt s j)) f i < s.size → blN (bt s (scanN (fun j => blN (bt s j)) f i)) = false := by
    intro f
    induction f with
    | zero => intro i hi h; simp only [scanN] at h; omega
    | succ f ih =>
      intro i hi h
      rw [scanN] at h ⊢
      split at h
      · rename_i hb
        rw [if_pos hb]
        exact ih (i + 1) (by omega) h
      · rename_i hb
        rw [if_neg hb]
        simpa using hb
  exact go (s.size - i) i (by omega) h
theorem lexL_skip (s : ByteArray) (l : Toks) : ∀ (d i f : Nat), i + d = s.size → s.size + 1 ≤ i + f → ∃ f', s.size + 1 ≤ scanN (fun j => blN (bt s j)) d i + f' ∧ lexL s f i l = lexL s f' (scanN (fun j => blN (bt s j)) d i) l := by
  intro d
  induction d with
  | zero => intro i f hi hf; exact ⟨f, hf, rfl⟩
  | succ d ih =>
    intro i f hi hf
    rw [scanN]
    split
    · rename_i hb
      obtain ⟨f, rfl⟩ : ∃ q, f = q + 1 := ⟨f - 1, by omega⟩
      obtain ⟨f', h1, h2⟩ := ih (i + 1) f (by omega) (by omega)
      refine ⟨f', h1, ?_⟩
      rw [← h2, lexL, if_pos (by omega), if_pos]
      unfold blN at hb
      simpa using hb
    · exact ⟨f, hf, rfl⟩
theorem skip (s : ByteArray) (l : Toks) (i f : Nat) (hi : i ≤ s.size) (hf : s.size + 1 ≤ i + f) : ∃ f', s.size + 1 ≤ skN s i + f' ∧ lexL s f i l = lexL s f' (skN s i) l :=
  lexL_skip s l (s.size - i) i f (by omega) hf
theorem pre_lex {s : ByteArray} {i : Nat} {pre : List (Tok × Bool)} (h : Pre skN oneS s i pre) : (i ≤ s.size ∧ (i < s.size → blN (bt s i) = false)) ∧ ∃ f, s.size + 1 ≤ i + f ∧ lexL s (s.size + 1) 0 [] = lexL s f i (pre.map Prod.fst) := by
  induction h with
  | nil => exact ⟨⟨(skN_rng s 0 (Nat.zero_le _)).2, skN_stop s 0 (Nat.zero_le _)⟩, skip s [] 0 (s.size + 1) (Nat.zero_le _) (by omega)⟩
  | @cons i pre t h1 h2 h3 ih =>
    obtain ⟨⟨h4, h5⟩, f, h6, h7⟩ := ih
    have hb := h5 h2
    have hsz := oneS_size (s := s.extract i s.size) (by rw [ByteArray.size_extract]; omega) h3
    rw [ByteArray.size_extract] at hsz
    obtain ⟨f, rfl⟩ : ∃ q, f = q + 1 := ⟨f - 1, by omega⟩
    have hle : i + t.2.1.size ≤ s.size := by omega
    obtain ⟨f', g1, g2⟩ := skip s ((pre.map Prod.fst) ++ [(t.1, t.2.1, t.2.2.1, (i : Int), ())]) (i + t.2.1.size) f hle (by omega)
    refine ⟨⟨(skN_rng s _ hle).2, skN_stop s _ hle⟩, f', g1, ?_⟩
    rw [h7, lexL, if_pos h2, if_neg]
    · rw [h3]
      simp only [List.map_append, List.map_cons, List.map_nil]
      exact g2
    · unfold blN at hb
      simpa using hb
theorem lex_good {s : ByteArray} {xs : List (Tok × Bool)} (hs : s.size ≤ 300) (h : Pre skN oneS s s.size xs) : lexS s = (0, 0, xs.map Prod.fst ++ [endT s]) := by
  obtain ⟨_, f, h1, h2⟩ := pre_lex h
  obtain ⟨f, rfl⟩ : ∃ q, f = q + 1 := ⟨f - 1, by omega⟩
  unfold lexS
  rw [if_neg (by omega), h2, lexL, if_neg (by omega)]
theorem lex_bad {s : ByteArray} {i : Nat} {xs : List (Tok × Bool)} (hs : s.size ≤ 300) (h : Pre skN oneS s i xs) (hi : i < s.size) (ho : oneS (s.extract i s.size) = none) : lexS s = ((i : Int), 7, []) := by
  obtain ⟨⟨_, hb⟩, f, h1, h2⟩ := pre_lex h
  have hb := hb hi
  obtain ⟨f, rfl⟩ : ∃ q, f = q + 1 := ⟨f - 1, by omega⟩
  unfold lexS
  rw [if_neg (by omega), h2, lexL, if_pos hi, if_neg (by unfold blN at hb; simpa using hb), ho]
theorem calls2 : Calls2 skN oneS := by
  refine ⟨skN_rng, fun s t h0 h => oneS_size h0 h, fun s i w hs hi hc hl => ?_, fun s w h0 hs hc hl => ?_⟩
  · obtain ⟨n, hn⟩ : ∃ n : Nat, 2000 < n := ⟨3000, by omega⟩
    have ht : ∀ k : T → List Blk → Option (T × List Blk), zBU_g n [.c (.s s), .c (.i .i64 i), .c (.fn 57 [])] [] k = k (.a (.c (.i .i64 (skN s i : Nat)))) [] := fun k =>
      (show _ = zBU_F n s (i : Int) (fun y0 => k (.a (.c (.i .i64 y0))) []) from rfl).trans (runB_F n s i (by omega) hi hn _)
    have hg := Good.calls (zBU_ok n) Tryz.func56 (by kernel_rfl) rfl (args := [.c (.s s), .c (.i .i64 i), .c (.fn 57 [])]) (vs := [.string s, .int .i64 i, .func (.func 57) #[] #[]]) hc hl ⟨rfl, rfl, ⟨[], rfl, trivial⟩, trivial⟩ ht
    refine hg.mono ?_
    rintro e W' ⟨v, F', rfl, hr, hb, _⟩
    exact ⟨by rw [show v = _ from hr], hb⟩
  · obtain ⟨n, hn⟩ : ∃ n : Nat, 2000 < n := ⟨3000, by omega⟩
    obtain ⟨z, hz⟩ := firstP_F (R := T × List Blk) n s h0 (by omega) hn
    obtain ⟨t, ok, h1, h2, h3⟩ : ∃ (t : ty78.D) (ok : Bool), (ok = true → oneS s = some t) ∧ (ok = false → oneS s = none) ∧ ∀ k : ty78.D → Bool → Option (T × List Blk), zDH_F n s k = k t ok := by
      cases h : oneS s with
      | none => exact ⟨z, false, by simp, by simp, fun k => by rw [hz k, h]⟩
      | some t => exact ⟨t, true, by simp, by simp, fun k => by rw [hz k, h]⟩
    have ht : ∀ k : T → List Blk → Option (T × List Blk), zDH_g n [.c (.s s)] [] k = k (.tu [encA ty78 t, .c (.b ok)]) [] := fun k =>
      (show _ = zDH_F n s (fun y0 y1 => k (.tu [encA ty78 y0, .c (.b y1)]) []) from rfl).trans (h3 _)
    have hg := Good.calls (zDH_ok n) Tryz.func58 (by kernel_rfl) rfl (args := [.c (.s s)]) (vs := [.string s]) hc hl ⟨rfl, trivial⟩ ht
    refine hg.mono ?_
    rintro e W' ⟨v, F', rfl, ⟨vs, rfl, hr⟩, hb, _⟩
    refine ⟨⟨t, ok, h1, h2, ?_⟩, hb⟩
    obtain ⟨vl, hvl⟩ : ∃ vl, vs.toList = vl := ⟨_, rfl⟩
    rw [hvl] at hr
    match vl, hr with
    | [va, vb], hr =>
      obtain ⟨⟨cs, rfl, hcs⟩, hvb, _⟩ := hr
      have e1 : vs = #[.agg cs, vb] := by rw [← Array.toList_inj, hvl]
      rw [e1, show vb = .bool ok from hvb]
      obtain ⟨cl, hcl⟩ : ∃ cl, cs.toList = cl := ⟨_, rfl⟩
      rw [hcl] at hcs
      match cl, hcs with
      | [c1, c2, c3, c4, c5, c6, c7], hcs =>
        obtain ⟨g1, g2, g3, g4, g5, g6, g7, _⟩ := hcs
        have e2 : cs = tokC t := by
          rw [← Array.toList_inj, hcl]
          rw [show c1 = _ from g1, show c2 = _ from g2, show c3 = _ from g3, show c4 = _ from g4, show c5 = _ from g5, show c6 = _ from g6, show c7 = _ from g7]
          rfl
        rw [e2]
theorem tok_drep (w : World) (F : Nat → Prop) (t : ty78.D) : DRep w F ty78 t (tokC t).toList :=
  ⟨[.int .i64 t.1], _, rfl, rfl, [.string t.2.1], _, rfl, rfl, [.int .i64 t.2.2.1.1, .bool t.2.2.1.2.1, .int .i64 t.2.2.1.2.2.1, .string t.2.2.1.2.2.2.1], [.int .i64 t.2.2.2.1], rfl,
    ⟨[.int .i64 t.2.2.1.1], _, rfl, rfl, [.bool t.2.2.1.2.1], _, rfl, rfl, [.int .i64 t.2.2.1.2.2.1], _, rfl, rfl, [.string t.2.2.1.2.2.2.1], [], rfl, rfl, rfl⟩, [.int .i64 t.2.2.2.1], [], rfl, rfl, rfl⟩
theorem toks_dreps (w : World) (F : Nat → Prop) : ∀ l : Toks, DReps w F ty78 l (l.flatMap fun t => (tokC t).toList)
  | [] => rfl
  | t :: l => ⟨(tokC t).toList, l.flatMap fun t => (tokC t).toList, rfl, tok_drep w F t, toks_dreps w F l⟩
theorem row_drep {W : World} {F : Nat → Prop} {base e k : Nat} {v : Value} {xs : List Value} {l : Toks} (h : W.ownsRow base e 7 v k xs) (hk : l.length = k) (hd : DReps W F ty78 l xs) (hF : ∀ b, base ≤ b → b < W.heap.size → F b) : DRep W F (.sl ty78) l [v] := by
  rcases h.2 with ⟨rfl, h0⟩ | ⟨g, cap, cur, rfl, hg, hgb, hle, hmx, hsz, hcur⟩
  · have : l = [] := List.length_eq_zero_iff.1 (by omega)
    subst this
    exact ⟨none, 0, rfl, ⟨Nat.le_refl _, fun _ => rfl⟩, fun i hi => by simp at hi⟩
  · subst hk
    refine ⟨some ⟨g, 0, none⟩, cap, rfl, ⟨hle, fun h => by cases h⟩, fun i hi => ⟨g, 0, (xs.drop (i * 7)).take 7, rfl, hF g hg (Array.getElem?_eq_some_iff.1 hgb).1, fun j u hu => ?_, DReps.at hi hd⟩⟩
    have hj : j < 7 := by
      have := (List.getElem?_eq_some_iff.1 hu).1
      rw [List.length_take] at this
      omega
    rw [List.getElem?_take, if_pos hj, List.getElem?_drop, ← hcur, List.getElem?_take] at hu
    split at hu
    · rename_i hlt
      show W.cell? ⟨g, 0 + i * 7 + j, none⟩ = some u
      simp only [World.cell?, hgb, Nat.zero_add]
      simpa using hu
    · cases hu
theorem rowC_eq (xs : List (Tok × Bool)) : rowC xs = (xs.map Prod.fst).flatMap fun t => (tokC t).toList := by
  unfold rowC
  rw [List.flatMap_map]
theorem lex_back (s : ByteArray) (w : World) (hc : LayC w) (hl : ∀ g ∈ layG, g < w.heap.size) (_ : True) : Back Tryz.prog 13 #[valD .str s] w (.tu [.c (.fz ty78 (lexS s).2.2), .c (.i .i64 (lexS s).1), .c (.i .i64 (lexS s).2.1)]) := by
  have nil : ∀ W : World, DRep W (fun b => (w.heap.size ≤ b ∨ b ∈ layG) ∧ b < W.heap.size) (.sl ty78) [] [.slice none 0 0] := fun W => ⟨none, 0, rfl, ⟨Nat.le_refl _, fun _ => rfl⟩, fun i hi => by simp at hi⟩
  by_cases hs : s.size ≤ 300
  · refine (callsIn_wide.1 (read_in calls2 s hs w hc hl)).mono ?_
    rintro e W ⟨hb, v, xs, hok, ⟨hp, rfl, hr⟩ | ⟨i, hp, hi, ho, rfl⟩⟩
    · rw [lex_good hs hp]
      refine ⟨_, rfl, ⟨_, rfl, row_drep (k := xs.length + 1) hr (by simp) ?_ (fun b h1 h2 => ⟨.inl h1, h2⟩), rfl, rfl, trivial⟩, hb⟩
      rw [rowC_eq]
      have := toks_dreps W (fun b => (w.heap.size ≤ b ∨ b ∈ layG) ∧ b < W.heap.size) (xs.map Prod.fst ++ [endT s])
      rw [List.flatMap_append, show ([endT s].flatMap fun t => (tokC t).toList) = (tokC (endT s)).toList from by simp] at this
      exact this
    · rw [lex_bad hs hp hi ho]
      exact ⟨_, rfl, ⟨_, rfl, nil W, rfl, rfl, trivial⟩, hb⟩
  · refine (callsIn_wide.1 (read_long s (by omega) w)).mono ?_
    rintro e W ⟨hb, rfl⟩
    have : lexS s = (0, 9, []) := by unfold lexS; rw [if_pos (by omega)]
    rw [this]
    exact ⟨_, rfl, ⟨_, rfl, nil W, rfl, rfl, trivial⟩, hb⟩
end E
end Go.Proofs.YtnnbinmomendnaaGreatDoor
namespace Go.Proofs.YtnnbinmomendnaaGreatDoor
open Go.RowKit Go.Shelf
def sgnP (op : Int) : ByteArray := if 0 ≤ op ∧ op < 7 then ([(⟨#[]⟩ : ByteArray), ⟨#[61, 61]⟩, ⟨#[33, 61]⟩, ⟨#[60]⟩, ⟨#[60, 61]⟩, ⟨#[62]⟩, ⟨#[62, 61]⟩] : List ByteArray).getD op.toNat ⟨#[]⟩ else ⟨#[]⟩
set_option maxHeartbeats 2000000 in
set_option maxRecDepth 100000 in
theorem sgn_calls (op : Int) (w : World) : Calls Tryz.prog 53 #[.int .i64 op] w fun e w' => e = .returned (.string (sgnP op)) ∧ Below w.heap.size w w' := by
  have bel : ∀ o : Obj, Below w.heap.size w (w.alloc o) := fun o => (Below.refl _ w).alloc (Nat.le_refl _) _
  by_cases h0 : op < 0
  · have e : sgnP op = ⟨#[]⟩ := by unfold sgnP; rw [if_neg (by omega)]
    rw [e]
    go_enter Tryz.func53, Tryz.ntmps53
    go_wp2
    go_ret
    exact ⟨rfl, bel _⟩
  · by_cases h7 : 7 ≤ op
    · have e : sgnP op = ⟨#[]⟩ := by unfold sgnP; rw [if_neg (by omega)]
      rw [e]
      go_enter Tryz.func53, Tryz.ntmps53
      go_wp2
      go_ret
      exact ⟨rfl, bel _⟩
    · have hc : op = 0 ∨ op = 1 ∨ op = 2 ∨ op = 3 ∨ op = 4 ∨ op = 5 ∨ op = 6 := by omega
      clear h0 h7
      rcases hc with rfl | rfl | rfl | rfl | rfl | rfl | rfl
      all_goals
        go_enter Tryz.func53, Tryz.ntmps53
        go_wp2
        go_ret
        exact ⟨rfl, bel _⟩
namespace E
theorem sgn_back (x : Int) (w : World) (_ : LayC w) (_ : ∀ g ∈ layG, g < w.heap.size) (_ : True) : Back Tryz.prog 53 #[valD (.int .i64) x] w (.a (.c (.s (sgnP x)))) := by
  refine (sgn_calls x w).mono ?_
  rintro e w' ⟨rfl, hb⟩
  exact ⟨_, rfl, rfl, hb⟩
end E
end Go.Proofs.YtnnbinmomendnaaGreatDoor
set_option maxRecDepth 100000
namespace Go.Proofs.YtnnbinmomendnaaGreatDoor.E
open Go.Proofs
noncomputable section
variable {R : Type}
@[reducible] def lex_Read_d : Desc := ⟨[(0, .d .str)], []⟩
def zAU_ds : Nat → Desc
  | 2 => ⟨[(0, .d (.sl .str)), (1, .d .str), (7, .d (.int .i64)), (8, .d (.int .i64))], []⟩
  | _ => ⟨[], []⟩
def zAU_dx : Nat → List (X × Desc)
  | 2 => [(.r, ⟨[(4, .d (.int .i64))], []⟩), (.e 0, ⟨[], []⟩)]
  | _ => []
def zAU_s2 (n : Nat) (x0 : (List ByteArray)) (x1 : ByteArray) (x2 : Int) (x3 : Int) (k1 : (List ByteArray) → ByteArray → Int → Int → Option R) (qr : Int → Option R) (qe0 : Option R) : Option R :=
  if (decide (x3 < x2)) = true then (if (0 : Int) ≤ x3 ∧ x3 < (x0.length : Int) then (if (x1.toList == (x0.getD (Int.toNat x3) (Ty.z .str)).toList) = true then (qr x3) else (k1 x0 x1 x2 (IntKind.i64.wrap (x3 + 1)))) else none) else qe0
def zAU_l2 (n : Nat) (a : (zAU_ds 2).D) (k1 : (zAU_ds 2).D → Option R) (k2 : exK R (zAU_dx 2)) : Option R :=
  zAU_s2 n a.1 a.2.1 a.2.2.1 a.2.2.2.1 (fun x0 x1 x2 x3 => k1 (x0, x1, x2, x3, ())) (fun x0 => k2.1 (x0, ())) (k2.2.1 (()))
@[reducible] def zAU_d : Desc := ⟨[(0, .d (.sl .str)), (1, .d .str)], []⟩
def zAU_Fi (n : Nat) (a0 : (List ByteArray)) (a1 : ByteArray) (k0 : Int → Option R) : Option R :=
  runC (zAU_l2 n) n (a0, a1, (a0.length : Int), 0, ()) (fun b1 => k0 b1.1, fun b1 => k0 (-1), ())
def zAU_F {R : Type} := lazyN (@zAU_Fi R)
theorem zAU_e : @zAU_F R = @zAU_Fi R := lazyN_eq _
def zAU_g (n : Nat) : Gx R := typed 2 zAU_d fun x k => zAU_F n x.1 x.2.1 (fun y0 => k (.a (.c (.i .i64 y0))) [])
def zAU_cs (R : Type) (n : Nat) : List (Nat × Gx R) := []
def zAU_lp (n : Nat) : (i : Nat) → (zAU_ds i).D → exK R (zAU_dx i) → Option R
  | 2, a, k => runC (zAU_l2 n) n a k
  | _, _, _ => none
def zAU_cx (R : Type) (n : Nat) : Cx R := ⟨Tryz.prog, Gof (zAU_cs R n), zAU_ds, zAU_dx, zAU_lp n, drawP Tryz.prog (Gof (zAU_cs R n)), false, noJn, noFz⟩
theorem zAU_ok [Esc R] (n : Nat) : Good Tryz.prog 95 (zAU_g (R := R) n) := by
  unfold zAU_g
  rw [zAU_e]
  exact Good.fn (cx := zAU_cx R n) (by kernel_rfl) (AllGood.nil) rfl Tryz.func95 (by kernel_rfl) rfl (by
    have e : fnLoops noJn Tryz.f95 = [((fnLoops noJn Tryz.f95)[0]?).getD (false, .skip)] := by kernel_rfl
    show LoopRuns _ _ (fnLoops noJn _)
    rw [e]
    exact ⟨LoopRun.loop (by kernel_rfl) (i := 2) (m := n) (step := zAU_l2 n) (by kernel_rfl) (fun a k1 k2 => by kernel_rfl) (fun _ _ => rfl), trivial⟩) 2 zAU_d (by kernel_rfl) (fun x k => by kernel_rfl)
@[reducible] def zBW_d : Desc := ⟨[(0, .d (.sl .str)), (1, .d .str)], []⟩
def zBW_Fi (n : Nat) (a0 : (List ByteArray)) (a1 : ByteArray) (k0 : Bool → Option R) : Option R :=
  zAU_F n a0 a1 (fun y1 => k0 (decide (y1 ≥ 0)))
def zBW_F {R : Type} := lazyN (@zBW_Fi R)
theorem zBW_e : @zBW_F R = @zBW_Fi R := lazyN_eq _
def zBW_g (n : Nat) : Gx R := typed 2 zBW_d fun x k => zBW_F n x.1 x.2.1 (fun y0 => k (.a (.c (.b y0))) [])
def zBW_cs (R : Type) (n : Nat) : List (Nat × Gx R) := [(95, zAU_g n)]
def zBW_cx (R : Type) (n : Nat) : Cx R := ⟨Tryz.prog, Gof (zBW_cs R n), noDs, noDx, noLp, drawP Tryz.prog (Gof (zBW_cs R n)), false, noJn, noFz⟩
theorem zBW_ok [Esc R] (n : Nat) : Good Tryz.prog 121 (zBW_g (R := R) n) := by
  unfold zBW_g
  rw [zBW_e]
  exact Good.fn (cx := zBW_cx R n) (by kernel_rfl) (AllGood.cons (zAU_ok n) (AllGood.nil)) rfl Tryz.func121 (by kernel_rfl) rfl trivial 2 zBW_d (by kernel_rfl) (fun x k => by kernel_rfl)
@[reducible] def zCP_d : Desc := ⟨[(0, .d .str)], []⟩
def zCP_Fi (n : Nat) (a0 : ByteArray) (k0 : Bool → Option R) : Option R :=
  zBW_F n [(⟨#[100, 101, 110, 121]⟩ : ByteArray), (⟨#[118, 105, 101, 119]⟩ : ByteArray), (⟨#[113, 117, 111, 116, 97]⟩ : ByteArray), (⟨#[108, 105, 109, 105, 116]⟩ : ByteArray), (⟨#[105, 102]⟩ : ByteArray), (⟨#[110, 111, 116]⟩ : ByteArray), (⟨#[99, 111, 117, 110, 116]⟩ : ByteArray), (⟨#[115, 117, 109]⟩ : ByteArray), (⟨#[108, 101, 97, 115, 116]⟩ : ByteArray), (⟨#[109, 111, 115, 116]⟩ : ByteArray)] a0 (fun y1 => k0 y1)
def zCP_F {R : Type} := lazyN (@zCP_Fi R)
theorem zCP_e : @zCP_F R = @zCP_Fi R := lazyN_eq _
def zCP_g (n : Nat) : Gx R := typed 1 zCP_d fun x k => zCP_F n x.1 (fun y0 => k (.a (.c (.b y0))) [])
def zCP_cs (R : Type) (n : Nat) : List (Nat × Gx R) := [(121, zBW_g n)]
def zCP_cx (R : Type) (n : Nat) : Cx R := ⟨Tryz.prog, Gof (zCP_cs R n), noDs, noDx, noLp, drawP Tryz.prog (Gof (zCP_cs R n)), false, noJn, noFz⟩
theorem zCP_ok [Esc R] (n : Nat) : Good Tryz.prog 94 (zCP_g (R := R) n) := by
  unfold zCP_g
  rw [zCP_e]
  exact Good.fn (cx := zCP_cx R n) (by kernel_rfl) (AllGood.cons (zBW_ok n) (AllGood.nil)) rfl Tryz.func94 (by kernel_rfl) rfl trivial 1 zCP_d (by kernel_rfl) (fun x k => by kernel_rfl)
@[reducible] def zDM_d : Desc := ⟨[(0, .d (.int .i64))], []⟩
def zDM_Fi (n : Nat) (a0 : Int) (k0 : ByteArray → Option R) : Option R :=
  if True then (k0 (sgnP a0)) else none
def zDM_F {R : Type} := lazyN (@zDM_Fi R)
theorem zDM_e : @zDM_F R = @zDM_Fi R := lazyN_eq _
def zDM_g (n : Nat) : Gx R := typed 1 zDM_d fun x k => zDM_F n x.1 (fun y0 => k (.a (.c (.s y0))) [])
theorem zDM_ok [Esc R] (n : Nat) : Good Tryz.prog 53 (zDM_g (R := R) n) := by
  unfold zDM_g
  rw [zDM_e]
  exact Good.hand1 Tryz.func53 (by kernel_rfl) rfl rfl sgn_back (fun x k => rfl)
def zCQ_ds : Nat → Desc
  | 2 => ⟨[(0, .d .str), (3, .d (.int .i64))], []⟩
  | _ => ⟨[], []⟩
def zCQ_dx : Nat → List (X × Desc)
  | 2 => [(.r, ⟨[(2, .d (.int .i64))], []⟩), (.e 0, ⟨[], []⟩)]
  | _ => []
def zCQ_s2 (n : Nat) (x0 : ByteArray) (x1 : Int) (k1 : ByteArray → Int → Option R) (qr : Int → Option R) (qe0 : Option R) : Option R :=
  if (decide (x1 ≤ 6)) = true then (zDM_F n x1 (fun y1 => if (y1.toList == x0.toList) = true then (qr x1) else (k1 x0 (IntKind.i64.wrap (x1 + 1))))) else qe0
def zCQ_l2 (n : Nat) (a : (zCQ_ds 2).D) (k1 : (zCQ_ds 2).D → Option R) (k2 : exK R (zCQ_dx 2)) : Option R :=
  zCQ_s2 n a.1 a.2.1 (fun x0 x1 => k1 (x0, x1, ())) (fun x0 => k2.1 (x0, ())) (k2.2.1 (()))
@[reducible] def zCQ_d : Desc := ⟨[(0, .d .str)], []⟩
def zCQ_Fi (n : Nat) (a0 : ByteArray) (k0 : Int → Option R) : Option R :=
  runC (zCQ_l2 n) n (a0, 1, ()) (fun b2 => k0 b2.1, fun b2 => k0 0, ())
def zCQ_F {R : Type} := lazyN (@zCQ_Fi R)
theorem zCQ_e : @zCQ_F R = @zCQ_Fi R := lazyN_eq _
def zCQ_g (n : Nat) : Gx R := typed 1 zCQ_d fun x k => zCQ_F n x.1 (fun y0 => k (.a (.c (.i .i64 y0))) [])
def zCQ_cs (R : Type) (n : Nat) : List (Nat × Gx R) := [(53, zDM_g n)]
def zCQ_lp (n : Nat) : (i : Nat) → (zCQ_ds i).D → exK R (zCQ_dx i) → Option R
  | 2, a, k => runC (zCQ_l2 n) n a k
  | _, _, _ => none
def zCQ_cx (R : Type) (n : Nat) : Cx R := ⟨Tryz.prog, Gof (zCQ_cs R n), zCQ_ds, zCQ_dx, zCQ_lp n, drawP Tryz.prog (Gof (zCQ_cs R n)), false, noJn, noFz⟩
theorem zCQ_ok [Esc R] (n : Nat) : Good Tryz.prog 98 (zCQ_g (R := R) n) := by
  unfold zCQ_g
  rw [zCQ_e]
  exact Good.fn (cx := zCQ_cx R n) (by kernel_rfl) (AllGood.cons (zDM_ok n) (AllGood.nil)) rfl Tryz.func98 (by kernel_rfl) rfl (by
    have e : fnLoops noJn Tryz.f98 = [((fnLoops noJn Tryz.f98)[0]?).getD (false, .skip)] := by kernel_rfl
    show LoopRuns _ _ (fnLoops noJn _)
    rw [e]
    exact ⟨LoopRun.loop (by kernel_rfl) (i := 2) (m := n) (step := zCQ_l2 n) (by kernel_rfl) (fun a k1 k2 => by kernel_rfl) (fun _ _ => rfl), trivial⟩) 1 zCQ_d (by kernel_rfl) (fun x k => by kernel_rfl)
def zAN_ds : Nat → Desc
  | 4 => ⟨[(0, .d .str), (3, .d (.int .i64))], []⟩
  | _ => ⟨[], []⟩
def zAN_dx : Nat → List (X × Desc)
  | 4 => [(.r, ⟨[(2, .d .bool)], []⟩), (.e 0, ⟨[], []⟩)]
  | _ => []
def zAN_s4 (n : Nat) (x0 : ByteArray) (x1 : Int) (k1 : ByteArray → Int → Option R) (qr : Bool → Option R) (qe0 : Option R) : Option R :=
  if (decide (x1 < (x0.size : Int))) = true then (if (0 : Int) ≤ x1 then if x1 < (x0.size : Int) then (if (decide ((byteAt x0 x1) ≥ 97)) = true then (if (!(decide ((byteAt x0 x1) ≤ 122))) = true then (if (x1 == 0) = true then (qr false) else (if ((byteAt x0 x1) != 95) = true then (if (decide ((byteAt x0 x1) < 48)) = true then (qr false) else (if (decide ((byteAt x0 x1) > 57)) = true then (qr false) else (k1 x0 (IntKind.i64.wrap (x1 + 1))))) else (k1 x0 (IntKind.i64.wrap (x1 + 1))))) else (k1 x0 (IntKind.i64.wrap (x1 + 1)))) else (if (x1 == 0) = true then (qr false) else (if ((byteAt x0 x1) != 95) = true then (if (decide ((byteAt x0 x1) < 48)) = true then (qr false) else (if (decide ((byteAt x0 x1) > 57)) = true then (qr false) else (k1 x0 (IntKind.i64.wrap (x1 + 1))))) else (k1 x0 (IntKind.i64.wrap (x1 + 1)))))) else none else none) else qe0
def zAN_l4 (n : Nat) (a : (zAN_ds 4).D) (k1 : (zAN_ds 4).D → Option R) (k2 : exK R (zAN_dx 4)) : Option R :=
  zAN_s4 n a.1 a.2.1 (fun x0 x1 => k1 (x0, x1, ())) (fun x0 => k2.1 (x0, ())) (k2.2.1 (()))
@[reducible] def zAN_d : Desc := ⟨[(0, .d .str)], []⟩
def zAN_Fi (n : Nat) (a0 : ByteArray) (k0 : Bool → Option R) : Option R :=
  if (decide ((a0.size : Int) < 1)) = true then (k0 false) else (if (decide ((a0.size : Int) > 16)) = true then (k0 false) else (runC (zAN_l4 n) n (a0, 0, ()) (fun b1 => k0 b1.1, fun b1 => k0 true, ())))
def zAN_F {R : Type} := lazyN (@zAN_Fi R)
theorem zAN_e : @zAN_F R = @zAN_Fi R := lazyN_eq _
def zAN_g (n : Nat) : Gx R := typed 1 zAN_d fun x k => zAN_F n x.1 (fun y0 => k (.a (.c (.b y0))) [])
def zAN_cs (R : Type) (n : Nat) : List (Nat × Gx R) := []
def zAN_lp (n : Nat) : (i : Nat) → (zAN_ds i).D → exK R (zAN_dx i) → Option R
  | 4, a, k => runC (zAN_l4 n) n a k
  | _, _, _ => none
def zAN_cx (R : Type) (n : Nat) : Cx R := ⟨Tryz.prog, Gof (zAN_cs R n), zAN_ds, zAN_dx, zAN_lp n, drawP Tryz.prog (Gof (zAN_cs R n)), false, noJn, noFz⟩
theorem zAN_ok [Esc R] (n : Nat) : Good Tryz.prog 71 (zAN_g (R := R) n) := by
  unfold zAN_g
  rw [zAN_e]
  exact Good.fn (cx := zAN_cx R n) (by kernel_rfl) (AllGood.nil) rfl Tryz.func71 (by kernel_rfl) rfl (by
    have e : fnLoops noJn Tryz.f71 = [((fnLoops noJn Tryz.f71)[0]?).getD (false, .skip)] := by kernel_rfl
    show LoopRuns _ _ (fnLoops noJn _)
    rw [e]
    exact ⟨LoopRun.loop (by kernel_rfl) (i := 4) (m := n) (step := zAN_l4 n) (by kernel_rfl) (fun a k1 k2 => by kernel_rfl) (fun _ _ => rfl), trivial⟩) 1 zAN_d (by kernel_rfl) (fun x k => by kernel_rfl)
@[reducible] def zCN_d : Desc := ⟨[(0, .d (.int .u8))], []⟩
def zCN_Fi (n : Nat) (a0 : Int) (k0 : Bool → Option R) : Option R :=
  if (decide (a0 ≥ 97)) = true then (k0 (decide (a0 ≤ 122))) else (k0 false)
def zCN_F {R : Type} := lazyN (@zCN_Fi R)
theorem zCN_e : @zCN_F R = @zCN_Fi R := lazyN_eq _
def zCN_g (n : Nat) : Gx R := typed 1 zCN_d fun x k => zCN_F n x.1 (fun y0 => k (.a (.c (.b y0))) [])
def zCN_cs (R : Type) (n : Nat) : List (Nat × Gx R) := []
def zCN_cx (R : Type) (n : Nat) : Cx R := ⟨Tryz.prog, Gof (zCN_cs R n), noDs, noDx, noLp, drawP Tryz.prog (Gof (zCN_cs R n)), false, noJn, noFz⟩
theorem zCN_ok [Esc R] (n : Nat) : Good Tryz.prog 120 (zCN_g (R := R) n) := by
  unfold zCN_g
  rw [zCN_e]
  exact Good.fn (cx := zCN_cx R n) (by kernel_rfl) (AllGood.nil) rfl Tryz.func120 (by kernel_rfl) rfl trivial 1 zCN_d (by kernel_rfl) (fun x k => by kernel_rfl)
def zBL_ds : Nat → Desc
  | 4 => ⟨[(0, .d .str), (19, .d (.int .i64)), (20, .d (.int .i64))], []⟩
  | _ => ⟨[], []⟩
def zBL_dx : Nat → List (X × Desc)
  | 4 => [(.r, ⟨[(2, .d .bool)], []⟩), (.e 0, ⟨[], []⟩)]
  | _ => []
def zBL_s4 (n : Nat) (x0 : ByteArray) (x1 : Int) (x2 : Int) (k1 : ByteArray → Int → Int → Option R) (qr : Bool → Option R) (qe0 : Option R) : Option R :=
  if (decide (x2 < x1)) = true then (if (0 : Int) ≤ x2 then if x2 < (x0.size : Int) then (zCN_F n (byteAt x0 x2) (fun y2 => if (!y2) = true then (if (decide ((byteAt x0 x2) < 48)) = true then (if ((byteAt x0 x2) != 95) = true then (qr false) else (k1 x0 x1 (IntKind.i64.wrap (x2 + 1)))) else (if (decide ((byteAt x0 x2) > 57)) = true then (if ((byteAt x0 x2) != 95) = true then (qr false) else (k1 x0 x1 (IntKind.i64.wrap (x2 + 1)))) else (k1 x0 x1 (IntKind.i64.wrap (x2 + 1))))) else (k1 x0 x1 (IntKind.i64.wrap (x2 + 1))))) else none else none) else qe0
def zBL_l4 (n : Nat) (a : (zBL_ds 4).D) (k1 : (zBL_ds 4).D → Option R) (k2 : exK R (zBL_dx 4)) : Option R :=
  zBL_s4 n a.1 a.2.1 a.2.2.1 (fun x0 x1 x2 => k1 (x0, x1, x2, ())) (fun x0 => k2.1 (x0, ())) (k2.2.1 (()))
@[reducible] def zBL_d : Desc := ⟨[(0, .d .str)], []⟩
def zBL_Fi (n : Nat) (a0 : ByteArray) (k0 : Bool → Option R) : Option R :=
  if (a0.toList == (⟨#[]⟩ : ByteArray).toList) = true then (k0 false) else (if (decide ((a0.size : Int) > 16)) = true then (k0 false) else (if (0 : Int) ≤ 0 then if 0 < (a0.size : Int) then (zCN_F n (byteAt a0 0) (fun y1 => if (!y1) = true then (k0 false) else (runC (zBL_l4 n) n (a0, (a0.size : Int), 0, ()) (fun b3 => k0 b3.1, fun b3 => k0 true, ())))) else none else none))
def zBL_F {R : Type} := lazyN (@zBL_Fi R)
theorem zBL_e : @zBL_F R = @zBL_Fi R := lazyN_eq _
def zBL_g (n : Nat) : Gx R := typed 1 zBL_d fun x k => zBL_F n x.1 (fun y0 => k (.a (.c (.b y0))) [])
def zBL_cs (R : Type) (n : Nat) : List (Nat × Gx R) := [(120, zCN_g n)]
def zBL_lp (n : Nat) : (i : Nat) → (zBL_ds i).D → exK R (zBL_dx i) → Option R
  | 4, a, k => runC (zBL_l4 n) n a k
  | _, _, _ => none
def zBL_cx (R : Type) (n : Nat) : Cx R := ⟨Tryz.prog, Gof (zBL_cs R n), zBL_ds, zBL_dx, zBL_lp n, drawP Tryz.prog (Gof (zBL_cs R n)), false, noJn, noFz⟩
theorem zBL_ok [Esc R] (n : Nat) : Good Tryz.prog 93 (zBL_g (R := R) n) := by
  unfold zBL_g
  rw [zBL_e]
  exact Good.fn (cx := zBL_cx R n) (by kernel_rfl) (AllGood.cons (zCN_ok n) (AllGood.nil)) rfl Tryz.func93 (by kernel_rfl) rfl (by
    have e : fnLoops noJn Tryz.f93 = [((fnLoops noJn Tryz.f93)[0]?).getD (false, .skip)] := by kernel_rfl
    show LoopRuns _ _ (fnLoops noJn _)
    rw [e]
    exact ⟨LoopRun.loop (by kernel_rfl) (i := 4) (m := n) (step := zBL_l4 n) (by kernel_rfl) (fun a k1 k2 => by kernel_rfl) (fun _ _ => rfl), trivial⟩) 1 zBL_d (by kernel_rfl) (fun x k => by kernel_rfl)
@[reducible] def zC_d : Desc := ⟨[(0, .pt 0 0)], [.box true 57 [.ow 1, .d (.int .i64), .d (.int .i64), .d (.int .i64)], .arr 60 ty60]⟩
def zC_Fi (n : Nat) (a0 : Int) (a1 : Int) (a2 : Int) (a3 : (List ty60.D)) (k0 : ty60.D → Int → Int → Int → (List ty60.D) → Option R) : Option R :=
  if (0 : Int) ≤ a0 ∧ a0 < (a3.length : Int) then (if (Int.toNat a0) < a3.length then (k0 ((a3.getD (Int.toNat a0) (Ty.z ty60)).1, (a3.getD (Int.toNat a0) (Ty.z ty60)).2.1, ((a3.getD (Int.toNat a0) (Ty.z ty60)).2.2.1), (a3.getD (Int.toNat a0) (Ty.z ty60)).2.2.2.1, ()) a0 a1 a2 a3) else none) else none
def zC_F {R : Type} := lazyN (@zC_Fi R)
theorem zC_e : @zC_F R = @zC_Fi R := lazyN_eq _
def zC_g (n : Nat) : Gx R := typed 1 zC_d fun x k => zC_F n x.1 x.2.1 x.2.2.1 x.2.2.2.1 (fun y0 y1 y2 y3 y4 => k (.a (encA ty60 y0)) [(.box true 57 [(.ow 1), (.i .i64 y1), (.i .i64 y2), (.i .i64 y3)]), (.arr 60 ty60 y4)])
def zC_cs (R : Type) (n : Nat) : List (Nat × Gx R) := []
def zC_cx (R : Type) (n : Nat) : Cx R := ⟨Tryz.prog, Gof (zC_cs R n), noDs, noDx, noLp, drawP Tryz.prog (Gof (zC_cs R n)), false, noJn, noFz⟩
theorem zC_ok [Esc R] (n : Nat) : Good Tryz.prog 19 (zC_g (R := R) n) := by
  unfold zC_g
  rw [zC_e]
  exact Good.fn (cx := zC_cx R n) (by kernel_rfl) (AllGood.nil) rfl Tryz.func19 (by kernel_rfl) rfl trivial 1 zC_d (by kernel_rfl) (fun x k => by kernel_rfl)
@[reducible] def zAT_d : Desc := ⟨[(0, .pt 0 0), (1, .d .str)], [.box true 57 [.ow 1, .d (.int .i64), .d (.int .i64), .d (.int .i64)], .arr 60 ty60]⟩
def zAT_Fi (n : Nat) (a0 : ByteArray) (a1 : Int) (a2 : Int) (a3 : Int) (a4 : (List ty60.D)) (k0 : Bool → Int → Int → Int → (List ty60.D) → Option R) : Option R :=
  zC_F n a1 a2 a3 a4 (fun y1 y2 y3 y4 y5 => if (y3 == 0) = true then (if (y1.1 == 1) = true then (k0 (y1.2.1.toList == a0.toList) y2 y3 y4 y5) else (if (y1.1 == 3) = true then (k0 (y1.2.1.toList == a0.toList) y2 y3 y4 y5) else (k0 false y2 y3 y4 y5))) else (k0 false y2 y3 y4 y5))
def zAT_F {R : Type} := lazyN (@zAT_Fi R)
theorem zAT_e : @zAT_F R = @zAT_Fi R := lazyN_eq _
def zAT_g (n : Nat) : Gx R := typed 2 zAT_d fun x k => zAT_F n x.1 x.2.1 x.2.2.1 x.2.2.2.1 x.2.2.2.2.1 (fun y0 y1 y2 y3 y4 => k (.a (.c (.b y0))) [(.box true 57 [(.ow 1), (.i .i64 y1), (.i .i64 y2), (.i .i64 y3)]), (.arr 60 ty60 y4)])
def zAT_cs (R : Type) (n : Nat) : List (Nat × Gx R) := [(19, zC_g n)]
def zAT_cx (R : Type) (n : Nat) : Cx R := ⟨Tryz.prog, Gof (zAT_cs R n), noDs, noDx, noLp, drawP Tryz.prog (Gof (zAT_cs R n)), false, noJn, noFz⟩
theorem zAT_ok [Esc R] (n : Nat) : Good Tryz.prog 45 (zAT_g (R := R) n) := by
  unfold zAT_g
  rw [zAT_e]
  exact Good.fn (cx := zAT_cx R n) (by kernel_rfl) (AllGood.cons (zC_ok n) (AllGood.nil)) rfl Tryz.func45 (by kernel_rfl) rfl trivial 2 zAT_d (by kernel_rfl) (fun x k => by kernel_rfl)
@[reducible] def zN_d : Desc := ⟨[(0, .pt 0 0)], [.box true 57 [.ow 1, .d (.int .i64), .d (.int .i64), .d (.int .i64)], .arr 60 ty60]⟩
def zN_Fi (n : Nat) (a0 : Int) (a1 : Int) (a2 : Int) (a3 : (List ty60.D)) (k0 : Int → Int → Int → (List ty60.D) → Option R) : Option R :=
  if (decide ((IntKind.i64.wrap (a0 + 1)) < (a3.length : Int))) = true then (k0 (IntKind.i64.wrap (a0 + 1)) a1 a2 a3) else (k0 a0 a1 a2 a3)
def zN_F {R : Type} := lazyN (@zN_Fi R)
theorem zN_e : @zN_F R = @zN_Fi R := lazyN_eq _
def zN_g (n : Nat) : Gx R := typed 1 zN_d fun x k => zN_F n x.1 x.2.1 x.2.2.1 x.2.2.2.1 (fun y0 y1 y2 y3 => k (.tu []) [(.box true 57 [(.ow 1), (.i .i64 y0), (.i .i64 y1), (.i .i64 y2)]), (.arr 60 ty60 y3)])
def zN_cs (R : Type) (n : Nat) : List (Nat × Gx R) := []
def zN_cx (R : Type) (n : Nat) : Cx R := ⟨Tryz.prog, Gof (zN_cs R n), noDs, noDx, noLp, drawP Tryz.prog (Gof (zN_cs R n)), false, noJn, noFz⟩
theorem zN_ok [Esc R] (n : Nat) : Good Tryz.prog 23 (zN_g (R := R) n) := by
  unfold zN_g
  rw [zN_e]
  exact Good.fn (cx := zN_cx R n) (by kernel_rfl) (AllGood.nil) rfl Tryz.func23 (by kernel_rfl) rfl trivial 1 zN_d (by kernel_rfl) (fun x k => by kernel_rfl)
@[reducible] def zG_d : Desc := ⟨[(0, .pt 0 0), (1, .d .str)], [.box true 57 [.ow 1, .d (.int .i64), .d (.int .i64), .d (.int .i64)], .arr 60 ty60]⟩
def zG_Fi (n : Nat) (a0 : ByteArray) (a1 : Int) (a2 : Int) (a3 : Int) (a4 : (List ty60.D)) (k0 : Bool → Int → Int → Int → (List ty60.D) → Option R) : Option R :=
  zAT_F n a0 a1 a2 a3 a4 (fun y1 y2 y3 y4 y5 => if (!y1) = true then (k0 false y2 y3 y4 y5) else (zN_F n y2 y3 y4 y5 (fun y6 y7 y8 y9 => k0 true y6 y7 y8 y9)))
def zG_F {R : Type} := lazyN (@zG_Fi R)
theorem zG_e : @zG_F R = @zG_Fi R := lazyN_eq _
def zG_g (n : Nat) : Gx R := typed 2 zG_d fun x k => zG_F n x.1 x.2.1 x.2.2.1 x.2.2.2.1 x.2.2.2.2.1 (fun y0 y1 y2 y3 y4 => k (.a (.c (.b y0))) [(.box true 57 [(.ow 1), (.i .i64 y1), (.i .i64 y2), (.i .i64 y3)]), (.arr 60 ty60 y4)])
def zG_cs (R : Type) (n : Nat) : List (Nat × Gx R) := [(23, zN_g n), (45, zAT_g n)]
def zG_cx (R : Type) (n : Nat) : Cx R := ⟨Tryz.prog, Gof (zG_cs R n), noDs, noDx, noLp, drawP Tryz.prog (Gof (zG_cs R n)), false, noJn, noFz⟩
theorem zG_ok [Esc R] (n : Nat) : Good Tryz.prog 17 (zG_g (R := R) n) := by
  unfold zG_g
  rw [zG_e]
  exact Good.fn (cx := zG_cx R n) (by kernel_rfl) (AllGood.cons (zN_ok n) (AllGood.cons (zAT_ok n) (AllGood.nil))) rfl Tryz.func17 (by kernel_rfl) rfl trivial 2 zG_d (by kernel_rfl) (fun x k => by kernel_rfl)
@[reducible] def zAP_d : Desc := ⟨[(0, .pt 0 0)], [.box true 57 [.ow 1, .d (.int .i64), .d (.int .i64), .d (.int .i64)], .arr 60 ty60]⟩
def zAP_Fi (n : Nat) (a0 : Int) (a1 : Int) (a2 : Int) (a3 : (List ty60.D)) (k0 : Bool → Int → Int → Int → (List ty60.D) → Option R) : Option R :=
  zC_F n a0 a1 a2 a3 (fun y1 y2 y3 y4 y5 => if (y3 == 0) = true then (if (y1.1 == 1) = true then (zAN_F n y1.2.1 (fun y6 => if y6 = true then (zZ_F n y1.2.1 (fun y7 => k0 (!y7) y2 y3 y4 y5)) else (k0 false y2 y3 y4 y5))) else (k0 false y2 y3 y4 y5)) else (k0 false y2 y3 y4 y5))
def zAP_F {R : Type} := lazyN (@zAP_Fi R)
theorem zAP_e : @zAP_F R = @zAP_Fi R := lazyN_eq _
def zAP_g (n : Nat) : Gx R := typed 1 zAP_d fun x k => zAP_F n x.1 x.2.1 x.2.2.1 x.2.2.2.1 (fun y0 y1 y2 y3 y4 => k (.a (.c (.b y0))) [(.box true 57 [(.ow 1), (.i .i64 y1), (.i .i64 y2), (.i .i64 y3)]), (.arr 60 ty60 y4)])
def zAP_cs (R : Type) (n : Nat) : List (Nat × Gx R) := [(19, zC_g n), (71, zAN_g n), (72, zZ_g n)]
def zAP_cx (R : Type) (n : Nat) : Cx R := ⟨Tryz.prog, Gof (zAP_cs R n), noDs, noDx, noLp, drawP Tryz.prog (Gof (zAP_cs R n)), false, noJn, noFz⟩
theorem zAP_ok [Esc R] (n : Nat) : Good Tryz.prog 46 (zAP_g (R := R) n) := by
  unfold zAP_g
  rw [zAP_e]
  exact Good.fn (cx := zAP_cx R n) (by kernel_rfl) (AllGood.cons (zC_ok n) (AllGood.cons (zAN_ok n) (AllGood.cons (zZ_ok n) (AllGood.nil)))) rfl Tryz.func46 (by kernel_rfl) rfl trivial 1 zAP_d (by kernel_rfl) (fun x k => by kernel_rfl)
@[reducible] def zE_d : Desc := ⟨[(0, .pt 0 0), (1, .d (.int .i64)), (2, .d (.int .i64))], [.box true 57 [.ow 1, .d (.int .i64), .d (.int .i64), .d (.int .i64)], .arr 60 ty60]⟩
def zE_Fi (n : Nat) (a0 : Int) (a1 : Int) (a2 : Int) (a3 : Int) (a4 : Int) (a5 : (List ty60.D)) (k0 : Int → Int → Int → (List ty60.D) → Option R) : Option R :=
  if (a3 == 0) = true then (k0 a2 a0 a1 a5) else (k0 a2 a3 a4 a5)
def zE_F {R : Type} := lazyN (@zE_Fi R)
theorem zE_e : @zE_F R = @zE_Fi R := lazyN_eq _
def zE_g (n : Nat) : Gx R := typed 3 zE_d fun x k => zE_F n x.1 x.2.1 x.2.2.1 x.2.2.2.1 x.2.2.2.2.1 x.2.2.2.2.2.1 (fun y0 y1 y2 y3 => k (.tu []) [(.box true 57 [(.ow 1), (.i .i64 y0), (.i .i64 y1), (.i .i64 y2)]), (.arr 60 ty60 y3)])
def zE_cs (R : Type) (n : Nat) : List (Nat × Gx R) := []
def zE_cx (R : Type) (n : Nat) : Cx R := ⟨Tryz.prog, Gof (zE_cs R n), noDs, noDx, noLp, drawP Tryz.prog (Gof (zE_cs R n)), false, noJn, noFz⟩
theorem zE_ok [Esc R] (n : Nat) : Good Tryz.prog 18 (zE_g (R := R) n) := by
  unfold zE_g
  rw [zE_e]
  exact Good.fn (cx := zE_cx R n) (by kernel_rfl) (AllGood.nil) rfl Tryz.func18 (by kernel_rfl) rfl trivial 3 zE_d (by kernel_rfl) (fun x k => by kernel_rfl)
@[reducible] def zX_d : Desc := ⟨[(0, .pt 0 0)], [.box true 57 [.ow 1, .d (.int .i64), .d (.int .i64), .d (.int .i64)], .arr 60 ty60]⟩
def zX_Fi (n : Nat) (a0 : Int) (a1 : Int) (a2 : Int) (a3 : (List ty60.D)) (k0 : ByteArray → Int → Int → Int → (List ty60.D) → Option R) : Option R :=
  zAP_F n a0 a1 a2 a3 (fun y1 y2 y3 y4 y5 => if (!y1) = true then (zC_F n y2 y3 y4 y5 (fun y6 y7 y8 y9 y10 => zE_F n 7 y6.2.2.2.1 y7 y8 y9 y10 (fun y11 y12 y13 y14 => k0 (⟨#[]⟩ : ByteArray) y11 y12 y13 y14))) else (zC_F n y2 y3 y4 y5 (fun y15 y16 y17 y18 y19 => zN_F n y16 y17 y18 y19 (fun y20 y21 y22 y23 => k0 y15.2.1 y20 y21 y22 y23))))
def zX_F {R : Type} := lazyN (@zX_Fi R)
theorem zX_e : @zX_F R = @zX_Fi R := lazyN_eq _
def zX_g (n : Nat) : Gx R := typed 1 zX_d fun x k => zX_F n x.1 x.2.1 x.2.2.1 x.2.2.2.1 (fun y0 y1 y2 y3 y4 => k (.a (.c (.s y0))) [(.box true 57 [(.ow 1), (.i .i64 y1), (.i .i64 y2), (.i .i64 y3)]), (.arr 60 ty60 y4)])
def zX_cs (R : Type) (n : Nat) : List (Nat × Gx R) := [(18, zE_g n), (19, zC_g n), (23, zN_g n), (46, zAP_g n)]
def zX_cx (R : Type) (n : Nat) : Cx R := ⟨Tryz.prog, Gof (zX_cs R n), noDs, noDx, noLp, drawP Tryz.prog (Gof (zX_cs R n)), false, noJn, noFz⟩
theorem zX_ok [Esc R] (n : Nat) : Good Tryz.prog 20 (zX_g (R := R) n) := by
  unfold zX_g
  rw [zX_e]
  exact Good.fn (cx := zX_cx R n) (by kernel_rfl) (AllGood.cons (zE_ok n) (AllGood.cons (zC_ok n) (AllGood.cons (zN_ok n) (AllGood.cons (zAP_ok n) (AllGood.nil))))) rfl Tryz.func20 (by kernel_rfl) rfl trivial 1 zX_d (by kernel_rfl) (fun x k => by kernel_rfl)
@[reducible] def zU_d : Desc := ⟨[(0, .pt 0 0), (1, .d .str)], [.box true 57 [.ow 1, .d (.int .i64), .d (.int .i64), .d (.int .i64)], .arr 60 ty60]⟩
def zU_Fi (n : Nat) (a0 : ByteArray) (a1 : Int) (a2 : Int) (a3 : Int) (a4 : (List ty60.D)) (k0 : Int → Int → Int → (List ty60.D) → Option R) : Option R :=
  zG_F n a0 a1 a2 a3 a4 (fun y1 y2 y3 y4 y5 => if (!y1) = true then (zC_F n y2 y3 y4 y5 (fun y6 y7 y8 y9 y10 => zE_F n 7 y6.2.2.2.1 y7 y8 y9 y10 (fun y11 y12 y13 y14 => k0 y11 y12 y13 y14))) else (k0 y2 y3 y4 y5))
def zU_F {R : Type} := lazyN (@zU_Fi R)
theorem zU_e : @zU_F R = @zU_Fi R := lazyN_eq _
def zU_g (n : Nat) : Gx R := typed 2 zU_d fun x k => zU_F n x.1 x.2.1 x.2.2.1 x.2.2.2.1 x.2.2.2.2.1 (fun y0 y1 y2 y3 => k (.tu []) [(.box true 57 [(.ow 1), (.i .i64 y0), (.i .i64 y1), (.i .i64 y2)]), (.arr 60 ty60 y3)])
def zU_cs (R : Type) (n : Nat) : List (Nat × Gx R) := [(17, zG_g n), (18, zE_g n), (19, zC_g n)]
def zU_cx (R : Type) (n : Nat) : Cx R := ⟨Tryz.prog, Gof (zU_cs R n), noDs, noDx, noLp, drawP Tryz.prog (Gof (zU_cs R n)), false, noJn, noFz⟩
theorem zU_ok [Esc R] (n : Nat) : Good Tryz.prog 21 (zU_g (R := R) n) := by
  unfold zU_g
  rw [zU_e]
  exact Good.fn (cx := zU_cx R n) (by kernel_rfl) (AllGood.cons (zG_ok n) (AllGood.cons (zE_ok n) (AllGood.cons (zC_ok n) (AllGood.nil)))) rfl Tryz.func21 (by kernel_rfl) rfl trivial 2 zU_d (by kernel_rfl) (fun x k => by kernel_rfl)
def zI_ds : Nat → Desc
  | 3 => ⟨[(0, .pt 0 0), (1, .pt 2 0), (5, .ow 5), (6, .d (.int .i64))], [.box true 57 [.ow 1, .d (.int .i64), .d (.int .i64), .d (.int .i64)], .arr 60 ty60, .box true 25 [.d (.int .i64), .d .str, .ow 3, .d (.int .i64), .d .str, .d (.int .i64), .ow 4], .arr 9 .str, .arr 51 ty51, .arr 9 .str]⟩
  | _ => ⟨[], []⟩
def zI_dx : Nat → List (X × Desc)
  | 3 => [(.r, ⟨[(4, .d .bool)], [.box true 57 [.ow 1, .d (.int .i64), .d (.int .i64), .d (.int .i64)], .arr 60 ty60, .box true 25 [.d (.int .i64), .d .str, .ow 3, .d (.int .i64), .d .str, .d (.int .i64), .ow 4], .arr 9 .str, .arr 51 ty51]⟩), (.e 0, ⟨[], [.box true 57 [.ow 1, .d (.int .i64), .d (.int .i64), .d (.int .i64)], .arr 60 ty60, .box true 25 [.d (.int .i64), .d .str, .ow 3, .d (.int .i64), .d .str, .d (.int .i64), .ow 4], .arr 9 .str, .arr 51 ty51]⟩)]
  | _ => []
def zI_s3 (n : Nat) (x0 : Int) (x1 : Int) (x2 : Int) (x3 : Int) (x4 : (List ty60.D)) (x5 : Int) (x6 : ByteArray) (x7 : Int) (x8 : ByteArray) (x9 : Int) (x10 : (List ByteArray)) (x11 : (List ty51.D)) (x12 : (List ByteArray)) (k1 : Int → Int → Int → Int → (List ty60.D) → Int → ByteArray → Int → ByteArray → Int → (List ByteArray) → (List ty51.D) → (List ByteArray) → Option R) (qr : Bool → Int → Int → Int → (List ty60.D) → Int → ByteArray → Int → ByteArray → Int → (List ByteArray) → (List ty51.D) → Option R) (qe0 : Int → Int → Int → (List ty60.D) → Int → ByteArray → Int → ByteArray → Int → (List ByteArray) → (List ty51.D) → Option R) : Option R :=
  if (decide (x0 < (x12.length : Int))) = true then (if (0 : Int) ≤ x0 ∧ x0 < (x12.length : Int) then (if (Int.toNat x0) < x12.length then (zAT_F n (x12.getD (Int.toNat x0) (Ty.z .str)) x1 x2 x3 x4 (fun y1 y2 y3 y4 y5 => if (!y1) = true then (k1 (IntKind.i64.wrap (x0 + 1)) y2 y3 y4 y5 x5 x6 x7 x8 x9 x10 x11 x12) else (if (x5 == 1) = true then (zC_F n y2 y3 y4 y5 (fun y6 y7 y8 y9 y10 => zE_F n 7 y6.2.2.2.1 y7 y8 y9 y10 (fun y11 y12 y13 y14 => qr true y11 y12 y13 y14 x5 x6 x7 x8 x9 x10 x11))) else (if (x5 == 3) = true then (if (decide (x0 > 2)) = true then (zC_F n y2 y3 y4 y5 (fun y15 y16 y17 y18 y19 => zE_F n 7 y15.2.2.2.1 y16 y17 y18 y19 (fun y20 y21 y22 y23 => qr true y20 y21 y22 y23 x5 x6 x7 x8 x9 x10 x11))) else (zN_F n y2 y3 y4 y5 (fun y24 y25 y26 y27 => if (decide (x0 > 1)) = true then (zX_F n y24 y25 y26 y27 (fun y28 y29 y30 y31 y32 => qr true y29 y30 y31 y32 x5 x6 x0 y28 x9 x10 x11)) else (qr true y24 y25 y26 y27 x5 x6 x0 x8 x9 x10 x11)))) else (zN_F n y2 y3 y4 y5 (fun y33 y34 y35 y36 => if (decide (x0 > 1)) = true then (zX_F n y33 y34 y35 y36 (fun y37 y38 y39 y40 y41 => qr true y38 y39 y40 y41 x5 x6 x0 y37 x9 x10 x11)) else (qr true y33 y34 y35 y36 x5 x6 x0 x8 x9 x10 x11))))))) else none) else none) else (qe0 x1 x2 x3 x4 x5 x6 x7 x8 x9 x10 x11)
def zI_l3 (n : Nat) (a : (zI_ds 3).D) (k1 : (zI_ds 3).D → Option R) (k2 : exK R (zI_dx 3)) : Option R :=
  zI_s3 n a.1 a.2.1 a.2.2.1 a.2.2.2.1 a.2.2.2.2.1 a.2.2.2.2.2.1 a.2.2.2.2.2.2.1 a.2.2.2.2.2.2.2.1 a.2.2.2.2.2.2.2.2.1 a.2.2.2.2.2.2.2.2.2.1 a.2.2.2.2.2.2.2.2.2.2.1 a.2.2.2.2.2.2.2.2.2.2.2.1 a.2.2.2.2.2.2.2.2.2.2.2.2.1 (fun x0 x1 x2 x3 x4 x5 x6 x7 x8 x9 x10 x11 x12 => k1 (x0, x1, x2, x3, x4, x5, x6, x7, x8, x9, x10, x11, x12, ())) (fun x0 x1 x2 x3 x4 x5 x6 x7 x8 x9 x10 x11 => k2.1 (x0, x1, x2, x3, x4, x5, x6, x7, x8, x9, x10, x11, ())) (fun x0 x1 x2 x3 x4 x5 x6 x7 x8 x9 x10 => k2.2.1 (x0, x1, x2, x3, x4, x5, x6, x7, x8, x9, x10, ()))
@[reducible] def zI_d : Desc := ⟨[(0, .pt 0 0), (1, .pt 2 0)], [.box true 57 [.ow 1, .d (.int .i64), .d (.int .i64), .d (.int .i64)], .arr 60 ty60, .box true 25 [.d (.int .i64), .d .str, .ow 3, .d (.int .i64), .d .str, .d (.int .i64), .ow 4], .arr 9 .str, .arr 51 ty51]⟩
def zI_Fi (n : Nat) (a0 : Int) (a1 : Int) (a2 : Int) (a3 : (List ty60.D)) (a4 : Int) (a5 : ByteArray) (a6 : Int) (a7 : ByteArray) (a8 : Int) (a9 : (List ByteArray)) (a10 : (List ty51.D)) (k0 : Bool → Int → Int → Int → (List ty60.D) → Int → ByteArray → Int → ByteArray → Int → (List ByteArray) → (List ty51.D) → Option R) : Option R :=
  runC (zI_l3 n) n (1, a0, a1, a2, a3, a4, a5, a6, a7, a8, a9, a10, [(⟨#[]⟩ : ByteArray), (⟨#[99, 111, 117, 110, 116]⟩ : ByteArray), (⟨#[115, 117, 109]⟩ : ByteArray), (⟨#[108, 101, 97, 115, 116]⟩ : ByteArray), (⟨#[109, 111, 115, 116]⟩ : ByteArray)], ()) (fun b53 => k0 b53.1 b53.2.1 b53.2.2.1 b53.2.2.2.1 b53.2.2.2.2.1 b53.2.2.2.2.2.1 b53.2.2.2.2.2.2.1 b53.2.2.2.2.2.2.2.1 b53.2.2.2.2.2.2.2.2.1 b53.2.2.2.2.2.2.2.2.2.1 b53.2.2.2.2.2.2.2.2.2.2.1 b53.2.2.2.2.2.2.2.2.2.2.2.1, fun b64 => k0 false b64.1 b64.2.1 b64.2.2.1 b64.2.2.2.1 b64.2.2.2.2.1 b64.2.2.2.2.2.1 b64.2.2.2.2.2.2.1 b64.2.2.2.2.2.2.2.1 b64.2.2.2.2.2.2.2.2.1 b64.2.2.2.2.2.2.2.2.2.1 b64.2.2.2.2.2.2.2.2.2.2.1, ())
def zI_F {R : Type} := lazyN (@zI_Fi R)
theorem zI_e : @zI_F R = @zI_Fi R := lazyN_eq _
def zI_g (n : Nat) : Gx R := typed 2 zI_d fun x k => zI_F n x.1 x.2.1 x.2.2.1 x.2.2.2.1 x.2.2.2.2.1 x.2.2.2.2.2.1 x.2.2.2.2.2.2.1 x.2.2.2.2.2.2.2.1 x.2.2.2.2.2.2.2.2.1 x.2.2.2.2.2.2.2.2.2.1 x.2.2.2.2.2.2.2.2.2.2.1 (fun y0 y1 y2 y3 y4 y5 y6 y7 y8 y9 y10 y11 => k (.a (.c (.b y0))) [(.box true 57 [(.ow 1), (.i .i64 y1), (.i .i64 y2), (.i .i64 y3)]), (.arr 60 ty60 y4), (.box true 25 [(.i .i64 y5), (.s y6), (.ow 3), (.i .i64 y7), (.s y8), (.i .i64 y9), (.ow 4)]), (.arr 9 .str y10), (.arr 51 ty51 y11)])
def zI_cs (R : Type) (n : Nat) : List (Nat × Gx R) := [(18, zE_g n), (19, zC_g n), (20, zX_g n), (23, zN_g n), (45, zAT_g n)]
def zI_lp (n : Nat) : (i : Nat) → (zI_ds i).D → exK R (zI_dx i) → Option R
  | 3, a, k => runC (zI_l3 n) n a k
  | _, _, _ => none
def zI_cx (R : Type) (n : Nat) : Cx R := ⟨Tryz.prog, Gof (zI_cs R n), zI_ds, zI_dx, zI_lp n, drawP Tryz.prog (Gof (zI_cs R n)), false, noJn, noFz⟩
theorem zI_ok [Esc R] (n : Nat) : Good Tryz.prog 47 (zI_g (R := R) n) := by
  unfold zI_g
  rw [zI_e]
  exact Good.fn (cx := zI_cx R n) (by kernel_rfl) (AllGood.cons (zE_ok n) (AllGood.cons (zC_ok n) (AllGood.cons (zX_ok n) (AllGood.cons (zN_ok n) (AllGood.cons (zAT_ok n) (AllGood.nil)))))) rfl Tryz.func47 (by kernel_rfl) rfl (by
    have e : fnLoops noJn Tryz.f47 = [((fnLoops noJn Tryz.f47)[0]?).getD (false, .skip)] := by kernel_rfl
    show LoopRuns _ _ (fnLoops noJn _)
    rw [e]
    exact ⟨LoopRun.loop (by kernel_rfl) (i := 3) (m := n) (step := zI_l3 n) (by kernel_rfl) (fun a k1 k2 => by kernel_rfl) (fun _ _ => rfl), trivial⟩) 2 zI_d (by kernel_rfl) (fun x k => by kernel_rfl)
def zM_ds : Nat → Desc
  | 6 => ⟨[(0, .pt 0 0), (1, .pt 2 0), (4, .d (.int .i64))], [.box true 57 [.ow 1, .d (.int .i64), .d (.int .i64), .d (.int .i64)], .arr 60 ty60, .box true 25 [.d (.int .i64), .d .str, .ow 3, .d (.int .i64), .d .str, .d (.int .i64), .ow 4], .arr 9 .str, .arr 51 ty51]⟩
  | _ => ⟨[], []⟩
def zM_dx : Nat → List (X × Desc)
  | 6 => [(.r, ⟨[], [.box true 57 [.ow 1, .d (.int .i64), .d (.int .i64), .d (.int .i64)], .arr 60 ty60, .box true 25 [.d (.int .i64), .d .str, .ow 3, .d (.int .i64), .d .str, .d (.int .i64), .ow 4], .arr 9 .str, .arr 51 ty51]⟩), (.e 0, ⟨[], [.box true 57 [.ow 1, .d (.int .i64), .d (.int .i64), .d (.int .i64)], .arr 60 ty60, .box true 25 [.d (.int .i64), .d .str, .ow 3, .d (.int .i64), .d .str, .d (.int .i64), .ow 4], .arr 9 .str, .arr 51 ty51]⟩)]
  | _ => []
def zM_s6 (n : Nat) (x0 : Int) (x1 : Int) (x2 : Int) (x3 : Int) (x4 : (List ty60.D)) (x5 : Int) (x6 : ByteArray) (x7 : Int) (x8 : ByteArray) (x9 : Int) (x10 : (List ByteArray)) (x11 : (List ty51.D)) (k1 : Int → Int → Int → Int → (List ty60.D) → Int → ByteArray → Int → ByteArray → Int → (List ByteArray) → (List ty51.D) → Option R) (qr : Int → Int → Int → (List ty60.D) → Int → ByteArray → Int → ByteArray → Int → (List ByteArray) → (List ty51.D) → Option R) (qe0 : Int → Int → Int → (List ty60.D) → Int → ByteArray → Int → ByteArray → Int → (List ByteArray) → (List ty51.D) → Option R) : Option R :=
  if (decide (x0 < 400)) = true then (if (x2 == 0) = true then (zI_F n x1 x2 x3 x4 x5 x6 x7 x8 x9 x10 x11 (fun y31 y32 y33 y34 y35 y36 y37 y38 y39 y40 y41 y42 => if y31 = true then (qr y32 y33 y34 y35 y36 y37 y38 y39 y40 y41 y42) else (zC_F n y32 y33 y34 y35 (fun y43 y44 y45 y46 y47 => zX_F n y44 y45 y46 y47 (fun y48 y49 y50 y51 y52 => if (decide ((y41.length : Int) ≥ 40)) = true then (zE_F n 9 y43.2.2.2.1 y49 y50 y51 y52 (fun y53 y54 y55 y56 => if (List.length y41 + List.length [y48]) * 16 ≤ 140737488355328 then (zG_F n (⟨#[44]⟩ : ByteArray) y53 y54 y55 y56 (fun y57 y58 y59 y60 y61 => if (!y57) = true then (qr y58 y59 y60 y61 y36 y37 y38 y39 y40 (y41 ++ [y48]) y42) else (k1 (IntKind.i64.wrap (x0 + 1)) y58 y59 y60 y61 y36 y37 y38 y39 y40 (y41 ++ [y48]) y42))) else none)) else (if (List.length y41 + List.length [y48]) * 16 ≤ 140737488355328 then (zG_F n (⟨#[44]⟩ : ByteArray) y49 y50 y51 y52 (fun y62 y63 y64 y65 y66 => if (!y62) = true then (qr y63 y64 y65 y66 y36 y37 y38 y39 y40 (y41 ++ [y48]) y42) else (k1 (IntKind.i64.wrap (x0 + 1)) y63 y64 y65 y66 y36 y37 y38 y39 y40 (y41 ++ [y48]) y42))) else none)))))) else (qe0 x1 x2 x3 x4 x5 x6 x7 x8 x9 x10 x11)) else (qe0 x1 x2 x3 x4 x5 x6 x7 x8 x9 x10 x11)
def zM_l6 (n : Nat) (a : (zM_ds 6).D) (k1 : (zM_ds 6).D → Option R) (k2 : exK R (zM_dx 6)) : Option R :=
  zM_s6 n a.1 a.2.1 a.2.2.1 a.2.2.2.1 a.2.2.2.2.1 a.2.2.2.2.2.1 a.2.2.2.2.2.2.1 a.2.2.2.2.2.2.2.1 a.2.2.2.2.2.2.2.2.1 a.2.2.2.2.2.2.2.2.2.1 a.2.2.2.2.2.2.2.2.2.2.1 a.2.2.2.2.2.2.2.2.2.2.2.1 (fun x0 x1 x2 x3 x4 x5 x6 x7 x8 x9 x10 x11 => k1 (x0, x1, x2, x3, x4, x5, x6, x7, x8, x9, x10, x11, ())) (fun x0 x1 x2 x3 x4 x5 x6 x7 x8 x9 x10 => k2.1 (x0, x1, x2, x3, x4, x5, x6, x7, x8, x9, x10, ())) (fun x0 x1 x2 x3 x4 x5 x6 x7 x8 x9 x10 => k2.2.1 (x0, x1, x2, x3, x4, x5, x6, x7, x8, x9, x10, ()))
@[reducible] def zM_d : Desc := ⟨[(0, .pt 0 0), (1, .pt 2 0)], [.box true 57 [.ow 1, .d (.int .i64), .d (.int .i64), .d (.int .i64)], .arr 60 ty60, .box true 25 [.d (.int .i64), .d .str, .ow 3, .d (.int .i64), .d .str, .d (.int .i64), .ow 4], .arr 9 .str, .arr 51 ty51]⟩
def zM_Fi (n : Nat) (a0 : Int) (a1 : Int) (a2 : Int) (a3 : (List ty60.D)) (a4 : Int) (a5 : ByteArray) (a6 : Int) (a7 : ByteArray) (a8 : Int) (a9 : (List ByteArray)) (a10 : (List ty51.D)) (k0 : Int → Int → Int → (List ty60.D) → Int → ByteArray → Int → ByteArray → Int → (List ByteArray) → (List ty51.D) → Option R) : Option R :=
  if (a4 == 3) = true then (zX_F n a0 a1 a2 a3 (fun y1 y2 y3 y4 y5 => if (List.length a9 + List.length [y1]) * 16 ≤ 140737488355328 then (zU_F n (⟨#[44]⟩ : ByteArray) y2 y3 y4 y5 (fun y6 y7 y8 y9 => zI_F n y6 y7 y8 y9 a4 a5 a6 a7 a8 (a9 ++ [y1]) a10 (fun y10 y11 y12 y13 y14 y15 y16 y17 y18 y19 y20 y21 => if (!y10) = true then (zC_F n y11 y12 y13 y14 (fun y22 y23 y24 y25 y26 => zE_F n 7 y22.2.2.2.1 y23 y24 y25 y26 (fun y27 y28 y29 y30 => k0 y27 y28 y29 y30 y15 y16 y17 y18 y19 y20 y21))) else (k0 y11 y12 y13 y14 y15 y16 y17 y18 y19 y20 y21)))) else none)) else (runC (zM_l6 n) n (0, a0, a1, a2, a3, a4, a5, a6, a7, a8, a9, a10, ()) (fun b77 => k0 b77.1 b77.2.1 b77.2.2.1 b77.2.2.2.1 b77.2.2.2.2.1 b77.2.2.2.2.2.1 b77.2.2.2.2.2.2.1 b77.2.2.2.2.2.2.2.1 b77.2.2.2.2.2.2.2.2.1 b77.2.2.2.2.2.2.2.2.2.1 b77.2.2.2.2.2.2.2.2.2.2.1, fun b88 => k0 b88.1 b88.2.1 b88.2.2.1 b88.2.2.2.1 b88.2.2.2.2.1 b88.2.2.2.2.2.1 b88.2.2.2.2.2.2.1 b88.2.2.2.2.2.2.2.1 b88.2.2.2.2.2.2.2.2.1 b88.2.2.2.2.2.2.2.2.2.1 b88.2.2.2.2.2.2.2.2.2.2.1, ()))
def zM_F {R : Type} := lazyN (@zM_Fi R)
theorem zM_e : @zM_F R = @zM_Fi R := lazyN_eq _
def zM_g (n : Nat) : Gx R := typed 2 zM_d fun x k => zM_F n x.1 x.2.1 x.2.2.1 x.2.2.2.1 x.2.2.2.2.1 x.2.2.2.2.2.1 x.2.2.2.2.2.2.1 x.2.2.2.2.2.2.2.1 x.2.2.2.2.2.2.2.2.1 x.2.2.2.2.2.2.2.2.2.1 x.2.2.2.2.2.2.2.2.2.2.1 (fun y0 y1 y2 y3 y4 y5 y6 y7 y8 y9 y10 => k (.tu []) [(.box true 57 [(.ow 1), (.i .i64 y0), (.i .i64 y1), (.i .i64 y2)]), (.arr 60 ty60 y3), (.box true 25 [(.i .i64 y4), (.s y5), (.ow 3), (.i .i64 y6), (.s y7), (.i .i64 y8), (.ow 4)]), (.arr 9 .str y9), (.arr 51 ty51 y10)])
def zM_cs (R : Type) (n : Nat) : List (Nat × Gx R) := [(17, zG_g n), (18, zE_g n), (19, zC_g n), (20, zX_g n), (21, zU_g n), (47, zI_g n)]
def zM_lp (n : Nat) : (i : Nat) → (zM_ds i).D → exK R (zM_dx i) → Option R
  | 6, a, k => runC (zM_l6 n) n a k
  | _, _, _ => none
def zM_cx (R : Type) (n : Nat) : Cx R := ⟨Tryz.prog, Gof (zM_cs R n), zM_ds, zM_dx, zM_lp n, drawP Tryz.prog (Gof (zM_cs R n)), false, noJn, noFz⟩
theorem zM_ok [Esc R] (n : Nat) : Good Tryz.prog 22 (zM_g (R := R) n) := by
  unfold zM_g
  rw [zM_e]
  exact Good.fn (cx := zM_cx R n) (by kernel_rfl) (AllGood.cons (zG_ok n) (AllGood.cons (zE_ok n) (AllGood.cons (zC_ok n) (AllGood.cons (zX_ok n) (AllGood.cons (zU_ok n) (AllGood.cons (zI_ok n) (AllGood.nil))))))) rfl Tryz.func22 (by kernel_rfl) rfl (by
    have e : fnLoops noJn Tryz.f22 = [((fnLoops noJn Tryz.f22)[0]?).getD (false, .skip)] := by kernel_rfl
    show LoopRuns _ _ (fnLoops noJn _)
    rw [e]
    exact ⟨LoopRun.loop (by kernel_rfl) (i := 6) (m := n) (step := zM_l6 n) (by kernel_rfl) (fun a k1 k2 => by kernel_rfl) (fun _ _ => rfl), trivial⟩) 2 zM_d (by kernel_rfl) (fun x k => by kernel_rfl)
@[reducible] def zBC_d : Desc := ⟨[(0, .pt 0 0), (1, .d (.int .i64))], [.box true 57 [.ow 1, .d (.int .i64), .d (.int .i64), .d (.int .i64)], .arr 60 ty60]⟩
def zBC_Fi (n : Nat) (a0 : Int) (a1 : Int) (a2 : Int) (a3 : Int) (a4 : (List ty60.D)) (k0 : Int → Int → Int → (List ty60.D) → Option R) : Option R :=
  zC_F n a1 a2 a3 a4 (fun y1 y2 y3 y4 y5 => zAT_F n (⟨#[110, 111, 116]⟩ : ByteArray) y2 y3 y4 y5 (fun y6 y7 y8 y9 y10 => if y6 = true then (zE_F n 9 a0 y7 y8 y9 y10 (fun y11 y12 y13 y14 => zE_F n 7 a0 y11 y12 y13 y14 (fun y15 y16 y17 y18 => k0 y15 y16 y17 y18))) else (zAP_F n y7 y8 y9 y10 (fun y19 y20 y21 y22 y23 => if y19 = true then (zE_F n 9 a0 y20 y21 y22 y23 (fun y24 y25 y26 y27 => zE_F n 7 a0 y24 y25 y26 y27 (fun y28 y29 y30 y31 => k0 y28 y29 y30 y31))) else (if (y1.1 == 2) = true then (zE_F n 9 a0 y20 y21 y22 y23 (fun y32 y33 y34 y35 => zE_F n 7 a0 y32 y33 y34 y35 (fun y36 y37 y38 y39 => k0 y36 y37 y38 y39))) else (zE_F n 7 a0 y20 y21 y22 y23 (fun y40 y41 y42 y43 => k0 y40 y41 y42 y43)))))))
def zBC_F {R : Type} := lazyN (@zBC_Fi R)
theorem zBC_e : @zBC_F R = @zBC_Fi R := lazyN_eq _
def zBC_g (n : Nat) : Gx R := typed 2 zBC_d fun x k => zBC_F n x.1 x.2.1 x.2.2.1 x.2.2.2.1 x.2.2.2.2.1 (fun y0 y1 y2 y3 => k (.tu []) [(.box true 57 [(.ow 1), (.i .i64 y0), (.i .i64 y1), (.i .i64 y2)]), (.arr 60 ty60 y3)])
def zBC_cs (R : Type) (n : Nat) : List (Nat × Gx R) := [(18, zE_g n), (19, zC_g n), (45, zAT_g n), (46, zAP_g n)]
def zBC_cx (R : Type) (n : Nat) : Cx R := ⟨Tryz.prog, Gof (zBC_cs R n), noDs, noDx, noLp, drawP Tryz.prog (Gof (zBC_cs R n)), false, noJn, noFz⟩
theorem zBC_ok [Esc R] (n : Nat) : Good Tryz.prog 48 (zBC_g (R := R) n) := by
  unfold zBC_g
  rw [zBC_e]
  exact Good.fn (cx := zBC_cx R n) (by kernel_rfl) (AllGood.cons (zE_ok n) (AllGood.cons (zC_ok n) (AllGood.cons (zAT_ok n) (AllGood.cons (zAP_ok n) (AllGood.nil))))) rfl Tryz.func48 (by kernel_rfl) rfl trivial 2 zBC_d (by kernel_rfl) (fun x k => by kernel_rfl)
@[reducible] def zAW_d : Desc := ⟨[(0, .pt 0 0)], [.box true 57 [.ow 1, .d (.int .i64), .d (.int .i64), .d (.int .i64)], .arr 60 ty60]⟩
def zAW_Fi (n : Nat) (a0 : Int) (a1 : Int) (a2 : Int) (a3 : (List ty60.D)) (k0 : ty48.D → Int → Int → Int → (List ty60.D) → Option R) : Option R :=
  zC_F n a0 a1 a2 a3 (fun y1 y2 y3 y4 y5 => if (y3 == 0) = true then (if (y1.1 == 2) = true then (zN_F n y2 y3 y4 y5 (fun y6 y7 y8 y9 => k0 ((⟨#[]⟩ : ByteArray), false, y1.2.2.1, ()) y6 y7 y8 y9)) else (zX_F n y2 y3 y4 y5 (fun y10 y11 y12 y13 y14 => k0 (y10, false, (0, false, 0, (⟨#[]⟩ : ByteArray), ()), ()) y11 y12 y13 y14))) else (zX_F n y2 y3 y4 y5 (fun y15 y16 y17 y18 y19 => k0 (y15, false, (0, false, 0, (⟨#[]⟩ : ByteArray), ()), ()) y16 y17 y18 y19)))
def zAW_F {R : Type} := lazyN (@zAW_Fi R)
theorem zAW_e : @zAW_F R = @zAW_Fi R := lazyN_eq _
def zAW_g (n : Nat) : Gx R := typed 1 zAW_d fun x k => zAW_F n x.1 x.2.1 x.2.2.1 x.2.2.2.1 (fun y0 y1 y2 y3 y4 => k (.a (encA ty48 y0)) [(.box true 57 [(.ow 1), (.i .i64 y1), (.i .i64 y2), (.i .i64 y3)]), (.arr 60 ty60 y4)])
def zAW_cs (R : Type) (n : Nat) : List (Nat × Gx R) := [(19, zC_g n), (20, zX_g n), (23, zN_g n)]
def zAW_cx (R : Type) (n : Nat) : Cx R := ⟨Tryz.prog, Gof (zAW_cs R n), noDs, noDx, noLp, drawP Tryz.prog (Gof (zAW_cs R n)), false, noJn, noFz⟩
theorem zAW_ok [Esc R] (n : Nat) : Good Tryz.prog 74 (zAW_g (R := R) n) := by
  unfold zAW_g
  rw [zAW_e]
  exact Good.fn (cx := zAW_cx R n) (by kernel_rfl) (AllGood.cons (zC_ok n) (AllGood.cons (zX_ok n) (AllGood.cons (zN_ok n) (AllGood.nil)))) rfl Tryz.func74 (by kernel_rfl) rfl trivial 1 zAW_d (by kernel_rfl) (fun x k => by kernel_rfl)
def zH_ds : Nat → Desc
  | 5 => ⟨[(0, .pt 0 0), (3, .ow 3), (4, .d (.int .i64))], [.box true 57 [.ow 1, .d (.int .i64), .d (.int .i64), .d (.int .i64)], .arr 60 ty60, .no, .arr 48 ty48]⟩
  | _ => ⟨[], []⟩
def zH_dx : Nat → List (X × Desc)
  | 5 => [(.r, ⟨[(2, .ow 3)], [.box true 57 [.ow 1, .d (.int .i64), .d (.int .i64), .d (.int .i64)], .arr 60 ty60, .no, .arr 48 ty48]⟩), (.e 0, ⟨[(3, .ow 3)], [.box true 57 [.ow 1, .d (.int .i64), .d (.int .i64), .d (.int .i64)], .arr 60 ty60, .no, .arr 48 ty48]⟩)]
  | _ => []
def zH_s5 (n : Nat) (x0 : Int) (x1 : Int) (x2 : Int) (x3 : Int) (x4 : (List ty60.D)) (x5 : (List ty48.D)) (k1 : Int → Int → Int → Int → (List ty60.D) → (List ty48.D) → Option R) (qr : Int → Int → Int → (List ty60.D) → (List ty48.D) → Option R) (qe0 : Int → Int → Int → (List ty60.D) → (List ty48.D) → Option R) : Option R :=
  if (decide (x0 < 400)) = true then (if (x2 == 0) = true then (zC_F n x1 x2 x3 x4 (fun y6 y7 y8 y9 y10 => zAT_F n (⟨#[95]⟩ : ByteArray) y7 y8 y9 y10 (fun y11 y12 y13 y14 y15 => if y11 = true then (zN_F n y12 y13 y14 y15 (fun y16 y17 y18 y19 => if (List.length x5 + List.length [((⟨#[]⟩ : ByteArray), true, (0, false, 0, (⟨#[]⟩ : ByteArray), ()), ())]) * 64 ≤ 140737488355328 then (if (decide (((x5 ++ [((⟨#[]⟩ : ByteArray), true, (0, false, 0, (⟨#[]⟩ : ByteArray), ()), ())]).length : Int) > 40)) = true then (zE_F n 9 y6.2.2.2.1 y16 y17 y18 y19 (fun y20 y21 y22 y23 => zG_F n (⟨#[44]⟩ : ByteArray) y20 y21 y22 y23 (fun y24 y25 y26 y27 y28 => if (!y24) = true then (zU_F n (⟨#[41]⟩ : ByteArray) y25 y26 y27 y28 (fun y29 y30 y31 y32 => qr y29 y30 y31 y32 (x5 ++ [((⟨#[]⟩ : ByteArray), true, (0, false, 0, (⟨#[]⟩ : ByteArray), ()), ())]))) else (k1 (IntKind.i64.wrap (x0 + 1)) y25 y26 y27 y28 (x5 ++ [((⟨#[]⟩ : ByteArray), true, (0, false, 0, (⟨#[]⟩ : ByteArray), ()), ())]))))) else (zG_F n (⟨#[44]⟩ : ByteArray) y16 y17 y18 y19 (fun y33 y34 y35 y36 y37 => if (!y33) = true then (zU_F n (⟨#[41]⟩ : ByteArray) y34 y35 y36 y37 (fun y38 y39 y40 y41 => qr y38 y39 y40 y41 (x5 ++ [((⟨#[]⟩ : ByteArray), true, (0, false, 0, (⟨#[]⟩ : ByteArray), ()), ())]))) else (k1 (IntKind.i64.wrap (x0 + 1)) y34 y35 y36 y37 (x5 ++ [((⟨#[]⟩ : ByteArray), true, (0, false, 0, (⟨#[]⟩ : ByteArray), ()), ())]))))) else none)) else (zAW_F n y12 y13 y14 y15 (fun y42 y43 y44 y45 y46 => if (List.length x5 + List.length [y42]) * 64 ≤ 140737488355328 then (if (decide (((x5 ++ [y42]).length : Int) > 40)) = true then (zE_F n 9 y6.2.2.2.1 y43 y44 y45 y46 (fun y47 y48 y49 y50 => zG_F n (⟨#[44]⟩ : ByteArray) y47 y48 y49 y50 (fun y51 y52 y53 y54 y55 => if (!y51) = true then (zU_F n (⟨#[41]⟩ : ByteArray) y52 y53 y54 y55 (fun y56 y57 y58 y59 => qr y56 y57 y58 y59 (x5 ++ [y42]))) else (k1 (IntKind.i64.wrap (x0 + 1)) y52 y53 y54 y55 (x5 ++ [y42]))))) else (zG_F n (⟨#[44]⟩ : ByteArray) y43 y44 y45 y46 (fun y60 y61 y62 y63 y64 => if (!y60) = true then (zU_F n (⟨#[41]⟩ : ByteArray) y61 y62 y63 y64 (fun y65 y66 y67 y68 => qr y65 y66 y67 y68 (x5 ++ [y42]))) else (k1 (IntKind.i64.wrap (x0 + 1)) y61 y62 y63 y64 (x5 ++ [y42]))))) else none))))) else (qe0 x1 x2 x3 x4 x5)) else (qe0 x1 x2 x3 x4 x5)
def zH_l5 (n : Nat) (a : (zH_ds 5).D) (k1 : (zH_ds 5).D → Option R) (k2 : exK R (zH_dx 5)) : Option R :=
  zH_s5 n a.1 a.2.1 a.2.2.1 a.2.2.2.1 a.2.2.2.2.1 a.2.2.2.2.2.1 (fun x0 x1 x2 x3 x4 x5 => k1 (x0, x1, x2, x3, x4, x5, ())) (fun x0 x1 x2 x3 x4 => k2.1 (x0, x1, x2, x3, x4, ())) (fun x0 x1 x2 x3 x4 => k2.2.1 (x0, x1, x2, x3, x4, ()))
@[reducible] def zH_d : Desc := ⟨[(0, .pt 0 0)], [.box true 57 [.ow 1, .d (.int .i64), .d (.int .i64), .d (.int .i64)], .arr 60 ty60]⟩
def zH_Fi (n : Nat) (a0 : Int) (a1 : Int) (a2 : Int) (a3 : (List ty60.D)) (k0 : Int → Int → Int → (List ty60.D) → (List ty48.D) → Option R) : Option R :=
  zG_F n (⟨#[41]⟩ : ByteArray) a0 a1 a2 a3 (fun y1 y2 y3 y4 y5 => if y1 = true then (k0 y2 y3 y4 y5 ([] : List ty48.D)) else (runC (zH_l5 n) n (0, y2, y3, y4, y5, ([] : List ty48.D), ()) (fun b73 => k0 b73.1 b73.2.1 b73.2.2.1 b73.2.2.2.1 b73.2.2.2.2.1, fun b78 => k0 b78.1 b78.2.1 b78.2.2.1 b78.2.2.2.1 b78.2.2.2.2.1, ())))
def zH_F {R : Type} := lazyN (@zH_Fi R)
theorem zH_e : @zH_F R = @zH_Fi R := lazyN_eq _
def zH_g (n : Nat) : Gx R := typed 1 zH_d fun x k => zH_F n x.1 x.2.1 x.2.2.1 x.2.2.2.1 (fun y0 y1 y2 y3 y4 => k (.a (.c (.ow 2))) [(.box true 57 [(.ow 1), (.i .i64 y0), (.i .i64 y1), (.i .i64 y2)]), (.arr 60 ty60 y3), (.arr 48 ty48 y4)])
def zH_cs (R : Type) (n : Nat) : List (Nat × Gx R) := [(17, zG_g n), (18, zE_g n), (19, zC_g n), (21, zU_g n), (23, zN_g n), (45, zAT_g n), (74, zAW_g n)]
def zH_lp (n : Nat) : (i : Nat) → (zH_ds i).D → exK R (zH_dx i) → Option R
  | 5, a, k => runC (zH_l5 n) n a k
  | _, _, _ => none
def zH_cx (R : Type) (n : Nat) : Cx R := ⟨Tryz.prog, Gof (zH_cs R n), zH_ds, zH_dx, zH_lp n, drawP Tryz.prog (Gof (zH_cs R n)), false, noJn, noFz⟩
theorem zH_ok [Esc R] (n : Nat) : Good Tryz.prog 73 (zH_g (R := R) n) := by
  unfold zH_g
  rw [zH_e]
  exact Good.fn (cx := zH_cx R n) (by kernel_rfl) (AllGood.cons (zG_ok n) (AllGood.cons (zE_ok n) (AllGood.cons (zC_ok n) (AllGood.cons (zU_ok n) (AllGood.cons (zN_ok n) (AllGood.cons (zAT_ok n) (AllGood.cons (zAW_ok n) (AllGood.nil)))))))) rfl Tryz.func73 (by kernel_rfl) rfl (by
    have e : fnLoops noJn Tryz.f73 = [((fnLoops noJn Tryz.f73)[0]?).getD (false, .skip)] := by kernel_rfl
    show LoopRuns _ _ (fnLoops noJn _)
    rw [e]
    exact ⟨LoopRun.loop (by kernel_rfl) (i := 5) (m := n) (step := zH_l5 n) (by kernel_rfl) (fun a k1 k2 => by kernel_rfl) (fun _ _ => rfl), trivial⟩) 1 zH_d (by kernel_rfl) (fun x k => by kernel_rfl)
def zA_ds : Nat → Desc
  | 1000016 => ⟨[(0, .pt 0 0), (4, .pt 3 0), (5, .pt 5 0), (7, .pt 7 0)], [.box true 57 [.ow 1, .d (.int .i64), .d (.int .i64), .d (.int .i64)], .arr 60 ty60, .arr 48 ty48, .box false 51 [.d .bool, .d .str, .ow 2, .d (.int .i64)], .no, .box false 51 [.d .bool, .d .str, .ow 6, .d (.int .i64)], .arr 48 ty48, .box false 48 [.d .str, .d .bool, .d (.int .i64), .d .bool, .d (.int .i64), .d .str]]⟩
  | 1000012 => ⟨[(0, .pt 0 0), (4, .pt 3 0), (5, .pt 5 0)], [.box true 57 [.ow 1, .d (.int .i64), .d (.int .i64), .d (.int .i64)], .arr 60 ty60, .arr 48 ty48, .box false 51 [.d .bool, .d .str, .ow 2, .d (.int .i64)], .no, .box false 51 [.d .bool, .d .str, .ow 6, .d (.int .i64)], .arr 48 ty48]⟩
  | 1000010 => ⟨[(0, .pt 0 0), (4, .pt 3 0), (5, .pt 5 0), (6, .d (.int .i64))], [.box true 57 [.ow 1, .d (.int .i64), .d (.int .i64), .d (.int .i64)], .arr 60 ty60, .arr 48 ty48, .box false 51 [.d .bool, .d .str, .ow 2, .d (.int .i64)], .no, .box false 51 [.d .bool, .d .str, .ow 6, .d (.int .i64)], .arr 48 ty48]⟩
  | _ => ⟨[], []⟩
def zA_dx : Nat → List (X × Desc)
  | 1000016 => [(.r, ⟨[(4, .pt 3 0)], [.box true 57 [.ow 1, .d (.int .i64), .d (.int .i64), .d (.int .i64)], .arr 60 ty60, .no, .box false 51 [.d .bool, .d .str, .d (.sl ty48), .d (.int .i64)]]⟩)]
  | 1000012 => [(.r, ⟨[(4, .pt 3 0)], [.box true 57 [.ow 1, .d (.int .i64), .d (.int .i64), .d (.int .i64)], .arr 60 ty60, .no, .box false 51 [.d .bool, .d .str, .d (.sl ty48), .d (.int .i64)]]⟩)]
  | 1000010 => [(.r, ⟨[(4, .pt 3 0)], [.box true 57 [.ow 1, .d (.int .i64), .d (.int .i64), .d (.int .i64)], .arr 60 ty60, .no, .box false 51 [.d .bool, .d .str, .d (.sl ty48), .d (.int .i64)]]⟩)]
  | _ => []
def zA_s1000016 (n : Nat) (x0 : Int) (x1 : Int) (x2 : Int) (x3 : (List ty60.D)) (x4 : (List ty48.D)) (x5 : Bool) (x6 : ByteArray) (x7 : Int) (x8 : Bool) (x9 : ByteArray) (x10 : Int) (x11 : (List ty48.D)) (x12 : ByteArray) (x13 : Bool) (x14 : Int) (x15 : Bool) (x16 : Int) (x17 : ByteArray) (qr : Int → Int → Int → (List ty60.D) → Bool → ByteArray → (List ty48.D) → Int → Option R) : Option R :=
  zN_F n x0 x1 x2 x3 (fun y101 y102 y103 y104 => zAW_F n y101 y102 y103 y104 (fun y105 y106 y107 y108 y109 => qr y106 y107 y108 y109 x8 x9 [(x12, x13, (x14, x15, x16, x17, ()), ()), y105] x10))
def zA_li1000016 (n : Nat) (a : (zA_ds 1000016).D) (k2 : exK R (zA_dx 1000016)) : Option R :=
  zA_s1000016 n a.1 a.2.1 a.2.2.1 a.2.2.2.1 a.2.2.2.2.1 a.2.2.2.2.2.1 a.2.2.2.2.2.2.1 a.2.2.2.2.2.2.2.1 a.2.2.2.2.2.2.2.2.1 a.2.2.2.2.2.2.2.2.2.1 a.2.2.2.2.2.2.2.2.2.2.1 a.2.2.2.2.2.2.2.2.2.2.2.1 a.2.2.2.2.2.2.2.2.2.2.2.2.1 a.2.2.2.2.2.2.2.2.2.2.2.2.2.1 a.2.2.2.2.2.2.2.2.2.2.2.2.2.2.1 a.2.2.2.2.2.2.2.2.2.2.2.2.2.2.2.1 a.2.2.2.2.2.2.2.2.2.2.2.2.2.2.2.2.1 a.2.2.2.2.2.2.2.2.2.2.2.2.2.2.2.2.2.1 (fun x0 x1 x2 x3 x4 x5 x6 x7 => k2.1 (x0, x1, x2, x3, x4, x5, x6, x7, ()))
def zFG {R : Type} := lazyN (@zA_li1000016 R)
theorem zA_e1000016 : @zFG R = @zA_li1000016 R := lazyN_eq _
def zA_s1000012 (n : Nat) (x0 : Int) (x1 : Int) (x2 : Int) (x3 : (List ty60.D)) (x4 : (List ty48.D)) (x5 : Bool) (x6 : ByteArray) (x7 : Int) (x8 : Bool) (x9 : ByteArray) (x10 : Int) (x11 : (List ty48.D)) (qr : Int → Int → Int → (List ty60.D) → Bool → ByteArray → (List ty48.D) → Int → Option R) : Option R :=
  zAW_F n x0 x1 x2 x3 (fun y76 y77 y78 y79 y80 => zC_F n y77 y78 y79 y80 (fun y81 y82 y83 y84 y85 => zAV_F n y81.2.1 (fun y86 => zC_F n y82 y83 y84 y85 (fun y87 y88 y89 y90 y91 => if (y87.1 != 3) = true then (zC_F n y88 y89 y90 y91 (fun y92 y93 y94 y95 y96 => zE_F n 7 y92.2.2.2.1 y93 y94 y95 y96 (fun y97 y98 y99 y100 => zFG n (y97, y98, y99, y100, x4, x5, x6, x7, x8, x9, y86, x11, y76.1, y76.2.1, y76.2.2.1.1, y76.2.2.1.2.1, y76.2.2.1.2.2.1, y76.2.2.1.2.2.2.1, ()) (fun b117 => qr b117.1 b117.2.1 b117.2.2.1 b117.2.2.2.1 b117.2.2.2.2.1 b117.2.2.2.2.2.1 b117.2.2.2.2.2.2.1 b117.2.2.2.2.2.2.2.1, ())))) else (if (y86 == 0) = true then (zC_F n y88 y89 y90 y91 (fun y118 y119 y120 y121 y122 => zE_F n 7 y118.2.2.2.1 y119 y120 y121 y122 (fun y123 y124 y125 y126 => zFG n (y123, y124, y125, y126, x4, x5, x6, x7, x8, x9, y86, x11, y76.1, y76.2.1, y76.2.2.1.1, y76.2.2.1.2.1, y76.2.2.1.2.2.1, y76.2.2.1.2.2.2.1, ()) (fun b134 => qr b134.1 b134.2.1 b134.2.2.1 b134.2.2.2.1 b134.2.2.2.2.1 b134.2.2.2.2.2.1 b134.2.2.2.2.2.2.1 b134.2.2.2.2.2.2.2.1, ())))) else (zFG n (y88, y89, y90, y91, x4, x5, x6, x7, x8, x9, y86, x11, y76.1, y76.2.1, y76.2.2.1.1, y76.2.2.1.2.1, y76.2.2.1.2.2.1, y76.2.2.1.2.2.2.1, ()) (fun b142 => qr b142.1 b142.2.1 b142.2.2.1 b142.2.2.2.1 b142.2.2.2.2.1 b142.2.2.2.2.2.1 b142.2.2.2.2.2.2.1 b142.2.2.2.2.2.2.2.1, ())))))))
def zA_li1000012 (n : Nat) (a : (zA_ds 1000012).D) (k2 : exK R (zA_dx 1000012)) : Option R :=
  zA_s1000012 n a.1 a.2.1 a.2.2.1 a.2.2.2.1 a.2.2.2.2.1 a.2.2.2.2.2.1 a.2.2.2.2.2.2.1 a.2.2.2.2.2.2.2.1 a.2.2.2.2.2.2.2.2.1 a.2.2.2.2.2.2.2.2.2.1 a.2.2.2.2.2.2.2.2.2.2.1 a.2.2.2.2.2.2.2.2.2.2.2.1 (fun x0 x1 x2 x3 x4 x5 x6 x7 => k2.1 (x0, x1, x2, x3, x4, x5, x6, x7, ()))
def zA_l1000012 {R : Type} := lazyN (@zA_li1000012 R)
theorem zA_e1000012 : @zA_l1000012 R = @zA_li1000012 R := lazyN_eq _
def zA_s1000010 (n : Nat) (x0 : Int) (x1 : Int) (x2 : Int) (x3 : Int) (x4 : (List ty60.D)) (x5 : (List ty48.D)) (x6 : Bool) (x7 : ByteArray) (x8 : Int) (x9 : Bool) (x10 : ByteArray) (x11 : Int) (x12 : (List ty48.D)) (qr : Int → Int → Int → (List ty60.D) → Bool → ByteArray → (List ty48.D) → Int → Option R) : Option R :=
  if x9 = true then (zE_F n 7 x0 x1 x2 x3 x4 (fun y72 y73 y74 y75 => zA_l1000012 n (y72, y73, y74, y75, x5, x6, x7, x8, x9, x10, x11, x12, ()) (fun b150 => qr b150.1 b150.2.1 b150.2.2.1 b150.2.2.2.1 b150.2.2.2.2.1 b150.2.2.2.2.2.1 b150.2.2.2.2.2.2.1 b150.2.2.2.2.2.2.2.1, ()))) else (zA_l1000012 n (x1, x2, x3, x4, x5, x6, x7, x8, x9, x10, x11, x12, ()) (fun b158 => qr b158.1 b158.2.1 b158.2.2.1 b158.2.2.2.1 b158.2.2.2.2.1 b158.2.2.2.2.2.1 b158.2.2.2.2.2.2.1 b158.2.2.2.2.2.2.2.1, ()))
def zA_li1000010 (n : Nat) (a : (zA_ds 1000010).D) (k2 : exK R (zA_dx 1000010)) : Option R :=
  zA_s1000010 n a.1 a.2.1 a.2.2.1 a.2.2.2.1 a.2.2.2.2.1 a.2.2.2.2.2.1 a.2.2.2.2.2.2.1 a.2.2.2.2.2.2.2.1 a.2.2.2.2.2.2.2.2.1 a.2.2.2.2.2.2.2.2.2.1 a.2.2.2.2.2.2.2.2.2.2.1 a.2.2.2.2.2.2.2.2.2.2.2.1 a.2.2.2.2.2.2.2.2.2.2.2.2.1 (fun x0 x1 x2 x3 x4 x5 x6 x7 => k2.1 (x0, x1, x2, x3, x4, x5, x6, x7, ()))
def zFB {R : Type} := lazyN (@zA_li1000010 R)
theorem zA_e1000010 : @zFB R = @zA_li1000010 R := lazyN_eq _
@[reducible] def zA_d : Desc := ⟨[(0, .pt 0 0), (1, .d (.int .i64))], [.box true 57 [.ow 1, .d (.int .i64), .d (.int .i64), .d (.int .i64)], .arr 60 ty60]⟩
def zA_Fi (n : Nat) (a0 : Int) (a1 : Int) (a2 : Int) (a3 : Int) (a4 : (List ty60.D)) (k0 : ty51.D → Int → Int → Int → (List ty60.D) → Option R) : Option R :=
  zG_F n (⟨#[110, 111, 116]⟩ : ByteArray) a1 a2 a3 a4 (fun y1 y2 y3 y4 y5 => zC_F n y2 y3 y4 y5 (fun y6 y7 y8 y9 y10 => zAP_F n y7 y8 y9 y10 (fun y11 y12 y13 y14 y15 => if y11 = true then (if y1 = true then (zX_F n y12 y13 y14 y15 (fun y16 y17 y18 y19 y20 => zU_F n (⟨#[40]⟩ : ByteArray) y17 y18 y19 y20 (fun y21 y22 y23 y24 => if (!y1) = true then (if (decide (a0 ≥ 6)) = true then (zE_F n 9 y6.2.2.2.1 y21 y22 y23 y24 (fun y25 y26 y27 y28 => zH_F n y25 y26 y27 y28 (fun y29 y30 y31 y32 y33 => k0 (y1, y16, y33, 0, ()) y29 y30 y31 y32))) else (zH_F n y21 y22 y23 y24 (fun y34 y35 y36 y37 y38 => k0 (y1, y16, y38, 0, ()) y34 y35 y36 y37))) else (zH_F n y21 y22 y23 y24 (fun y39 y40 y41 y42 y43 => k0 (y1, y16, y43, 0, ()) y39 y40 y41 y42))))) else (if (decide ((IntKind.i64.wrap (y12 + 1)) < (y15.length : Int))) = true then (if (0 : Int) ≤ (IntKind.i64.wrap (y12 + 1)) ∧ (IntKind.i64.wrap (y12 + 1)) < (y15.length : Int) then (if (Int.toNat (IntKind.i64.wrap (y12 + 1))) < y15.length then (if ((y15.getD (Int.toNat (IntKind.i64.wrap (y12 + 1))) (Ty.z ty60)).1 == 3) = true then (if (0 : Int) ≤ (IntKind.i64.wrap (y12 + 1)) ∧ (IntKind.i64.wrap (y12 + 1)) < (y15.length : Int) then (if (Int.toNat (IntKind.i64.wrap (y12 + 1))) < y15.length then (if (((y15.getD (Int.toNat (IntKind.i64.wrap (y12 + 1))) (Ty.z ty60)).2.1).toList == (⟨#[40]⟩ : ByteArray).toList) = true then (zX_F n y12 y13 y14 y15 (fun y44 y45 y46 y47 y48 => zU_F n (⟨#[40]⟩ : ByteArray) y45 y46 y47 y48 (fun y49 y50 y51 y52 => if (!y1) = true then (if (decide (a0 ≥ 6)) = true then (zE_F n 9 y6.2.2.2.1 y49 y50 y51 y52 (fun y53 y54 y55 y56 => zH_F n y53 y54 y55 y56 (fun y57 y58 y59 y60 y61 => k0 (y1, y44, y61, 0, ()) y57 y58 y59 y60))) else (zH_F n y49 y50 y51 y52 (fun y62 y63 y64 y65 y66 => k0 (y1, y44, y66, 0, ()) y62 y63 y64 y65))) else (zH_F n y49 y50 y51 y52 (fun y67 y68 y69 y70 y71 => k0 (y1, y44, y71, 0, ()) y67 y68 y69 y70))))) else (zFB n (y6.2.2.2.1, y12, y13, y14, y15, ([] : List ty48.D), false, (⟨#[]⟩ : ByteArray), 0, y1, (⟨#[]⟩ : ByteArray), 0, ([] : List ty48.D), ()) (fun b166 => k0 (b166.2.2.2.2.1, b166.2.2.2.2.2.1, b166.2.2.2.2.2.2.1, b166.2.2.2.2.2.2.2.1, ()) b166.1 b166.2.1 b166.2.2.1 b166.2.2.2.1, ()))) else none) else none) else (zFB n (y6.2.2.2.1, y12, y13, y14, y15, ([] : List ty48.D), false, (⟨#[]⟩ : ByteArray), 0, y1, (⟨#[]⟩ : ByteArray), 0, ([] : List ty48.D), ()) (fun b174 => k0 (b174.2.2.2.2.1, b174.2.2.2.2.2.1, b174.2.2.2.2.2.2.1, b174.2.2.2.2.2.2.2.1, ()) b174.1 b174.2.1 b174.2.2.1 b174.2.2.2.1, ()))) else none) else none) else (zFB n (y6.2.2.2.1, y12, y13, y14, y15, ([] : List ty48.D), false, (⟨#[]⟩ : ByteArray), 0, y1, (⟨#[]⟩ : ByteArray), 0, ([] : List ty48.D), ()) (fun b182 => k0 (b182.2.2.2.2.1, b182.2.2.2.2.2.1, b182.2.2.2.2.2.2.1, b182.2.2.2.2.2.2.2.1, ()) b182.1 b182.2.1 b182.2.2.1 b182.2.2.2.1, ())))) else (zFB n (y6.2.2.2.1, y12, y13, y14, y15, ([] : List ty48.D), false, (⟨#[]⟩ : ByteArray), 0, y1, (⟨#[]⟩ : ByteArray), 0, ([] : List ty48.D), ()) (fun b190 => k0 (b190.2.2.2.2.1, b190.2.2.2.2.2.1, b190.2.2.2.2.2.2.1, b190.2.2.2.2.2.2.2.1, ()) b190.1 b190.2.1 b190.2.2.1 b190.2.2.2.1, ())))))
def zA_F {R : Type} := lazyN (@zA_Fi R)
theorem zA_e : @zA_F R = @zA_Fi R := lazyN_eq _
def zA_g (n : Nat) : Gx R := typed 2 zA_d fun x k => zA_F n x.1 x.2.1 x.2.2.1 x.2.2.2.1 x.2.2.2.2.1 (fun y0 y1 y2 y3 y4 => k (.a (encA ty51 y0)) [(.box true 57 [(.ow 1), (.i .i64 y1), (.i .i64 y2), (.i .i64 y3)]), (.arr 60 ty60 y4)])
def zA_cs (R : Type) (n : Nat) : List (Nat × Gx R) := [(17, zG_g n), (18, zE_g n), (19, zC_g n), (20, zX_g n), (21, zU_g n), (23, zN_g n), (46, zAP_g n), (73, zH_g n), (74, zAW_g n), (75, zAV_g n)]
def zA_lp (n : Nat) : (i : Nat) → (zA_ds i).D → exK R (zA_dx i) → Option R
  | 1000016, a, k => zFG n a k
  | 1000012, a, k => zA_l1000012 n a k
  | 1000010, a, k => zFB n a k
  | _, _, _ => none
def zA_cx (R : Type) (n : Nat) : Cx R := ⟨Tryz.prog, Gof (zA_cs R n), zA_ds, zA_dx, zA_lp n, drawP Tryz.prog (Gof (zA_cs R n)), true, (memN [16, 12, 10]), noFz⟩
theorem zA_ok [Esc R] (n : Nat) : Good Tryz.prog 49 (zA_g (R := R) n) := by
  unfold zA_g
  rw [zA_e]
  exact Good.fn (cx := zA_cx R n) (by kernel_rfl) (AllGood.cons (zG_ok n) (AllGood.cons (zE_ok n) (AllGood.cons (zC_ok n) (AllGood.cons (zX_ok n) (AllGood.cons (zU_ok n) (AllGood.cons (zN_ok n) (AllGood.cons (zAP_ok n) (AllGood.cons (zH_ok n) (AllGood.cons (zAW_ok n) (AllGood.cons (zAV_ok n) (AllGood.nil))))))))))) rfl Tryz.func49 (by kernel_rfl) rfl (by
    have e : fnLoops (memN [16, 12, 10]) Tryz.f49 = [((fnLoops (memN [16, 12, 10]) Tryz.f49)[0]?).getD (false, .skip), ((fnLoops (memN [16, 12, 10]) Tryz.f49)[1]?).getD (false, .skip), ((fnLoops (memN [16, 12, 10]) Tryz.f49)[2]?).getD (false, .skip)] := by kernel_rfl
    show LoopRuns _ _ (fnLoops (memN [16, 12, 10]) _)
    rw [e]
    exact ⟨LoopRun.joinS (by kernel_rfl) (i := 10) (L := zFB n) (Li := zA_li1000010 n) (by rw [zA_e1000010]) (by kernel_rfl) (fun a k => by kernel_rfl) (fun a k => by kernel_rfl), ⟨LoopRun.joinS (by kernel_rfl) (i := 12) (L := zA_l1000012 n) (Li := zA_li1000012 n) (by rw [zA_e1000012]) (by kernel_rfl) (fun a k => by kernel_rfl) (fun a k => by kernel_rfl), ⟨LoopRun.joinS (by kernel_rfl) (i := 16) (L := zFG n) (Li := zA_li1000016 n) (by rw [zA_e1000016]) (by kernel_rfl) (fun a k => by kernel_rfl) (fun a k => by kernel_rfl), trivial⟩⟩⟩) 2 zA_d (by kernel_rfl) (fun x k => by kernel_rfl)
def zL_ds : Nat → Desc
  | 2 => ⟨[(0, .pt 0 0), (1, .pt 2 0), (4, .d (.int .i64)), (5, .d (.int .i64))], [.box true 57 [.ow 1, .d (.int .i64), .d (.int .i64), .d (.int .i64)], .arr 60 ty60, .box true 25 [.d (.int .i64), .d .str, .ow 3, .d (.int .i64), .d .str, .d (.int .i64), .ow 4], .arr 9 .str, .arr 51 ty51]⟩
  | _ => ⟨[], []⟩
def zL_dx : Nat → List (X × Desc)
  | 2 => [(.r, ⟨[], [.box true 57 [.ow 1, .d (.int .i64), .d (.int .i64), .d (.int .i64)], .arr 60 ty60, .box true 25 [.d (.int .i64), .d .str, .ow 3, .d (.int .i64), .d .str, .d (.int .i64), .ow 4], .arr 9 .str, .arr 51 ty51]⟩), (.e 0, ⟨[], [.box true 57 [.ow 1, .d (.int .i64), .d (.int .i64), .d (.int .i64)], .arr 60 ty60, .box true 25 [.d (.int .i64), .d .str, .ow 3, .d (.int .i64), .d .str, .d (.int .i64), .ow 4], .arr 9 .str, .arr 51 ty51]⟩)]
  | _ => []
def zL_s2 (n : Nat) (x0 : Int) (x1 : Int) (x2 : Int) (x3 : Int) (x4 : Int) (x5 : (List ty60.D)) (x6 : Int) (x7 : ByteArray) (x8 : Int) (x9 : ByteArray) (x10 : Int) (x11 : (List ByteArray)) (x12 : (List ty51.D)) (k1 : Int → Int → Int → Int → Int → (List ty60.D) → Int → ByteArray → Int → ByteArray → Int → (List ByteArray) → (List ty51.D) → Option R) (qr : Int → Int → Int → (List ty60.D) → Int → ByteArray → Int → ByteArray → Int → (List ByteArray) → (List ty51.D) → Option R) (qe0 : Int → Int → Int → (List ty60.D) → Int → ByteArray → Int → ByteArray → Int → (List ByteArray) → (List ty51.D) → Option R) : Option R :=
  if (decide (x1 < 400)) = true then (if (x3 == 0) = true then (zC_F n x2 x3 x4 x5 (fun y1 y2 y3 y4 y5 => if (decide ((x12.length : Int) ≥ 10)) = true then (zBC_F n y1.2.2.2.1 y2 y3 y4 y5 (fun y6 y7 y8 y9 => zA_F n x0 y6 y7 y8 y9 (fun y10 y11 y12 y13 y14 => if (y10.2.2.2.1 == 0) = true then (if (!y10.1) = true then (if (List.length x12 + List.length [y10]) * 56 ≤ 140737488355328 then (zG_F n (⟨#[44]⟩ : ByteArray) y11 y12 y13 y14 (fun y15 y16 y17 y18 y19 => if (!y15) = true then (qr y16 y17 y18 y19 x6 x7 x8 x9 x10 x11 (x12 ++ [y10])) else (k1 (IntKind.i64.wrap (x0 + 1)) (IntKind.i64.wrap (x1 + 1)) y16 y17 y18 y19 x6 x7 x8 x9 x10 x11 (x12 ++ [y10])))) else none) else (if (List.length x12 + List.length [y10]) * 56 ≤ 140737488355328 then (zG_F n (⟨#[44]⟩ : ByteArray) y11 y12 y13 y14 (fun y20 y21 y22 y23 y24 => if (!y20) = true then (qr y21 y22 y23 y24 x6 x7 x8 x9 x10 x11 (x12 ++ [y10])) else (k1 x0 (IntKind.i64.wrap (x1 + 1)) y21 y22 y23 y24 x6 x7 x8 x9 x10 x11 (x12 ++ [y10])))) else none)) else (if (List.length x12 + List.length [y10]) * 56 ≤ 140737488355328 then (zG_F n (⟨#[44]⟩ : ByteArray) y11 y12 y13 y14 (fun y25 y26 y27 y28 y29 => if (!y25) = true then (qr y26 y27 y28 y29 x6 x7 x8 x9 x10 x11 (x12 ++ [y10])) else (k1 x0 (IntKind.i64.wrap (x1 + 1)) y26 y27 y28 y29 x6 x7 x8 x9 x10 x11 (x12 ++ [y10])))) else none)))) else (zA_F n x0 y2 y3 y4 y5 (fun y30 y31 y32 y33 y34 => if (y30.2.2.2.1 == 0) = true then (if (!y30.1) = true then (if (List.length x12 + List.length [y30]) * 56 ≤ 140737488355328 then (zG_F n (⟨#[44]⟩ : ByteArray) y31 y32 y33 y34 (fun y35 y36 y37 y38 y39 => if (!y35) = true then (qr y36 y37 y38 y39 x6 x7 x8 x9 x10 x11 (x12 ++ [y30])) else (k1 (IntKind.i64.wrap (x0 + 1)) (IntKind.i64.wrap (x1 + 1)) y36 y37 y38 y39 x6 x7 x8 x9 x10 x11 (x12 ++ [y30])))) else none) else (if (List.length x12 + List.length [y30]) * 56 ≤ 140737488355328 then (zG_F n (⟨#[44]⟩ : ByteArray) y31 y32 y33 y34 (fun y40 y41 y42 y43 y44 => if (!y40) = true then (qr y41 y42 y43 y44 x6 x7 x8 x9 x10 x11 (x12 ++ [y30])) else (k1 x0 (IntKind.i64.wrap (x1 + 1)) y41 y42 y43 y44 x6 x7 x8 x9 x10 x11 (x12 ++ [y30])))) else none)) else (if (List.length x12 + List.length [y30]) * 56 ≤ 140737488355328 then (zG_F n (⟨#[44]⟩ : ByteArray) y31 y32 y33 y34 (fun y45 y46 y47 y48 y49 => if (!y45) = true then (qr y46 y47 y48 y49 x6 x7 x8 x9 x10 x11 (x12 ++ [y30])) else (k1 x0 (IntKind.i64.wrap (x1 + 1)) y46 y47 y48 y49 x6 x7 x8 x9 x10 x11 (x12 ++ [y30])))) else none))))) else (qe0 x2 x3 x4 x5 x6 x7 x8 x9 x10 x11 x12)) else (qe0 x2 x3 x4 x5 x6 x7 x8 x9 x10 x11 x12)
def zL_l2 (n : Nat) (a : (zL_ds 2).D) (k1 : (zL_ds 2).D → Option R) (k2 : exK R (zL_dx 2)) : Option R :=
  zL_s2 n a.1 a.2.1 a.2.2.1 a.2.2.2.1 a.2.2.2.2.1 a.2.2.2.2.2.1 a.2.2.2.2.2.2.1 a.2.2.2.2.2.2.2.1 a.2.2.2.2.2.2.2.2.1 a.2.2.2.2.2.2.2.2.2.1 a.2.2.2.2.2.2.2.2.2.2.1 a.2.2.2.2.2.2.2.2.2.2.2.1 a.2.2.2.2.2.2.2.2.2.2.2.2.1 (fun x0 x1 x2 x3 x4 x5 x6 x7 x8 x9 x10 x11 x12 => k1 (x0, x1, x2, x3, x4, x5, x6, x7, x8, x9, x10, x11, x12, ())) (fun x0 x1 x2 x3 x4 x5 x6 x7 x8 x9 x10 => k2.1 (x0, x1, x2, x3, x4, x5, x6, x7, x8, x9, x10, ())) (fun x0 x1 x2 x3 x4 x5 x6 x7 x8 x9 x10 => k2.2.1 (x0, x1, x2, x3, x4, x5, x6, x7, x8, x9, x10, ()))
@[reducible] def zL_d : Desc := ⟨[(0, .pt 0 0), (1, .pt 2 0)], [.box true 57 [.ow 1, .d (.int .i64), .d (.int .i64), .d (.int .i64)], .arr 60 ty60, .box true 25 [.d (.int .i64), .d .str, .ow 3, .d (.int .i64), .d .str, .d (.int .i64), .ow 4], .arr 9 .str, .arr 51 ty51]⟩
def zL_Fi (n : Nat) (a0 : Int) (a1 : Int) (a2 : Int) (a3 : (List ty60.D)) (a4 : Int) (a5 : ByteArray) (a6 : Int) (a7 : ByteArray) (a8 : Int) (a9 : (List ByteArray)) (a10 : (List ty51.D)) (k0 : Int → Int → Int → (List ty60.D) → Int → ByteArray → Int → ByteArray → Int → (List ByteArray) → (List ty51.D) → Option R) : Option R :=
  runC (zL_l2 n) n (0, 0, a0, a1, a2, a3, a4, a5, a6, a7, a8, a9, a10, ()) (fun b60 => k0 b60.1 b60.2.1 b60.2.2.1 b60.2.2.2.1 b60.2.2.2.2.1 b60.2.2.2.2.2.1 b60.2.2.2.2.2.2.1 b60.2.2.2.2.2.2.2.1 b60.2.2.2.2.2.2.2.2.1 b60.2.2.2.2.2.2.2.2.2.1 b60.2.2.2.2.2.2.2.2.2.2.1, fun b71 => k0 b71.1 b71.2.1 b71.2.2.1 b71.2.2.2.1 b71.2.2.2.2.1 b71.2.2.2.2.2.1 b71.2.2.2.2.2.2.1 b71.2.2.2.2.2.2.2.1 b71.2.2.2.2.2.2.2.2.1 b71.2.2.2.2.2.2.2.2.2.1 b71.2.2.2.2.2.2.2.2.2.2.1, ())
def zL_F {R : Type} := lazyN (@zL_Fi R)
theorem zL_e : @zL_F R = @zL_Fi R := lazyN_eq _
def zL_g (n : Nat) : Gx R := typed 2 zL_d fun x k => zL_F n x.1 x.2.1 x.2.2.1 x.2.2.2.1 x.2.2.2.2.1 x.2.2.2.2.2.1 x.2.2.2.2.2.2.1 x.2.2.2.2.2.2.2.1 x.2.2.2.2.2.2.2.2.1 x.2.2.2.2.2.2.2.2.2.1 x.2.2.2.2.2.2.2.2.2.2.1 (fun y0 y1 y2 y3 y4 y5 y6 y7 y8 y9 y10 => k (.tu []) [(.box true 57 [(.ow 1), (.i .i64 y0), (.i .i64 y1), (.i .i64 y2)]), (.arr 60 ty60 y3), (.box true 25 [(.i .i64 y4), (.s y5), (.ow 3), (.i .i64 y6), (.s y7), (.i .i64 y8), (.ow 4)]), (.arr 9 .str y9), (.arr 51 ty51 y10)])
def zL_cs (R : Type) (n : Nat) : List (Nat × Gx R) := [(17, zG_g n), (19, zC_g n), (48, zBC_g n), (49, zA_g n)]
def zL_lp (n : Nat) : (i : Nat) → (zL_ds i).D → exK R (zL_dx i) → Option R
  | 2, a, k => runC (zL_l2 n) n a k
  | _, _, _ => none
def zL_cx (R : Type) (n : Nat) : Cx R := ⟨Tryz.prog, Gof (zL_cs R n), zL_ds, zL_dx, zL_lp n, drawP Tryz.prog (Gof (zL_cs R n)), false, noJn, noFz⟩
theorem zL_ok [Esc R] (n : Nat) : Good Tryz.prog 24 (zL_g (R := R) n) := by
  unfold zL_g
  rw [zL_e]
  exact Good.fn (cx := zL_cx R n) (by kernel_rfl) (AllGood.cons (zG_ok n) (AllGood.cons (zC_ok n) (AllGood.cons (zBC_ok n) (AllGood.cons (zA_ok n) (AllGood.nil))))) rfl Tryz.func24 (by kernel_rfl) rfl (by
    have e : fnLoops noJn Tryz.f24 = [((fnLoops noJn Tryz.f24)[0]?).getD (false, .skip)] := by kernel_rfl
    show LoopRuns _ _ (fnLoops noJn _)
    rw [e]
    exact ⟨LoopRun.loop (by kernel_rfl) (i := 2) (m := n) (step := zL_l2 n) (by kernel_rfl) (fun a k1 k2 => by kernel_rfl) (fun _ _ => rfl), trivial⟩) 2 zL_d (by kernel_rfl) (fun x k => by kernel_rfl)
def zF_ds : Nat → Desc
  | 1000023 => ⟨[(2, .pt 2 0), (8, .pt 4 0), (9, .pt 7 0)], [.arr 9 .str, .arr 51 ty51, .box false 25 [.d (.int .i64), .d .str, .ow 0, .d (.int .i64), .d .str, .d (.int .i64), .ow 1], .arr 60 ty60, .box false 57 [.ow 3, .d (.int .i64), .d (.int .i64), .d (.int .i64)], .no, .no, .box false 25 [.d (.int .i64), .d .str, .ow 8, .d (.int .i64), .d .str, .d (.int .i64), .ow 9], .arr 9 .str, .arr 51 ty51]⟩
  | 1000013 => ⟨[(2, .pt 2 0), (8, .pt 4 0), (9, .pt 7 0)], [.arr 9 .str, .arr 51 ty51, .box false 25 [.d (.int .i64), .d .str, .ow 0, .d (.int .i64), .d .str, .d (.int .i64), .ow 1], .arr 60 ty60, .box false 57 [.ow 3, .d (.int .i64), .d (.int .i64), .d (.int .i64)], .no, .no, .box false 25 [.d (.int .i64), .d .str, .ow 8, .d (.int .i64), .d .str, .d (.int .i64), .ow 9], .arr 9 .str, .arr 51 ty51]⟩
  | _ => ⟨[], []⟩
def zF_dx : Nat → List (X × Desc)
  | 1000023 => [(.r, ⟨[(2, .pt 2 0), (3, .d (.int .i64)), (4, .d (.int .i64))], [.no, .no, .box false 25 [.d (.int .i64), .d .str, .ow 10, .d (.int .i64), .d .str, .d (.int .i64), .ow 11], .no, .no, .no, .no, .no, .no, .no, .arr 9 .str, .arr 51 ty51]⟩), (.r, ⟨[(2, .pt 2 0), (3, .d (.int .i64)), (4, .d (.int .i64))], [.no, .no, .box false 25 [.d (.int .i64), .d .str, .ow 8, .d (.int .i64), .d .str, .d (.int .i64), .ow 9], .no, .no, .no, .no, .no, .arr 9 .str, .arr 51 ty51]⟩)]
  | 1000013 => [(.r, ⟨[(2, .pt 2 0), (3, .d (.int .i64)), (4, .d (.int .i64))], [.no, .no, .box false 25 [.d (.int .i64), .d .str, .ow 10, .d (.int .i64), .d .str, .d (.int .i64), .ow 11], .no, .no, .no, .no, .no, .no, .no, .arr 9 .str, .arr 51 ty51]⟩), (.r, ⟨[(2, .pt 2 0), (3, .d (.int .i64)), (4, .d (.int .i64))], [.no, .no, .box false 25 [.d (.int .i64), .d .str, .ow 8, .d (.int .i64), .d .str, .d (.int .i64), .ow 9], .no, .no, .no, .no, .no, .arr 9 .str, .arr 51 ty51]⟩)]
  | _ => []
def zF_s1000023 (n : Nat) (x0 : (List ByteArray)) (x1 : (List ty51.D)) (x2 : Int) (x3 : ByteArray) (x4 : Int) (x5 : ByteArray) (x6 : Int) (x7 : (List ty60.D)) (x8 : Int) (x9 : Int) (x10 : Int) (x11 : Int) (x12 : ByteArray) (x13 : Int) (x14 : ByteArray) (x15 : Int) (x16 : (List ByteArray)) (x17 : (List ty51.D)) (qr : Int → Int → Int → ByteArray → Int → ByteArray → Int → (List ByteArray) → (List ty51.D) → Option R) (qr_1 : Int → Int → Int → ByteArray → Int → ByteArray → Int → (List ByteArray) → (List ty51.D) → Option R) : Option R :=
  zU_F n (⟨#[105, 102]⟩ : ByteArray) x8 x9 x10 x7 (fun y60 y61 y62 y63 => zL_F n y60 y61 y62 y63 x11 x12 x13 x14 x15 x16 x17 (fun y64 y65 y66 y67 y68 y69 y70 y71 y72 y73 y74 => zC_F n y64 y65 y66 y67 (fun y75 y76 y77 y78 y79 => if (y75.1 != 4) = true then (zC_F n y76 y77 y78 y79 (fun y80 y81 y82 y83 y84 => zE_F n 7 y80.2.2.2.1 y81 y82 y83 y84 (fun y85 y86 y87 y88 => if (y86 != 0) = true then (qr y87 y86 0 (⟨#[]⟩ : ByteArray) 0 (⟨#[]⟩ : ByteArray) 0 ([] : List ByteArray) ([] : List ty51.D)) else (qr_1 0 0 y68 y69 y70 y71 y72 y73 y74)))) else (if (y77 != 0) = true then (qr y78 y77 0 (⟨#[]⟩ : ByteArray) 0 (⟨#[]⟩ : ByteArray) 0 ([] : List ByteArray) ([] : List ty51.D)) else (qr_1 0 0 y68 y69 y70 y71 y72 y73 y74)))))
def zF_li1000023 (n : Nat) (a : (zF_ds 1000023).D) (k2 : exK R (zF_dx 1000023)) : Option R :=
  zF_s1000023 n a.1 a.2.1 a.2.2.1 a.2.2.2.1 a.2.2.2.2.1 a.2.2.2.2.2.1 a.2.2.2.2.2.2.1 a.2.2.2.2.2.2.2.1 a.2.2.2.2.2.2.2.2.1 a.2.2.2.2.2.2.2.2.2.1 a.2.2.2.2.2.2.2.2.2.2.1 a.2.2.2.2.2.2.2.2.2.2.2.1 a.2.2.2.2.2.2.2.2.2.2.2.2.1 a.2.2.2.2.2.2.2.2.2.2.2.2.2.1 a.2.2.2.2.2.2.2.2.2.2.2.2.2.2.1 a.2.2.2.2.2.2.2.2.2.2.2.2.2.2.2.1 a.2.2.2.2.2.2.2.2.2.2.2.2.2.2.2.2.1 a.2.2.2.2.2.2.2.2.2.2.2.2.2.2.2.2.2.1 (fun x0 x1 x2 x3 x4 x5 x6 x7 x8 => k2.1 (x0, x1, x2, x3, x4, x5, x6, x7, x8, ())) (fun x0 x1 x2 x3 x4 x5 x6 x7 x8 => k2.2.1 (x0, x1, x2, x3, x4, x5, x6, x7, x8, ()))
def zEL {R : Type} := lazyN (@zF_li1000023 R)
theorem zF_e1000023 : @zEL R = @zF_li1000023 R := lazyN_eq _
def zF_s1000013 (n : Nat) (x0 : (List ByteArray)) (x1 : (List ty51.D)) (x2 : Int) (x3 : ByteArray) (x4 : Int) (x5 : ByteArray) (x6 : Int) (x7 : (List ty60.D)) (x8 : Int) (x9 : Int) (x10 : Int) (x11 : Int) (x12 : ByteArray) (x13 : Int) (x14 : ByteArray) (x15 : Int) (x16 : (List ByteArray)) (x17 : (List ty51.D)) (qr : Int → Int → Int → ByteArray → Int → ByteArray → Int → (List ByteArray) → (List ty51.D) → Option R) (qr_1 : Int → Int → Int → ByteArray → Int → ByteArray → Int → (List ByteArray) → (List ty51.D) → Option R) : Option R :=
  zX_F n x8 x9 x10 x7 (fun y9 y10 y11 y12 y13 => zU_F n (⟨#[40]⟩ : ByteArray) y10 y11 y12 y13 (fun y14 y15 y16 y17 => zM_F n y14 y15 y16 y17 x11 y9 x13 x14 x15 x16 x17 (fun y18 y19 y20 y21 y22 y23 y24 y25 y26 y27 y28 => zU_F n (⟨#[41]⟩ : ByteArray) y18 y19 y20 y21 (fun y29 y30 y31 y32 => if (y22 == 3) = true then (zU_F n (⟨#[108, 105, 109, 105, 116]⟩ : ByteArray) y29 y30 y31 y32 (fun y33 y34 y35 y36 => if (y34 == 0) = true then (zC_F n y33 y34 y35 y36 (fun y37 y38 y39 y40 y41 => if (y37.1 != 2) = true then (zC_F n y38 y39 y40 y41 (fun y42 y43 y44 y45 y46 => zE_F n 7 y42.2.2.2.1 y43 y44 y45 y46 (fun y47 y48 y49 y50 => zC_F n y47 y48 y49 y50 (fun y51 y52 y53 y54 y55 => zN_F n y52 y53 y54 y55 (fun y56 y57 y58 y59 => zEL n (x0, x1, x2, x3, x4, x5, x6, y59, y56, y57, y58, y22, y23, y24, y25, y51.2.2.1.2.2.1, y27, y28, ()) (fun b97 => qr b97.1 b97.2.1 b97.2.2.1 b97.2.2.2.1 b97.2.2.2.2.1 b97.2.2.2.2.2.1 b97.2.2.2.2.2.2.1 b97.2.2.2.2.2.2.2.1 b97.2.2.2.2.2.2.2.2.1, fun b106 => qr_1 b106.1 b106.2.1 b106.2.2.1 b106.2.2.2.1 b106.2.2.2.2.1 b106.2.2.2.2.2.1 b106.2.2.2.2.2.2.1 b106.2.2.2.2.2.2.2.1 b106.2.2.2.2.2.2.2.2.1, ())))))) else (zC_F n y38 y39 y40 y41 (fun y107 y108 y109 y110 y111 => if (y107.2.2.1.1 != 2) = true then (zC_F n y108 y109 y110 y111 (fun y112 y113 y114 y115 y116 => zE_F n 7 y112.2.2.2.1 y113 y114 y115 y116 (fun y117 y118 y119 y120 => zC_F n y117 y118 y119 y120 (fun y121 y122 y123 y124 y125 => zN_F n y122 y123 y124 y125 (fun y126 y127 y128 y129 => zEL n (x0, x1, x2, x3, x4, x5, x6, y129, y126, y127, y128, y22, y23, y24, y25, y121.2.2.1.2.2.1, y27, y28, ()) (fun b138 => qr b138.1 b138.2.1 b138.2.2.1 b138.2.2.2.1 b138.2.2.2.2.1 b138.2.2.2.2.2.1 b138.2.2.2.2.2.2.1 b138.2.2.2.2.2.2.2.1 b138.2.2.2.2.2.2.2.2.1, fun b147 => qr_1 b147.1 b147.2.1 b147.2.2.1 b147.2.2.2.1 b147.2.2.2.2.1 b147.2.2.2.2.2.1 b147.2.2.2.2.2.2.1 b147.2.2.2.2.2.2.2.1 b147.2.2.2.2.2.2.2.2.1, ())))))) else (zC_F n y108 y109 y110 y111 (fun y148 y149 y150 y151 y152 => zN_F n y149 y150 y151 y152 (fun y153 y154 y155 y156 => zEL n (x0, x1, x2, x3, x4, x5, x6, y156, y153, y154, y155, y22, y23, y24, y25, y148.2.2.1.2.2.1, y27, y28, ()) (fun b165 => qr b165.1 b165.2.1 b165.2.2.1 b165.2.2.2.1 b165.2.2.2.2.1 b165.2.2.2.2.2.1 b165.2.2.2.2.2.2.1 b165.2.2.2.2.2.2.2.1 b165.2.2.2.2.2.2.2.2.1, fun b174 => qr_1 b174.1 b174.2.1 b174.2.2.1 b174.2.2.2.1 b174.2.2.2.2.1 b174.2.2.2.2.2.1 b174.2.2.2.2.2.2.1 b174.2.2.2.2.2.2.2.1 b174.2.2.2.2.2.2.2.2.1, ())))))))) else (zC_F n y33 y34 y35 y36 (fun y175 y176 y177 y178 y179 => zN_F n y176 y177 y178 y179 (fun y180 y181 y182 y183 => zEL n (x0, x1, x2, x3, x4, x5, x6, y183, y180, y181, y182, y22, y23, y24, y25, y175.2.2.1.2.2.1, y27, y28, ()) (fun b192 => qr b192.1 b192.2.1 b192.2.2.1 b192.2.2.2.1 b192.2.2.2.2.1 b192.2.2.2.2.2.1 b192.2.2.2.2.2.2.1 b192.2.2.2.2.2.2.2.1 b192.2.2.2.2.2.2.2.2.1, fun b201 => qr_1 b201.1 b201.2.1 b201.2.2.1 b201.2.2.2.1 b201.2.2.2.2.1 b201.2.2.2.2.2.1 b201.2.2.2.2.2.2.1 b201.2.2.2.2.2.2.2.1 b201.2.2.2.2.2.2.2.2.1, ())))))) else (zEL n (x0, x1, x2, x3, x4, x5, x6, y32, y29, y30, y31, y22, y23, y24, y25, y26, y27, y28, ()) (fun b210 => qr b210.1 b210.2.1 b210.2.2.1 b210.2.2.2.1 b210.2.2.2.2.1 b210.2.2.2.2.2.1 b210.2.2.2.2.2.2.1 b210.2.2.2.2.2.2.2.1 b210.2.2.2.2.2.2.2.2.1, fun b219 => qr_1 b219.1 b219.2.1 b219.2.2.1 b219.2.2.2.1 b219.2.2.2.2.1 b219.2.2.2.2.2.1 b219.2.2.2.2.2.2.1 b219.2.2.2.2.2.2.2.1 b219.2.2.2.2.2.2.2.2.1, ()))))))
def zF_li1000013 (n : Nat) (a : (zF_ds 1000013).D) (k2 : exK R (zF_dx 1000013)) : Option R :=
  zF_s1000013 n a.1 a.2.1 a.2.2.1 a.2.2.2.1 a.2.2.2.2.1 a.2.2.2.2.2.1 a.2.2.2.2.2.2.1 a.2.2.2.2.2.2.2.1 a.2.2.2.2.2.2.2.2.1 a.2.2.2.2.2.2.2.2.2.1 a.2.2.2.2.2.2.2.2.2.2.1 a.2.2.2.2.2.2.2.2.2.2.2.1 a.2.2.2.2.2.2.2.2.2.2.2.2.1 a.2.2.2.2.2.2.2.2.2.2.2.2.2.1 a.2.2.2.2.2.2.2.2.2.2.2.2.2.2.1 a.2.2.2.2.2.2.2.2.2.2.2.2.2.2.2.1 a.2.2.2.2.2.2.2.2.2.2.2.2.2.2.2.2.1 a.2.2.2.2.2.2.2.2.2.2.2.2.2.2.2.2.2.1 (fun x0 x1 x2 x3 x4 x5 x6 x7 x8 => k2.1 (x0, x1, x2, x3, x4, x5, x6, x7, x8, ())) (fun x0 x1 x2 x3 x4 x5 x6 x7 x8 => k2.2.1 (x0, x1, x2, x3, x4, x5, x6, x7, x8, ()))
def zER {R : Type} := lazyN (@zF_li1000013 R)
theorem zF_e1000013 : @zER R = @zF_li1000013 R := lazyN_eq _
@[reducible] def zF_d : Desc := ⟨[(0, .d .str)], []⟩
def zF_Fi (n : Nat) (a0 : ByteArray) (k0 : Int → ByteArray → Int → ByteArray → Int → Int → Int → (List ByteArray) → (List ty51.D) → Option R) : Option R :=
  zAJ_F n a0 (fun y1 y2 y3 => if (y2 != 0) = true then (k0 0 (⟨#[]⟩ : ByteArray) 0 (⟨#[]⟩ : ByteArray) 0 y1 y2 ([] : List ByteArray) ([] : List ty51.D)) else (zG_F n (⟨#[100, 101, 110, 121]⟩ : ByteArray) 0 0 0 y3 (fun y4 y5 y6 y7 y8 => if y4 = true then (zER n (([] : List ByteArray), ([] : List ty51.D), 0, (⟨#[]⟩ : ByteArray), 0, (⟨#[]⟩ : ByteArray), 0, y8, y5, y6, y7, 1, (⟨#[]⟩ : ByteArray), 0, (⟨#[]⟩ : ByteArray), 0, ([] : List ByteArray), ([] : List ty51.D), ()) (fun b228 => k0 b228.2.2.1 b228.2.2.2.1 b228.2.2.2.2.1 b228.2.2.2.2.2.1 b228.2.2.2.2.2.2.1 b228.1 b228.2.1 b228.2.2.2.2.2.2.2.1 b228.2.2.2.2.2.2.2.2.1, fun b237 => k0 b237.2.2.1 b237.2.2.2.1 b237.2.2.2.2.1 b237.2.2.2.2.2.1 b237.2.2.2.2.2.2.1 b237.1 b237.2.1 b237.2.2.2.2.2.2.2.1 b237.2.2.2.2.2.2.2.2.1, ())) else (zG_F n (⟨#[118, 105, 101, 119]⟩ : ByteArray) y5 y6 y7 y8 (fun y238 y239 y240 y241 y242 => if y238 = true then (zER n (([] : List ByteArray), ([] : List ty51.D), 0, (⟨#[]⟩ : ByteArray), 0, (⟨#[]⟩ : ByteArray), 0, y242, y239, y240, y241, 2, (⟨#[]⟩ : ByteArray), 0, (⟨#[]⟩ : ByteArray), 0, ([] : List ByteArray), ([] : List ty51.D), ()) (fun b251 => k0 b251.2.2.1 b251.2.2.2.1 b251.2.2.2.2.1 b251.2.2.2.2.2.1 b251.2.2.2.2.2.2.1 b251.1 b251.2.1 b251.2.2.2.2.2.2.2.1 b251.2.2.2.2.2.2.2.2.1, fun b260 => k0 b260.2.2.1 b260.2.2.2.1 b260.2.2.2.2.1 b260.2.2.2.2.2.1 b260.2.2.2.2.2.2.1 b260.1 b260.2.1 b260.2.2.2.2.2.2.2.1 b260.2.2.2.2.2.2.2.2.1, ())) else (zG_F n (⟨#[113, 117, 111, 116, 97]⟩ : ByteArray) y239 y240 y241 y242 (fun y261 y262 y263 y264 y265 => if y261 = true then (zER n (([] : List ByteArray), ([] : List ty51.D), 0, (⟨#[]⟩ : ByteArray), 0, (⟨#[]⟩ : ByteArray), 0, y265, y262, y263, y264, 3, (⟨#[]⟩ : ByteArray), 0, (⟨#[]⟩ : ByteArray), 0, ([] : List ByteArray), ([] : List ty51.D), ()) (fun b274 => k0 b274.2.2.1 b274.2.2.2.1 b274.2.2.2.2.1 b274.2.2.2.2.2.1 b274.2.2.2.2.2.2.1 b274.1 b274.2.1 b274.2.2.2.2.2.2.2.1 b274.2.2.2.2.2.2.2.2.1, fun b283 => k0 b283.2.2.1 b283.2.2.2.1 b283.2.2.2.2.1 b283.2.2.2.2.2.1 b283.2.2.2.2.2.2.1 b283.1 b283.2.1 b283.2.2.2.2.2.2.2.1 b283.2.2.2.2.2.2.2.2.1, ())) else (zC_F n y262 y263 y264 y265 (fun y284 y285 y286 y287 y288 => zE_F n 7 y284.2.2.2.1 y285 y286 y287 y288 (fun y289 y290 y291 y292 => zER n (([] : List ByteArray), ([] : List ty51.D), 0, (⟨#[]⟩ : ByteArray), 0, (⟨#[]⟩ : ByteArray), 0, y292, y289, y290, y291, 0, (⟨#[]⟩ : ByteArray), 0, (⟨#[]⟩ : ByteArray), 0, ([] : List ByteArray), ([] : List ty51.D), ()) (fun b301 => k0 b301.2.2.1 b301.2.2.2.1 b301.2.2.2.2.1 b301.2.2.2.2.2.1 b301.2.2.2.2.2.2.1 b301.1 b301.2.1 b301.2.2.2.2.2.2.2.1 b301.2.2.2.2.2.2.2.2.1, fun b310 => k0 b310.2.2.1 b310.2.2.2.1 b310.2.2.2.2.1 b310.2.2.2.2.2.1 b310.2.2.2.2.2.2.1 b310.1 b310.2.1 b310.2.2.2.2.2.2.2.1 b310.2.2.2.2.2.2.2.2.1, ())))))))))))
def zF_F {R : Type} := lazyN (@zF_Fi R)
theorem zF_e : @zF_F R = @zF_Fi R := lazyN_eq _
def zF_g (n : Nat) : Gx R := typed 1 zF_d fun x k => zF_F n x.1 (fun y0 y1 y2 y3 y4 y5 y6 y7 y8 => k (.tu [(.ag [(.i .i64 y0), (.s y1), (.ow 0), (.i .i64 y2), (.s y3), (.i .i64 y4), (.ow 1)]), (.c (.i .i64 y5)), (.c (.i .i64 y6))]) [(.arr 9 .str y7), (.arr 51 ty51 y8)])
def zF_cs (R : Type) (n : Nat) : List (Nat × Gx R) := [(16, zAJ_g n), (17, zG_g n), (18, zE_g n), (19, zC_g n), (20, zX_g n), (21, zU_g n), (22, zM_g n), (23, zN_g n), (24, zL_g n)]
def zF_lp (n : Nat) : (i : Nat) → (zF_ds i).D → exK R (zF_dx i) → Option R
  | 1000023, a, k => zEL n a k
  | 1000013, a, k => zER n a k
  | _, _, _ => none
def zF_cx (R : Type) (n : Nat) : Cx R := ⟨Tryz.prog, Gof (zF_cs R n), zF_ds, zF_dx, zF_lp n, drawP Tryz.prog (Gof (zF_cs R n)), false, (memN [23, 13]), noFz⟩
theorem zF_ok [Esc R] (n : Nat) : Good Tryz.prog 8 (zF_g (R := R) n) := by
  unfold zF_g
  rw [zF_e]
  exact Good.fn (cx := zF_cx R n) (by kernel_rfl) (AllGood.cons (zAJ_ok n) (AllGood.cons (zG_ok n) (AllGood.cons (zE_ok n) (AllGood.cons (zC_ok n) (AllGood.cons (zX_ok n) (AllGood.cons (zU_ok n) (AllGood.cons (zM_ok n) (AllGood.cons (zN_ok n) (AllGood.cons (zL_ok n) (AllGood.nil)))))))))) rfl Tryz.func8 (by kernel_rfl) rfl (by
    have e : fnLoops (memN [23, 13]) Tryz.f8 = [((fnLoops (memN [23, 13]) Tryz.f8)[0]?).getD (false, .skip), ((fnLoops (memN [23, 13]) Tryz.f8)[1]?).getD (false, .skip)] := by kernel_rfl
    show LoopRuns _ _ (fnLoops (memN [23, 13]) _)
    rw [e]
    exact ⟨LoopRun.joinS (by kernel_rfl) (i := 13) (L := zER n) (Li := zF_li1000013 n) (by rw [zF_e1000013]) (by kernel_rfl) (fun a k => by kernel_rfl) (fun a k => by kernel_rfl), ⟨LoopRun.joinS (by kernel_rfl) (i := 23) (L := zEL n) (Li := zF_li1000023 n) (by rw [zF_e1000023]) (by kernel_rfl) (fun a k => by kernel_rfl) (fun a k => by kernel_rfl), trivial⟩⟩) 1 zF_d (by kernel_rfl) (fun x k => by kernel_rfl)
@[reducible] def zO_d : Desc := ⟨[(0, .pt 0 0)], [.box true 43 [.d (.sl ty78), .d (.int .i64)]]⟩
def zO_Fi (n : Nat) (a0 : (List ty78.D)) (a1 : Int) (k0 : ty78.D → (List ty78.D) → Int → Option R) : Option R :=
  if (0 : Int) ≤ a1 ∧ a1 < (a0.length : Int) then (k0 ((a0.getD (Int.toNat a1) (Ty.z ty78)).1, (a0.getD (Int.toNat a1) (Ty.z ty78)).2.1, ((a0.getD (Int.toNat a1) (Ty.z ty78)).2.2.1), (a0.getD (Int.toNat a1) (Ty.z ty78)).2.2.2.1, ()) a0 a1) else none
def zO_F {R : Type} := lazyN (@zO_Fi R)
theorem zO_e : @zO_F R = @zO_Fi R := lazyN_eq _
def zO_g (n : Nat) : Gx R := typed 1 zO_d fun x k => zO_F n x.1 x.2.1 (fun y0 y1 y2 => k (.a (encA ty78 y0)) [(.box true 43 [(.fz ty78 y1), (.i .i64 y2)])])
def zO_cs (R : Type) (n : Nat) : List (Nat × Gx R) := []
def zO_cx (R : Type) (n : Nat) : Cx R := ⟨Tryz.prog, Gof (zO_cs R n), noDs, noDx, noLp, drawP Tryz.prog (Gof (zO_cs R n)), false, noJn, noFz⟩
theorem zO_ok [Esc R] (n : Nat) : Good Tryz.prog 41 (zO_g (R := R) n) := by
  unfold zO_g
  rw [zO_e]
  exact Good.fn (cx := zO_cx R n) (by kernel_rfl) (AllGood.nil) rfl Tryz.func41 (by kernel_rfl) rfl trivial 1 zO_d (by kernel_rfl) (fun x k => by kernel_rfl)
@[reducible] def zBV_d : Desc := ⟨[(0, .pt 0 0), (1, .d .str)], [.box true 43 [.d (.sl ty78), .d (.int .i64)]]⟩
def zBV_Fi (n : Nat) (a0 : ByteArray) (a1 : (List ty78.D)) (a2 : Int) (k0 : Bool → (List ty78.D) → Int → Option R) : Option R :=
  zO_F n a1 a2 (fun y1 y2 y3 => if (y1.1 == 1) = true then (k0 (y1.2.1.toList == a0.toList) y2 y3) else (if (y1.1 == 3) = true then (k0 (y1.2.1.toList == a0.toList) y2 y3) else (k0 false y2 y3)))
def zBV_F {R : Type} := lazyN (@zBV_Fi R)
theorem zBV_e : @zBV_F R = @zBV_Fi R := lazyN_eq _
def zBV_g (n : Nat) : Gx R := typed 2 zBV_d fun x k => zBV_F n x.1 x.2.1 x.2.2.1 (fun y0 y1 y2 => k (.a (.c (.b y0))) [(.box true 43 [(.fz ty78 y1), (.i .i64 y2)])])
def zBV_cs (R : Type) (n : Nat) : List (Nat × Gx R) := [(41, zO_g n)]
def zBV_cx (R : Type) (n : Nat) : Cx R := ⟨Tryz.prog, Gof (zBV_cs R n), noDs, noDx, noLp, drawP Tryz.prog (Gof (zBV_cs R n)), false, noJn, noFz⟩
theorem zBV_ok [Esc R] (n : Nat) : Good Tryz.prog 92 (zBV_g (R := R) n) := by
  unfold zBV_g
  rw [zBV_e]
  exact Good.fn (cx := zBV_cx R n) (by kernel_rfl) (AllGood.cons (zO_ok n) (AllGood.nil)) rfl Tryz.func92 (by kernel_rfl) rfl trivial 2 zBV_d (by kernel_rfl) (fun x k => by kernel_rfl)
@[reducible] def zAE_d : Desc := ⟨[(0, .pt 0 0)], [.box true 43 [.d (.sl ty78), .d (.int .i64)]]⟩
def zAE_Fi (n : Nat) (a0 : (List ty78.D)) (a1 : Int) (k0 : ty78.D → (List ty78.D) → Int → Option R) : Option R :=
  zO_F n a0 a1 (fun y1 y2 y3 => if (y1.1 != 4) = true then (k0 y1 y2 (IntKind.i64.wrap (y3 + 1))) else (k0 y1 y2 y3))
def zAE_F {R : Type} := lazyN (@zAE_Fi R)
theorem zAE_e : @zAE_F R = @zAE_Fi R := lazyN_eq _
def zAE_g (n : Nat) : Gx R := typed 1 zAE_d fun x k => zAE_F n x.1 x.2.1 (fun y0 y1 y2 => k (.a (encA ty78 y0)) [(.box true 43 [(.fz ty78 y1), (.i .i64 y2)])])
def zAE_cs (R : Type) (n : Nat) : List (Nat × Gx R) := [(41, zO_g n)]
def zAE_cx (R : Type) (n : Nat) : Cx R := ⟨Tryz.prog, Gof (zAE_cs R n), noDs, noDx, noLp, drawP Tryz.prog (Gof (zAE_cs R n)), false, noJn, noFz⟩
theorem zAE_ok [Esc R] (n : Nat) : Good Tryz.prog 42 (zAE_g (R := R) n) := by
  unfold zAE_g
  rw [zAE_e]
  exact Good.fn (cx := zAE_cx R n) (by kernel_rfl) (AllGood.cons (zO_ok n) (AllGood.nil)) rfl Tryz.func42 (by kernel_rfl) rfl trivial 1 zAE_d (by kernel_rfl) (fun x k => by kernel_rfl)
@[reducible] def zAF_d : Desc := ⟨[(0, .pt 0 0), (1, .d .str)], [.box true 43 [.d (.sl ty78), .d (.int .i64)]]⟩
def zAF_Fi (n : Nat) (a0 : ByteArray) (a1 : (List ty78.D)) (a2 : Int) (k0 : Bool → (List ty78.D) → Int → Option R) : Option R :=
  zBV_F n a0 a1 a2 (fun y1 y2 y3 => if y1 = true then (zAE_F n y2 y3 (fun y4 y5 y6 => k0 y1 y5 y6)) else (k0 y1 y2 y3))
def zAF_F {R : Type} := lazyN (@zAF_Fi R)
theorem zAF_e : @zAF_F R = @zAF_Fi R := lazyN_eq _
def zAF_g (n : Nat) : Gx R := typed 2 zAF_d fun x k => zAF_F n x.1 x.2.1 x.2.2.1 (fun y0 y1 y2 => k (.a (.c (.b y0))) [(.box true 43 [(.fz ty78 y1), (.i .i64 y2)])])
def zAF_cs (R : Type) (n : Nat) : List (Nat × Gx R) := [(42, zAE_g n), (92, zBV_g n)]
def zAF_cx (R : Type) (n : Nat) : Cx R := ⟨Tryz.prog, Gof (zAF_cs R n), noDs, noDx, noLp, drawP Tryz.prog (Gof (zAF_cs R n)), false, noJn, noFz⟩
theorem zAF_ok [Esc R] (n : Nat) : Good Tryz.prog 59 (zAF_g (R := R) n) := by
  unfold zAF_g
  rw [zAF_e]
  exact Good.fn (cx := zAF_cx R n) (by kernel_rfl) (AllGood.cons (zAE_ok n) (AllGood.cons (zBV_ok n) (AllGood.nil))) rfl Tryz.func59 (by kernel_rfl) rfl trivial 2 zAF_d (by kernel_rfl) (fun x k => by kernel_rfl)
@[reducible] def zK_d : Desc := ⟨[(0, .pt 0 0), (1, .d .bool), (2, .d (.int .i64))], [.box true 43 [.d (.sl ty78), .d (.int .i64)]]⟩
noncomputable def zK_Fi [Esc R] (n : Nat) (a0 : Bool) (a1 : Int) (a2 : (List ty78.D)) (a3 : Int) (k0 : (List ty78.D) → Int → Option R) : Option R :=
  if (!a0) = true then (zO_F n a2 a3 (fun y1 y2 y3 => Esc.esc (.iface 39 (.agg #[.int .i64 a1, .int .i64 y1.2.2.2.1])))) else (k0 a2 a3)
noncomputable def zK_F {R : Type} [i : Esc R] := lazyN (@zK_Fi R i)
theorem zK_e [i : Esc R] : @zK_F R i = @zK_Fi R i := lazyN_eq _
noncomputable def zK_g [Esc R] (n : Nat) : Gx R := typed 3 zK_d fun x k => zK_F n x.1 x.2.1 x.2.2.1 x.2.2.2.1 (fun y0 y1 => k (.tu []) [(.box true 43 [(.fz ty78 y0), (.i .i64 y1)])])
noncomputable def zK_cs (R : Type) [Esc R] (n : Nat) : List (Nat × Gx R) := [(panF, escG), (41, zO_g n)]
noncomputable def zK_cx (R : Type) [Esc R] (n : Nat) : Cx R := ⟨Tryz.prog, Gof (zK_cs R n), noDs, noDx, noLp, drawP Tryz.prog (Gof (zK_cs R n)), false, noJn, noFz⟩
theorem zK_ok [Esc R] (n : Nat) : Good Tryz.prog 40 (zK_g (R := R) n) := by
  unfold zK_g
  rw [zK_e]
  exact Good.fn (f := 40) (cx := zK_cx R n) (by kernel_rfl) (AllGood.esc (AllGood.cons (zO_ok n) (AllGood.nil))) rfl Tryz.func40 (by kernel_rfl) rfl trivial 3 zK_d (by kernel_rfl) (fun x k => by kernel_rfl)
def zAA_ds : Nat → Desc
  | 2 => ⟨[(0, .pt 0 0), (5, .ow 1), (6, .d (.int .i64)), (7, .d (.int .i64))], [.box true 43 [.d (.sl ty78), .d (.int .i64)], .arr 9 .str]⟩
  | _ => ⟨[], []⟩
def zAA_dx : Nat → List (X × Desc)
  | 2 => [(.r, ⟨[(2, .d (.int .i64))], [.box true 43 [.d (.sl ty78), .d (.int .i64)]]⟩), (.e 0, ⟨[(0, .pt 0 0)], [.box true 43 [.d (.sl ty78), .d (.int .i64)]]⟩)]
  | _ => []
noncomputable def zAA_s2 [Esc R] (n : Nat) (x0 : Int) (x1 : Int) (x2 : (List ty78.D)) (x3 : Int) (x4 : (List ByteArray)) (k1 : Int → Int → (List ty78.D) → Int → (List ByteArray) → Option R) (qr : Int → (List ty78.D) → Int → Option R) (qe0 : (List ty78.D) → Int → Option R) : Option R :=
  if (decide (x1 < x0)) = true then (if (0 : Int) ≤ x1 ∧ x1 < (x4.length : Int) then (if (Int.toNat x1) < x4.length then (zAF_F n (x4.getD (Int.toNat x1) (Ty.z .str)) x2 x3 (fun y1 y2 y3 => if y1 = true then (qr (IntKind.i64.wrap (1 + x1)) y2 y3) else (k1 x0 (IntKind.i64.wrap (x1 + 1)) y2 y3 x4))) else none) else none) else (qe0 x2 x3)
noncomputable def zAA_l2 [Esc R] (n : Nat) (a : (zAA_ds 2).D) (k1 : (zAA_ds 2).D → Option R) (k2 : exK R (zAA_dx 2)) : Option R :=
  zAA_s2 n a.1 a.2.1 a.2.2.1 a.2.2.2.1 a.2.2.2.2.1 (fun x0 x1 x2 x3 x4 => k1 (x0, x1, x2, x3, x4, ())) (fun x0 x1 x2 => k2.1 (x0, x1, x2, ())) (fun x0 x1 => k2.2.1 (x0, x1, ()))
@[reducible] def zAA_d : Desc := ⟨[(0, .pt 0 0)], [.box true 43 [.d (.sl ty78), .d (.int .i64)]]⟩
noncomputable def zAA_Fi [Esc R] (n : Nat) (a0 : (List ty78.D)) (a1 : Int) (k0 : Int → (List ty78.D) → Int → Option R) : Option R :=
  runC (zAA_l2 n) n (([(⟨#[100, 101, 110, 121]⟩ : ByteArray), (⟨#[118, 105, 101, 119]⟩ : ByteArray), (⟨#[113, 117, 111, 116, 97]⟩ : ByteArray)].length : Int), 0, a0, a1, [(⟨#[100, 101, 110, 121]⟩ : ByteArray), (⟨#[118, 105, 101, 119]⟩ : ByteArray), (⟨#[113, 117, 111, 116, 97]⟩ : ByteArray)], ()) (fun b6 => k0 b6.1 b6.2.1 b6.2.2.1, fun b8 => zK_F n false 7 b8.1 b8.2.1 (fun y9 y10 => k0 0 y9 y10), ())
noncomputable def zAA_F {R : Type} [i : Esc R] := lazyN (@zAA_Fi R i)
theorem zAA_e [i : Esc R] : @zAA_F R i = @zAA_Fi R i := lazyN_eq _
noncomputable def zAA_g [Esc R] (n : Nat) : Gx R := typed 1 zAA_d fun x k => zAA_F n x.1 x.2.1 (fun y0 y1 y2 => k (.a (.c (.i .i64 y0))) [(.box true 43 [(.fz ty78 y1), (.i .i64 y2)])])
noncomputable def zAA_cs (R : Type) [Esc R] (n : Nat) : List (Nat × Gx R) := [(panF, escG), (40, zK_g n), (59, zAF_g n)]
noncomputable def zAA_lp [Esc R] (n : Nat) : (i : Nat) → (zAA_ds i).D → exK R (zAA_dx i) → Option R
  | 2, a, k => runC (zAA_l2 n) n a k
  | _, _, _ => none
noncomputable def zAA_cx (R : Type) [Esc R] (n : Nat) : Cx R := ⟨Tryz.prog, Gof (zAA_cs R n), zAA_ds, zAA_dx, zAA_lp n, drawP Tryz.prog (Gof (zAA_cs R n)), false, noJn, noFz⟩
theorem zAA_ok [Esc R] (n : Nat) : Good Tryz.prog 36 (zAA_g (R := R) n) := by
  unfold zAA_g
  rw [zAA_e]
  exact Good.fn (f := 36) (cx := zAA_cx R n) (by kernel_rfl) (AllGood.esc (AllGood.cons (zK_ok n) (AllGood.cons (zAF_ok n) (AllGood.nil)))) rfl Tryz.func36 (by kernel_rfl) rfl (by
    have e : fnLoops noJn Tryz.f36 = [((fnLoops noJn Tryz.f36)[0]?).getD (false, .skip)] := by kernel_rfl
    show LoopRuns _ _ (fnLoops noJn _)
    rw [e]
    exact ⟨LoopRun.loop (by kernel_rfl) (i := 2) (m := n) (step := zAA_l2 n) (by kernel_rfl) (fun a k1 k2 => by kernel_rfl) (fun _ _ => rfl), trivial⟩) 1 zAA_d (by kernel_rfl) (fun x k => by kernel_rfl)
@[reducible] def zBB_d : Desc := ⟨[(0, .pt 0 0)], [.box true 43 [.d (.sl ty78), .d (.int .i64)]]⟩
def zBB_Fi (n : Nat) (a0 : (List ty78.D)) (a1 : Int) (k0 : Bool → (List ty78.D) → Int → Option R) : Option R :=
  zO_F n a0 a1 (fun y1 y2 y3 => if (y1.1 == 1) = true then (zBL_F n y1.2.1 (fun y4 => if y4 = true then (zCP_F n y1.2.1 (fun y5 => k0 (!y5) y2 y3)) else (k0 false y2 y3))) else (k0 false y2 y3))
def zBB_F {R : Type} := lazyN (@zBB_Fi R)
theorem zBB_e : @zBB_F R = @zBB_Fi R := lazyN_eq _
def zBB_g (n : Nat) : Gx R := typed 1 zBB_d fun x k => zBB_F n x.1 x.2.1 (fun y0 y1 y2 => k (.a (.c (.b y0))) [(.box true 43 [(.fz ty78 y1), (.i .i64 y2)])])
def zBB_cs (R : Type) (n : Nat) : List (Nat × Gx R) := [(41, zO_g n), (93, zBL_g n), (94, zCP_g n)]
def zBB_cx (R : Type) (n : Nat) : Cx R := ⟨Tryz.prog, Gof (zBB_cs R n), noDs, noDx, noLp, drawP Tryz.prog (Gof (zBB_cs R n)), false, noJn, noFz⟩
theorem zBB_ok [Esc R] (n : Nat) : Good Tryz.prog 60 (zBB_g (R := R) n) := by
  unfold zBB_g
  rw [zBB_e]
  exact Good.fn (f := 60) (cx := zBB_cx R n) (by kernel_rfl) (AllGood.cons (zO_ok n) (AllGood.cons (zBL_ok n) (AllGood.cons (zCP_ok n) (AllGood.nil)))) rfl Tryz.func60 (by kernel_rfl) rfl trivial 1 zBB_d (by kernel_rfl) (fun x k => by kernel_rfl)
@[reducible] def zAX_d : Desc := ⟨[(0, .pt 0 0)], [.box true 43 [.d (.sl ty78), .d (.int .i64)]]⟩
noncomputable def zAX_Fi [Esc R] (n : Nat) (a0 : (List ty78.D)) (a1 : Int) (k0 : ByteArray → (List ty78.D) → Int → Option R) : Option R :=
  zBB_F n a0 a1 (fun y1 y2 y3 => zK_F n y1 7 y2 y3 (fun y4 y5 => zAE_F n y4 y5 (fun y6 y7 y8 => k0 y6.2.1 y7 y8)))
noncomputable def zAX_F {R : Type} [i : Esc R] := lazyN (@zAX_Fi R i)
theorem zAX_e [i : Esc R] : @zAX_F R i = @zAX_Fi R i := lazyN_eq _
noncomputable def zAX_g [Esc R] (n : Nat) : Gx R := typed 1 zAX_d fun x k => zAX_F n x.1 x.2.1 (fun y0 y1 y2 => k (.a (.c (.s y0))) [(.box true 43 [(.fz ty78 y1), (.i .i64 y2)])])
noncomputable def zAX_cs (R : Type) [Esc R] (n : Nat) : List (Nat × Gx R) := [(panF, escG), (40, zK_g n), (42, zAE_g n), (60, zBB_g n)]
noncomputable def zAX_cx (R : Type) [Esc R] (n : Nat) : Cx R := ⟨Tryz.prog, Gof (zAX_cs R n), noDs, noDx, noLp, drawP Tryz.prog (Gof (zAX_cs R n)), false, noJn, noFz⟩
theorem zAX_ok [Esc R] (n : Nat) : Good Tryz.prog 37 (zAX_g (R := R) n) := by
  unfold zAX_g
  rw [zAX_e]
  exact Good.fn (f := 37) (cx := zAX_cx R n) (by kernel_rfl) (AllGood.esc (AllGood.cons (zK_ok n) (AllGood.cons (zAE_ok n) (AllGood.cons (zBB_ok n) (AllGood.nil))))) rfl Tryz.func37 (by kernel_rfl) rfl trivial 1 zAX_d (by kernel_rfl) (fun x k => by kernel_rfl)
@[reducible] def zAO_d : Desc := ⟨[(0, .pt 0 0), (1, .d .str)], [.box true 43 [.d (.sl ty78), .d (.int .i64)]]⟩
noncomputable def zAO_Fi [Esc R] (n : Nat) (a0 : ByteArray) (a1 : (List ty78.D)) (a2 : Int) (k0 : (List ty78.D) → Int → Option R) : Option R :=
  zAF_F n a0 a1 a2 (fun y1 y2 y3 => zK_F n y1 7 y2 y3 (fun y4 y5 => k0 y4 y5))
noncomputable def zAO_F {R : Type} [i : Esc R] := lazyN (@zAO_Fi R i)
theorem zAO_e [i : Esc R] : @zAO_F R i = @zAO_Fi R i := lazyN_eq _
noncomputable def zAO_g [Esc R] (n : Nat) : Gx R := typed 2 zAO_d fun x k => zAO_F n x.1 x.2.1 x.2.2.1 (fun y0 y1 => k (.tu []) [(.box true 43 [(.fz ty78 y0), (.i .i64 y1)])])
noncomputable def zAO_cs (R : Type) [Esc R] (n : Nat) : List (Nat × Gx R) := [(panF, escG), (40, zK_g n), (59, zAF_g n)]
noncomputable def zAO_cx (R : Type) [Esc R] (n : Nat) : Cx R := ⟨Tryz.prog, Gof (zAO_cs R n), noDs, noDx, noLp, drawP Tryz.prog (Gof (zAO_cs R n)), false, noJn, noFz⟩
theorem zAO_ok [Esc R] (n : Nat) : Good Tryz.prog 38 (zAO_g (R := R) n) := by
  unfold zAO_g
  rw [zAO_e]
  exact Good.fn (f := 38) (cx := zAO_cx R n) (by kernel_rfl) (AllGood.esc (AllGood.cons (zK_ok n) (AllGood.cons (zAF_ok n) (AllGood.nil)))) rfl Tryz.func38 (by kernel_rfl) rfl trivial 2 zAO_d (by kernel_rfl) (fun x k => by kernel_rfl)
@[reducible] def zCH_d : Desc := ⟨[(0, .pt 0 0), (1, .pt 1 0)], [.box true 43 [.d (.sl ty78), .d (.int .i64)], .box true 25 [.d (.int .i64), .d .str, .ow 2, .d (.int .i64), .d .str, .d (.int .i64), .ow 3], .arr 9 .str, .arr 51 ty51]⟩
noncomputable def zCH_Fi [Esc R] (n : Nat) (a0 : (List ty78.D)) (a1 : Int) (a2 : Int) (a3 : ByteArray) (a4 : Int) (a5 : ByteArray) (a6 : Int) (a7 : (List ByteArray)) (a8 : (List ty51.D)) (k0 : Bool → (List ty78.D) → Int → Int → ByteArray → Int → ByteArray → Int → (List ByteArray) → (List ty51.D) → Option R) : Option R :=
  zO_F n a0 a1 (fun y1 y2 y3 => zAU_F n [(⟨#[99, 111, 117, 110, 116]⟩ : ByteArray), (⟨#[115, 117, 109]⟩ : ByteArray), (⟨#[108, 101, 97, 115, 116]⟩ : ByteArray), (⟨#[109, 111, 115, 116]⟩ : ByteArray)] y1.2.1 (fun y4 => zO_F n y2 y3 (fun y5 y6 y7 => if (y5.1 != 1) = true then (k0 false y6 y7 a2 a3 a4 a5 a6 a7 a8) else (if (decide ((IntKind.i64.wrap (y4 + 1)) < 1)) = true then (k0 false y6 y7 a2 a3 a4 a5 a6 a7 a8) else (if (a2 == 2) = true then (zK_F n true 7 y6 y7 (fun y8 y9 => zAE_F n y8 y9 (fun y10 y11 y12 => if ((IntKind.i64.wrap (y4 + 1)) != 1) = true then (zAX_F n y11 y12 (fun y13 y14 y15 => k0 true y14 y15 a2 a3 (IntKind.i64.wrap (y4 + 1)) y13 a6 a7 a8)) else (k0 true y11 y12 a2 a3 (IntKind.i64.wrap (y4 + 1)) a5 a6 a7 a8)))) else (if (a2 == 3) = true then (zK_F n (decide ((IntKind.i64.wrap (y4 + 1)) ≤ 2)) 7 y6 y7 (fun y16 y17 => zAE_F n y16 y17 (fun y18 y19 y20 => if ((IntKind.i64.wrap (y4 + 1)) != 1) = true then (zAX_F n y19 y20 (fun y21 y22 y23 => k0 true y22 y23 a2 a3 (IntKind.i64.wrap (y4 + 1)) y21 a6 a7 a8)) else (k0 true y19 y20 a2 a3 (IntKind.i64.wrap (y4 + 1)) a5 a6 a7 a8)))) else (zK_F n false 7 y6 y7 (fun y24 y25 => zAE_F n y24 y25 (fun y26 y27 y28 => if ((IntKind.i64.wrap (y4 + 1)) != 1) = true then (zAX_F n y27 y28 (fun y29 y30 y31 => k0 true y30 y31 a2 a3 (IntKind.i64.wrap (y4 + 1)) y29 a6 a7 a8)) else (k0 true y27 y28 a2 a3 (IntKind.i64.wrap (y4 + 1)) a5 a6 a7 a8))))))))))
noncomputable def zCH_F {R : Type} [i : Esc R] := lazyN (@zCH_Fi R i)
theorem zCH_e [i : Esc R] : @zCH_F R i = @zCH_Fi R i := lazyN_eq _
noncomputable def zCH_g [Esc R] (n : Nat) : Gx R := typed 2 zCH_d fun x k => zCH_F n x.1 x.2.1 x.2.2.1 x.2.2.2.1 x.2.2.2.2.1 x.2.2.2.2.2.1 x.2.2.2.2.2.2.1 x.2.2.2.2.2.2.2.1 x.2.2.2.2.2.2.2.2.1 (fun y0 y1 y2 y3 y4 y5 y6 y7 y8 y9 => k (.a (.c (.b y0))) [(.box true 43 [(.fz ty78 y1), (.i .i64 y2)]), (.box true 25 [(.i .i64 y3), (.s y4), (.ow 2), (.i .i64 y5), (.s y6), (.i .i64 y7), (.ow 3)]), (.arr 9 .str y8), (.arr 51 ty51 y9)])
noncomputable def zCH_cs (R : Type) [Esc R] (n : Nat) : List (Nat × Gx R) := [(panF, escG), (37, zAX_g n), (40, zK_g n), (41, zO_g n), (42, zAE_g n), (95, zAU_g n)]
noncomputable def zCH_cx (R : Type) [Esc R] (n : Nat) : Cx R := ⟨Tryz.prog, Gof (zCH_cs R n), noDs, noDx, noLp, drawP Tryz.prog (Gof (zCH_cs R n)), false, noJn, noFz⟩
theorem zCH_ok [Esc R] (n : Nat) : Good Tryz.prog 61 (zCH_g (R := R) n) := by
  unfold zCH_g
  rw [zCH_e]
  exact Good.fn (f := 61) (cx := zCH_cx R n) (by kernel_rfl) (AllGood.esc (AllGood.cons (zAX_ok n) (AllGood.cons (zK_ok n) (AllGood.cons (zO_ok n) (AllGood.cons (zAE_ok n) (AllGood.cons (zAU_ok n) (AllGood.nil))))))) rfl Tryz.func61 (by kernel_rfl) rfl trivial 2 zCH_d (by kernel_rfl) (fun x k => by kernel_rfl)
def zAQ_ds : Nat → Desc
  | 4 => ⟨[(0, .pt 0 0), (1, .pt 1 0)], [.box true 43 [.d (.sl ty78), .d (.int .i64)], .box true 25 [.d (.int .i64), .d .str, .ow 2, .d (.int .i64), .d .str, .d (.int .i64), .ow 3], .arr 9 .str, .arr 51 ty51]⟩
  | _ => ⟨[], []⟩
def zAQ_dx : Nat → List (X × Desc)
  | 4 => [(.r, ⟨[], [.box true 43 [.d (.sl ty78), .d (.int .i64)], .box true 25 [.d (.int .i64), .d .str, .ow 2, .d (.int .i64), .d .str, .d (.int .i64), .ow 3], .arr 9 .str, .arr 51 ty51]⟩), (.e 0, ⟨[], [.box true 43 [.d (.sl ty78), .d (.int .i64)], .box true 25 [.d (.int .i64), .d .str, .ow 2, .d (.int .i64), .d .str, .d (.int .i64), .ow 3], .arr 9 .str, .arr 51 ty51]⟩)]
  | _ => []
noncomputable def zAQ_s4 [Esc R] (n : Nat) (x0 : (List ty78.D)) (x1 : Int) (x2 : Int) (x3 : ByteArray) (x4 : Int) (x5 : ByteArray) (x6 : Int) (x7 : (List ByteArray)) (x8 : (List ty51.D)) (k1 : (List ty78.D) → Int → Int → ByteArray → Int → ByteArray → Int → (List ByteArray) → (List ty51.D) → Option R) (qr : (List ty78.D) → Int → Int → ByteArray → Int → ByteArray → Int → (List ByteArray) → (List ty51.D) → Option R) (qe0 : (List ty78.D) → Int → Int → ByteArray → Int → ByteArray → Int → (List ByteArray) → (List ty51.D) → Option R) : Option R :=
  zCH_F n x0 x1 x2 x3 x4 x5 x6 x7 x8 (fun y18 y19 y20 y21 y22 y23 y24 y25 y26 y27 => if (!y18) = true then (zBB_F n y19 y20 (fun y28 y29 y30 => if y28 = true then (zK_F n (decide ((y26.length : Int) < 40)) 9 y29 y30 (fun y31 y32 => zAX_F n y31 y32 (fun y33 y34 y35 => if (List.length y26 + List.length [y33]) * 16 ≤ 140737488355328 then (zAF_F n (⟨#[44]⟩ : ByteArray) y34 y35 (fun y36 y37 y38 => if (!y36) = true then (qr y37 y38 y21 y22 y23 y24 y25 (y26 ++ [y33]) y27) else (k1 y37 y38 y21 y22 y23 y24 y25 (y26 ++ [y33]) y27))) else none))) else (zAX_F n y29 y30 (fun y39 y40 y41 => if (List.length y26 + List.length [y39]) * 16 ≤ 140737488355328 then (zAF_F n (⟨#[44]⟩ : ByteArray) y40 y41 (fun y42 y43 y44 => if (!y42) = true then (qr y43 y44 y21 y22 y23 y24 y25 (y26 ++ [y39]) y27) else (k1 y43 y44 y21 y22 y23 y24 y25 (y26 ++ [y39]) y27))) else none)))) else (qe0 y19 y20 y21 y22 y23 y24 y25 y26 y27))
noncomputable def zAQ_l4 [Esc R] (n : Nat) (a : (zAQ_ds 4).D) (k1 : (zAQ_ds 4).D → Option R) (k2 : exK R (zAQ_dx 4)) : Option R :=
  zAQ_s4 n a.1 a.2.1 a.2.2.1 a.2.2.2.1 a.2.2.2.2.1 a.2.2.2.2.2.1 a.2.2.2.2.2.2.1 a.2.2.2.2.2.2.2.1 a.2.2.2.2.2.2.2.2.1 (fun x0 x1 x2 x3 x4 x5 x6 x7 x8 => k1 (x0, x1, x2, x3, x4, x5, x6, x7, x8, ())) (fun x0 x1 x2 x3 x4 x5 x6 x7 x8 => k2.1 (x0, x1, x2, x3, x4, x5, x6, x7, x8, ())) (fun x0 x1 x2 x3 x4 x5 x6 x7 x8 => k2.2.1 (x0, x1, x2, x3, x4, x5, x6, x7, x8, ()))
@[reducible] def zAQ_d : Desc := ⟨[(0, .pt 0 0), (1, .pt 1 0)], [.box true 43 [.d (.sl ty78), .d (.int .i64)], .box true 25 [.d (.int .i64), .d .str, .ow 2, .d (.int .i64), .d .str, .d (.int .i64), .ow 3], .arr 9 .str, .arr 51 ty51]⟩
noncomputable def zAQ_Fi [Esc R] (n : Nat) (a0 : (List ty78.D)) (a1 : Int) (a2 : Int) (a3 : ByteArray) (a4 : Int) (a5 : ByteArray) (a6 : Int) (a7 : (List ByteArray)) (a8 : (List ty51.D)) (k0 : (List ty78.D) → Int → Int → ByteArray → Int → ByteArray → Int → (List ByteArray) → (List ty51.D) → Option R) : Option R :=
  if (a2 == 3) = true then (zAX_F n a0 a1 (fun y1 y2 y3 => if (List.length a7 + List.length [y1]) * 16 ≤ 140737488355328 then (zAO_F n (⟨#[44]⟩ : ByteArray) y2 y3 (fun y4 y5 => zCH_F n y4 y5 a2 a3 a4 a5 a6 (a7 ++ [y1]) a8 (fun y6 y7 y8 y9 y10 y11 y12 y13 y14 y15 => zK_F n y6 7 y7 y8 (fun y16 y17 => k0 y16 y17 y9 y10 y11 y12 y13 y14 y15)))) else none)) else (runC (zAQ_l4 n) n (a0, a1, a2, a3, a4, a5, a6, a7, a8, ()) (fun b53 => k0 b53.1 b53.2.1 b53.2.2.1 b53.2.2.2.1 b53.2.2.2.2.1 b53.2.2.2.2.2.1 b53.2.2.2.2.2.2.1 b53.2.2.2.2.2.2.2.1 b53.2.2.2.2.2.2.2.2.1, fun b62 => k0 b62.1 b62.2.1 b62.2.2.1 b62.2.2.2.1 b62.2.2.2.2.1 b62.2.2.2.2.2.1 b62.2.2.2.2.2.2.1 b62.2.2.2.2.2.2.2.1 b62.2.2.2.2.2.2.2.2.1, ()))
noncomputable def zAQ_F {R : Type} [i : Esc R] := lazyN (@zAQ_Fi R i)
theorem zAQ_e [i : Esc R] : @zAQ_F R i = @zAQ_Fi R i := lazyN_eq _
noncomputable def zAQ_g [Esc R] (n : Nat) : Gx R := typed 2 zAQ_d fun x k => zAQ_F n x.1 x.2.1 x.2.2.1 x.2.2.2.1 x.2.2.2.2.1 x.2.2.2.2.2.1 x.2.2.2.2.2.2.1 x.2.2.2.2.2.2.2.1 x.2.2.2.2.2.2.2.2.1 (fun y0 y1 y2 y3 y4 y5 y6 y7 y8 => k (.tu []) [(.box true 43 [(.fz ty78 y0), (.i .i64 y1)]), (.box true 25 [(.i .i64 y2), (.s y3), (.ow 2), (.i .i64 y4), (.s y5), (.i .i64 y6), (.ow 3)]), (.arr 9 .str y7), (.arr 51 ty51 y8)])
noncomputable def zAQ_cs (R : Type) [Esc R] (n : Nat) : List (Nat × Gx R) := [(panF, escG), (37, zAX_g n), (38, zAO_g n), (40, zK_g n), (59, zAF_g n), (60, zBB_g n), (61, zCH_g n)]
noncomputable def zAQ_lp [Esc R] (n : Nat) : (i : Nat) → (zAQ_ds i).D → exK R (zAQ_dx i) → Option R
  | 4, a, k => runC (zAQ_l4 n) n a k
  | _, _, _ => none
noncomputable def zAQ_cx (R : Type) [Esc R] (n : Nat) : Cx R := ⟨Tryz.prog, Gof (zAQ_cs R n), zAQ_ds, zAQ_dx, zAQ_lp n, drawP Tryz.prog (Gof (zAQ_cs R n)), false, noJn, noFz⟩
theorem zAQ_ok [Esc R] (n : Nat) : Good Tryz.prog 39 (zAQ_g (R := R) n) := by
  unfold zAQ_g
  rw [zAQ_e]
  exact Good.fn (f := 39) (cx := zAQ_cx R n) (by kernel_rfl) (AllGood.esc (AllGood.cons (zAX_ok n) (AllGood.cons (zAO_ok n) (AllGood.cons (zK_ok n) (AllGood.cons (zAF_ok n) (AllGood.cons (zBB_ok n) (AllGood.cons (zCH_ok n) (AllGood.nil)))))))) rfl Tryz.func39 (by kernel_rfl) rfl (by
    have e : fnLoops noJn Tryz.f39 = [((fnLoops noJn Tryz.f39)[0]?).getD (false, .skip)] := by kernel_rfl
    show LoopRuns _ _ (fnLoops noJn _)
    rw [e]
    exact ⟨LoopRun.loop (by kernel_rfl) (i := 4) (m := n) (step := zAQ_l4 n) (by kernel_rfl) (fun a k1 k2 => by kernel_rfl) (fun _ _ => rfl), trivial⟩) 2 zAQ_d (by kernel_rfl) (fun x k => by kernel_rfl)
@[reducible] def zBQ_d : Desc := ⟨[(0, .pt 0 0)], [.box true 43 [.d (.sl ty78), .d (.int .i64)]]⟩
def zBQ_Fi (n : Nat) (a0 : (List ty78.D)) (a1 : Int) (k0 : Bool → (List ty78.D) → Int → Option R) : Option R :=
  zBV_F n (⟨#[110, 111, 116]⟩ : ByteArray) a0 a1 (fun y1 y2 y3 => if y1 = true then (k0 true y2 y3) else (zBB_F n y2 y3 (fun y4 y5 y6 => if y4 = true then (k0 true y5 y6) else (zO_F n y5 y6 (fun y7 y8 y9 => k0 (y7.1 == 2) y8 y9)))))
def zBQ_F {R : Type} := lazyN (@zBQ_Fi R)
theorem zBQ_e : @zBQ_F R = @zBQ_Fi R := lazyN_eq _
def zBQ_g (n : Nat) : Gx R := typed 1 zBQ_d fun x k => zBQ_F n x.1 x.2.1 (fun y0 y1 y2 => k (.a (.c (.b y0))) [(.box true 43 [(.fz ty78 y1), (.i .i64 y2)])])
def zBQ_cs (R : Type) (n : Nat) : List (Nat × Gx R) := [(41, zO_g n), (60, zBB_g n), (92, zBV_g n)]
def zBQ_cx (R : Type) (n : Nat) : Cx R := ⟨Tryz.prog, Gof (zBQ_cs R n), noDs, noDx, noLp, drawP Tryz.prog (Gof (zBQ_cs R n)), false, noJn, noFz⟩
theorem zBQ_ok [Esc R] (n : Nat) : Good Tryz.prog 62 (zBQ_g (R := R) n) := by
  unfold zBQ_g
  rw [zBQ_e]
  exact Good.fn (f := 62) (cx := zBQ_cx R n) (by kernel_rfl) (AllGood.cons (zO_ok n) (AllGood.cons (zBB_ok n) (AllGood.cons (zBV_ok n) (AllGood.nil)))) rfl Tryz.func62 (by kernel_rfl) rfl trivial 1 zBQ_d (by kernel_rfl) (fun x k => by kernel_rfl)
@[reducible] def zAR_d : Desc := ⟨[(0, .pt 0 0)], [.box true 43 [.d (.sl ty78), .d (.int .i64)]]⟩
noncomputable def zAR_Fi [Esc R] (n : Nat) (a0 : (List ty78.D)) (a1 : Int) (k0 : ty48.D → (List ty78.D) → Int → Option R) : Option R :=
  zO_F n a0 a1 (fun y1 y2 y3 => if (y1.1 == 2) = true then (zAE_F n y2 y3 (fun y4 y5 y6 => k0 ((⟨#[]⟩ : ByteArray), false, y4.2.2.1, ()) y5 y6)) else (zAX_F n y2 y3 (fun y7 y8 y9 => k0 (y7, false, (0, false, 0, (⟨#[]⟩ : ByteArray), ()), ()) y8 y9)))
noncomputable def zAR_F {R : Type} [i : Esc R] := lazyN (@zAR_Fi R i)
theorem zAR_e [i : Esc R] : @zAR_F R i = @zAR_Fi R i := lazyN_eq _
noncomputable def zAR_g [Esc R] (n : Nat) : Gx R := typed 1 zAR_d fun x k => zAR_F n x.1 x.2.1 (fun y0 y1 y2 => k (.a (encA ty48 y0)) [(.box true 43 [(.fz ty78 y1), (.i .i64 y2)])])
noncomputable def zAR_cs (R : Type) [Esc R] (n : Nat) : List (Nat × Gx R) := [(panF, escG), (37, zAX_g n), (41, zO_g n), (42, zAE_g n)]
noncomputable def zAR_cx (R : Type) [Esc R] (n : Nat) : Cx R := ⟨Tryz.prog, Gof (zAR_cs R n), noDs, noDx, noLp, drawP Tryz.prog (Gof (zAR_cs R n)), false, noJn, noFz⟩
theorem zAR_ok [Esc R] (n : Nat) : Good Tryz.prog 97 (zAR_g (R := R) n) := by
  unfold zAR_g
  rw [zAR_e]
  exact Good.fn (f := 97) (cx := zAR_cx R n) (by kernel_rfl) (AllGood.esc (AllGood.cons (zAX_ok n) (AllGood.cons (zO_ok n) (AllGood.cons (zAE_ok n) (AllGood.nil))))) rfl Tryz.func97 (by kernel_rfl) rfl trivial 1 zAR_d (by kernel_rfl) (fun x k => by kernel_rfl)
@[reducible] def zCI_d : Desc := ⟨[(0, .pt 0 0), (1, .d (.int .i64))], [.box true 43 [.d (.sl ty78), .d (.int .i64)]]⟩
noncomputable def zCI_Fi [Esc R] (n : Nat) (a0 : Int) (a1 : (List ty78.D)) (a2 : Int) (k0 : ty48.D → (List ty78.D) → Int → Option R) : Option R :=
  zBV_F n (⟨#[95]⟩ : ByteArray) a1 a2 (fun y1 y2 y3 => if y1 = true then (zK_F n (decide (a0 < 40)) 9 y2 y3 (fun y4 y5 => zAF_F n (⟨#[95]⟩ : ByteArray) y4 y5 (fun y6 y7 y8 => if y6 = true then (k0 ((⟨#[]⟩ : ByteArray), true, (0, false, 0, (⟨#[]⟩ : ByteArray), ()), ()) y7 y8) else (zAR_F n y7 y8 (fun y9 y10 y11 => k0 y9 y10 y11))))) else (zBB_F n y2 y3 (fun y12 y13 y14 => if y12 = true then (zK_F n (decide (a0 < 40)) 9 y13 y14 (fun y15 y16 => zAF_F n (⟨#[95]⟩ : ByteArray) y15 y16 (fun y17 y18 y19 => if y17 = true then (k0 ((⟨#[]⟩ : ByteArray), true, (0, false, 0, (⟨#[]⟩ : ByteArray), ()), ()) y18 y19) else (zAR_F n y18 y19 (fun y20 y21 y22 => k0 y20 y21 y22))))) else (zO_F n y13 y14 (fun y23 y24 y25 => if (y23.1 == 2) = true then (zK_F n (decide (a0 < 40)) 9 y24 y25 (fun y26 y27 => zAF_F n (⟨#[95]⟩ : ByteArray) y26 y27 (fun y28 y29 y30 => if y28 = true then (k0 ((⟨#[]⟩ : ByteArray), true, (0, false, 0, (⟨#[]⟩ : ByteArray), ()), ()) y29 y30) else (zAR_F n y29 y30 (fun y31 y32 y33 => k0 y31 y32 y33))))) else (zAF_F n (⟨#[95]⟩ : ByteArray) y24 y25 (fun y34 y35 y36 => if y34 = true then (k0 ((⟨#[]⟩ : ByteArray), true, (0, false, 0, (⟨#[]⟩ : ByteArray), ()), ()) y35 y36) else (zAR_F n y35 y36 (fun y37 y38 y39 => k0 y37 y38 y39)))))))))
noncomputable def zCI_F {R : Type} [i : Esc R] := lazyN (@zCI_Fi R i)
theorem zCI_e [i : Esc R] : @zCI_F R i = @zCI_Fi R i := lazyN_eq _
noncomputable def zCI_g [Esc R] (n : Nat) : Gx R := typed 2 zCI_d fun x k => zCI_F n x.1 x.2.1 x.2.2.1 (fun y0 y1 y2 => k (.a (encA ty48 y0)) [(.box true 43 [(.fz ty78 y1), (.i .i64 y2)])])
noncomputable def zCI_cs (R : Type) [Esc R] (n : Nat) : List (Nat × Gx R) := [(panF, escG), (40, zK_g n), (41, zO_g n), (59, zAF_g n), (60, zBB_g n), (92, zBV_g n), (97, zAR_g n)]
noncomputable def zCI_cx (R : Type) [Esc R] (n : Nat) : Cx R := ⟨Tryz.prog, Gof (zCI_cs R n), noDs, noDx, noLp, drawP Tryz.prog (Gof (zCI_cs R n)), false, noJn, noFz⟩
theorem zCI_ok [Esc R] (n : Nat) : Good Tryz.prog 133 (zCI_g (R := R) n) := by
  unfold zCI_g
  rw [zCI_e]
  exact Good.fn (f := 133) (cx := zCI_cx R n) (by kernel_rfl) (AllGood.esc (AllGood.cons (zK_ok n) (AllGood.cons (zO_ok n) (AllGood.cons (zAF_ok n) (AllGood.cons (zBB_ok n) (AllGood.cons (zBV_ok n) (AllGood.cons (zAR_ok n) (AllGood.nil)))))))) rfl Tryz.func133 (by kernel_rfl) rfl trivial 2 zCI_d (by kernel_rfl) (fun x k => by kernel_rfl)
def zAS_ds : Nat → Desc
  | 4 => ⟨[(0, .pt 0 0), (3, .ow 2)], [.box true 43 [.d (.sl ty78), .d (.int .i64)], .no, .arr 48 ty48]⟩
  | _ => ⟨[], []⟩
def zAS_dx : Nat → List (X × Desc)
  | 4 => [(.e 0, ⟨[(0, .pt 0 0), (3, .ow 2)], [.box true 43 [.d (.sl ty78), .d (.int .i64)], .no, .arr 48 ty48]⟩)]
  | _ => []
noncomputable def zAS_s4 [Esc R] (n : Nat) (x0 : (List ty78.D)) (x1 : Int) (x2 : (List ty48.D)) (k1 : (List ty78.D) → Int → (List ty48.D) → Option R) (qe0 : (List ty78.D) → Int → (List ty48.D) → Option R) : Option R :=
  zAF_F n (⟨#[44]⟩ : ByteArray) x0 x1 (fun y7 y8 y9 => if y7 = true then (zCI_F n (x2.length : Int) y8 y9 (fun y10 y11 y12 => if (List.length x2 + List.length [y10]) * 64 ≤ 140737488355328 then (k1 y11 y12 (x2 ++ [y10])) else none)) else (qe0 y8 y9 x2))
noncomputable def zAS_l4 [Esc R] (n : Nat) (a : (zAS_ds 4).D) (k1 : (zAS_ds 4).D → Option R) (k2 : exK R (zAS_dx 4)) : Option R :=
  zAS_s4 n a.1 a.2.1 a.2.2.1 (fun x0 x1 x2 => k1 (x0, x1, x2, ())) (fun x0 x1 x2 => k2.1 (x0, x1, x2, ()))
@[reducible] def zAS_d : Desc := ⟨[(0, .pt 0 0)], [.box true 43 [.d (.sl ty78), .d (.int .i64)]]⟩
noncomputable def zAS_Fi [Esc R] (n : Nat) (a0 : (List ty78.D)) (a1 : Int) (k0 : (List ty78.D) → Int → (List ty48.D) → Option R) : Option R :=
  zAF_F n (⟨#[41]⟩ : ByteArray) a0 a1 (fun y1 y2 y3 => if y1 = true then (k0 y2 y3 ([] : List ty48.D)) else (zCI_F n 0 y2 y3 (fun y4 y5 y6 => runC (zAS_l4 n) n (y5, y6, [y4], ()) (fun b15 => zAO_F n (⟨#[41]⟩ : ByteArray) b15.1 b15.2.1 (fun y16 y17 => k0 y16 y17 b15.2.2.1), ()))))
noncomputable def zAS_F {R : Type} [i : Esc R] := lazyN (@zAS_Fi R i)
theorem zAS_e [i : Esc R] : @zAS_F R i = @zAS_Fi R i := lazyN_eq _
noncomputable def zAS_g [Esc R] (n : Nat) : Gx R := typed 1 zAS_d fun x k => zAS_F n x.1 x.2.1 (fun y0 y1 y2 => k (.a (.c (.ow 1))) [(.box true 43 [(.fz ty78 y0), (.i .i64 y1)]), (.arr 48 ty48 y2)])
noncomputable def zAS_cs (R : Type) [Esc R] (n : Nat) : List (Nat × Gx R) := [(panF, escG), (38, zAO_g n), (59, zAF_g n), (133, zCI_g n)]
noncomputable def zAS_lp [Esc R] (n : Nat) : (i : Nat) → (zAS_ds i).D → exK R (zAS_dx i) → Option R
  | 4, a, k => runC (zAS_l4 n) n a k
  | _, _, _ => none
noncomputable def zAS_cx (R : Type) [Esc R] (n : Nat) : Cx R := ⟨Tryz.prog, Gof (zAS_cs R n), zAS_ds, zAS_dx, zAS_lp n, drawP Tryz.prog (Gof (zAS_cs R n)), false, noJn, noFz⟩
theorem zAS_ok [Esc R] (n : Nat) : Good Tryz.prog 122 (zAS_g (R := R) n) := by
  unfold zAS_g
  rw [zAS_e]
  exact Good.fn (f := 122) (cx := zAS_cx R n) (by kernel_rfl) (AllGood.esc (AllGood.cons (zAO_ok n) (AllGood.cons (zAF_ok n) (AllGood.cons (zCI_ok n) (AllGood.nil))))) rfl Tryz.func122 (by kernel_rfl) rfl (by
    have e : fnLoops noJn Tryz.f122 = [((fnLoops noJn Tryz.f122)[0]?).getD (false, .skip)] := by kernel_rfl
    show LoopRuns _ _ (fnLoops noJn _)
    rw [e]
    exact ⟨LoopRun.loop (by kernel_rfl) (i := 4) (m := n) (step := zAS_l4 n) (by kernel_rfl) (fun a k1 k2 => by kernel_rfl) (fun _ _ => rfl), trivial⟩) 1 zAS_d (by kernel_rfl) (fun x k => by kernel_rfl)
@[reducible] def zCB_d : Desc := ⟨[(0, .pt 0 0), (1, .d .bool), (2, .d (.int .i64))], [.box true 43 [.d (.sl ty78), .d (.int .i64)]]⟩
noncomputable def zCB_Fi [Esc R] (n : Nat) (a0 : Bool) (a1 : Int) (a2 : (List ty78.D)) (a3 : Int) (k0 : ty51.D → (List ty78.D) → Int → Option R) : Option R :=
  zAX_F n a2 a3 (fun y1 y2 y3 => zAO_F n (⟨#[40]⟩ : ByteArray) y2 y3 (fun y4 y5 => if (!a0) = true then (if (decide (a1 ≥ 6)) = true then (if (0 : Int) ≤ a3 ∧ a3 < (y4.length : Int) then (Esc.esc (.iface 39 (.agg #[.int .i64 9, .int .i64 ((y4.getD (Int.toNat a3) (Ty.z ty78)).2.2.2.1)]))) else none) else (zAS_F n y4 y5 (fun y6 y7 y8 => k0 (a0, y1, y8, 0, ()) y6 y7))) else (zAS_F n y4 y5 (fun y9 y10 y11 => k0 (a0, y1, y11, 0, ()) y9 y10))))
noncomputable def zCB_F {R : Type} [i : Esc R] := lazyN (@zCB_Fi R i)
theorem zCB_e [i : Esc R] : @zCB_F R i = @zCB_Fi R i := lazyN_eq _
noncomputable def zCB_g [Esc R] (n : Nat) : Gx R := typed 3 zCB_d fun x k => zCB_F n x.1 x.2.1 x.2.2.1 x.2.2.2.1 (fun y0 y1 y2 => k (.a (encA ty51 y0)) [(.box true 43 [(.fz ty78 y1), (.i .i64 y2)])])
noncomputable def zCB_cs (R : Type) [Esc R] (n : Nat) : List (Nat × Gx R) := [(panF, escG), (37, zAX_g n), (38, zAO_g n), (122, zAS_g n)]
noncomputable def zCB_cx (R : Type) [Esc R] (n : Nat) : Cx R := ⟨Tryz.prog, Gof (zCB_cs R n), noDs, noDx, noLp, drawP Tryz.prog (Gof (zCB_cs R n)), true, noJn, noFz⟩
theorem zCB_ok [Esc R] (n : Nat) : Good Tryz.prog 96 (zCB_g (R := R) n) := by
  unfold zCB_g
  rw [zCB_e]
  exact Good.fn (f := 96) (cx := zCB_cx R n) (by kernel_rfl) (AllGood.esc (AllGood.cons (zAX_ok n) (AllGood.cons (zAO_ok n) (AllGood.cons (zAS_ok n) (AllGood.nil))))) rfl Tryz.func96 (by kernel_rfl) rfl trivial 3 zCB_d (by kernel_rfl) (fun x k => by kernel_rfl)
@[reducible] def zBJ_d : Desc := ⟨[(0, .pt 0 0), (1, .d (.int .i64))], [.box true 43 [.d (.sl ty78), .d (.int .i64)]]⟩
noncomputable def zBJ_Fi [Esc R] (n : Nat) (a0 : Int) (a1 : (List ty78.D)) (a2 : Int) (k0 : ty51.D → (List ty78.D) → Int → Option R) : Option R :=
  zAF_F n (⟨#[110, 111, 116]⟩ : ByteArray) a1 a2 (fun y1 y2 y3 => if y1 = true then (zCB_F n true a0 y2 y3 (fun y4 y5 y6 => k0 y4 y5 y6)) else (if (0 : Int) ≤ (minI (IntKind.i64.wrap (y3 + 1)) (IntKind.i64.wrap ((y2.length : Int) - 1))) ∧ (minI (IntKind.i64.wrap (y3 + 1)) (IntKind.i64.wrap ((y2.length : Int) - 1))) < (y2.length : Int) then (zBB_F n y2 y3 (fun y7 y8 y9 => if y7 = true then (if ((y2.getD (Int.toNat (minI (IntKind.i64.wrap (y3 + 1)) (IntKind.i64.wrap ((y2.length : Int) - 1)))) (Ty.z ty78)).1 == 3) = true then (if (((y2.getD (Int.toNat (minI (IntKind.i64.wrap (y3 + 1)) (IntKind.i64.wrap ((y2.length : Int) - 1)))) (Ty.z ty78)).2.1).toList == (⟨#[40]⟩ : ByteArray).toList) = true then (zCB_F n false a0 y8 y9 (fun y10 y11 y12 => k0 y10 y11 y12)) else (zAR_F n y8 y9 (fun y13 y14 y15 => zO_F n y14 y15 (fun y16 y17 y18 => zCQ_F n y16.2.1 (fun y19 => zO_F n y17 y18 (fun y20 y21 y22 => if (y20.1 == 3) = true then (zK_F n (decide (y19 > 0)) 7 y21 y22 (fun y23 y24 => zAE_F n y23 y24 (fun y25 y26 y27 => zAR_F n y26 y27 (fun y28 y29 y30 => k0 (false, (⟨#[]⟩ : ByteArray), [y13, y28], y19, ()) y29 y30)))) else (zK_F n false 7 y21 y22 (fun y31 y32 => zAE_F n y31 y32 (fun y33 y34 y35 => zAR_F n y34 y35 (fun y36 y37 y38 => k0 (false, (⟨#[]⟩ : ByteArray), [y13, y36], y19, ()) y37 y38)))))))))) else (zAR_F n y8 y9 (fun y39 y40 y41 => zO_F n y40 y41 (fun y42 y43 y44 => zCQ_F n y42.2.1 (fun y45 => zO_F n y43 y44 (fun y46 y47 y48 => if (y46.1 == 3) = true then (zK_F n (decide (y45 > 0)) 7 y47 y48 (fun y49 y50 => zAE_F n y49 y50 (fun y51 y52 y53 => zAR_F n y52 y53 (fun y54 y55 y56 => k0 (false, (⟨#[]⟩ : ByteArray), [y39, y54], y45, ()) y55 y56)))) else (zK_F n false 7 y47 y48 (fun y57 y58 => zAE_F n y57 y58 (fun y59 y60 y61 => zAR_F n y60 y61 (fun y62 y63 y64 => k0 (false, (⟨#[]⟩ : ByteArray), [y39, y62], y45, ()) y63 y64)))))))))) else (zAR_F n y8 y9 (fun y65 y66 y67 => zO_F n y66 y67 (fun y68 y69 y70 => zCQ_F n y68.2.1 (fun y71 => zO_F n y69 y70 (fun y72 y73 y74 => if (y72.1 == 3) = true then (zK_F n (decide (y71 > 0)) 7 y73 y74 (fun y75 y76 => zAE_F n y75 y76 (fun y77 y78 y79 => zAR_F n y78 y79 (fun y80 y81 y82 => k0 (false, (⟨#[]⟩ : ByteArray), [y65, y80], y71, ()) y81 y82)))) else (zK_F n false 7 y73 y74 (fun y83 y84 => zAE_F n y83 y84 (fun y85 y86 y87 => zAR_F n y86 y87 (fun y88 y89 y90 => k0 (false, (⟨#[]⟩ : ByteArray), [y65, y88], y71, ()) y89 y90))))))))))) else none))
noncomputable def zBJ_F {R : Type} [i : Esc R] := lazyN (@zBJ_Fi R i)
theorem zBJ_e [i : Esc R] : @zBJ_F R i = @zBJ_Fi R i := lazyN_eq _
noncomputable def zBJ_g [Esc R] (n : Nat) : Gx R := typed 2 zBJ_d fun x k => zBJ_F n x.1 x.2.1 x.2.2.1 (fun y0 y1 y2 => k (.a (encA ty51 y0)) [(.box true 43 [(.fz ty78 y1), (.i .i64 y2)])])
noncomputable def zBJ_cs (R : Type) [Esc R] (n : Nat) : List (Nat × Gx R) := [(panF, escG), (40, zK_g n), (41, zO_g n), (42, zAE_g n), (59, zAF_g n), (60, zBB_g n), (96, zCB_g n), (97, zAR_g n), (98, zCQ_g n)]
noncomputable def zBJ_cx (R : Type) [Esc R] (n : Nat) : Cx R := ⟨Tryz.prog, Gof (zBJ_cs R n), noDs, noDx, noLp, drawP Tryz.prog (Gof (zBJ_cs R n)), false, noJn, noFz⟩
theorem zBJ_ok [Esc R] (n : Nat) : Good Tryz.prog 63 (zBJ_g (R := R) n) := by
  unfold zBJ_g
  rw [zBJ_e]
  exact Good.fn (f := 63) (cx := zBJ_cx R n) (by kernel_rfl) (AllGood.esc (AllGood.cons (zK_ok n) (AllGood.cons (zO_ok n) (AllGood.cons (zAE_ok n) (AllGood.cons (zAF_ok n) (AllGood.cons (zBB_ok n) (AllGood.cons (zCB_ok n) (AllGood.cons (zAR_ok n) (AllGood.cons (zCQ_ok n) (AllGood.nil)))))))))) rfl Tryz.func63 (by kernel_rfl) rfl trivial 2 zBJ_d (by kernel_rfl) (fun x k => by kernel_rfl)
def zAG_ds : Nat → Desc
  | 2 => ⟨[(0, .pt 0 0), (1, .pt 1 0), (4, .d (.int .i64)), (5, .d .bool)], [.box true 43 [.d (.sl ty78), .d (.int .i64)], .box true 25 [.d (.int .i64), .d .str, .ow 2, .d (.int .i64), .d .str, .d (.int .i64), .ow 3], .arr 9 .str, .arr 51 ty51]⟩
  | _ => ⟨[], []⟩
def zAG_dx : Nat → List (X × Desc)
  | 2 => [(.e 0, ⟨[], [.box true 43 [.d (.sl ty78), .d (.int .i64)], .box true 25 [.d (.int .i64), .d .str, .ow 2, .d (.int .i64), .d .str, .d (.int .i64), .ow 3], .arr 9 .str, .arr 51 ty51]⟩)]
  | _ => []
noncomputable def zAG_s2 [Esc R] (n : Nat) (x0 : Int) (x1 : Bool) (x2 : (List ty78.D)) (x3 : Int) (x4 : Int) (x5 : ByteArray) (x6 : Int) (x7 : ByteArray) (x8 : Int) (x9 : (List ByteArray)) (x10 : (List ty51.D)) (k1 : Int → Bool → (List ty78.D) → Int → Int → ByteArray → Int → ByteArray → Int → (List ByteArray) → (List ty51.D) → Option R) (qe0 : (List ty78.D) → Int → Int → ByteArray → Int → ByteArray → Int → (List ByteArray) → (List ty51.D) → Option R) : Option R :=
  if x1 = true then (if (decide ((x10.length : Int) ≥ 10)) = true then (zBQ_F n x2 x3 (fun y1 y2 y3 => zK_F n (!y1) 9 y2 y3 (fun y4 y5 => zK_F n false 7 y4 y5 (fun y6 y7 => zBJ_F n x0 y6 y7 (fun y8 y9 y10 => if (y8.2.2.2.1 == 0) = true then (if (!y8.1) = true then (if (List.length x10 + List.length [y8]) * 56 ≤ 140737488355328 then (zAF_F n (⟨#[44]⟩ : ByteArray) y9 y10 (fun y11 y12 y13 => k1 (IntKind.i64.wrap (x0 + 1)) y11 y12 y13 x4 x5 x6 x7 x8 x9 (x10 ++ [y8]))) else none) else (if (List.length x10 + List.length [y8]) * 56 ≤ 140737488355328 then (zAF_F n (⟨#[44]⟩ : ByteArray) y9 y10 (fun y14 y15 y16 => k1 x0 y14 y15 y16 x4 x5 x6 x7 x8 x9 (x10 ++ [y8]))) else none)) else (if (List.length x10 + List.length [y8]) * 56 ≤ 140737488355328 then (zAF_F n (⟨#[44]⟩ : ByteArray) y9 y10 (fun y17 y18 y19 => k1 x0 y17 y18 y19 x4 x5 x6 x7 x8 x9 (x10 ++ [y8]))) else none)))))) else (zBJ_F n x0 x2 x3 (fun y20 y21 y22 => if (y20.2.2.2.1 == 0) = true then (if (!y20.1) = true then (if (List.length x10 + List.length [y20]) * 56 ≤ 140737488355328 then (zAF_F n (⟨#[44]⟩ : ByteArray) y21 y22 (fun y23 y24 y25 => k1 (IntKind.i64.wrap (x0 + 1)) y23 y24 y25 x4 x5 x6 x7 x8 x9 (x10 ++ [y20]))) else none) else (if (List.length x10 + List.length [y20]) * 56 ≤ 140737488355328 then (zAF_F n (⟨#[44]⟩ : ByteArray) y21 y22 (fun y26 y27 y28 => k1 x0 y26 y27 y28 x4 x5 x6 x7 x8 x9 (x10 ++ [y20]))) else none)) else (if (List.length x10 + List.length [y20]) * 56 ≤ 140737488355328 then (zAF_F n (⟨#[44]⟩ : ByteArray) y21 y22 (fun y29 y30 y31 => k1 x0 y29 y30 y31 x4 x5 x6 x7 x8 x9 (x10 ++ [y20]))) else none)))) else (qe0 x2 x3 x4 x5 x6 x7 x8 x9 x10)
noncomputable def zAG_l2 [Esc R] (n : Nat) (a : (zAG_ds 2).D) (k1 : (zAG_ds 2).D → Option R) (k2 : exK R (zAG_dx 2)) : Option R :=
  zAG_s2 n a.1 a.2.1 a.2.2.1 a.2.2.2.1 a.2.2.2.2.1 a.2.2.2.2.2.1 a.2.2.2.2.2.2.1 a.2.2.2.2.2.2.2.1 a.2.2.2.2.2.2.2.2.1 a.2.2.2.2.2.2.2.2.2.1 a.2.2.2.2.2.2.2.2.2.2.1 (fun x0 x1 x2 x3 x4 x5 x6 x7 x8 x9 x10 => k1 (x0, x1, x2, x3, x4, x5, x6, x7, x8, x9, x10, ())) (fun x0 x1 x2 x3 x4 x5 x6 x7 x8 => k2.1 (x0, x1, x2, x3, x4, x5, x6, x7, x8, ()))
@[reducible] def zAG_d : Desc := ⟨[(0, .pt 0 0), (1, .pt 1 0)], [.box true 43 [.d (.sl ty78), .d (.int .i64)], .box true 25 [.d (.int .i64), .d .str, .ow 2, .d (.int .i64), .d .str, .d (.int .i64), .ow 3], .arr 9 .str, .arr 51 ty51]⟩
noncomputable def zAG_Fi [Esc R] (n : Nat) (a0 : (List ty78.D)) (a1 : Int) (a2 : Int) (a3 : ByteArray) (a4 : Int) (a5 : ByteArray) (a6 : Int) (a7 : (List ByteArray)) (a8 : (List ty51.D)) (k0 : (List ty78.D) → Int → Int → ByteArray → Int → ByteArray → Int → (List ByteArray) → (List ty51.D) → Option R) : Option R :=
  runC (zAG_l2 n) n (0, true, a0, a1, a2, a3, a4, a5, a6, a7, a8, ()) (fun b40 => k0 b40.1 b40.2.1 b40.2.2.1 b40.2.2.2.1 b40.2.2.2.2.1 b40.2.2.2.2.2.1 b40.2.2.2.2.2.2.1 b40.2.2.2.2.2.2.2.1 b40.2.2.2.2.2.2.2.2.1, ())
noncomputable def zAG_F {R : Type} [i : Esc R] := lazyN (@zAG_Fi R i)
theorem zAG_e [i : Esc R] : @zAG_F R i = @zAG_Fi R i := lazyN_eq _
noncomputable def zAG_g [Esc R] (n : Nat) : Gx R := typed 2 zAG_d fun x k => zAG_F n x.1 x.2.1 x.2.2.1 x.2.2.2.1 x.2.2.2.2.1 x.2.2.2.2.2.1 x.2.2.2.2.2.2.1 x.2.2.2.2.2.2.2.1 x.2.2.2.2.2.2.2.2.1 (fun y0 y1 y2 y3 y4 y5 y6 y7 y8 => k (.tu []) [(.box true 43 [(.fz ty78 y0), (.i .i64 y1)]), (.box true 25 [(.i .i64 y2), (.s y3), (.ow 2), (.i .i64 y4), (.s y5), (.i .i64 y6), (.ow 3)]), (.arr 9 .str y7), (.arr 51 ty51 y8)])
noncomputable def zAG_cs (R : Type) [Esc R] (n : Nat) : List (Nat × Gx R) := [(panF, escG), (40, zK_g n), (59, zAF_g n), (62, zBQ_g n), (63, zBJ_g n)]
noncomputable def zAG_lp [Esc R] (n : Nat) : (i : Nat) → (zAG_ds i).D → exK R (zAG_dx i) → Option R
  | 2, a, k => runC (zAG_l2 n) n a k
  | _, _, _ => none
noncomputable def zAG_cx (R : Type) [Esc R] (n : Nat) : Cx R := ⟨Tryz.prog, Gof (zAG_cs R n), zAG_ds, zAG_dx, zAG_lp n, drawP Tryz.prog (Gof (zAG_cs R n)), false, noJn, noFz⟩
theorem zAG_ok [Esc R] (n : Nat) : Good Tryz.prog 43 (zAG_g (R := R) n) := by
  unfold zAG_g
  rw [zAG_e]
  exact Good.fn (f := 43) (cx := zAG_cx R n) (by kernel_rfl) (AllGood.esc (AllGood.cons (zK_ok n) (AllGood.cons (zAF_ok n) (AllGood.cons (zBQ_ok n) (AllGood.cons (zBJ_ok n) (AllGood.nil)))))) rfl Tryz.func43 (by kernel_rfl) rfl (by
    have e : fnLoops noJn Tryz.f43 = [((fnLoops noJn Tryz.f43)[0]?).getD (false, .skip)] := by kernel_rfl
    show LoopRuns _ _ (fnLoops noJn _)
    rw [e]
    exact ⟨LoopRun.loop (by kernel_rfl) (i := 2) (m := n) (step := zAG_l2 n) (by kernel_rfl) (fun a k1 k2 => by kernel_rfl) (fun _ _ => rfl), trivial⟩) 2 zAG_d (by kernel_rfl) (fun x k => by kernel_rfl)
@[reducible] def zCC_d : Desc := ⟨[(0, .pt 0 0)], [.box true 43 [.d (.sl ty78), .d (.int .i64)]]⟩
noncomputable def zCC_Fi [Esc R] (n : Nat) (a0 : (List ty78.D)) (a1 : Int) (k0 : ty25.D → (List ty78.D) → Int → Option R) : Option R :=
  zAA_F n a0 a1 (fun y1 y2 y3 => zAX_F n y2 y3 (fun y4 y5 y6 => zAO_F n (⟨#[40]⟩ : ByteArray) y5 y6 (fun y7 y8 => zAQ_F n y7 y8 y1 y4 0 (⟨#[]⟩ : ByteArray) 0 ([] : List ByteArray) ([] : List ty51.D) (fun y9 y10 y11 y12 y13 y14 y15 y16 y17 => zAO_F n (⟨#[41]⟩ : ByteArray) y9 y10 (fun y18 y19 => if (y11 == 3) = true then (zAO_F n (⟨#[108, 105, 109, 105, 116]⟩ : ByteArray) y18 y19 (fun y20 y21 => zO_F n y20 y21 (fun y22 y23 y24 => if (y22.1 == 2) = true then (zO_F n y23 y24 (fun y25 y26 y27 => zK_F n (y25.2.2.1.1 == 2) 7 y26 y27 (fun y28 y29 => zAE_F n y28 y29 (fun y30 y31 y32 => zAO_F n (⟨#[105, 102]⟩ : ByteArray) y31 y32 (fun y33 y34 => zAG_F n y33 y34 y11 y12 y13 y14 y30.2.2.1.2.2.1 y16 y17 (fun y35 y36 y37 y38 y39 y40 y41 y42 y43 => zO_F n y35 y36 (fun y44 y45 y46 => zK_F n (y44.1 == 4) 7 y45 y46 (fun y47 y48 => k0 (y37, y38, y42, y39, y40, y41, y43, ()) y47 y48)))))))) else (zK_F n false 7 y23 y24 (fun y49 y50 => zAE_F n y49 y50 (fun y51 y52 y53 => zAO_F n (⟨#[105, 102]⟩ : ByteArray) y52 y53 (fun y54 y55 => zAG_F n y54 y55 y11 y12 y13 y14 y51.2.2.1.2.2.1 y16 y17 (fun y56 y57 y58 y59 y60 y61 y62 y63 y64 => zO_F n y56 y57 (fun y65 y66 y67 => zK_F n (y65.1 == 4) 7 y66 y67 (fun y68 y69 => k0 (y58, y59, y63, y60, y61, y62, y64, ()) y68 y69)))))))))) else (zAO_F n (⟨#[105, 102]⟩ : ByteArray) y18 y19 (fun y70 y71 => zAG_F n y70 y71 y11 y12 y13 y14 y15 y16 y17 (fun y72 y73 y74 y75 y76 y77 y78 y79 y80 => zO_F n y72 y73 (fun y81 y82 y83 => zK_F n (y81.1 == 4) 7 y82 y83 (fun y84 y85 => k0 (y74, y75, y79, y76, y77, y78, y80, ()) y84 y85))))))))))
noncomputable def zCC_F {R : Type} [i : Esc R] := lazyN (@zCC_Fi R i)
theorem zCC_e [i : Esc R] : @zCC_F R i = @zCC_Fi R i := lazyN_eq _
noncomputable def zCC_g [Esc R] (n : Nat) : Gx R := typed 1 zCC_d fun x k => zCC_F n x.1 x.2.1 (fun y0 y1 y2 => k (.a (encA ty25 y0)) [(.box true 43 [(.fz ty78 y1), (.i .i64 y2)])])
noncomputable def zCC_cs (R : Type) [Esc R] (n : Nat) : List (Nat × Gx R) := [(panF, escG), (36, zAA_g n), (37, zAX_g n), (38, zAO_g n), (39, zAQ_g n), (40, zK_g n), (41, zO_g n), (42, zAE_g n), (43, zAG_g n)]
noncomputable def zCC_cx (R : Type) [Esc R] (n : Nat) : Cx R := ⟨Tryz.prog, Gof (zCC_cs R n), noDs, noDx, noLp, drawP Tryz.prog (Gof (zCC_cs R n)), true, noJn, noFz⟩
theorem zCC_ok [Esc R] (n : Nat) : Good Tryz.prog 15 (zCC_g (R := R) n) := by
  unfold zCC_g
  rw [zCC_e]
  exact Good.fn (f := 15) (cx := zCC_cx R n) (by kernel_rfl) (AllGood.esc (AllGood.cons (zAA_ok n) (AllGood.cons (zAX_ok n) (AllGood.cons (zAO_ok n) (AllGood.cons (zAQ_ok n) (AllGood.cons (zK_ok n) (AllGood.cons (zO_ok n) (AllGood.cons (zAE_ok n) (AllGood.cons (zAG_ok n) (AllGood.nil)))))))))) rfl Tryz.func15 (by kernel_rfl) rfl trivial 1 zCC_d (by kernel_rfl) (fun x k => by kernel_rfl)
end
end Go.Proofs.YtnnbinmomendnaaGreatDoor.E
namespace Go.Proofs.YtnnbinmomendnaaGreatDoor.E
open Go.RowKit
variable {R : Type}
theorem runC_scan {α β R ρ : Type} {step : α → (α → Option R) → β → Option R} (k : β) (K : ρ → Option R) (E : Option R) (f : Nat → Option ρ) (st : Nat → α) (m : Nat)
    (hs : ∀ i, i < m → ∀ k1, step (st i) k1 k = match f i with
      | none => k1 (st (i + 1))
      | some y => K y) (he : ∀ k1, step (st m) k1 k = E) {n : Nat} (hn : m < n) : runC step n (st 0) k = match (List.range m).findSome? f with
      | none => E
      | some y => K y := by
  have go : ∀ (d i n : Nat), i + d = m → d < n → runC step n (st i) k = match (List.range' i d).findSome? f with
      | none => E
      | some y => K y := by
    intro d
    induction d with
    | zero =>
      intro i n hi hn
      obtain ⟨n, rfl⟩ : ∃ q, n = q + 1 := ⟨n - 1, by omega⟩
      have : i = m := by omega
      subst this
      exact he _
    | succ d ih =>
      intro i n hi hn
      obtain ⟨n, rfl⟩ : ∃ q, n = q + 1 := ⟨n - 1, by omega⟩
      rw [List.range'_succ, List.findSome?_cons]
      have h := hs i (by omega) (fun b => runC step n b k)
      refine Eq.trans (show _ = step (st i) (fun b => runC step n b k) k from rfl) (h.trans ?_)
      cases hf : f i with
      | some y => rfl
      | none => exact ih (i + 1) n (by omega) (by omega)
  have := go m 0 n (by omega) hn
  rw [← List.range_eq_range'] at this
  exact this
theorem runC_all {α β R : Type} {step : α → (α → Option R) → β → Option R} (k : β) (K E : Option R) (p : Nat → Bool) (st : Nat → α) (m : Nat)
    (hs : ∀ i, i < m → ∀ k1, step (st i) k1 k = if p i = true then k1 (st (i + 1)) else K) (he : ∀ k1, step (st m) k1 k = E) {n : Nat} (hn : m < n) : runC step n (st 0) k = if ((List.range m).all p) = true then E else K := by
  have h := runC_scan (ρ := Unit) k (fun _ => K) E (fun i => if p i = true then none else some ()) st m (fun i hi k1 => by rw [hs i hi k1]; by_cases hp : p i = true <;> simp [hp]) he hn
  rw [h]
  by_cases ha : (List.range m).all p = true
  · rw [if_pos ha]
    have : (List.range m).findSome? (fun i => if p i = true then none else some ()) = none := by
      rw [List.findSome?_eq_none_iff]
      intro i hi
      rw [if_pos (List.all_eq_true.1 ha i hi)]
    rw [this]
  · rw [if_neg ha]
    cases hf : (List.range m).findSome? (fun i => if p i = true then none else some ()) with
    | some y => rfl
    | none =>
      refine absurd (List.all_eq_true.2 fun i hi => ?_) ha
      have := (List.findSome?_eq_none_iff.1 hf) i hi
      by_cases hp : p i = true
      · exact hp
      · rw [if_neg hp] at this; cases this
def letS (c : Int) : Bool := decide (97 ≤ c) && decide (c ≤ 122)
def othS (c : Int) : Bool := decide (c = 95) || (!decide (c < 48) && !decide (57 < c))
def chS (s : ByteArray) (i : Nat) : Bool := letS (byteAt s i) || (decide (i ≠ 0) && othS (byteAt s i))
def nameS (s : ByteArray) : Bool := decide (1 ≤ s.size) && (decide (s.size ≤ 16) && (List.range s.size).all (chS s))
theorem letter_F (n : Nat) (c : Int) (k : Bool → Option R) : zCN_F n c k = k (letS c) := by
  rw [zCN_e]
  unfold zCN_Fi letS
  by_cases h : 97 ≤ c <;> simp [h]
theorem in_size {i m : Nat} (h : i < m) : ((0 : Int) ≤ (i : Int)) = True ∧ ((i : Int) < (m : Int)) = True := by simp; omega
theorem refName_F (n : Nat) (s : ByteArray) (hn : 16 < n) (k : Bool → Option R) : zAN_F n s k = k (nameS s) := by
  rw [zAN_e]
  unfold zAN_Fi nameS
  by_cases h1 : 1 ≤ s.size
  · by_cases h2 : s.size ≤ 16
    · have h1' : ¬ ((s.size : Int) < 1) := by omega
      have h2' : ¬ ((s.size : Int) > 16) := by omega
      simp only [h1, h2, h1', h2', decide_true, decide_false, Bool.true_and, Bool.false_eq_true, if_false]
      refine (runC_all (R := R) (step := zAN_l4 n) _ (k false) (k true) (chS s) (fun i => (s, (i : Int), ())) s.size (fun i hi k1 => ?_) (fun k1 => ?_) (by omega)).trans ?_
      · simp only [zAN_l4, zAN_s4, lt_nat, hi, (in_size hi).1, (in_size hi).2, decide_true, if_true, zDO i (by omega), chS, letS, othS]
        obtain ⟨c, hc⟩ : ∃ c, byteAt s i = c := ⟨_, rfl⟩
        simp only [hc]
        by_cases c1 : 97 ≤ c <;> by_cases c2 : c ≤ 122 <;> by_cases c3 : i = 0 <;> by_cases c4 : c = 95 <;> by_cases c5 : c < 48 <;> by_cases c6 : 57 < c <;> simp [c1, c2, c3, c4, c5, c6]
      · simp only [zAN_l4, zAN_s4, lt_nat, Nat.lt_irrefl, decide_false, Bool.false_eq_true, if_false]
      · cases (List.range s.size).all (chS s) <;> rfl
    · have h1' : ¬ ((s.size : Int) < 1) := by omega
      have h2' : ((s.size : Int) > 16) := by omega
      simp only [h1, h2, h1', h2', decide_true, decide_false, Bool.true_and, Bool.false_and, Bool.false_eq_true, if_false, if_true]
  · have h1' : ((s.size : Int) < 1) := by omega
    simp only [h1, h1', decide_true, decide_false, Bool.false_and, if_true]
theorem schName_F (n : Nat) (s : ByteArray) (hn : 16 < n) (k : Bool → Option R) : zBL_F n s k = k (nameS s) := by
  rw [zBL_e]
  unfold zBL_Fi
  simp only [beqB]
  by_cases h0 : s = (⟨#[]⟩ : ByteArray)
  · subst h0
    have : nameS (⟨#[]⟩ : ByteArray) = false := by unfold nameS; rfl
    simp [this]
  have h1 : 1 ≤ s.size := by
    rcases Nat.eq_zero_or_pos s.size with h | h
    · exact absurd (ByteArray.size_eq_zero_iff.1 h) h0
    · exact h
  by_cases h2 : s.size ≤ 16
  · have h2' : ¬ ((s.size : Int) > 16) := by omega
    have h3' : ((0 : Int) < (s.size : Int)) := by omega
    simp only [h0, h2', h3', decide_false, Bool.false_eq_true, if_false, Int.le_refl, if_true, letter_F]
    have e0 : byteAt s 0 = byteAt s ((0 : Nat) : Int) := rfl
    cases hl : letS (byteAt s 0) with
    | false =>
      simp only [Bool.not_false, if_true]
      have : nameS s = false := by
        unfold nameS
        have : (List.range s.size).all (chS s) = false := by
          rw [List.all_eq_false]
          exact ⟨0, List.mem_range.2 h1, by simp [chS, ← e0, hl]⟩
        rw [this]; simp
      rw [this]
    | true =>
      simp only [Bool.not_true, Bool.false_eq_true, if_false]
      refine (runC_all (R := R) (step := zBL_l4 n) _ (k false) (k true) (fun i => letS (byteAt s i) || othS (byteAt s i)) (fun i => (s, (s.size : Int), (i : Int), ())) s.size (fun i hi k1 => ?_) (fun k1 => ?_) (by omega)).trans ?_
      · simp only [zBL_l4, zBL_s4, lt_nat, hi, (in_size hi).1, (in_size hi).2, decide_true, if_true, zDO i (by omega), letter_F, othS]
        obtain ⟨c, hc⟩ : ∃ c, byteAt s i = c := ⟨_, rfl⟩
        simp only [hc]
        cases letS c with
        | true => simp
        | false =>
          by_cases c4 : c = 95 <;> by_cases c5 : c < 48 <;> by_cases c6 : 57 < c <;> simp [c4, c5, c6]
      · simp only [zBL_l4, zBL_s4, lt_nat, Nat.lt_irrefl, decide_false, Bool.false_eq_true, if_false]
      · have : (List.range s.size).all (fun i => letS (byteAt s i) || othS (byteAt s i)) = (List.range s.size).all (chS s) := by
          rw [Bool.eq_iff_iff, List.all_eq_true, List.all_eq_true]
          refine forall_congr' fun i => forall_congr' fun hi => ?_
          unfold chS
          by_cases hi0 : i = 0
          · subst hi0; rw [← e0, hl]; simp
          · simp [hi0]
        rw [this]
        unfold nameS
        simp only [h1, h2, decide_true, Bool.true_and]
        cases (List.range s.size).all (chS s) <;> rfl
  · have h2' : ((s.size : Int) > 16) := by omega
    simp only [h0, h2', decide_false, decide_true, Bool.false_eq_true, if_false, if_true, nameS, h2, Bool.false_and, Bool.and_false]
abbrev RS := Nat × Int × Int
def zT : ty60.D := Ty.z ty60
def tk (l : Toks) (i : Nat) : ty60.D := l.getD i zT
def rIs (l : Toks) (w : ByteArray) (s : RS) : Bool := decide (s.2.1 = 0) && ((decide ((tk l s.1).1 = 1) || decide ((tk l s.1).1 = 3)) && decide ((tk l s.1).2.1 = w))
def rStep (l : Toks) (s : RS) : RS := (if s.1 + 1 < l.length then s.1 + 1 else s.1, s.2.1, s.2.2)
def rTake (l : Toks) (w : ByteArray) (s : RS) : Bool × RS := if rIs l w s = true then (true, rStep l s) else (false, s)
def rFail (e p : Int) (s : RS) : RS := if s.2.1 = 0 then (s.1, e, p) else s
def rMust (l : Toks) (w : ByteArray) (s : RS) : RS := if (rTake l w s).1 = true then (rTake l w s).2 else rFail 7 (tk l s.1).2.2.2.1 s
def resW : List ByteArray := [(⟨#[100, 101, 110, 121]⟩ : ByteArray), (⟨#[118, 105, 101, 119]⟩ : ByteArray), (⟨#[113, 117, 111, 116, 97]⟩ : ByteArray), (⟨#[108, 105, 109, 105, 116]⟩ : ByteArray), (⟨#[105, 102]⟩ : ByteArray), (⟨#[110, 111, 116]⟩ : ByteArray), (⟨#[99, 111, 117, 110, 116]⟩ : ByteArray), (⟨#[115, 117, 109]⟩ : ByteArray), (⟨#[108, 101, 97, 115, 116]⟩ : ByteArray), (⟨#[109, 111, 115, 116]⟩ : ByteArray)]
def resS (w : ByteArray) : Bool := resW.any fun x => decide (x = w)
def isName (t : ty60.D) : Bool := decide (t.1 = 1) && (nameS t.2.1 && !resS t.2.1)
def rNamed (l : Toks) (s : RS) : Bool := decide (s.2.1 = 0) && isName (tk l s.1)
def rName (l : Toks) (s : RS) : ByteArray × RS := if rNamed l s = true then ((tk l s.1).2.1, rStep l s) else ((⟨#[]⟩ : ByteArray), rFail 7 (tk l s.1).2.2.2.1 s)
theorem zDZ {l : Toks} {s : RS} (h : s.1 < l.length) : (rStep l s).1 < l.length := by unfold rStep; simp only []; split <;> omega
theorem zDR {l : Toks} {s : RS} (w : ByteArray) (h : s.1 < l.length) : (rTake l w s).2.1 < l.length := by unfold rTake; split; exact zDZ h; exact h
theorem zEF (e p : Int) (s : RS) : (rFail e p s).1 = s.1 := by unfold rFail; split <;> rfl
theorem zDW {l : Toks} {s : RS} (e p : Int) (h : s.1 < l.length) : (rFail e p s).1 < l.length := by rw [zEF]; exact h
theorem zDS {l : Toks} {s : RS} (w : ByteArray) (h : s.1 < l.length) : (rMust l w s).1 < l.length := by unfold rMust; split; exact zDR w h; exact zDW _ _ h
theorem zDX {l : Toks} {s : RS} (h : s.1 < l.length) : (rName l s).2.1 < l.length := by unfold rName; split; exact zDZ h; exact zDW _ _ h
theorem now_F (n : Nat) (l : Toks) (s : RS) (h : s.1 < l.length) (k : ty60.D → Int → Int → Int → Toks → Option R) : zC_F n (s.1 : Int) s.2.1 s.2.2 l k = k (tk l s.1) (s.1 : Int) s.2.1 s.2.2 l := by
  rw [zC_e]
  unfold zC_Fi tk zT
  rw [if_pos (by omega), Int.toNat_natCast, if_pos h]
theorem is_F (n : Nat) (w : ByteArray) (l : Toks) (s : RS) (h : s.1 < l.length) (k : Bool → Int → Int → Int → Toks → Option R) : zAT_F n w (s.1 : Int) s.2.1 s.2.2 l k = k (rIs l w s) (s.1 : Int) s.2.1 s.2.2 l := by
  rw [zAT_e]
  unfold zAT_Fi
  rw [now_F n l s h]
  unfold rIs
  simp only [beqB]
  by_cases h0 : s.2.1 = 0
  · have b0 : (s.2.1 == 0) = true := by simp [h0]
    by_cases h1 : (tk l s.1).1 = 1
    · have b1 : ((tk l s.1).1 == 1) = true := beq_iff_eq.2 h1
      rw [if_pos b0, if_pos b1, decide_eq_true h0, decide_eq_true h1]
      simp
    · have b1 : ((tk l s.1).1 == 1) = false := beq_eq_false_iff_ne.2 h1
      rw [if_pos b0, if_neg (by rw [b1]; decide), decide_eq_true h0, decide_eq_false h1]
      by_cases h3 : (tk l s.1).1 = 3
      · have b3 : ((tk l s.1).1 == 3) = true := beq_iff_eq.2 h3
        rw [if_pos b3, decide_eq_true h3]
        simp
      · have b3 : ((tk l s.1).1 == 3) = false := beq_eq_false_iff_ne.2 h3
        rw [if_neg (by rw [b3]; decide), decide_eq_false h3]
        simp
  · have b0 : (s.2.1 == 0) = false := by simp [h0]
    rw [if_neg (by rw [b0]; decide), decide_eq_false h0]
    simp
theorem step_F (n : Nat) (l : Toks) (s : RS) (h : s.1 < l.length) (hl : l.length < 1000000) (k : Int → Int → Int → Toks → Option R) : zN_F n (s.1 : Int) s.2.1 s.2.2 l k = k ((rStep l s).1 : Int) (rStep l s).2.1 (rStep l s).2.2 l := by
  rw [zN_e]
  unfold zN_Fi rStep
  rw [zDO _ (by omega)]
  by_cases h1 : s.1 + 1 < l.length
  · have : ((s.1 + 1 : Nat) : Int) < (l.length : Int) := by omega
    rw [if_pos (decide_eq_true this)]
    simp only [h1, if_true]
  · have : ¬ ((s.1 + 1 : Nat) : Int) < (l.length : Int) := by omega
    rw [if_neg (by simpa using this)]
    simp only [h1, if_false]
theorem take_F (n : Nat) (w : ByteArray) (l : Toks) (s : RS) (h : s.1 < l.length) (hl : l.length < 1000000) (k : Bool → Int → Int → Int → Toks → Option R) : zG_F n w (s.1 : Int) s.2.1 s.2.2 l k = k (rTake l w s).1 ((rTake l w s).2.1 : Int) (rTake l w s).2.2.1 (rTake l w s).2.2.2 l := by
  rw [zG_e]
  unfold zG_Fi rTake
  rw [is_F n w l s h, step_F n l s h hl]
  cases rIs l w s <;> simp
theorem zEE (n : Nat) (e p : Int) (l : Toks) (s : RS) (k : Int → Int → Int → Toks → Option R) : zE_F n e p (s.1 : Int) s.2.1 s.2.2 l k = k ((rFail e p s).1 : Int) (rFail e p s).2.1 (rFail e p s).2.2 l := by
  rw [zE_e]
  unfold zE_Fi rFail
  by_cases h0 : s.2.1 = 0
  · have b0 : (s.2.1 == 0) = true := by simp [h0]
    rw [if_pos b0, if_pos h0]
  · have b0 : (s.2.1 == 0) = false := by simp [h0]
    rw [if_neg (by rw [b0]; decide), if_neg h0]
theorem must_F (n : Nat) (w : ByteArray) (l : Toks) (s : RS) (h : s.1 < l.length) (hl : l.length < 1000000) (k : Int → Int → Int → Toks → Option R) : zU_F n w (s.1 : Int) s.2.1 s.2.2 l k = k ((rMust l w s).1 : Int) (rMust l w s).2.1 (rMust l w s).2.2 l := by
  rw [zU_e]
  unfold zU_Fi
  rw [take_F n w l s h hl]
  unfold rMust
  cases ht : (rTake l w s).1 with
  | true => simp
  | false =>
    have e : (rTake l w s).2 = s := by
      unfold rTake at ht ⊢
      split at ht
      · cases ht
      · rename_i hh; rw [if_neg hh]
    simp only [Bool.not_false, if_true, e, Bool.false_eq_true, if_false]
    rw [now_F n l s h, zEE n 7 _ l s]
theorem reserved_F (n : Nat) (w : ByteArray) (hn : 20 < n) (k : Bool → Option R) : zZ_F n w k = k (resS w) := by
  rw [zZ_e]
  unfold zZ_Fi
  refine (runC_all (R := R) (step := zZ_l3 n) _ (k true) (k false) (fun i => !decide ((resW.getD i ByteArray.empty) = w)) (fun i => (w, (i : Int), resW, ())) resW.length (fun i hi k1 => ?_) (fun k1 => ?_) (by show 10 < n; omega)).trans ?_
  · have hi2 : (0 : Int) ≤ (i : Int) ∧ (i : Int) < (resW.length : Int) := by omega
    have e : resW.getD i (Ty.z .str) = resW.getD i ByteArray.empty := rfl
    have c : (i : Int) < (resW.length : Int) := by omega
    have hb : i < 10 := hi
    simp only [zZ_l3, zZ_s3, c, hi2, decide_true, if_true, and_self, Int.toNat_natCast, hi, beqB, e, zDO i (by omega)]
    by_cases h : resW.getD i ByteArray.empty = w
    · simp [h]
    · simp [h]
  · simp [zZ_l3, zZ_s3]
  · have : ((List.range resW.length).all fun i => !decide ((resW.getD i ByteArray.empty) = w)) = !resS w := by
      rw [Bool.eq_iff_iff, List.all_eq_true]
      unfold resS
      rw [Bool.not_eq_true', List.any_eq_false]
      constructor
      · intro h x hx
        obtain ⟨i, hi, e⟩ := List.getElem_of_mem hx
        have := h i (List.mem_range.2 hi)
        rw [getD_nat _ i hi, e] at this
        simpa using this
      · intro h i hi
        have hi := List.mem_range.1 hi
        have := h _ (List.getElem_mem hi)
        rw [getD_nat _ i hi]
        simpa using this
    rw [this]
    cases resS w <;> rfl
theorem named_F (n : Nat) (l : Toks) (s : RS) (h : s.1 < l.length) (hn : 20 < n) (k : Bool → Int → Int → Int → Toks → Option R) : zAP_F n (s.1 : Int) s.2.1 s.2.2 l k = k (rNamed l s) (s.1 : Int) s.2.1 s.2.2 l := by
  rw [zAP_e]
  unfold zAP_Fi
  rw [now_F n l s h]
  unfold rNamed isName
  by_cases h0 : s.2.1 = 0
  · have b0 : (s.2.1 == 0) = true := by simp [h0]
    by_cases h1 : (tk l s.1).1 = 1
    · have b1 : ((tk l s.1).1 == 1) = true := beq_iff_eq.2 h1
      rw [if_pos b0, if_pos b1, decide_eq_true h0, decide_eq_true h1, refName_F n _ (by omega), reserved_F n _ hn]
      cases nameS (tk l s.1).2.1 <;> simp
    · have b1 : ((tk l s.1).1 == 1) = false := beq_eq_false_iff_ne.2 h1
      rw [if_pos b0, if_neg (by rw [b1]; decide), decide_eq_true h0, decide_eq_false h1]
      simp
  · have b0 : (s.2.1 == 0) = false := by simp [h0]
    rw [if_neg (by rw [b0]; decide), decide_eq_false h0]
    simp
theorem name_F (n : Nat) (l : Toks) (s : RS) (h : s.1 < l.length) (hl : l.length < 1000000) (hn : 20 < n) (k : ByteArray → Int → Int → Int → Toks → Option R) : zX_F n (s.1 : Int) s.2.1 s.2.2 l k = k (rName l s).1 ((rName l s).2.1 : Int) (rName l s).2.2.1 (rName l s).2.2.2 l := by
  rw [zX_e]
  unfold zX_Fi
  rw [named_F n l s h hn]
  unfold rName
  cases rNamed l s with
  | true =>
    simp only [Bool.not_true, Bool.false_eq_true, if_false, if_true]
    rw [now_F n l s h, step_F n l s h hl]
  | false =>
    simp only [Bool.not_false, Bool.false_eq_true, if_false, if_true]
    rw [now_F n l s h, zEE n 7 _ l s]
def aggW : List ByteArray := [(⟨#[]⟩ : ByteArray), (⟨#[99, 111, 117, 110, 116]⟩ : ByteArray), (⟨#[115, 117, 109]⟩ : ByteArray), (⟨#[108, 101, 97, 115, 116]⟩ : ByteArray), (⟨#[109, 111, 115, 116]⟩ : ByteArray)]
def rAggI (l : Toks) (s : RS) : Nat := if rIs l (aggW.getD 1 ByteArray.empty) s = true then 1 else if rIs l (aggW.getD 2 ByteArray.empty) s = true then 2 else if rIs l (aggW.getD 3 ByteArray.empty) s = true then 3 else if rIs l (aggW.getD 4 ByteArray.empty) s = true then 4 else 0
def rAgg (l : Toks) (kind : Int) (s : RS) (ag : Int) (of_ : ByteArray) : Bool × RS × Int × ByteArray :=
  if rAggI l s = 0 then (false, s, ag, of_)
  else if kind = 1 ∨ kind = 3 ∧ 2 < rAggI l s then (true, rFail 7 (tk l s.1).2.2.2.1 s, ag, of_)
  else if 1 < rAggI l s then (true, (rName l (rStep l s)).2, (rAggI l s : Int), (rName l (rStep l s)).1)
  else (true, rStep l s, (rAggI l s : Int), of_)
theorem rAgg_lt {l : Toks} {s : RS} (kind : Int) (ag : Int) (of_ : ByteArray) (h : s.1 < l.length) : (rAgg l kind s ag of_).2.1.1 < l.length := by
  unfold rAgg
  split
  · exact h
  · split
    · exact zDW _ _ h
    · split
      · exact zDX (zDZ h)
      · exact zDZ h
theorem agg_round (n : Nat) (l : Toks) (s : RS) (h : s.1 < l.length) (hl : l.length < 1000000) (hn : 20 < n) (i : Nat) (h1 : 1 ≤ i) (hi : i < 5) (kind : Int) (nm : ByteArray) (ag : Int) (of_ : ByteArray) (lim : Int) (hd : List ByteArray) (bd : List ty51.D) (k1 : (zI_ds 3).D → Option R) (k2 : exK R (zI_dx 3)) :
    zI_l3 n ((i : Int), (s.1 : Int), s.2.1, s.2.2, l, kind, nm, ag, of_, lim, hd, bd, aggW, ()) k1 k2 = if rIs l (aggW.getD i ByteArray.empty) s = true then
        (if kind = 1 ∨ kind = 3 ∧ 2 < i then k2.1 (true, ((rFail 7 (tk l s.1).2.2.2.1 s).1 : Int), (rFail 7 (tk l s.1).2.2.2.1 s).2.1, (rFail 7 (tk l s.1).2.2.2.1 s).2.2, l, kind, nm, ag, of_, lim, hd, bd, ())
        else if 1 < i then k2.1 (true, ((rName l (rStep l s)).2.1 : Int), (rName l (rStep l s)).2.2.1, (rName l (rStep l s)).2.2.2, l, kind, nm, (i : Int), (rName l (rStep l s)).1, lim, hd, bd, ())
        else k2.1 (true, ((rStep l s).1 : Int), (rStep l s).2.1, (rStep l s).2.2, l, kind, nm, (i : Int), of_, lim, hd, bd, ()))
      else k1 (((i + 1 : Nat) : Int), (s.1 : Int), s.2.1, s.2.2, l, kind, nm, ag, of_, lim, hd, bd, aggW, ()) := by
  have hlen : aggW.length = 5 := rfl
  have c : (i : Int) < (aggW.length : Int) := by omega
  have hi2 : (0 : Int) ≤ (i : Int) ∧ (i : Int) < (aggW.length : Int) := by omega
  have hi3 : i < aggW.length := by omega
  have e : aggW.getD i (Ty.z .str) = aggW.getD i ByteArray.empty := rfl
  simp only [zI_l3, zI_s3, c, hi2, hi3, decide_true, if_true, and_self, Int.toNat_natCast, e, zDO i (by omega)]
  rw [is_F n _ l s h]
  cases rIs l (aggW.getD i ByteArray.empty) s with
  | false => simp
  | true =>
    simp only [Bool.not_true, Bool.false_eq_true, if_false, if_true]
    have g1 : ((i : Int) > 1) ↔ 1 < i := by omega
    have g2 : ((i : Int) > 2) ↔ 2 < i := by omega
    have tail : (zN_F n (s.1 : Int) s.2.1 s.2.2 l (fun y24 y25 y26 y27 => if (decide ((i : Int) > 1)) = true then (zX_F n y24 y25 y26 y27 (fun y28 y29 y30 y31 y32 => k2.1 (true, y29, y30, y31, y32, kind, nm, (i : Int), y28, lim, hd, bd, ()))) else (k2.1 (true, y24, y25, y26, y27, kind, nm, (i : Int), of_, lim, hd, bd, ())))) = if 1 < i then k2.1 (true, ((rName l (rStep l s)).2.1 : Int), (rName l (rStep l s)).2.2.1, (rName l (rStep l s)).2.2.2, l, kind, nm, (i : Int), (rName l (rStep l s)).1, lim, hd, bd, ())
        else k2.1 (true, ((rStep l s).1 : Int), (rStep l s).2.1, (rStep l s).2.2, l, kind, nm, (i : Int), of_, lim, hd, bd, ()) := by
      rw [step_F n l s h hl]
      by_cases hg : 1 < i
      · rw [if_pos (decide_eq_true (g1.2 hg)), if_pos hg, name_F n l _ (zDZ h) hl hn]
      · rw [if_neg (by simpa [g1] using hg), if_neg hg]
    by_cases k1' : kind = 1
    · have b : (kind == 1) = true := by simp [k1']
      rw [if_pos b, if_pos (Or.inl k1'), now_F n l s h, zEE n 7 _ l s]
    · have b : (kind == 1) = false := by simp [k1']
      rw [if_neg (by rw [b]; decide)]
      by_cases k3 : kind = 3
      · have b3 : (kind == 3) = true := by simp [k3]
        rw [if_pos b3]
        by_cases hg : 2 < i
        · rw [if_pos (decide_eq_true (g2.2 hg)), if_pos (Or.inr ⟨k3, hg⟩), now_F n l s h, zEE n 7 _ l s]
        · rw [if_neg (by simpa [g2] using hg), if_neg (fun hh => hh.elim k1' (fun h => hg h.2))]
          exact tail
      · have b3 : (kind == 3) = false := by simp [k3]
        rw [if_neg (by rw [b3]; decide), if_neg (fun hh => hh.elim k1' (fun h => k3 h.1))]
        exact tail
theorem agg_F (n : Nat) (l : Toks) (s : RS) (h : s.1 < l.length) (hl : l.length < 1000000) (hn : 20 < n) (kind : Int) (nm : ByteArray) (ag : Int) (of_ : ByteArray) (lim : Int) (hd : List ByteArray) (bd : List ty51.D) (k : Bool → Int → Int → Int → Toks → Int → ByteArray → Int → ByteArray → Int → List ByteArray → List ty51.D → Option R) :
    zI_F n (s.1 : Int) s.2.1 s.2.2 l kind nm ag of_ lim hd bd k = k (rAgg l kind s ag of_).1 ((rAgg l kind s ag of_).2.1.1 : Int) (rAgg l kind s ag of_).2.1.2.1 (rAgg l kind s ag of_).2.1.2.2 l kind nm (rAgg l kind s ag of_).2.2.1 (rAgg l kind s ag of_).2.2.2 lim hd bd := by
  rw [zI_e]
  unfold zI_Fi
  obtain ⟨m, rfl⟩ : ∃ m, n = m + 5 := ⟨n - 5, by omega⟩
  generalize hK : ((fun b53 => k b53.1 b53.2.1 b53.2.2.1 b53.2.2.2.1 b53.2.2.2.2.1 b53.2.2.2.2.2.1 b53.2.2.2.2.2.2.1 b53.2.2.2.2.2.2.2.1 b53.2.2.2.2.2.2.2.2.1 b53.2.2.2.2.2.2.2.2.2.1 b53.2.2.2.2.2.2.2.2.2.2.1 b53.2.2.2.2.2.2.2.2.2.2.2.1, fun b64 => k false b64.1 b64.2.1 b64.2.2.1 b64.2.2.2.1 b64.2.2.2.2.1 b64.2.2.2.2.2.1 b64.2.2.2.2.2.2.1 b64.2.2.2.2.2.2.2.1 b64.2.2.2.2.2.2.2.2.1 b64.2.2.2.2.2.2.2.2.2.1 b64.2.2.2.2.2.2.2.2.2.2.1, ()) : exK R (zI_dx 3)) = K
  have r := fun i h1 hi k1 => agg_round (R := R) (m + 5) l s h hl hn i h1 hi kind nm ag of_ lim hd bd k1 K
  unfold rAgg rAggI
  show zI_l3 (m + 5) (((1 : Nat) : Int), (s.1 : Int), s.2.1, s.2.2, l, kind, nm, ag, of_, lim, hd, bd, aggW, ()) (fun b => runC (zI_l3 (m + 5)) (m + 4) b K) K = _
  rw [r 1 (by omega) (by omega)]
  by_cases h1 : rIs l (aggW.getD 1 ByteArray.empty) s = true
  · rw [if_pos h1]
    simp only [h1, if_true, ← hK]
    by_cases k1' : kind = 1
    · simp [k1']
    · simp [k1']
  rw [if_neg h1]
  show zI_l3 (m + 5) (((2 : Nat) : Int), (s.1 : Int), s.2.1, s.2.2, l, kind, nm, ag, of_, lim, hd, bd, aggW, ()) (fun b => runC (zI_l3 (m + 5)) (m + 3) b K) K = _
  rw [r 2 (by omega) (by omega)]
  by_cases h2 : rIs l (aggW.getD 2 ByteArray.empty) s = true
  · rw [if_pos h2]
    simp only [h1, h2, if_true, if_false, ← hK]
    by_cases k1' : kind = 1
    · simp [k1']
    · simp [k1']
  rw [if_neg h2]
  show zI_l3 (m + 5) (((3 : Nat) : Int), (s.1 : Int), s.2.1, s.2.2, l, kind, nm, ag, of_, lim, hd, bd, aggW, ()) (fun b => runC (zI_l3 (m + 5)) (m + 2) b K) K = _
  rw [r 3 (by omega) (by omega)]
  by_cases h3 : rIs l (aggW.getD 3 ByteArray.empty) s = true
  · rw [if_pos h3]
    simp only [h1, h2, h3, if_true, if_false, ← hK]
    by_cases k1' : kind = 1
    · simp [k1']
    · by_cases k3 : kind = 3 <;> simp [k1', k3]
  rw [if_neg h3]
  show zI_l3 (m + 5) (((4 : Nat) : Int), (s.1 : Int), s.2.1, s.2.2, l, kind, nm, ag, of_, lim, hd, bd, aggW, ()) (fun b => runC (zI_l3 (m + 5)) (m + 1) b K) K = _
  rw [r 4 (by omega) (by omega)]
  by_cases h4 : rIs l (aggW.getD 4 ByteArray.empty) s = true
  · rw [if_pos h4]
    simp only [h1, h2, h3, h4, if_true, if_false, ← hK]
    by_cases k1' : kind = 1
    · simp [k1']
    · by_cases k3 : kind = 3 <;> simp [k1', k3]
  rw [if_neg h4]
  show zI_l3 (m + 5) (((5 : Nat) : Int), (s.1 : Int), s.2.1, s.2.2, l, kind, nm, ag, of_, lim, hd, bd, aggW, ()) (fun b => runC (zI_l3 (m + 5)) m b K) K = _
  have hlen : aggW.length = 5 := rfl
  simp only [zI_l3, zI_s3]
  rw [if_neg (by rw [hlen]; simp)]
  simp only [h1, h2, h3, h4, Bool.false_eq_true, if_false, if_true, ← hK]
end Go.Proofs.YtnnbinmomendnaaGreatDoor.E
namespace Go.Proofs.YtnnbinmomendnaaGreatDoor.E
open Go.RowKit
variable {R : Type}
set_option maxRecDepth 100000
theorem runC_s {α β R : Type} (step : α → (α → Option R) → β → Option R) (m : Nat) (a : α) (k : β) : runC step (m + 1) a k = step a (fun b => runC step m b k) k := rfl
def commaB : ByteArray := ⟨#[44]⟩
def rparB : ByteArray := ⟨#[41]⟩
def lparB : ByteArray := ⟨#[40]⟩
def anyB : ByteArray := ⟨#[95]⟩
def notB : ByteArray := ⟨#[110, 111, 116]⟩
def atT (l : Toks) (s : RS) : Int := (tk l s.1).2.2.2.1
def rHeadL (l : Toks) (kind : Int) : Nat → RS → Int → ByteArray → List ByteArray → RS × Int × ByteArray × List ByteArray
  | 0, s, ag, of_, hd => (s, ag, of_, hd)
  | f + 1, s, ag, of_, hd =>
    if s.2.1 = 0 then
      (if (rAgg l kind s ag of_).1 = true then ((rAgg l kind s ag of_).2.1, (rAgg l kind s ag of_).2.2.1, (rAgg l kind s ag of_).2.2.2, hd)
      else if (rTake l commaB (if 40 ≤ hd.length then rFail 9 (atT l s) (rName l s).2 else (rName l s).2)).1 = true then rHeadL l kind f (rTake l commaB (if 40 ≤ hd.length then rFail 9 (atT l s) (rName l s).2 else (rName l s).2)).2 ag of_ (hd ++ [(rName l s).1])
      else ((rTake l commaB (if 40 ≤ hd.length then rFail 9 (atT l s) (rName l s).2 else (rName l s).2)).2, ag, of_, hd ++ [(rName l s).1]))
    else (s, ag, of_, hd)
def rHead (l : Toks) (kind : Int) (s : RS) (ag : Int) (of_ : ByteArray) (hd : List ByteArray) : RS × Int × ByteArray × List ByteArray :=
  if kind = 3 then
    ((if (rAgg l kind (rMust l commaB (rName l s).2) ag of_).1 = true then (rAgg l kind (rMust l commaB (rName l s).2) ag of_).2.1 else rFail 7 (atT l (rAgg l kind (rMust l commaB (rName l s).2) ag of_).2.1) (rAgg l kind (rMust l commaB (rName l s).2) ag of_).2.1),
     (rAgg l kind (rMust l commaB (rName l s).2) ag of_).2.2.1, (rAgg l kind (rMust l commaB (rName l s).2) ag of_).2.2.2, hd ++ [(rName l s).1])
  else rHeadL l kind 400 s ag of_ hd
theorem rAgg_no {l : Toks} {kind : Int} {s : RS} {ag : Int} {of_ : ByteArray} (h : (rAgg l kind s ag of_).1 = false) : rAgg l kind s ag of_ = (false, s, ag, of_) := by
  unfold rAgg at h ⊢
  split
  · rfl
  · rename_i h1
    rw [if_neg h1] at h
    split at h
    · cases h
    · split at h <;> cases h
theorem rHeadL_rng {l : Toks} (kind : Int) : ∀ (f : Nat) (s : RS) (ag : Int) (of_ : ByteArray) (hd : List ByteArray), s.1 < l.length → (rHeadL l kind f s ag of_ hd).1.1 < l.length ∧ (rHeadL l kind f s ag of_ hd).2.2.2.length ≤ hd.length + f
  | 0, s, ag, of_, hd, h => ⟨h, Nat.le_refl _⟩
  | f + 1, s, ag, of_, hd, h => by
    unfold rHeadL
    split
    · split
      · exact ⟨rAgg_lt kind ag of_ h, by simp only []; omega⟩
      · have ht : (rTake l commaB (if 40 ≤ hd.length then rFail 9 (atT l s) (rName l s).2 else (rName l s).2)).2.1 < l.length := by
          refine zDR _ ?_
          split
          · exact zDW _ _ (zDX h)
          · exact zDX h
        generalize rTake l commaB (if 40 ≤ hd.length then rFail 9 (atT l s) (rName l s).2 else (rName l s).2) = t at ht ⊢
        split
        · have := rHeadL_rng kind f t.2 ag of_ (hd ++ [(rName l s).1]) ht
          exact ⟨this.1, by have := this.2; simp at this; omega⟩
        · exact ⟨ht, by simp⟩
    · exact ⟨h, by simp only []; omega⟩
theorem rHead_rng {l : Toks} (kind : Int) (s : RS) (ag : Int) (of_ : ByteArray) (hd : List ByteArray) (h : s.1 < l.length) : (rHead l kind s ag of_ hd).1.1 < l.length ∧ (rHead l kind s ag of_ hd).2.2.2.length ≤ hd.length + 400 := by
  unfold rHead
  split
  · have ha := rAgg_lt (l := l) kind ag of_ (zDS commaB (zDX h))
    refine ⟨?_, by simp⟩
    simp only []
    split
    · exact ha
    · exact zDW _ _ ha
  · exact rHeadL_rng kind 400 s ag of_ hd h
theorem head_loop (n : Nat) (l : Toks) (hl : l.length < 1000000) (hn : 20 < n) (kind : Int) (nm : ByteArray) (lim : Int) (bd : List ty51.D) (K : exK R (zM_dx 6)) (ret : Int → Int → Int → Toks → Int → ByteArray → Int → ByteArray → Int → List ByteArray → List ty51.D → Option R)
    (hK1 : ∀ a b c d e f g h i j q, K.1 (a, b, c, d, e, f, g, h, i, j, q, ()) = ret a b c d e f g h i j q) (hK2 : ∀ a b c d e f g h i j q, K.2.1 (a, b, c, d, e, f, g, h, i, j, q, ()) = ret a b c d e f g h i j q) : ∀ (f i : Nat) (m : Nat) (s : RS) (ag : Int) (of_ : ByteArray) (hd : List ByteArray), s.1 < l.length → i + f = 400 → hd.length ≤ 1000 + i → f < m →
    runC (zM_l6 n) m ((i : Int), (s.1 : Int), s.2.1, s.2.2, l, kind, nm, ag, of_, lim, hd, bd, ()) K = ret ((rHeadL l kind f s ag of_ hd).1.1 : Int) (rHeadL l kind f s ag of_ hd).1.2.1 (rHeadL l kind f s ag of_ hd).1.2.2 l kind nm (rHeadL l kind f s ag of_ hd).2.1 (rHeadL l kind f s ag of_ hd).2.2.1 lim (rHeadL l kind f s ag of_ hd).2.2.2 bd
  | 0, i, m, s, ag, of_, hd, h, hf, hh, hm => by
    obtain ⟨m, rfl⟩ : ∃ q, m = q + 1 := ⟨m - 1, by omega⟩
    refine (runC_s _ _ _ _).trans ?_
    have : ¬ ((i : Int) < 400) := by omega
    simp only [zM_l6, zM_s6]
    rw [if_neg (by simpa using this)]
    exact hK2 _ _ _ _ _ _ _ _ _ _ _
  | f + 1, i, m, s, ag, of_, hd, h, hf, hh, hm => by
    obtain ⟨m, rfl⟩ : ∃ q, m = q + 1 := ⟨m - 1, by omega⟩
    refine (runC_s _ _ _ _).trans ?_
    have c : (i : Int) < 400 := by omega
    have w : IntKind.i64.wrap ((i : Int) + 1) = ((i + 1 : Nat) : Int) := zDO _ (by omega)
    unfold rHeadL
    simp only [zM_l6, zM_s6, c, decide_true, if_true, w]
    by_cases h0 : s.2.1 = 0
    · have b0 : (s.2.1 == 0) = true := by simp [h0]
      rw [if_pos b0, if_pos h0, agg_F n l s h hl hn]
      cases ha : (rAgg l kind s ag of_).1 with
      | true =>
        simp only [if_true]
        exact hK1 _ _ _ _ _ _ _ _ _ _ _
      | false =>
        have hno := rAgg_no ha
        simp only [hno, Bool.false_eq_true, if_false]
        rw [now_F n l s h, name_F n l s h hl hn]
        have hnl := zDX (l := l) h
        have g : ((hd.length : Int) ≥ 40) ↔ 40 ≤ hd.length := by omega
        have gd : (List.length hd + List.length [(rName l s).1]) * 16 ≤ 140737488355328 := by simp only [List.length_cons, List.length_nil]; omega
        have rest : ∀ s2 : RS, s2.1 < l.length → zG_F n (⟨#[44]⟩ : ByteArray) (s2.1 : Int) s2.2.1 s2.2.2 l (fun y57 y58 y59 y60 y61 => if (!y57) = true then (K.1 (y58, y59, y60, y61, kind, nm, ag, of_, lim, (hd ++ [(rName l s).1]), bd, ())) else (runC (zM_l6 n) m (((i + 1 : Nat) : Int), y58, y59, y60, y61, kind, nm, ag, of_, lim, (hd ++ [(rName l s).1]), bd, ()) K))
            = if (rTake l commaB s2).1 = true then ret ((rHeadL l kind f (rTake l commaB s2).2 ag of_ (hd ++ [(rName l s).1])).1.1 : Int) (rHeadL l kind f (rTake l commaB s2).2 ag of_ (hd ++ [(rName l s).1])).1.2.1 (rHeadL l kind f (rTake l commaB s2).2 ag of_ (hd ++ [(rName l s).1])).1.2.2 l kind nm (rHeadL l kind f (rTake l commaB s2).2 ag of_ (hd ++ [(rName l s).1])).2.1 (rHeadL l kind f (rTake l commaB s2).2 ag of_ (hd ++ [(rName l s).1])).2.2.1 lim (rHeadL l kind f (rTake l commaB s2).2 ag of_ (hd ++ [(rName l s).1])).2.2.2 bd
              else ret ((rTake l commaB s2).2.1 : Int) (rTake l commaB s2).2.2.1 (rTake l commaB s2).2.2.2 l kind nm ag of_ lim (hd ++ [(rName l s).1]) bd := by
          intro s2 h2
          rw [take_F n _ l s2 h2 hl]
          show (if (!(rTake l commaB s2).1) = true then _ else _) = _
          cases ht : (rTake l commaB s2).1 with
          | false =>
            simp only [Bool.not_false, if_true, Bool.false_eq_true, if_false]
            exact hK1 _ _ _ _ _ _ _ _ _ _ _
          | true =>
            simp only [Bool.not_true, if_true, Bool.false_eq_true, if_false]
            exact head_loop n l hl hn kind nm lim bd K ret hK1 hK2 f (i + 1) m (rTake l commaB s2).2 ag of_ _ (zDR _ h2) (by omega) (by simp; omega) (by omega)
        by_cases hg : 40 ≤ hd.length
        · rw [if_pos (decide_eq_true (g.2 hg)), zEE n 9 _ l (rName l s).2, if_pos gd]
          simp only [hg, if_true]
          refine (rest _ (zDW _ _ hnl)).trans ?_
          unfold atT
          split <;> rfl
        · rw [if_neg (by simpa [g] using hg), if_pos gd]
          simp only [hg, if_false]
          refine (rest _ hnl).trans ?_
          split <;> rfl
    · have b0 : (s.2.1 == 0) = false := by simp [h0]
      rw [if_neg (by rw [b0]; decide), if_neg h0]
      exact hK2 _ _ _ _ _ _ _ _ _ _ _
theorem head_F (n : Nat) (l : Toks) (s : RS) (h : s.1 < l.length) (hl : l.length < 1000000) (hn : 500 < n) (kind : Int) (nm : ByteArray) (ag : Int) (of_ : ByteArray) (lim : Int) (hd : List ByteArray) (hh : hd.length ≤ 1000) (bd : List ty51.D) (k : Int → Int → Int → Toks → Int → ByteArray → Int → ByteArray → Int → List ByteArray → List ty51.D → Option R) :
    zM_F n (s.1 : Int) s.2.1 s.2.2 l kind nm ag of_ lim hd bd k = k ((rHead l kind s ag of_ hd).1.1 : Int) (rHead l kind s ag of_ hd).1.2.1 (rHead l kind s ag of_ hd).1.2.2 l kind nm (rHead l kind s ag of_ hd).2.1 (rHead l kind s ag of_ hd).2.2.1 lim (rHead l kind s ag of_ hd).2.2.2 bd := by
  rw [zM_e]
  unfold zM_Fi rHead
  by_cases hk : kind = 3
  · have b : (kind == 3) = true := by simp [hk]
    have h1 := zDX (l := l) h
    have h2 := zDS (l := l) commaB h1
    have h3 := rAgg_lt (l := l) kind ag of_ h2
    rw [if_pos b, if_pos hk, name_F n l s h hl (by omega)]
    rw [if_pos (by simp only [List.length_cons, List.length_nil]; omega)]
    rw [must_F n _ l _ h1 hl]
    refine (agg_F n l (rMust l commaB (rName l s).2) h2 hl (by omega) kind nm ag of_ lim _ bd _).trans ?_
    cases ha : (rAgg l kind (rMust l commaB (rName l s).2) ag of_).1 with
    | true => simp
    | false =>
      simp only [Bool.not_false, if_true, Bool.false_eq_true, if_false]
      rw [now_F n l _ h3, zEE n 7 _ l]
      rfl
  · have b : (kind == 3) = false := by simp [hk]
    rw [if_neg (by rw [b]; decide), if_neg hk]
    exact head_loop n l hl (by omega) kind nm lim bd _ k (fun _ _ _ _ _ _ _ _ _ _ _ => rfl) (fun _ _ _ _ _ _ _ _ _ _ _ => rfl) 400 0 n s ag of_ hd h (by omega) (by omega) (by omega)
def rTerm (l : Toks) (s : RS) : ty48.D × RS := if s.2.1 = 0 ∧ (tk l s.1).1 = 2 then (((⟨#[]⟩ : ByteArray), false, (tk l s.1).2.2.1, ()), rStep l s) else (((rName l s).1, false, zV, ()), (rName l s).2)
theorem rTerm_lt {l : Toks} {s : RS} (h : s.1 < l.length) : (rTerm l s).2.1 < l.length := by unfold rTerm; split; exact zDZ h; exact zDX h
theorem term_F (n : Nat) (l : Toks) (s : RS) (h : s.1 < l.length) (hl : l.length < 1000000) (hn : 20 < n) (k : ty48.D → Int → Int → Int → Toks → Option R) : zAW_F n (s.1 : Int) s.2.1 s.2.2 l k = k (rTerm l s).1 ((rTerm l s).2.1 : Int) (rTerm l s).2.2.1 (rTerm l s).2.2.2 l := by
  rw [zAW_e]
  unfold zAW_Fi
  rw [now_F n l s h]
  unfold rTerm
  by_cases h0 : s.2.1 = 0
  · have b0 : (s.2.1 == 0) = true := by simp [h0]
    rw [if_pos b0]
    by_cases h2 : (tk l s.1).1 = 2
    · have b2 : ((tk l s.1).1 == 2) = true := beq_iff_eq.2 h2
      rw [if_pos b2, if_pos ⟨h0, h2⟩, step_F n l s h hl]
    · have b2 : ((tk l s.1).1 == 2) = false := beq_eq_false_iff_ne.2 h2
      rw [if_neg (by rw [b2]; decide), if_neg (fun hh => h2 hh.2), name_F n l s h hl hn]
      rfl
  · have b0 : (s.2.1 == 0) = false := by simp [h0]
    rw [if_neg (by rw [b0]; decide), if_neg (fun hh => h0 hh.1), name_F n l s h hl hn]
    rfl
def anyT : ty48.D := ((⟨#[]⟩ : ByteArray), true, zV, ())
def rArg (l : Toks) (s : RS) : ty48.D × RS := if rIs l anyB s = true then (anyT, rStep l s) else rTerm l s
theorem rArg_lt {l : Toks} {s : RS} (h : s.1 < l.length) : (rArg l s).2.1 < l.length := by unfold rArg; split; exact zDZ h; exact rTerm_lt h
def rArgsL (l : Toks) : Nat → RS → List ty48.D → RS × List ty48.D
  | 0, s, acc => (s, acc)
  | f + 1, s, acc =>
    if s.2.1 = 0 then
      (if (rTake l commaB (if 40 < acc.length + 1 then rFail 9 (atT l s) (rArg l s).2 else (rArg l s).2)).1 = true then rArgsL l f (rTake l commaB (if 40 < acc.length + 1 then rFail 9 (atT l s) (rArg l s).2 else (rArg l s).2)).2 (acc ++ [(rArg l s).1])
      else (rMust l rparB (rTake l commaB (if 40 < acc.length + 1 then rFail 9 (atT l s) (rArg l s).2 else (rArg l s).2)).2, acc ++ [(rArg l s).1]))
    else (s, acc)
def rArgs (l : Toks) (s : RS) : RS × List ty48.D := if (rTake l rparB s).1 = true then ((rTake l rparB s).2, []) else rArgsL l 400 (rTake l rparB s).2 []
theorem rArgsL_rng {l : Toks} : ∀ (f : Nat) (s : RS) (acc : List ty48.D), s.1 < l.length → (rArgsL l f s acc).1.1 < l.length ∧ (rArgsL l f s acc).2.length ≤ acc.length + f
  | 0, s, acc, h => ⟨h, Nat.le_refl _⟩
  | f + 1, s, acc, h => by
    unfold rArgsL
    split
    · have ht : (rTake l commaB (if 40 < acc.length + 1 then rFail 9 (atT l s) (rArg l s).2 else (rArg l s).2)).2.1 < l.length := by
        refine zDR _ ?_
        split
        · exact zDW _ _ (rArg_lt h)
        · exact rArg_lt h
      generalize rTake l commaB (if 40 < acc.length + 1 then rFail 9 (atT l s) (rArg l s).2 else (rArg l s).2) = t at ht ⊢
      split
      · have := rArgsL_rng f t.2 (acc ++ [(rArg l s).1]) ht
        exact ⟨this.1, by have := this.2; simp at this; omega⟩
      · exact ⟨zDS _ ht, by simp⟩
    · exact ⟨h, by simp only []; omega⟩
theorem rArgs_rng {l : Toks} (s : RS) (h : s.1 < l.length) : (rArgs l s).1.1 < l.length ∧ (rArgs l s).2.length ≤ 400 := by
  unfold rArgs
  split
  · exact ⟨zDR _ h, by simp⟩
  · have := rArgsL_rng (l := l) 400 _ [] (zDR rparB h)
    exact ⟨this.1, by simpa using this.2⟩
theorem args_loop (n : Nat) (l : Toks) (hl : l.length < 1000000) (hn : 20 < n) (K : exK R (zH_dx 5)) (ret : Int → Int → Int → Toks → List ty48.D → Option R)
    (hK1 : ∀ a b c d e, K.1 (a, b, c, d, e, ()) = ret a b c d e) (hK2 : ∀ a b c d e, K.2.1 (a, b, c, d, e, ()) = ret a b c d e) : ∀ (f i : Nat) (m : Nat) (s : RS) (acc : List ty48.D), s.1 < l.length → i + f = 400 → acc.length ≤ 1000 + i → f < m →
    runC (zH_l5 n) m ((i : Int), (s.1 : Int), s.2.1, s.2.2, l, acc, ()) K = ret ((rArgsL l f s acc).1.1 : Int) (rArgsL l f s acc).1.2.1 (rArgsL l f s acc).1.2.2 l (rArgsL l f s acc).2
  | 0, i, m, s, acc, h, hf, hh, hm => by
    obtain ⟨m, rfl⟩ : ∃ q, m = q + 1 := ⟨m - 1, by omega⟩
    refine (runC_s _ _ _ _).trans ?_
    have : ¬ ((i : Int) < 400) := by omega
    simp only [zH_l5, zH_s5]
    rw [if_neg (by simpa using this)]
    exact hK2 _ _ _ _ _
  | f + 1, i, m, s, acc, h, hf, hh, hm => by
    obtain ⟨m, rfl⟩ : ∃ q, m = q + 1 := ⟨m - 1, by omega⟩
    refine (runC_s _ _ _ _).trans ?_
    have c : (i : Int) < 400 := by omega
    have w : IntKind.i64.wrap ((i : Int) + 1) = ((i + 1 : Nat) : Int) := zDO _ (by omega)
    unfold rArgsL
    simp only [zH_l5, zH_s5, c, decide_true, if_true, w]
    by_cases h0 : s.2.1 = 0
    · have b0 : (s.2.1 == 0) = true := by simp [h0]
      rw [if_pos b0, if_pos h0, now_F n l s h]
      refine (is_F n anyB l s h _).trans ?_
      have rest : ∀ (a : ty48.D) (s2 : RS), s2.1 < l.length → zG_F n (⟨#[44]⟩ : ByteArray) (s2.1 : Int) s2.2.1 s2.2.2 l (fun y24 y25 y26 y27 y28 => if (!y24) = true then (zU_F n (⟨#[41]⟩ : ByteArray) y25 y26 y27 y28 (fun y29 y30 y31 y32 => K.1 (y29, y30, y31, y32, (acc ++ [a]), ()))) else (runC (zH_l5 n) m (((i + 1 : Nat) : Int), y25, y26, y27, y28, (acc ++ [a]), ()) K))
          = if (rTake l commaB s2).1 = true then ret ((rArgsL l f (rTake l commaB s2).2 (acc ++ [a])).1.1 : Int) (rArgsL l f (rTake l commaB s2).2 (acc ++ [a])).1.2.1 (rArgsL l f (rTake l commaB s2).2 (acc ++ [a])).1.2.2 l (rArgsL l f (rTake l commaB s2).2 (acc ++ [a])).2
            else ret ((rMust l rparB (rTake l commaB s2).2).1 : Int) (rMust l rparB (rTake l commaB s2).2).2.1 (rMust l rparB (rTake l commaB s2).2).2.2 l (acc ++ [a]) := by
        intro a s2 h2
        rw [take_F n _ l s2 h2 hl]
        show (if (!(rTake l commaB s2).1) = true then _ else _) = _
        cases ht : (rTake l commaB s2).1 with
        | false =>
          simp only [Bool.not_false, if_true, Bool.false_eq_true, if_false]
          refine (must_F n rparB l (rTake l commaB s2).2 (zDR _ h2) hl _).trans ?_
          exact hK1 _ _ _ _ _
        | true =>
          simp only [Bool.not_true, if_true, Bool.false_eq_true, if_false]
          exact args_loop n l hl hn K ret hK1 hK2 f (i + 1) m (rTake l commaB s2).2 _ (zDR _ h2) (by omega) (by simp; omega) (by omega)
      have tail : ∀ (a : ty48.D) (s2 : RS), s2.1 < l.length → (if (List.length acc + List.length [a]) * 64 ≤ 140737488355328 then (if (decide (((acc ++ [a]).length : Int) > 40)) = true then (zE_F n 9 (tk l s.1).2.2.2.1 (s2.1 : Int) s2.2.1 s2.2.2 l (fun y20 y21 y22 y23 => zG_F n (⟨#[44]⟩ : ByteArray) y20 y21 y22 y23 (fun y24 y25 y26 y27 y28 => if (!y24) = true then (zU_F n (⟨#[41]⟩ : ByteArray) y25 y26 y27 y28 (fun y29 y30 y31 y32 => K.1 (y29, y30, y31, y32, (acc ++ [a]), ()))) else (runC (zH_l5 n) m (((i + 1 : Nat) : Int), y25, y26, y27, y28, (acc ++ [a]), ()) K)))) else (zG_F n (⟨#[44]⟩ : ByteArray) (s2.1 : Int) s2.2.1 s2.2.2 l (fun y24 y25 y26 y27 y28 => if (!y24) = true then (zU_F n (⟨#[41]⟩ : ByteArray) y25 y26 y27 y28 (fun y29 y30 y31 y32 => K.1 (y29, y30, y31, y32, (acc ++ [a]), ()))) else (runC (zH_l5 n) m (((i + 1 : Nat) : Int), y25, y26, y27, y28, (acc ++ [a]), ()) K)))) else none)
          = if (rTake l commaB (if 40 < acc.length + 1 then rFail 9 (atT l s) s2 else s2)).1 = true then ret ((rArgsL l f (rTake l commaB (if 40 < acc.length + 1 then rFail 9 (atT l s) s2 else s2)).2 (acc ++ [a])).1.1 : Int) (rArgsL l f (rTake l commaB (if 40 < acc.length + 1 then rFail 9 (atT l s) s2 else s2)).2 (acc ++ [a])).1.2.1 (rArgsL l f (rTake l commaB (if 40 < acc.length + 1 then rFail 9 (atT l s) s2 else s2)).2 (acc ++ [a])).1.2.2 l (rArgsL l f (rTake l commaB (if 40 < acc.length + 1 then rFail 9 (atT l s) s2 else s2)).2 (acc ++ [a])).2
            else ret ((rMust l rparB (rTake l commaB (if 40 < acc.length + 1 then rFail 9 (atT l s) s2 else s2)).2).1 : Int) (rMust l rparB (rTake l commaB (if 40 < acc.length + 1 then rFail 9 (atT l s) s2 else s2)).2).2.1 (rMust l rparB (rTake l commaB (if 40 < acc.length + 1 then rFail 9 (atT l s) s2 else s2)).2).2.2 l (acc ++ [a]) := by
        intro a s2 h2
        rw [if_pos (by simp only [List.length_cons, List.length_nil]; omega)]
        have g : (((acc ++ [a]).length : Int) > 40) ↔ 40 < acc.length + 1 := by simp only [List.length_append, List.length_cons, List.length_nil]; omega
        by_cases hg : 40 < acc.length + 1
        · rw [if_pos (decide_eq_true (g.2 hg)), zEE n 9 _ l s2]
          simp only [hg, if_true]
          exact rest a (rFail 9 (atT l s) s2) (zDW _ _ h2)
        · rw [if_neg (fun hh => hg (g.1 (of_decide_eq_true hh)))]
          simp only [hg, if_false]
          exact rest a s2 h2
      have hra : rArg l s = if rIs l anyB s = true then (anyT, rStep l s) else rTerm l s := rfl
      cases hi : rIs l anyB s with
      | true =>
        rw [hi, if_pos rfl] at hra
        simp only [if_true, hra]
        rw [step_F n l s h hl]
        refine (tail anyT (rStep l s) (zDZ h)).trans ?_
        generalize rTake l commaB (if 40 < acc.length + 1 then rFail 9 (atT l s) (rStep l s) else rStep l s) = t
        split <;> rfl
      | false =>
        rw [hi, if_neg (by decide)] at hra
        simp only [Bool.false_eq_true, if_false, hra]
        rw [term_F n l s h hl hn]
        refine (tail (rTerm l s).1 (rTerm l s).2 (rTerm_lt h)).trans ?_
        generalize rTake l commaB (if 40 < acc.length + 1 then rFail 9 (atT l s) (rTerm l s).2 else (rTerm l s).2) = t
        split <;> rfl
    · have b0 : (s.2.1 == 0) = false := by simp [h0]
      rw [if_neg (by rw [b0]; decide), if_neg h0]
      exact hK2 _ _ _ _ _
theorem args_F (n : Nat) (l : Toks) (s : RS) (h : s.1 < l.length) (hl : l.length < 1000000) (hn : 500 < n) (k : Int → Int → Int → Toks → List ty48.D → Option R) : zH_F n (s.1 : Int) s.2.1 s.2.2 l k = k ((rArgs l s).1.1 : Int) (rArgs l s).1.2.1 (rArgs l s).1.2.2 l (rArgs l s).2 := by
  rw [zH_e]
  unfold zH_Fi rArgs
  refine (take_F n rparB l s h hl _).trans ?_
  cases ht : (rTake l rparB s).1 with
  | true => simp only [if_true]
  | false =>
    simp only [Bool.false_eq_true, if_false]
    exact args_loop n l hl (by omega) _ k (fun _ _ _ _ _ => rfl) (fun _ _ _ _ _ => rfl) 400 0 n (rTake l rparB s).2 [] (zDR _ h) (by omega) (by simp) (by omega)
def sgnW : List ByteArray := [(⟨#[]⟩ : ByteArray), (⟨#[61, 61]⟩ : ByteArray), (⟨#[33, 61]⟩ : ByteArray), (⟨#[60]⟩ : ByteArray), (⟨#[60, 61]⟩ : ByteArray), (⟨#[62]⟩ : ByteArray), (⟨#[62, 61]⟩ : ByteArray)]
def opS (w : ByteArray) : Int := match (List.range 6).findSome? fun i => if sgnW.getD (i + 1) ByteArray.empty = w then some i else none with
  | none => 0
  | some i => ((i + 1 : Nat) : Int)
theorem sgn_F (n i : Nat) (h1 : 1 ≤ i) (h2 : i < 7) (k : ByteArray → Option R) : zCD_F n (i : Int) k = k (sgnW.getD i ByteArray.empty) := by
  rw [zCD_e]
  unfold zCD_Fi
  have e : ([(⟨#[]⟩ : ByteArray), (⟨#[61, 61]⟩ : ByteArray), (⟨#[33, 61]⟩ : ByteArray), (⟨#[60]⟩ : ByteArray), (⟨#[60, 61]⟩ : ByteArray), (⟨#[62]⟩ : ByteArray), (⟨#[62, 61]⟩ : ByteArray)] : List ByteArray) = sgnW := rfl
  have hl : sgnW.length = 7 := rfl
  rw [e]
  have c1 : ¬ (i : Int) < 1 := by omega
  have c2 : ¬ (i : Int) ≥ (sgnW.length : Int) := by omega
  rw [if_neg (by simpa using c1), if_neg (fun h => c2 (of_decide_eq_true h)), if_pos (by omega), Int.toNat_natCast, if_pos (by omega)]
theorem op_F (n : Nat) (w : ByteArray) (hn : 20 < n) (k : Int → Option R) : zAV_F n w k = k (opS w) := by
  rw [zAV_e]
  unfold zAV_Fi
  refine (runC_scan (R := R) (step := zAV_l2 n) _ (fun i : Nat => k ((i + 1 : Nat) : Int)) (k 0) (fun i => if sgnW.getD (i + 1) ByteArray.empty = w then some i else none) (fun i => (w, ((i + 1 : Nat) : Int), ())) 6 (fun i hi k1 => ?_) (fun k1 => ?_) (by omega)).trans ?_
  · have c : ((i + 1 : Nat) : Int) ≤ 6 := by omega
    simp only [zAV_l2, zAV_s2, c, decide_true, if_true, zDO (i + 1) (by omega)]
    rw [sgn_F n (i + 1) (by omega) (by omega), beqB]
    by_cases h : sgnW.getD (i + 1) ByteArray.empty = w
    · rw [if_pos (decide_eq_true h), if_pos h]
    · rw [if_neg (by simpa using h), if_neg h]
  · have c : ¬ ((6 + 1 : Nat) : Int) ≤ 6 := by omega
    simp only [zAV_l2, zAV_s2]
    rw [if_neg (by simp)]
  · unfold opS
    cases (List.range 6).findSome? (fun i => if sgnW.getD (i + 1) ByteArray.empty = w then some i else none) <;> rfl
theorem opS_rng (w : ByteArray) : 0 ≤ opS w ∧ opS w ≤ 6 := by
  unfold opS
  cases h : (List.range 6).findSome? (fun i => if sgnW.getD (i + 1) ByteArray.empty = w then some i else none) with
  | none => simp
  | some i =>
    obtain ⟨j, hj, e⟩ := List.exists_of_findSome?_eq_some h
    have := List.mem_range.1 hj
    split at e
    · injection e with e
      simp only []
      omega
    · cases e
def rLone (l : Toks) (p : Int) (s : RS) : RS := if rIs l notB s = true ∨ rNamed l s = true ∨ (tk l s.1).1 = 2 then rFail 7 p (rFail 9 p s) else rFail 7 p s
theorem rLone_lt {l : Toks} {s : RS} (p : Int) (h : s.1 < l.length) : (rLone l p s).1 < l.length := by
  unfold rLone
  split
  · rw [zEF, zEF]; exact h
  · rw [zEF]; exact h
theorem lone_F (n : Nat) (p : Int) (l : Toks) (s : RS) (h : s.1 < l.length) (hn : 20 < n) (k : Int → Int → Int → Toks → Option R) : zBC_F n p (s.1 : Int) s.2.1 s.2.2 l k = k ((rLone l p s).1 : Int) (rLone l p s).2.1 (rLone l p s).2.2 l := by
  rw [zBC_e]
  unfold zBC_Fi
  rw [now_F n l s h]
  refine (is_F n notB l s h _).trans ?_
  unfold rLone
  by_cases h1 : rIs l notB s = true
  · rw [if_pos h1, if_pos (Or.inl h1), zEE n 9 p l s, zEE n 7 p l]
  · rw [if_neg h1, named_F n l s h hn]
    by_cases h2 : rNamed l s = true
    · rw [if_pos h2, if_pos (Or.inr (Or.inl h2)), zEE n 9 p l s, zEE n 7 p l]
    · rw [if_neg h2]
      by_cases h3 : (tk l s.1).1 = 2
      · have b : ((tk l s.1).1 == 2) = true := beq_iff_eq.2 h3
        rw [if_pos b, if_pos (Or.inr (Or.inr h3)), zEE n 9 p l s, zEE n 7 p l]
      · have b : ((tk l s.1).1 == 2) = false := beq_eq_false_iff_ne.2 h3
        rw [if_neg (by rw [b]; decide), if_neg (by rintro (h | h | h); exact h1 h; exact h2 h; exact h3 h), zEE n 7 p l s]
def rPar (l : Toks) (s : RS) : Bool := decide (s.1 + 1 < l.length) && (decide ((tk l (s.1 + 1)).1 = 3) && decide ((tk l (s.1 + 1)).2.1 = lparB))
def rAtomS (l : Toks) (atoms : Int) (not_ : Bool) (at_ : Int) (s : RS) : RS := if not_ = false ∧ 6 ≤ atoms then rFail 9 at_ (rMust l lparB (rName l s).2) else rMust l lparB (rName l s).2
def rAtom (l : Toks) (atoms : Int) (not_ : Bool) (at_ : Int) (s : RS) : ty51.D × RS := ((not_, (rName l s).1, (rArgs l (rAtomS l atoms not_ at_ s)).2, 0, ()), (rArgs l (rAtomS l atoms not_ at_ s)).1)
def rCmpS (l : Toks) (s : RS) : RS := if (tk l s.1).1 ≠ 3 ∨ opS (tk l s.1).2.1 = 0 then rFail 7 (atT l s) s else s
def rCmp (l : Toks) (not_ : Bool) (s : RS) : ty51.D × RS :=
  ((not_, (⟨#[]⟩ : ByteArray), [(rTerm l s).1, (rTerm l (rStep l (rCmpS l (rTerm l s).2))).1], opS (tk l (rTerm l s).2.1).2.1, ()), (rTerm l (rStep l (rCmpS l (rTerm l s).2))).2)
def rLit (l : Toks) (atoms : Int) (s : RS) : ty51.D × RS :=
  if rNamed l (rTake l notB s).2 = true ∧ ((rTake l notB s).1 = true ∨ rPar l (rTake l notB s).2 = true) then rAtom l atoms (rTake l notB s).1 (atT l (rTake l notB s).2) (rTake l notB s).2
  else rCmp l (rTake l notB s).1 (if (rTake l notB s).1 = true then rFail 7 (atT l (rTake l notB s).2) (rTake l notB s).2 else (rTake l notB s).2)
theorem rAtomS_lt {l : Toks} {s : RS} (atoms : Int) (not_ : Bool) (at_ : Int) (h : s.1 < l.length) : (rAtomS l atoms not_ at_ s).1 < l.length := by
  unfold rAtomS
  split
  · exact zDW _ _ (zDS _ (zDX h))
  · exact zDS _ (zDX h)
theorem rCmpS_lt {l : Toks} {s : RS} (h : s.1 < l.length) : (rCmpS l s).1 < l.length := by unfold rCmpS; split; exact zDW _ _ h; exact h
theorem rCmp_rng {l : Toks} {s : RS} (not_ : Bool) (h : s.1 < l.length) : (rCmp l not_ s).2.1 < l.length ∧ (rCmp l not_ s).1.2.2.1.length ≤ 400 := ⟨rTerm_lt (zDZ (rCmpS_lt (rTerm_lt h))), by simp [rCmp]⟩
theorem rLit_rng {l : Toks} {s : RS} (atoms : Int) (h : s.1 < l.length) : (rLit l atoms s).2.1 < l.length ∧ (rLit l atoms s).1.2.2.1.length ≤ 400 := by
  have ht := zDR notB h
  unfold rLit
  split
  · exact rArgs_rng _ (rAtomS_lt _ _ _ ht)
  · refine rCmp_rng _ ?_
    split
    · exact zDW _ _ ht
    · exact ht
theorem atom_part (n : Nat) (l : Toks) (s : RS) (h : s.1 < l.length) (hl : l.length < 1000000) (hn : 500 < n) (atoms : Int) (not_ : Bool) (at_ : Int) (k : ty51.D → Int → Int → Int → Toks → Option R) :
    zX_F n (s.1 : Int) s.2.1 s.2.2 l (fun y16 y17 y18 y19 y20 => zU_F n (⟨#[40]⟩ : ByteArray) y17 y18 y19 y20 (fun y21 y22 y23 y24 => if (!not_) = true then (if (decide (atoms ≥ 6)) = true then (zE_F n 9 at_ y21 y22 y23 y24 (fun y25 y26 y27 y28 => zH_F n y25 y26 y27 y28 (fun y29 y30 y31 y32 y33 => k (not_, y16, y33, 0, ()) y29 y30 y31 y32))) else (zH_F n y21 y22 y23 y24 (fun y34 y35 y36 y37 y38 => k (not_, y16, y38, 0, ()) y34 y35 y36 y37))) else (zH_F n y21 y22 y23 y24 (fun y39 y40 y41 y42 y43 => k (not_, y16, y43, 0, ()) y39 y40 y41 y42))))
    = k (rAtom l atoms not_ at_ s).1 ((rAtom l atoms not_ at_ s).2.1 : Int) (rAtom l atoms not_ at_ s).2.2.1 (rAtom l atoms not_ at_ s).2.2.2 l := by
  have h1 := zDX (l := l) h
  have h2 := zDS (l := l) lparB h1
  rw [name_F n l s h hl (by omega)]
  refine (must_F n lparB l _ h1 hl _).trans ?_
  unfold rAtom rAtomS
  cases not_ with
  | true =>
    simp only [Bool.not_true, Bool.false_eq_true, if_false, Bool.true_eq_false, false_and]
    rw [args_F n l _ h2 hl hn]
  | false =>
    by_cases hg : 6 ≤ atoms
    · simp only [Bool.not_false, if_true, ge_iff_le, hg, decide_true, true_and]
      rw [zEE n 9 at_ l, args_F n l _ (zDW _ _ h2) hl hn]
    · simp only [Bool.not_false, if_true, ge_iff_le, hg, decide_false, Bool.false_eq_true, if_false, and_false]
      rw [args_F n l _ h2 hl hn]
theorem cmp_part (n : Nat) (l : Toks) (s : RS) (h : s.1 < l.length) (hl : l.length < 1000000) (hn : 500 < n) (x5 : List ty48.D) (x6 : Bool) (x7 : ByteArray) (x8 : Int) (not_ : Bool) (x11 : Int) (x12 : List ty48.D) (k : exK R (zA_dx 1000012)) :
    zA_l1000012 n ((s.1 : Int), s.2.1, s.2.2, l, x5, x6, x7, x8, not_, (⟨#[]⟩ : ByteArray), x11, x12, ()) k = k.1 (((rCmp l not_ s).2.1 : Int), (rCmp l not_ s).2.2.1, (rCmp l not_ s).2.2.2, l, (rCmp l not_ s).1.1, (rCmp l not_ s).1.2.1, (rCmp l not_ s).1.2.2.1, (rCmp l not_ s).1.2.2.2.1, ()) := by
  rw [zA_e1000012]
  unfold zA_li1000012 zA_s1000012
  have h1 := rTerm_lt (l := l) h
  have j16 : ∀ (s2 : RS) (h2 : s2.1 < l.length) (op : Int) (t : ty48.D) (k3 : exK R (zA_dx 1000016)), zFG n ((s2.1 : Int), s2.2.1, s2.2.2, l, x5, x6, x7, x8, not_, (⟨#[]⟩ : ByteArray), op, x12, t.1, t.2.1, t.2.2.1.1, t.2.2.1.2.1, t.2.2.1.2.2.1, t.2.2.1.2.2.2.1, ()) k3
      = k3.1 (((rTerm l (rStep l s2)).2.1 : Int), (rTerm l (rStep l s2)).2.2.1, (rTerm l (rStep l s2)).2.2.2, l, not_, (⟨#[]⟩ : ByteArray), [t, (rTerm l (rStep l s2)).1], op, ()) := by
    intro s2 h2 op t k3
    rw [zA_e1000016]
    unfold zA_li1000016 zA_s1000016
    simp only []
    rw [step_F n l s2 h2 hl, term_F n l _ (zDZ h2) hl (by omega)]
  simp only []
  rw [term_F n l s h hl (by omega), now_F n l _ h1, op_F n _ (by omega)]
  unfold rCmp rCmpS
  rw [now_F n l _ h1]
  by_cases h3 : (tk l (rTerm l s).2.1).1 = 3
  · have b : ((tk l (rTerm l s).2.1).1 != 3) = false := by
      rw [bne_eq_false_iff_eq]; exact h3
    rw [if_neg (by rw [b]; decide)]
    by_cases h0 : opS (tk l (rTerm l s).2.1).2.1 = 0
    · have b0 : (opS (tk l (rTerm l s).2.1).2.1 == 0) = true := by simp [h0]
      rw [if_pos b0, now_F n l _ h1, zEE n 7 _ l]
      simp only [h0, or_true, if_true]
      exact j16 _ (zDW _ _ h1) _ _ _
    · have b0 : (opS (tk l (rTerm l s).2.1).2.1 == 0) = false := by simp [h0]
      rw [if_neg (by rw [b0]; decide), if_neg (by rintro (h | h); exact h h3; exact h0 h)]
      exact j16 _ h1 _ _ _
  · have b : ((tk l (rTerm l s).2.1).1 != 3) = true := bne_iff_ne.2 h3
    rw [if_pos b, now_F n l _ h1, zEE n 7 _ l, if_pos (Or.inl h3)]
    exact j16 _ (zDW _ _ h1) _ _ _
theorem lit_F (n : Nat) (l : Toks) (s : RS) (h : s.1 < l.length) (hl : l.length < 1000000) (hn : 500 < n) (atoms : Int) (k : ty51.D → Int → Int → Int → Toks → Option R) :
    zA_F n atoms (s.1 : Int) s.2.1 s.2.2 l k = k (rLit l atoms s).1 ((rLit l atoms s).2.1 : Int) (rLit l atoms s).2.2.1 (rLit l atoms s).2.2.2 l := by
  rw [zA_e]
  unfold zA_Fi
  refine (take_F n notB l s h hl _).trans ?_
  unfold rLit
  have ht := zDR (l := l) notB h
  generalize rTake l notB s = t at ht ⊢
  obtain ⟨nt, s1⟩ := t
  simp only at ht ⊢
  rw [now_F n l s1 ht, named_F n l s1 ht (by omega)]
  have j10 : ∀ k2 : exK R (zA_dx 1000010), zFB n (atT l s1, (s1.1 : Int), s1.2.1, s1.2.2, l, ([] : List ty48.D), false, (⟨#[]⟩ : ByteArray), (0 : Int), nt, (⟨#[]⟩ : ByteArray), (0 : Int), ([] : List ty48.D), ()) k2
      = k2.1 (((rCmp l nt (if nt = true then rFail 7 (atT l s1) s1 else s1)).2.1 : Int), (rCmp l nt (if nt = true then rFail 7 (atT l s1) s1 else s1)).2.2.1, (rCmp l nt (if nt = true then rFail 7 (atT l s1) s1 else s1)).2.2.2, l, (rCmp l nt (if nt = true then rFail 7 (atT l s1) s1 else s1)).1.1, (rCmp l nt (if nt = true then rFail 7 (atT l s1) s1 else s1)).1.2.1, (rCmp l nt (if nt = true then rFail 7 (atT l s1) s1 else s1)).1.2.2.1, (rCmp l nt (if nt = true then rFail 7 (atT l s1) s1 else s1)).1.2.2.2.1, ()) := by
    intro k2
    rw [zA_e1000010]
    unfold zA_li1000010 zA_s1000010
    simp only []
    cases nt with
    | true =>
      simp only [if_true]
      rw [zEE n 7 _ l s1]
      exact cmp_part n l _ (zDW _ _ ht) hl hn _ _ _ _ _ _ _ _
    | false =>
      simp only [Bool.false_eq_true, if_false]
      exact cmp_part n l s1 ht hl hn _ _ _ _ _ _ _ _
  have atomP := fun k => atom_part (R := R) n l s1 ht hl hn atoms nt (atT l s1) k
  by_cases hnm : rNamed l s1 = true
  · rw [if_pos hnm]
    cases nt with
    | true =>
      rw [if_pos rfl, if_pos ⟨hnm, Or.inl rfl⟩]
      exact atomP k
    | false =>
      rw [if_neg (by decide)]
      have w : IntKind.i64.wrap ((s1.1 : Int) + 1) = ((s1.1 + 1 : Nat) : Int) := zDO _ (by omega)
      rw [w]
      by_cases hlt : s1.1 + 1 < l.length
      · have c : ((s1.1 + 1 : Nat) : Int) < (l.length : Int) := by omega
        have c2 : (0 : Int) ≤ ((s1.1 + 1 : Nat) : Int) ∧ ((s1.1 + 1 : Nat) : Int) < (l.length : Int) := by omega
        rw [if_pos (decide_eq_true c)]
        simp only [c2, and_self, if_true, Int.toNat_natCast, hlt, beqB]
        have hp : rPar l s1 = (decide ((tk l (s1.1 + 1)).1 = 3) && decide ((tk l (s1.1 + 1)).2.1 = lparB)) := by unfold rPar; rw [decide_eq_true hlt, Bool.true_and]
        by_cases h3 : (tk l (s1.1 + 1)).1 = 3
        · have b3 : ((l.getD (s1.1 + 1) (Ty.z ty60)).1 == 3) = true := beq_iff_eq.2 h3
          rw [if_pos b3]
          by_cases h4 : (tk l (s1.1 + 1)).2.1 = lparB
          · have hp' : rPar l s1 = true := by rw [hp, decide_eq_true h3, decide_eq_true h4]; rfl
            refine (if_pos (decide_eq_true h4)).trans ?_
            rw [if_pos ⟨hnm, Or.inr hp'⟩]
            exact atomP k
          · have hp' : ¬ rPar l s1 = true := by rw [hp, decide_eq_false h4, Bool.and_false]; decide
            refine (if_neg (fun hh => h4 (of_decide_eq_true hh))).trans ?_
            rw [if_neg (by rintro ⟨_, h | h⟩; exact absurd h (by decide); exact hp' h)]
            exact j10 _
        · have b3 : ((l.getD (s1.1 + 1) (Ty.z ty60)).1 == 3) = false := beq_eq_false_iff_ne.2 h3
          have hp' : ¬ rPar l s1 = true := by rw [hp, decide_eq_false h3, Bool.false_and]; decide
          rw [if_neg (by rw [b3]; decide), if_neg (by rintro ⟨_, h | h⟩; exact absurd h (by decide); exact hp' h)]
          exact j10 _
      · have c : ¬ ((s1.1 + 1 : Nat) : Int) < (l.length : Int) := by omega
        have hp' : ¬ rPar l s1 = true := by unfold rPar; rw [decide_eq_false hlt, Bool.false_and]; decide
        rw [if_neg (fun h => c (of_decide_eq_true h)), if_neg (by rintro ⟨_, h | h⟩; exact absurd h (by decide); exact hp' h)]
        exact j10 _
  · rw [if_neg hnm, if_neg (fun h => hnm h.1)]
    exact j10 _
def bodySt (l : Toks) (s : RS) (bd : List ty51.D) : RS := if 10 ≤ bd.length then rLone l (atT l s) s else s
def isAtom (x : ty51.D) : Bool := decide (x.2.2.2.1 = 0) && !x.1
def rBodyL (l : Toks) : Nat → Int → RS → List ty51.D → RS × List ty51.D
  | 0, _, s, bd => (s, bd)
  | f + 1, atoms, s, bd =>
    if s.2.1 = 0 then
      (if (rTake l commaB (rLit l atoms (bodySt l s bd)).2).1 = true then rBodyL l f (if isAtom (rLit l atoms (bodySt l s bd)).1 = true then atoms + 1 else atoms) (rTake l commaB (rLit l atoms (bodySt l s bd)).2).2 (bd ++ [(rLit l atoms (bodySt l s bd)).1])
      else ((rTake l commaB (rLit l atoms (bodySt l s bd)).2).2, bd ++ [(rLit l atoms (bodySt l s bd)).1]))
    else (s, bd)
theorem bodySt_lt {l : Toks} {s : RS} (bd : List ty51.D) (h : s.1 < l.length) : (bodySt l s bd).1 < l.length := by unfold bodySt; split; exact rLone_lt _ h; exact h
theorem rBodyL_rng {l : Toks} : ∀ (f : Nat) (atoms : Int) (s : RS) (bd : List ty51.D), s.1 < l.length → (∀ x ∈ bd, x.2.2.1.length ≤ 400) → (rBodyL l f atoms s bd).1.1 < l.length ∧ (rBodyL l f atoms s bd).2.length ≤ bd.length + f ∧ ∀ x ∈ (rBodyL l f atoms s bd).2, x.2.2.1.length ≤ 400
  | 0, atoms, s, bd, h, hb => ⟨h, Nat.le_refl _, hb⟩
  | f + 1, atoms, s, bd, h, hb => by
    unfold rBodyL
    split
    · obtain ⟨h1, h2⟩ := rLit_rng atoms (bodySt_lt bd h)
      have h3 := zDR commaB h1
      have hb2 : ∀ x ∈ bd ++ [(rLit l atoms (bodySt l s bd)).1], x.2.2.1.length ≤ 400 := by
        intro x hx
        rcases List.mem_append.1 hx with hx | hx
        · exact hb x hx
        · rw [List.mem_singleton] at hx; rw [hx]; exact h2
      split
      · have := rBodyL_rng f (if isAtom (rLit l atoms (bodySt l s bd)).1 = true then atoms + 1 else atoms) _ _ h3 hb2
        exact ⟨this.1, by have := this.2.1; simp at this; omega, this.2.2⟩
      · exact ⟨h3, by simp, hb2⟩
    · exact ⟨h, by simp only []; omega, hb⟩
theorem body_loop (n : Nat) (l : Toks) (hl : l.length < 1000000) (hn : 500 < n) (kind : Int) (nm : ByteArray) (ag : Int) (of_ : ByteArray) (lim : Int) (hd : List ByteArray) (K : exK R (zL_dx 2)) (ret : Int → Int → Int → Toks → Int → ByteArray → Int → ByteArray → Int → List ByteArray → List ty51.D → Option R)
    (hK1 : ∀ a b c d e f g h i j q, K.1 (a, b, c, d, e, f, g, h, i, j, q, ()) = ret a b c d e f g h i j q) (hK2 : ∀ a b c d e f g h i j q, K.2.1 (a, b, c, d, e, f, g, h, i, j, q, ()) = ret a b c d e f g h i j q) : ∀ (f i a : Nat) (m : Nat) (s : RS) (bd : List ty51.D), s.1 < l.length → i + f = 400 → a ≤ i → bd.length ≤ 1000 + i → f < m →
    runC (zL_l2 n) m ((a : Int), (i : Int), (s.1 : Int), s.2.1, s.2.2, l, kind, nm, ag, of_, lim, hd, bd, ()) K = ret ((rBodyL l f (a : Int) s bd).1.1 : Int) (rBodyL l f (a : Int) s bd).1.2.1 (rBodyL l f (a : Int) s bd).1.2.2 l kind nm ag of_ lim hd (rBodyL l f (a : Int) s bd).2
  | 0, i, a, m, s, bd, h, hf, ha, hh, hm => by
    obtain ⟨m, rfl⟩ : ∃ q, m = q + 1 := ⟨m - 1, by omega⟩
    refine (runC_s _ _ _ _).trans ?_
    have : ¬ ((i : Int) < 400) := by omega
    simp only [zL_l2, zL_s2]
    rw [if_neg (by simpa using this)]
    exact hK2 _ _ _ _ _ _ _ _ _ _ _
  | f + 1, i, a, m, s, bd, h, hf, ha, hh, hm => by
    obtain ⟨m, rfl⟩ : ∃ q, m = q + 1 := ⟨m - 1, by omega⟩
    refine (runC_s _ _ _ _).trans ?_
    have c : (i : Int) < 400 := by omega
    have w : IntKind.i64.wrap ((i : Int) + 1) = ((i + 1 : Nat) : Int) := zDO _ (by omega)
    have wa : IntKind.i64.wrap ((a : Int) + 1) = ((a + 1 : Nat) : Int) := zDO _ (by omega)
    unfold rBodyL
    simp only [zL_l2, zL_s2, c, decide_true, if_true, w, wa]
    by_cases h0 : s.2.1 = 0
    · have b0 : (s.2.1 == 0) = true := by simp [h0]
      rw [if_pos b0, if_pos h0, now_F n l s h]
      have tail : ∀ s1 : RS, s1.1 < l.length → zA_F n (a : Int) (s1.1 : Int) s1.2.1 s1.2.2 l (fun y10 y11 y12 y13 y14 => if (y10.2.2.2.1 == 0) = true then (if (!y10.1) = true then (if (List.length bd + List.length [y10]) * 56 ≤ 140737488355328 then (zG_F n (⟨#[44]⟩ : ByteArray) y11 y12 y13 y14 (fun y15 y16 y17 y18 y19 => if (!y15) = true then (K.1 (y16, y17, y18, y19, kind, nm, ag, of_, lim, hd, (bd ++ [y10]), ())) else (runC (zL_l2 n) m (((a + 1 : Nat) : Int), ((i + 1 : Nat) : Int), y16, y17, y18, y19, kind, nm, ag, of_, lim, hd, (bd ++ [y10]), ()) K))) else none) else (if (List.length bd + List.length [y10]) * 56 ≤ 140737488355328 then (zG_F n (⟨#[44]⟩ : ByteArray) y11 y12 y13 y14 (fun y20 y21 y22 y23 y24 => if (!y20) = true then (K.1 (y21, y22, y23, y24, kind, nm, ag, of_, lim, hd, (bd ++ [y10]), ())) else (runC (zL_l2 n) m ((a : Int), ((i + 1 : Nat) : Int), y21, y22, y23, y24, kind, nm, ag, of_, lim, hd, (bd ++ [y10]), ()) K))) else none)) else (if (List.length bd + List.length [y10]) * 56 ≤ 140737488355328 then (zG_F n (⟨#[44]⟩ : ByteArray) y11 y12 y13 y14 (fun y25 y26 y27 y28 y29 => if (!y25) = true then (K.1 (y26, y27, y28, y29, kind, nm, ag, of_, lim, hd, (bd ++ [y10]), ())) else (runC (zL_l2 n) m ((a : Int), ((i + 1 : Nat) : Int), y26, y27, y28, y29, kind, nm, ag, of_, lim, hd, (bd ++ [y10]), ()) K))) else none))
          = ret ((if (rTake l commaB (rLit l (a : Int) s1).2).1 = true then rBodyL l f (if isAtom (rLit l (a : Int) s1).1 = true then (a : Int) + 1 else (a : Int)) (rTake l commaB (rLit l (a : Int) s1).2).2 (bd ++ [(rLit l (a : Int) s1).1]) else ((rTake l commaB (rLit l (a : Int) s1).2).2, bd ++ [(rLit l (a : Int) s1).1])).1.1 : Int)
            (if (rTake l commaB (rLit l (a : Int) s1).2).1 = true then rBodyL l f (if isAtom (rLit l (a : Int) s1).1 = true then (a : Int) + 1 else (a : Int)) (rTake l commaB (rLit l (a : Int) s1).2).2 (bd ++ [(rLit l (a : Int) s1).1]) else ((rTake l commaB (rLit l (a : Int) s1).2).2, bd ++ [(rLit l (a : Int) s1).1])).1.2.1
            (if (rTake l commaB (rLit l (a : Int) s1).2).1 = true then rBodyL l f (if isAtom (rLit l (a : Int) s1).1 = true then (a : Int) + 1 else (a : Int)) (rTake l commaB (rLit l (a : Int) s1).2).2 (bd ++ [(rLit l (a : Int) s1).1]) else ((rTake l commaB (rLit l (a : Int) s1).2).2, bd ++ [(rLit l (a : Int) s1).1])).1.2.2 l kind nm ag of_ lim hd
            (if (rTake l commaB (rLit l (a : Int) s1).2).1 = true then rBodyL l f (if isAtom (rLit l (a : Int) s1).1 = true then (a : Int) + 1 else (a : Int)) (rTake l commaB (rLit l (a : Int) s1).2).2 (bd ++ [(rLit l (a : Int) s1).1]) else ((rTake l commaB (rLit l (a : Int) s1).2).2, bd ++ [(rLit l (a : Int) s1).1])).2 := by
        intro s1 h1
        rw [lit_F n l s1 h1 hl hn]
        obtain ⟨h2, _⟩ := rLit_rng (l := l) (a : Int) h1
        generalize rLit l (a : Int) s1 = x at h2 ⊢
        obtain ⟨x, s2⟩ := x
        simp only at h2 ⊢
        have gd : (List.length bd + List.length [x]) * 56 ≤ 140737488355328 := by simp only [List.length_cons, List.length_nil]; omega
        have h3 := zDR (l := l) commaB h2
        have step : ∀ a2 : Nat, a2 ≤ i + 1 → zG_F n (⟨#[44]⟩ : ByteArray) (s2.1 : Int) s2.2.1 s2.2.2 l (fun y15 y16 y17 y18 y19 => if (!y15) = true then (K.1 (y16, y17, y18, y19, kind, nm, ag, of_, lim, hd, (bd ++ [x]), ())) else (runC (zL_l2 n) m ((a2 : Int), ((i + 1 : Nat) : Int), y16, y17, y18, y19, kind, nm, ag, of_, lim, hd, (bd ++ [x]), ()) K))
            = ret ((if (rTake l commaB s2).1 = true then rBodyL l f (a2 : Int) (rTake l commaB s2).2 (bd ++ [x]) else ((rTake l commaB s2).2, bd ++ [x])).1.1 : Int) (if (rTake l commaB s2).1 = true then rBodyL l f (a2 : Int) (rTake l commaB s2).2 (bd ++ [x]) else ((rTake l commaB s2).2, bd ++ [x])).1.2.1 (if (rTake l commaB s2).1 = true then rBodyL l f (a2 : Int) (rTake l commaB s2).2 (bd ++ [x]) else ((rTake l commaB s2).2, bd ++ [x])).1.2.2 l kind nm ag of_ lim hd (if (rTake l commaB s2).1 = true then rBodyL l f (a2 : Int) (rTake l commaB s2).2 (bd ++ [x]) else ((rTake l commaB s2).2, bd ++ [x])).2 := by
          intro a2 ha2
          refine (take_F n commaB l s2 h2 hl _).trans ?_
          cases ht : (rTake l commaB s2).1 with
          | false =>
            simp only [Bool.not_false, if_true, Bool.false_eq_true, if_false]
            exact hK1 _ _ _ _ _ _ _ _ _ _ _
          | true =>
            simp only [Bool.not_true, if_true, Bool.false_eq_true, if_false]
            exact body_loop n l hl hn kind nm ag of_ lim hd K ret hK1 hK2 f (i + 1) a2 m (rTake l commaB s2).2 _ h3 (by omega) ha2 (by simp; omega) (by omega)
        have ea : ((a : Int) + 1) = ((a + 1 : Nat) : Int) := rfl
        by_cases hx : x.2.2.2.1 = 0
        · have bx : (x.2.2.2.1 == 0) = true := by simp [hx]
          rw [if_pos bx]
          cases hx1 : x.1 with
          | false =>
            have : isAtom x = true := by unfold isAtom; rw [decide_eq_true hx, hx1]; rfl
            rw [if_pos (by decide), if_pos gd]
            simp only [this, if_true, ea]
            exact step (a + 1) (by omega)
          | true =>
            have : isAtom x = false := by unfold isAtom; rw [hx1]; simp
            rw [if_neg (by decide), if_pos gd]
            simp only [this, Bool.false_eq_true, if_false]
            exact step a (by omega)
        · have bx : (x.2.2.2.1 == 0) = false := by simp [hx]
          have : isAtom x = false := by unfold isAtom; rw [decide_eq_false hx]; rfl
          rw [if_neg (by rw [bx]; decide), if_pos gd]
          simp only [this, Bool.false_eq_true, if_false]
          exact step a (by omega)
      have g : ((bd.length : Int) ≥ 10) ↔ 10 ≤ bd.length := by omega
      have hbs : bodySt l s bd = if 10 ≤ bd.length then rLone l (atT l s) s else s := rfl
      by_cases hg : 10 ≤ bd.length
      · rw [if_pos hg] at hbs
        rw [if_pos (decide_eq_true (g.2 hg)), hbs, lone_F n _ l s h (by omega)]
        exact tail _ (rLone_lt _ h)
      · rw [if_neg hg] at hbs
        rw [if_neg (fun hh => hg (g.1 (of_decide_eq_true hh))), hbs]
        exact tail s h
    · have b0 : (s.2.1 == 0) = false := by simp [h0]
      rw [if_neg (by rw [b0]; decide), if_neg h0]
      exact hK2 _ _ _ _ _ _ _ _ _ _ _
def rBody (l : Toks) (s : RS) : RS × List ty51.D := rBodyL l 400 0 s []
theorem body_Fr (n : Nat) (l : Toks) (s : RS) (h : s.1 < l.length) (hl : l.length < 1000000) (hn : 500 < n) (kind : Int) (nm : ByteArray) (ag : Int) (of_ : ByteArray) (lim : Int) (hd : List ByteArray) (k : Int → Int → Int → Toks → Int → ByteArray → Int → ByteArray → Int → List ByteArray → List ty51.D → Option R) :
    zL_F n (s.1 : Int) s.2.1 s.2.2 l kind nm ag of_ lim hd [] k = k ((rBody l s).1.1 : Int) (rBody l s).1.2.1 (rBody l s).1.2.2 l kind nm ag of_ lim hd (rBody l s).2 := by
  rw [zL_e]
  unfold zL_Fi rBody
  exact body_loop n l hl hn kind nm ag of_ lim hd _ k (fun _ _ _ _ _ _ _ _ _ _ _ => rfl) (fun _ _ _ _ _ _ _ _ _ _ _ => rfl) 400 0 0 n s [] h (by omega) (by omega) (by simp) (by omega)
abbrev RR := Int × ByteArray × Int × ByteArray × Int × Int × Int × List ByteArray × List ty51.D
def denyB : ByteArray := ⟨#[100, 101, 110, 121]⟩
def viewB : ByteArray := ⟨#[118, 105, 101, 119]⟩
def quotaB : ByteArray := ⟨#[113, 117, 111, 116, 97]⟩
def limitB : ByteArray := ⟨#[108, 105, 109, 105, 116]⟩
def ifB : ByteArray := ⟨#[105, 102]⟩
def rErr (p e : Int) : RR := (0, ⟨#[]⟩, 0, ⟨#[]⟩, 0, p, e, [], [])
def rKind (l : Toks) (s : RS) : Int × RS :=
  if (rTake l denyB s).1 = true then (1, (rTake l denyB s).2)
  else if (rTake l viewB (rTake l denyB s).2).1 = true then (2, (rTake l viewB (rTake l denyB s).2).2)
  else if (rTake l quotaB (rTake l viewB (rTake l denyB s).2).2).1 = true then (3, (rTake l quotaB (rTake l viewB (rTake l denyB s).2).2).2)
  else (0, rFail 7 (atT l (rTake l quotaB (rTake l viewB (rTake l denyB s).2).2).2) (rTake l quotaB (rTake l viewB (rTake l denyB s).2).2).2)
def rLimS (l : Toks) (s : RS) : RS := if s.2.1 = 0 ∧ ((tk l s.1).1 ≠ 2 ∨ (tk l s.1).2.2.1.1 ≠ 2) then rFail 7 (atT l s) s else s
def rLim (l : Toks) (kind : Int) (s : RS) : Int × RS := if kind = 3 then ((tk l (rLimS l (rMust l limitB s)).1).2.2.1.2.2.1, rStep l (rLimS l (rMust l limitB s))) else (0, s)
def rEndS (l : Toks) (s : RS) : RS := if (tk l s.1).1 ≠ 4 then rFail 7 (atT l s) s else s
def rEnd (l : Toks) (kind : Int) (nm : ByteArray) (ag : Int) (of_ : ByteArray) (lim : Int) (hd : List ByteArray) (s : RS) : RR :=
  if (rEndS l (rBody l (rMust l ifB s)).1).2.1 ≠ 0 then rErr (rEndS l (rBody l (rMust l ifB s)).1).2.2 (rEndS l (rBody l (rMust l ifB s)).1).2.1
  else (kind, nm, ag, of_, lim, 0, 0, hd, (rBody l (rMust l ifB s)).2)
def rHd (l : Toks) (kind : Int) (s : RS) : RS × Int × ByteArray × List ByteArray := rHead l kind (rMust l lparB (rName l s).2) 0 (⟨#[]⟩ : ByteArray) []
def rRest (l : Toks) (kind : Int) (s : RS) : RR :=
  rEnd l kind (rName l s).1 (rHd l kind s).2.1 (rHd l kind s).2.2.1 (rLim l kind (rMust l rparB (rHd l kind s).1)).1 (rHd l kind s).2.2.2 (rLim l kind (rMust l rparB (rHd l kind s).1)).2
def rTok (l : Toks) : RR := rRest l (rKind l (0, 0, 0)).1 (rKind l (0, 0, 0)).2
noncomputable def rRule (s : ByteArray) : RR := if (lexS s).2.1 ≠ 0 then rErr (lexS s).1 (lexS s).2.1 else rTok (lexS s).2.2
theorem rLimS_lt {l : Toks} {s : RS} (h : s.1 < l.length) : (rLimS l s).1 < l.length := by unfold rLimS; split; exact zDW _ _ h; exact h
theorem rLim_lt {l : Toks} {s : RS} (kind : Int) (h : s.1 < l.length) : (rLim l kind s).2.1 < l.length := by unfold rLim; split; exact zDZ (rLimS_lt (zDS _ h)); exact h
theorem rKind_lt {l : Toks} {s : RS} (h : s.1 < l.length) : (rKind l s).2.1 < l.length := by
  have h1 := zDR denyB h
  have h2 := zDR viewB h1
  have h3 := zDR quotaB h2
  unfold rKind
  split
  · exact h1
  · split
    · exact h2
    · split
      · exact h3
      · exact zDW _ _ h3
theorem end_F (n : Nat) (l : Toks) (s : RS) (h : s.1 < l.length) (hl : l.length < 1000000) (hn : 500 < n) (kind : Int) (nm : ByteArray) (ag : Int) (of_ : ByteArray) (lim : Int) (hd : List ByteArray) (x0 : List ByteArray) (x1 : List ty51.D) (x2 : Int) (x3 : ByteArray) (x4 : Int) (x5 : ByteArray) (x6 : Int) (K : exK R (zF_dx 1000023)) (ret : RR → Option R)
    (hK1 : ∀ r : RR, K.1 (r.2.2.2.2.2.1, r.2.2.2.2.2.2.1, r.1, r.2.1, r.2.2.1, r.2.2.2.1, r.2.2.2.2.1, r.2.2.2.2.2.2.2.1, r.2.2.2.2.2.2.2.2, ()) = ret r) (hK2 : ∀ r : RR, K.2.1 (r.2.2.2.2.2.1, r.2.2.2.2.2.2.1, r.1, r.2.1, r.2.2.1, r.2.2.2.1, r.2.2.2.2.1, r.2.2.2.2.2.2.2.1, r.2.2.2.2.2.2.2.2, ()) = ret r) :
    zEL n (x0, x1, x2, x3, x4, x5, x6, l, (s.1 : Int), s.2.1, s.2.2, kind, nm, ag, of_, lim, hd, [], ()) K = ret (rEnd l kind nm ag of_ lim hd s) := by
  rw [zF_e1000023]
  unfold zF_li1000023 zF_s1000023
  simp only []
  have h1 := zDS (l := l) ifB h
  refine (must_F n ifB l s h hl _).trans ?_
  rw [body_Fr n l _ h1 hl hn]
  have h2 := (rBodyL_rng (l := l) 400 0 _ [] h1 (by simp)).1
  change (rBody l (rMust l ifB s)).1.1 < l.length at h2
  rw [now_F n l _ h2]
  have hE : rEnd l kind nm ag of_ lim hd s = if (rEndS l (rBody l (rMust l ifB s)).1).2.1 ≠ 0 then rErr (rEndS l (rBody l (rMust l ifB s)).1).2.2 (rEndS l (rBody l (rMust l ifB s)).1).2.1
    else (kind, nm, ag, of_, lim, 0, 0, hd, (rBody l (rMust l ifB s)).2) := rfl
  have hS : rEndS l (rBody l (rMust l ifB s)).1 = if (tk l (rBody l (rMust l ifB s)).1.1).1 ≠ 4 then rFail 7 (atT l (rBody l (rMust l ifB s)).1) (rBody l (rMust l ifB s)).1 else (rBody l (rMust l ifB s)).1 := rfl
  generalize rBody l (rMust l ifB s) = b at h2 hE hS ⊢
  obtain ⟨b, bd⟩ := b
  simp only at h2 hE hS ⊢
  by_cases h4 : (tk l b.1).1 = 4
  · have e4 : ((tk l b.1).1 != 4) = false := by rw [bne_eq_false_iff_eq]; exact h4
    rw [if_neg (by rw [e4]; decide)]
    rw [if_neg (fun h => h h4)] at hS
    rw [hS] at hE
    by_cases h0 : b.2.1 = 0
    · have e0 : (b.2.1 != 0) = false := by simp [h0]
      rw [if_neg (by rw [e0]; decide), hE, if_neg (fun h => h h0)]
      exact hK2 (kind, nm, ag, of_, lim, 0, 0, hd, bd)
    · have e0 : (b.2.1 != 0) = true := by simp [h0]
      rw [if_pos e0, hE, if_pos h0]
      exact hK1 (rErr b.2.2 b.2.1)
  · have e4 : ((tk l b.1).1 != 4) = true := bne_iff_ne.2 h4
    rw [if_pos e4, now_F n l b h2, zEE n 7 _ l b]
    rw [if_pos h4] at hS
    rw [hS] at hE
    generalize hg : rFail 7 (atT l b) b = g at hE ⊢
    have hg' : rFail 7 (tk l b.1).2.2.2.1 b = g := hg
    rw [hg']
    by_cases h0 : g.2.1 = 0
    · have e0 : (g.2.1 != 0) = false := by simp [h0]
      rw [if_neg (by rw [e0]; decide), hE, if_neg (fun h => h h0)]
      exact hK2 (kind, nm, ag, of_, lim, 0, 0, hd, bd)
    · have e0 : (g.2.1 != 0) = true := by simp [h0]
      rw [if_pos e0, hE, if_pos h0]
      exact hK1 (rErr g.2.2 g.2.1)
theorem rest_F (n : Nat) (l : Toks) (s : RS) (h : s.1 < l.length) (hl : l.length < 1000000) (hn : 500 < n) (kind : Int) (x0 : List ByteArray) (x1 : List ty51.D) (x2 : Int) (x3 : ByteArray) (x4 : Int) (x5 : ByteArray) (x6 : Int) (K : exK R (zF_dx 1000013)) (ret : RR → Option R)
    (hK1 : ∀ r : RR, K.1 (r.2.2.2.2.2.1, r.2.2.2.2.2.2.1, r.1, r.2.1, r.2.2.1, r.2.2.2.1, r.2.2.2.2.1, r.2.2.2.2.2.2.2.1, r.2.2.2.2.2.2.2.2, ()) = ret r) (hK2 : ∀ r : RR, K.2.1 (r.2.2.2.2.2.1, r.2.2.2.2.2.2.1, r.1, r.2.1, r.2.2.1, r.2.2.2.1, r.2.2.2.2.1, r.2.2.2.2.2.2.2.1, r.2.2.2.2.2.2.2.2, ()) = ret r) :
    zER n (x0, x1, x2, x3, x4, x5, x6, l, (s.1 : Int), s.2.1, s.2.2, kind, (⟨#[]⟩ : ByteArray), (0 : Int), (⟨#[]⟩ : ByteArray), (0 : Int), ([] : List ByteArray), ([] : List ty51.D), ()) K = ret (rRest l kind s) := by
  rw [zF_e1000013]
  unfold zF_li1000013 zF_s1000013
  simp only []
  have h1 := zDX (l := l) h
  rw [name_F n l s h hl (by omega)]
  refine (must_F n lparB l _ h1 hl _).trans ?_
  have h2 := zDS (l := l) lparB h1
  rw [head_F n l _ h2 hl hn kind _ 0 _ 0 [] (by simp)]
  have h3 := (rHead_rng (l := l) kind _ 0 (⟨#[]⟩ : ByteArray) [] h2).1
  refine (must_F n rparB l _ h3 hl _).trans ?_
  have h4 := zDS (l := l) rparB h3
  have hR : rRest l kind s = rEnd l kind (rName l s).1 (rHd l kind s).2.1 (rHd l kind s).2.2.1 (rLim l kind (rMust l rparB (rHd l kind s).1)).1 (rHd l kind s).2.2.2 (rLim l kind (rMust l rparB (rHd l kind s).1)).2 := rfl
  have hd : rHd l kind s = rHead l kind (rMust l lparB (rName l s).2) 0 (⟨#[]⟩ : ByteArray) [] := rfl
  rw [← hd] at h4 ⊢
  rw [hR]
  generalize rHd l kind s = H at h4 ⊢
  generalize rMust l rparB H.1 = q at h4 ⊢
  have fin : ∀ (q2 : RS) (h5 : q2.1 < l.length) (lim : Int), zEL n (x0, x1, x2, x3, x4, x5, x6, l, (q2.1 : Int), q2.2.1, q2.2.2, kind, (rName l s).1, H.2.1, H.2.2.1, lim, H.2.2.2, [], ()) (fun b97 => K.1 (b97.1, b97.2.1, b97.2.2.1, b97.2.2.2.1, b97.2.2.2.2.1, b97.2.2.2.2.2.1, b97.2.2.2.2.2.2.1, b97.2.2.2.2.2.2.2.1, b97.2.2.2.2.2.2.2.2.1, ()), fun b106 => K.2.1 (b106.1, b106.2.1, b106.2.2.1, b106.2.2.2.1, b106.2.2.2.2.1, b106.2.2.2.2.2.1, b106.2.2.2.2.2.2.1, b106.2.2.2.2.2.2.2.1, b106.2.2.2.2.2.2.2.2.1, ()), ()) = ret (rEnd l kind (rName l s).1 H.2.1 H.2.2.1 lim H.2.2.2 q2) :=
    fun q2 h5 lim => end_F n l q2 h5 hl hn kind _ _ _ lim _ x0 x1 x2 x3 x4 x5 x6 _ ret (fun r => hK1 r) (fun r => hK2 r)
  by_cases hk : kind = 3
  · have b : (kind == 3) = true := by simp [hk]
    rw [if_pos b]
    refine (must_F n limitB l q h4 hl _).trans ?_
    have h5 := zDS (l := l) limitB h4
    have hL : rLim l kind q = ((tk l (rLimS l (rMust l limitB q)).1).2.2.1.2.2.1, rStep l (rLimS l (rMust l limitB q))) := by unfold rLim; rw [if_pos hk]
    rw [hL]
    have hS : rLimS l (rMust l limitB q) = if (rMust l limitB q).2.1 = 0 ∧ ((tk l (rMust l limitB q).1).1 ≠ 2 ∨ (tk l (rMust l limitB q).1).2.2.1.1 ≠ 2) then rFail 7 (atT l (rMust l limitB q)) (rMust l limitB q) else rMust l limitB q := rfl
    have h6 := rLimS_lt (l := l) h5
    rw [hS] at h6 ⊢
    generalize rMust l limitB q = g at h5 h6 ⊢
    by_cases h0 : g.2.1 = 0
    · have b0 : (g.2.1 == 0) = true := by simp [h0]
      rw [if_pos b0, now_F n l g h5]
      by_cases hk2 : (tk l g.1).1 = 2
      · have e2 : ((tk l g.1).1 != 2) = false := by rw [bne_eq_false_iff_eq]; exact hk2
        rw [if_neg (by rw [e2]; decide), now_F n l g h5]
        by_cases hv : (tk l g.1).2.2.1.1 = 2
        · have e3 : ((tk l g.1).2.2.1.1 != 2) = false := by rw [bne_eq_false_iff_eq]; exact hv
          rw [if_neg (by rw [e3]; decide)]
          rw [if_neg (by rintro ⟨_, h | h⟩; exact h hk2; exact h hv)]
          rw [now_F n l g h5, step_F n l g h5 hl]
          exact fin _ (zDZ h5) _
        · have e3 : ((tk l g.1).2.2.1.1 != 2) = true := bne_iff_ne.2 hv
          rw [if_pos (show g.2.1 = 0 ∧ ((tk l g.1).1 ≠ 2 ∨ (tk l g.1).2.2.1.1 ≠ 2) from ⟨h0, Or.inr hv⟩)] at h6 ⊢
          rw [if_pos e3, now_F n l g h5, zEE n 7 _ l g]
          refine (now_F n l (rFail 7 (atT l g) g) h6 _).trans ?_
          rw [step_F n l _ h6 hl]
          exact fin _ (zDZ h6) _
      · have e2 : ((tk l g.1).1 != 2) = true := bne_iff_ne.2 hk2
        rw [if_pos (show g.2.1 = 0 ∧ ((tk l g.1).1 ≠ 2 ∨ (tk l g.1).2.2.1.1 ≠ 2) from ⟨h0, Or.inl hk2⟩)] at h6 ⊢
        rw [if_pos e2, now_F n l g h5, zEE n 7 _ l g]
        refine (now_F n l (rFail 7 (atT l g) g) h6 _).trans ?_
        rw [step_F n l _ h6 hl]
        exact fin _ (zDZ h6) _
    · have b0 : (g.2.1 == 0) = false := by simp [h0]
      rw [if_neg (show ¬ (g.2.1 = 0 ∧ ((tk l g.1).1 ≠ 2 ∨ (tk l g.1).2.2.1.1 ≠ 2)) from fun h => h0 h.1)]
      rw [if_neg (by rw [b0]; decide), now_F n l g h5, step_F n l g h5 hl]
      exact fin _ (zDZ h5) _
  · have b : (kind == 3) = false := by simp [hk]
    have hL : rLim l kind q = (0, q) := by unfold rLim; rw [if_neg hk]
    rw [if_neg (by rw [b]; decide), hL]
    exact fin q h4 0
theorem rule_F (n : Nat) (s : ByteArray) (hn : 2000 < n) (k : Int → ByteArray → Int → ByteArray → Int → Int → Int → List ByteArray → List ty51.D → Option R) :
    zF_F n s k = k (rRule s).1 (rRule s).2.1 (rRule s).2.2.1 (rRule s).2.2.2.1 (rRule s).2.2.2.2.1 (rRule s).2.2.2.2.2.1 (rRule s).2.2.2.2.2.2.1 (rRule s).2.2.2.2.2.2.2.1 (rRule s).2.2.2.2.2.2.2.2 := by
  rw [zF_e]
  unfold zF_Fi rRule
  rw [refLex_F n s hn]
  by_cases he : (lexS s).2.1 = 0
  · have b : ((lexS s).2.1 != 0) = false := by simp [he]
    rw [if_neg (by rw [b]; decide), if_neg (fun h => h he)]
    obtain ⟨t, ht, htl⟩ := lexS_rng s he
    have hlen : (lexS s).2.2.length = t.length + 1 := by rw [ht]; simp
    generalize (lexS s).2.2 = l at hlen ⊢
    have h : (0, 0, 0).1 < l.length := by simp only []; omega
    have hl : l.length < 1000000 := by omega
    have hT : rTok l = rRest l (rKind l (0, 0, 0)).1 (rKind l (0, 0, 0)).2 := rfl
    have h1 := zDR (l := l) (s := (0, 0, 0)) denyB h
    have h2 := zDR (l := l) viewB h1
    have h3 := zDR (l := l) quotaB h2
    have fin : ∀ (q : RS) (hq : q.1 < l.length) (kind : Int), zER n (([] : List ByteArray), ([] : List ty51.D), (0 : Int), (⟨#[]⟩ : ByteArray), (0 : Int), (⟨#[]⟩ : ByteArray), (0 : Int), l, (q.1 : Int), q.2.1, q.2.2, kind, (⟨#[]⟩ : ByteArray), (0 : Int), (⟨#[]⟩ : ByteArray), (0 : Int), ([] : List ByteArray), ([] : List ty51.D), ())
        (fun b228 => k b228.2.2.1 b228.2.2.2.1 b228.2.2.2.2.1 b228.2.2.2.2.2.1 b228.2.2.2.2.2.2.1 b228.1 b228.2.1 b228.2.2.2.2.2.2.2.1 b228.2.2.2.2.2.2.2.2.1, fun b237 => k b237.2.2.1 b237.2.2.2.1 b237.2.2.2.2.1 b237.2.2.2.2.2.1 b237.2.2.2.2.2.2.1 b237.1 b237.2.1 b237.2.2.2.2.2.2.2.1 b237.2.2.2.2.2.2.2.2.1, ())
        = (fun r : RR => k r.1 r.2.1 r.2.2.1 r.2.2.2.1 r.2.2.2.2.1 r.2.2.2.2.2.1 r.2.2.2.2.2.2.1 r.2.2.2.2.2.2.2.1 r.2.2.2.2.2.2.2.2) (rRest l kind q) :=
      fun q hq kind => rest_F n l q hq hl (by omega) kind _ _ _ _ _ _ _ _ _ (fun _ => rfl) (fun _ => rfl)
    refine Eq.trans ?_ (show (fun r : RR => k r.1 r.2.1 r.2.2.1 r.2.2.2.1 r.2.2.2.2.1 r.2.2.2.2.2.1 r.2.2.2.2.2.2.1 r.2.2.2.2.2.2.2.1 r.2.2.2.2.2.2.2.2) (rRest l (rKind l (0, 0, 0)).1 (rKind l (0, 0, 0)).2) = _ by rw [hT])
    refine (take_F n denyB l (0, 0, 0) h hl _).trans ?_
    have hK : rKind l (0, 0, 0) = if (rTake l denyB (0, 0, 0)).1 = true then (1, (rTake l denyB (0, 0, 0)).2) else if (rTake l viewB (rTake l denyB (0, 0, 0)).2).1 = true then (2, (rTake l viewB (rTake l denyB (0, 0, 0)).2).2)
      else if (rTake l quotaB (rTake l viewB (rTake l denyB (0, 0, 0)).2).2).1 = true then (3, (rTake l quotaB (rTake l viewB (rTake l denyB (0, 0, 0)).2).2).2) else (0, rFail 7 (atT l (rTake l quotaB (rTake l viewB (rTake l denyB (0, 0, 0)).2).2).2) (rTake l quotaB (rTake l viewB (rTake l denyB (0, 0, 0)).2).2).2) := rfl
    generalize rTake l denyB (0, 0, 0) = t1 at h1 h2 h3 hK ⊢
    by_cases c1 : t1.1 = true
    · rw [if_pos c1]
      rw [if_pos c1] at hK
      rw [hK]
      exact fin _ h1 1
    · rw [if_neg c1]
      rw [if_neg c1] at hK
      refine (take_F n viewB l t1.2 h1 hl _).trans ?_
      generalize rTake l viewB t1.2 = t2 at h2 h3 hK ⊢
      by_cases c2 : t2.1 = true
      · rw [if_pos c2]
        rw [if_pos c2] at hK
        rw [hK]
        exact fin _ h2 2
      · rw [if_neg c2]
        rw [if_neg c2] at hK
        refine (take_F n quotaB l t2.2 h2 hl _).trans ?_
        generalize rTake l quotaB t2.2 = t3 at h3 hK ⊢
        by_cases c3 : t3.1 = true
        · rw [if_pos c3]
          rw [if_pos c3] at hK
          rw [hK]
          exact fin _ h3 3
        · rw [if_neg c3]
          rw [if_neg c3] at hK
          rw [now_F n l t3.2 h3, zEE n 7 _ l t3.2, hK]
          exact fin (rFail 7 (atT l t3.2) t3.2) (zDW _ _ h3) 0
  · have b : ((lexS s).2.1 != 0) = true := by simp [he]
    rw [if_pos b, if_pos he]
    rfl
theorem rRule_rng (s : ByteArray) : (rRule s).2.2.2.2.2.2.2.1.length ≤ 401 ∧ (rRule s).2.2.2.2.2.2.2.2.length ≤ 400 ∧ ∀ x ∈ (rRule s).2.2.2.2.2.2.2.2, x.2.2.1.length ≤ 400 := by
  have err : ∀ p e : Int, (rErr p e).2.2.2.2.2.2.2.1.length ≤ 401 ∧ (rErr p e).2.2.2.2.2.2.2.2.length ≤ 400 ∧ ∀ x ∈ (rErr p e).2.2.2.2.2.2.2.2, x.2.2.1.length ≤ 400 := fun p e => ⟨Nat.zero_le _, Nat.zero_le _, fun x hx => by cases hx⟩
  unfold rRule
  split
  · exact err _ _
  · rename_i he
    obtain ⟨t, ht, htl⟩ := lexS_rng s (by simpa using he)
    have hlen : 0 < (lexS s).2.2.length := by rw [ht]; simp
    generalize (lexS s).2.2 = l at hlen ⊢
    unfold rTok
    have hk := rKind_lt (l := l) (s := (0, 0, 0)) hlen
    generalize rKind l (0, 0, 0) = kq at hk ⊢
    unfold rRest
    have h2 := zDS (l := l) lparB (zDX (l := l) hk)
    have hh := rHead_rng (l := l) kq.1 _ 0 (⟨#[]⟩ : ByteArray) [] h2
    change (rHd l kq.1 kq.2).1.1 < _ ∧ (rHd l kq.1 kq.2).2.2.2.length ≤ _ at hh
    have h5 := rLim_lt (l := l) kq.1 (zDS (l := l) rparB hh.1)
    unfold rEnd
    have hb := rBodyL_rng (l := l) 400 0 _ [] (zDS (l := l) ifB h5) (by simp)
    split
    · exact err _ _
    · exact ⟨Nat.le_trans (by simpa using hh.2) (show 400 ≤ 401 by omega), by simpa [rBody] using hb.2.1, by simpa [rBody] using hb.2.2⟩
end Go.Proofs.YtnnbinmomendnaaGreatDoor.E
namespace Go.Proofs.YtnnbinmomendnaaGreatDoor.E
open Go.RowKit
variable {R : Type}
structure TOk (l : Toks) : Prop where
  len : l.length ≤ 301
  last : ∀ i, i < l.length → ((tk l i).1 = 4 ↔ i + 1 = l.length)
  sign : ∀ i, i < l.length → (tk l i).1 = 3 → letN (bt (tk l i).2.1 0) = false
def escW [Esc R] (why at_ : Int) : Option R := Esc.esc (.iface 39 (.agg #[.int .i64 why, .int .i64 at_]))
def endS [Esc R] (s : RS) (k : Option R) : Option R := if s.2.1 = 0 then k else escW s.2.1 s.2.2
theorem zDY [Esc R] {s : RS} {k k' : Option R} (h : s.2.1 = 0 → k = k') : endS s k = endS s k' := by
  unfold endS
  by_cases h0 : s.2.1 = 0
  · rw [if_pos h0, if_pos h0, h h0]
  · rw [if_neg h0, if_neg h0]
theorem zED [Esc R] {s s' : RS} {k : Option R} (h : s.2.1 ≠ 0 → s'.2 = s.2) : endS s (endS s' k) = endS s' k := by
  unfold endS
  by_cases h0 : s.2.1 = 0
  · rw [if_pos h0]
  · rw [if_neg h0, h h0, if_neg h0]
theorem zDT [Esc R] {s : RS} (h : s.2.1 = 0) (k : Option R) : endS s k = k := by unfold endS; rw [if_pos h]
theorem zDQ [Esc R] {s : RS} (h : s.2.1 ≠ 0) (k : Option R) : endS s k = escW s.2.1 s.2.2 := by unfold endS; rw [if_neg h]
theorem rStep_2 (l : Toks) (s : RS) : (rStep l s).2 = s.2 := rfl
theorem rTake_2 (l : Toks) (w : ByteArray) (s : RS) : (rTake l w s).2.2 = s.2 := by unfold rTake; split <;> rfl
theorem rFail_st {e p : Int} {s : RS} (h : s.2.1 ≠ 0) : rFail e p s = s := by unfold rFail; rw [if_neg h]
theorem zEC {e p : Int} {s : RS} (h : s.2.1 = 0) : rFail e p s = (s.1, e, p) := by unfold rFail; rw [if_pos h]
theorem rIs_st {l : Toks} {w : ByteArray} {s : RS} (h : s.2.1 ≠ 0) : rIs l w s = false := by unfold rIs; rw [decide_eq_false h]; rfl
theorem zEW {l : Toks} {w : ByteArray} {s : RS} (h : s.2.1 ≠ 0) : rTake l w s = (false, s) := by unfold rTake; rw [rIs_st h]; rfl
theorem zEX {l : Toks} {w : ByteArray} {s : RS} (h : s.2.1 ≠ 0) : rMust l w s = s := by unfold rMust; rw [zEW h, rFail_st h]; rfl
theorem rNamed_st {l : Toks} {s : RS} (h : s.2.1 ≠ 0) : rNamed l s = false := by unfold rNamed; rw [decide_eq_false h]; rfl
theorem rName_st {l : Toks} {s : RS} (h : s.2.1 ≠ 0) : rName l s = ((⟨#[]⟩ : ByteArray), s) := by unfold rName; rw [rNamed_st h, rFail_st h]; rfl
theorem nowP_F (n : Nat) (l : Toks) (i : Nat) (h : i < l.length) (k : ty78.D → Toks → Int → Option R) : zO_F n l (i : Int) k = k (tk l i) l (i : Int) := by
  rw [zO_e]
  unfold zO_Fi
  rw [if_pos (by omega), Int.toNat_natCast]
  rfl
theorem stepP_F (n : Nat) (l : Toks) (ho : TOk l) (s : RS) (h : s.1 < l.length) (k : ty78.D → Toks → Int → Option R) : zAE_F n l (s.1 : Int) k = k (tk l s.1) l ((rStep l s).1 : Int) := by
  rw [zAE_e]
  unfold zAE_Fi rStep
  rw [nowP_F n l s.1 h]
  have hl := ho.len
  have hh := ho.last s.1 h
  by_cases h4 : (tk l s.1).1 = 4
  · rw [if_neg (by rw [h4]; decide), if_neg (show ¬ s.1 + 1 < l.length from by have := hh.1 h4; omega)]
  · rw [if_pos (by simpa using h4), if_pos (show s.1 + 1 < l.length from by
      have : ¬ s.1 + 1 = l.length := fun e => h4 (hh.2 e)
      omega), zDO s.1 (by omega)]
theorem isP_F (n : Nat) (w : ByteArray) (l : Toks) (s : RS) (h0 : s.2.1 = 0) (h : s.1 < l.length) (k : Bool → Toks → Int → Option R) : zBV_F n w l (s.1 : Int) k = k (rIs l w s) l (s.1 : Int) := by
  rw [zBV_e]
  unfold zBV_Fi rIs
  rw [nowP_F n l s.1 h, beqB, decide_eq_true h0, Bool.true_and]
  by_cases h1 : (tk l s.1).1 = 1
  · rw [if_pos (by rw [h1]; rfl), decide_eq_true h1]; rfl
  · rw [if_neg (by simpa using h1), decide_eq_false h1, Bool.false_or]
    by_cases h3 : (tk l s.1).1 = 3
    · rw [if_pos (by rw [h3]; rfl), decide_eq_true h3]; rfl
    · rw [if_neg (by simpa using h3), decide_eq_false h3]; rfl
theorem takeP_F (n : Nat) (w : ByteArray) (l : Toks) (ho : TOk l) (s : RS) (h0 : s.2.1 = 0) (h : s.1 < l.length) (k : Bool → Toks → Int → Option R) : zAF_F n w l (s.1 : Int) k = k (rTake l w s).1 l ((rTake l w s).2.1 : Int) := by
  rw [zAF_e]
  unfold zAF_Fi rTake
  rw [isP_F n w l s h0 h]
  cases rIs l w s with
  | true => rw [if_pos rfl, if_pos rfl, stepP_F n l ho s h]
  | false => rw [if_neg (by decide), if_neg (by decide)]
theorem all_res (w : ByteArray) : ((List.range resW.length).all fun i => !decide ((resW.getD i ByteArray.empty) = w)) = !resS w := by
  rw [Bool.eq_iff_iff, List.all_eq_true]
  unfold resS
  rw [Bool.not_eq_true', List.any_eq_false]
  constructor
  · intro h x hx
    obtain ⟨i, hi, e⟩ := List.getElem_of_mem hx
    have := h i (List.mem_range.2 hi)
    rw [getD_nat _ i hi, e] at this
    simpa using this
  · intro h i hi
    have hi := List.mem_range.1 hi
    have := h _ (List.getElem_mem hi)
    rw [getD_nat _ i hi]
    simpa using this
def ixF (ws : List ByteArray) (w : ByteArray) (i : Nat) : Option Nat := if ws.getD i ByteArray.empty = w then some i else none
theorem ixL_F (n : Nat) (ws : List ByteArray) (w : ByteArray) (hws : ws.length ≤ 15) (hn : 20 < n) (k : Int → Option R) : zAU_F n ws w k = match (List.range ws.length).findSome? (ixF ws w) with
    | none => k (-1)
    | some i => k (i : Int) := by
  rw [zAU_e]
  unfold zAU_Fi
  refine (runC_scan (R := R) (ρ := Nat) (step := zAU_l2 n) (fun b1 => k b1.1, fun b1 => k (-1), ()) (fun i => k (i : Int)) (k (-1)) (ixF ws w) (fun i => (ws, w, (ws.length : Int), (i : Int), ())) ws.length (fun i hi k1 => ?_) (fun k1 => ?_) (n := n) (by omega)).trans ?_
  · have hi2 : (0 : Int) ≤ (i : Int) ∧ (i : Int) < (ws.length : Int) := by omega
    have c : (i : Int) < (ws.length : Int) := by omega
    have e : ws.getD i (Ty.z .str) = ws.getD i ByteArray.empty := rfl
    simp only [zAU_l2, zAU_s2, c, hi2, decide_true, if_true, and_self, Int.toNat_natCast, beqB, e, zDO i (by omega), ixF]
    by_cases h : ws.getD i ByteArray.empty = w
    · rw [if_pos (decide_eq_true h.symm), if_pos h]
    · have h' : ¬ w = ws.getD i ByteArray.empty := fun e => h e.symm
      rw [if_neg (by simpa using h'), if_neg h]
  · simp [zAU_l2, zAU_s2]
  · cases (List.range ws.length).findSome? (ixF ws w) <;> rfl
theorem reservedP_F (n : Nat) (w : ByteArray) (hn : 20 < n) (k : Bool → Option R) : zCP_F n w k = k (resS w) := by
  rw [zCP_e]
  unfold zCP_Fi
  rw [zBW_e]
  unfold zBW_Fi
  refine (ixL_F n resW w (by decide) hn _).trans ?_
  have ha := all_res w
  cases hf : (List.range resW.length).findSome? (ixF resW w) with
  | none =>
    have : ((List.range resW.length).all fun i => !decide ((resW.getD i ByteArray.empty) = w)) = true := by
      rw [List.all_eq_true]
      intro i hi
      have := (List.findSome?_eq_none_iff.1 hf) i hi
      unfold ixF at this
      by_cases he : resW.getD i ByteArray.empty = w
      · rw [if_pos he] at this; cases this
      · rw [decide_eq_false he]; rfl
    rw [this] at ha
    cases hr : resS w with
    | false => rfl
    | true => rw [hr] at ha; cases ha
  | some i =>
    obtain ⟨j, hj, he⟩ := List.exists_of_findSome?_eq_some hf
    unfold ixF at he
    simp only
    rw [decide_eq_true (show (i : Int) ≥ 0 by omega)]
    by_cases hw : resW.getD j ByteArray.empty = w
    · cases hr : resS w with
      | true => rfl
      | false =>
        rw [hr] at ha
        have := List.all_eq_true.1 ha j hj
        rw [decide_eq_true hw] at this
        cases this
    · rw [if_neg hw] at he; cases he
theorem namedP_F (n : Nat) (l : Toks) (s : RS) (h0 : s.2.1 = 0) (h : s.1 < l.length) (hn : 500 < n) (k : Bool → Toks → Int → Option R) : zBB_F n l (s.1 : Int) k = k (rNamed l s) l (s.1 : Int) := by
  rw [zBB_e]
  unfold zBB_Fi rNamed isName
  rw [nowP_F n l s.1 h, decide_eq_true h0, Bool.true_and]
  by_cases h1 : (tk l s.1).1 = 1
  · rw [if_pos (by rw [h1]; rfl), decide_eq_true h1, Bool.true_and]
    rw [schName_F n _ (by omega)]
    cases hs : nameS (tk l s.1).2.1 with
    | false => rfl
    | true =>
      simp only [if_true, Bool.true_and]
      rw [reservedP_F n _ (by omega)]
  · rw [if_neg (by simpa using h1), decide_eq_false h1, Bool.false_and]
def rIf (b : Bool) (e p : Int) (s : RS) : RS := bif b then s else rFail e p s
theorem rIf_st {b : Bool} {e p : Int} {s : RS} (h : s.2.1 ≠ 0) : rIf b e p s = s := by unfold rIf; rw [rFail_st h]; cases b <;> rfl
theorem rIf_at (b : Bool) (e p : Int) (s : RS) : (rIf b e p s).1 = s.1 := by unfold rIf; cases b; exact zEF _ _ _; rfl
theorem zEO [Esc R] (n : Nat) (b : Bool) (e : Int) (he : e ≠ 0) (l : Toks) (s : RS) (h0 : s.2.1 = 0) (h : s.1 < l.length) (k : Toks → Int → Option R) : zK_F n b e l (s.1 : Int) k = endS (rIf b e (atT l s) s) (k l (s.1 : Int)) := by
  rw [zK_e]
  unfold zK_Fi
  cases b with
  | true =>
    simp only [Bool.not_true, Bool.false_eq_true, if_false, rIf, cond_true]
    rw [zDT h0]
  | false =>
    simp only [Bool.not_false, if_true, rIf, cond_false]
    rw [nowP_F n l s.1 h, zEC h0, zDQ he]
    rfl
theorem wantP_F [Esc R] (n : Nat) (w : ByteArray) (l : Toks) (ho : TOk l) (s : RS) (h0 : s.2.1 = 0) (h : s.1 < l.length) (k : Toks → Int → Option R) : zAO_F n w l (s.1 : Int) k = endS (rMust l w s) (k l ((rMust l w s).1 : Int)) := by
  rw [zAO_e]
  unfold zAO_Fi
  rw [takeP_F n w l ho s h0 h]
  have h2 : (rTake l w s).2.2.1 = 0 := by rw [rTake_2]; exact h0
  refine (zEO n _ 7 (by decide) l (rTake l w s).2 h2 (zDR w h) _).trans ?_
  unfold rMust
  cases ht : (rTake l w s).1 with
  | true => rfl
  | false =>
    have e : (rTake l w s).2 = s := by
      unfold rTake at ht ⊢
      split at ht
      · cases ht
      · rename_i hh; rw [if_neg hh]
    rw [e]
    simp only [rIf, cond_false, Bool.false_eq_true, if_false]
    rw [zEF]
    rfl
theorem nameP_F [Esc R] (n : Nat) (l : Toks) (ho : TOk l) (s : RS) (h0 : s.2.1 = 0) (h : s.1 < l.length) (hn : 500 < n) (k : ByteArray → Toks → Int → Option R) : zAX_F n l (s.1 : Int) k = endS (rName l s).2 (k (rName l s).1 l ((rName l s).2.1 : Int)) := by
  rw [zAX_e]
  unfold zAX_Fi
  rw [namedP_F n l s h0 h hn]
  refine (zEO n _ 7 (by decide) l s h0 h _).trans ?_
  unfold rName
  cases rNamed l s with
  | true =>
    simp only [rIf, cond_true, if_true]
    rw [stepP_F n l ho s h, zDT h0, zDT (by rw [rStep_2]; exact h0)]
  | false =>
    simp only [rIf, cond_false, Bool.false_eq_true, if_false]
    have hb : (rFail 7 (atT l s) s).2.1 ≠ 0 := by rw [zEC h0]; show (7 : Int) ≠ 0; decide
    rw [zDQ hb]
    exact (zDQ hb _).symm
end Go.Proofs.YtnnbinmomendnaaGreatDoor.E
