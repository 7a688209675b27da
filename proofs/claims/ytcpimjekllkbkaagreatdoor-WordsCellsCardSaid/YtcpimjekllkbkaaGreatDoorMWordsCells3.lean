/- For the law WordsCells. -/
import Derived.Test.YtcpimjekllkbkaaGreatDoorMWordsCells2
set_option linter.unusedVariables false
set_option linter.unusedSimpArgs false
set_option linter.unusedSectionVars false
namespace Go.Proofs.YtcpimjekllkbkaaGreatDoor.E
open Go.RowKit
/-! # 12. Regions whose order is drawn -/
section
variable {R : Type}
/-- a slice literal whose elements are data already -/
def buildF (ty : Ty) (ρ : Operand → T) : Nat → List (Nat × Operand) → Option (List ty.D)
  | _, [] => some []
  | j, (i, x) :: r => if i = j then match ρ x with
      | .a a => match cellsA a with
        | some cl => match dec ty cl with
          | some (y, []) => match buildF ty ρ (j + 1) r with
            | some ys => some (y :: ys)
            | none => none
          | _ => none
        | none => none
      | _ => none
    else none
def argsR (ρ : Operand → T) : List Operand → Option (List A)
  | [] => some []
  | x :: r => match ρ x with
    | .a (.c .un) => none
    | .a y => match argsR ρ r with
      | some l => some (y :: l)
      | none => none
    | _ => none
def fillR (place : Nat → Option (Nat × Nat)) (ρ : Operand → T) : List C → List (Nat × Operand) → Option (List C)
  | cells, [] => some cells
  | cells, (i, x) :: r => match place i, ρ x with
    | some (off, size), .a a => match cellsA a with
      | some cl => if cl.length = size ∧ off + size ≤ cells.length then fillR place ρ (cells.take off ++ cl ++ cells.drop (off + size)) r else none
      | none => none
    | _, _ => none
def ocR (z : T) : Option C :=
  match z with
  | .a (.c c) => some c
  | _ => none
def ooR (ρ : Operand → T) : Option Operand → Option (Option C)
  | none => some none
  | some x => match ocR (ρ x) with
    | some c => some (some c)
    | none => none
def callM (P : Program) (G : Gt R) (H : List Blk) (f : Nat) (l : List A) (k : T → Option R) : Option R :=
    if noH l = true then G f l [] fun x HN => k (viewT HN x)
    else if lendOk P f = true then G f (l.map (viewA H)) [] fun x HN => if (flatT x && HN.isEmpty) = true then k (viewT [] x) else none
    else none
def callR (P : Program) (G : Gt R) (ρ : Operand → T) (H : List Blk) (f : C) (ags : List Operand) (k : T → Option R) : Option R :=
  match f, argsR ρ ags with
  | .fn f hs, some l => bif mayE f then none else callM P G H f (l ++ capA hs) k
  | _, _ => none
/-- an operation that only reads, or makes what stays -/
def rdK (P : Program) (G : Gt R) (o : Oper) (ρ : Operand → T) (H : List Blk) (k : T → Option R) : Option R :=
  match o.op with
  | .move x => k (ρ x)
  | .assign x => k (ρ x)
  | .pick c a b => match ρ c with
    | .a (.c (.b x)) => pickK x (ρ a) (ρ b) k
    | _ => none
  | .build t ps => match placeOf P t with
    | some (z, place) => match fillR place ρ z ps.toList with
      | some cl => k (.a (.ag cl))
      | none => none
    | none => none
  | .buildSlice t n ps => match elemTy P t with
    | some (_, ty, _) => if ps.toList.length = n ∧ 0 < n ∧ n * ty.sz ≤ 16777216 ∧ n ≤ maxLen then match buildF ty ρ 0 ps.toList with
        | some l => k (.a (.c (.fz ty l)))
        | none => none
      else none
    | none => none
  | .load t x => match ocR (ρ x) with
    | some c => loadK P H t c k
    | none => none
  | .nilCheck x => match ocR (ρ x) with
    | some (.fn f hs) => k (.a (.c (.fn f hs)))
    | some c => match isNp c with
      | some false => k (.a (.c c))
      | _ => none
    | none => none
  | .binOp op t x y _ => binAO P t op y (ρ x) (ρ y) fun c => k (.a (.c c))
  | .unOp op _ x => match ocR (ρ x) with
    | some a => unK op a fun c => k (.a (.c c))
    | none => none
  | .convert s d x => match ocR (ρ x) with
    | some a => bytesK P H s d a fun c => k (.a (.c c))
    | none => none
  | .slice t x lo hi none => match ocR (ρ x), ooR ρ lo, ooR ρ hi with
    | some c, some l, some h => sliceK P H t c l h fun c => k (.a (.c c))
    | _, _, _ => none
  | .fieldAddr s x f => match ocR (ρ x) with
    | some c => fieldAddrK P s f c fun c => k (.a (.c c))
    | none => none
  | .field s x f => match ρ x with
    | .a a => fieldK P s f a k
    | _ => none
  | .indexAddr t x ix => match ocR (ρ x), ocR (ρ ix) with
    | some c, some i => indexAddrK P H t c i fun c => k (.a (.c c))
    | _, _ => none
  | .index t x ix => match ρ x, ocR (ρ ix) with
    | .a a, some i => indexK P t a i fun c => k (.a (.c c))
    | _, _ => none
  | .extract x i => extractK (ρ x) i k
  | .lookup t x ix ok => match ocR (ρ x), ocR (ρ ix) with
    | some c, some i => lookupK P H t c i ok k
    | _, _ => none
  | .makeFunc fn first caps => makeFuncK fn first.toList (capsK ρ caps.toList) k
  | .call c => match c.callee with
    | .builtin .len => match c.args.toList, c.argTypes.toList with
      | [x], [t] => match ocR (ρ x) with
        | some y => lenK P H t y fun c => k (.a (.c c))
        | none => none
      | _, _ => none
    | .builtin .min => match c.args.toList with
      | [x, y] => match ocR (ρ x), ocR (ρ y) with
        | some p, some q => mmK false p q fun c => k (.a (.c c))
        | _, _ => none
      | _ => none
    | .builtin .max => match c.args.toList with
      | [x, y] => match ocR (ρ x), ocR (ρ y) with
        | some p, some q => mmK true p q fun c => k (.a (.c c))
        | _, _ => none
      | _ => none
    | .value f => match ocR (ρ f) with
      | some y => callR P G ρ H y c.args.toList k
      | none => none
    | _ => none
  | _ => none
def isRd (o : Oper) : Bool :=
  match o.op with
  | .move _ | .assign _ | .pick .. | .build .. | .buildSlice .. | .load .. | .nilCheck _ | .binOp .. | .unOp .. | .convert .. | .slice .. | .fieldAddr .. | .field .. | .indexAddr .. | .index .. | .extract .. | .lookup .. | .makeFunc .. => true
  | .call c => match c.callee with
    | .builtin .len | .builtin .min | .builtin .max | .value _ => true
    | _ => false
  | _ => false
variable {P : Program} {w0 w w' : World} {U : U0} {F F' : Nat → Prop} {hv : List Value} {H : List Blk} {r : R}
theorem argsR_ev (ts : List (Nat × T)) : ∀ ags, argsR (ev ts) ags = argsK ts ags
  | [] => rfl
  | x :: ags => by
    simp only [argsR, argsK, argsR_ev ts ags]
    rfl
theorem fillR_ev (place : Nat → Option (Nat × Nat)) (ts : List (Nat × T)) : ∀ ps cells, fillR place (ev ts) cells ps = fillC place ts cells ps
  | [], cells => rfl
  | (i, x) :: ps, cells => by
    simp only [fillR, fillC, fillR_ev place ts ps]
    rfl
theorem ooR_ev (ts : List (Nat × T)) (x : Option Operand) : ooR (ev ts) x = oo ts x := by cases x <;> rfl
theorem ocR_ev (ts : List (Nat × T)) (x : Operand) : ocR (ev ts x) = oc ts x := rfl
theorem dec_flatH {t : Ty} : ∀ {cl r : List C} {x : t.D}, dec t cl = some (x, r) → ∃ c1, cl = c1 ++ r ∧ ∀ c ∈ c1, c.hs = [] := by
  induction t with
  | bool =>
    intro cl r x h
    match cl, h with
    | .b y :: r', h => simp only [dec, Option.some.injEq, Prod.mk.injEq] at h; obtain ⟨rfl, rfl⟩ := h; exact ⟨[.b y], rfl, by simp [C.hs]⟩
  | int k =>
    intro cl r x h
    match cl, h with
    | .i k' y :: r', h =>
      simp only [dec] at h
      split at h
      · simp only [Option.some.injEq, Prod.mk.injEq] at h; obtain ⟨rfl, rfl⟩ := h; exact ⟨[.i k' y], rfl, by simp [C.hs]⟩
      · cases h
  | str =>
    intro cl r x h
    match cl, h with
    | .s y :: r', h => simp only [dec, Option.some.injEq, Prod.mk.injEq] at h; obtain ⟨rfl, rfl⟩ := h; exact ⟨[.s y], rfl, by simp [C.hs]⟩
  | sl e ih =>
    intro cl r x h
    match cl, h with
    | .fz e' l :: r', h =>
      simp only [dec] at h
      split at h
      · simp only [Option.some.injEq, Prod.mk.injEq] at h; obtain ⟨_, rfl⟩ := h; exact ⟨[.fz e' l], rfl, by simp [C.hs]⟩
      · cases h
    | .nz e' l :: r', h =>
      simp only [dec] at h
      split at h
      · simp only [Option.some.injEq, Prod.mk.injEq] at h; obtain ⟨_, rfl⟩ := h; exact ⟨[.nz e' l], rfl, by simp [C.hs]⟩
      · cases h
    | .ns :: r', h => simp only [dec, Option.some.injEq, Prod.mk.injEq] at h; obtain ⟨_, rfl⟩ := h; exact ⟨[.ns], rfl, by simp [C.hs]⟩
  | pr a b iha ihb =>
    intro cl r x h
    simp only [dec] at h
    split at h
    · rename_i y r1 h1
      split at h
      · rename_i z r2 h2
        simp only [Option.some.injEq, Prod.mk.injEq] at h
        obtain ⟨_, rfl⟩ := h
        obtain ⟨c1, rfl, e1⟩ := iha h1
        obtain ⟨c2, rfl, e2⟩ := ihb h2
        exact ⟨c1 ++ c2, by simp, fun c hc => (List.mem_append.1 hc).elim (e1 c) (e2 c)⟩
      · cases h
    · cases h
  | un =>
    intro cl r x h
    simp only [dec, Option.some.injEq, Prod.mk.injEq] at h
    obtain ⟨_, rfl⟩ := h
    exact ⟨[], rfl, by simp⟩
theorem buildF_sound {ty : Ty} {S : St} {a : Act} (hR : Rel w0 U S a w F hv) : ∀ {ps : List (Nat × Operand)} {j : Nat} {l : List ty.D}, buildF ty (ev S.t) j ps = some l →
    (∀ v ∈ ps.map (fun p => a.eval p.2), v.cells.size = ty.sz) ∧ DReps w F ty l ((ps.map (fun p => a.eval p.2)).flatMap fun v => v.cells.toList) ∧ ps = ((ps.map (·.2)).zipIdx j).map (fun q => (q.2, q.1))
  | [], j, l, h => by
    simp only [buildF, Option.some.injEq] at h
    subst h
    exact ⟨by simp, rfl, rfl⟩
  | (i, x) :: ps, j, l, h => by
    simp only [buildF] at h
    split at h
    case isFalse => cases h
    rename_i hij
    subst hij
    split at h
    case h_2 => cases h
    rename_i a' hev
    split at h
    case h_2 => cases h
    rename_i cl hcl
    have hx := ev_rep hR x
    rw [hev] at hx
    have hc := cellsA_rep hx hcl
    split at h
    case h_2 => cases h
    rename_i y hdec
    split at h
    case h_2 => cases h
    rename_i ys hrest
    injection h with h
    subst h
    obtain ⟨c1, c2, e1, hd, hc2⟩ := dec_rep hdec hc
    have : c2 = [] := List.length_eq_zero_iff.1 hc2.len
    subst this
    rw [List.append_nil] at e1
    obtain ⟨hsz, hds, hps⟩ := buildF_sound hR hrest
    refine ⟨?_, ⟨c1, _, by simp [← e1], hd, hds⟩, by simp only [List.map_cons, List.zipIdx_cons, List.map_cons]; rw [← hps]⟩
    intro v hv
    rcases List.mem_cons.1 hv with rfl | hv
    · have := DRep.len hd
      rw [← e1] at this
      simpa using this
    · exact hsz v hv
theorem reps_rows {t : Ty} {b : Nat} (hb : F b) : ∀ {l : List t.D} {cs : List Value} {o : Nat}, DReps w F t l cs → w.rangeAt b o cs → Rows w F (DRep w F t) t.sz (some ⟨b, o, none⟩) l
  | [], cs, o, _, _ => fun i hi => by simp at hi
  | x :: l, cs, o, ⟨c1, c2, e, h1, h2⟩, hr => by
    subst e
    have hl := DRep.len h1
    intro i hi
    cases i with
    | zero =>
      refine ⟨b, o, c1, rfl, hb, ?_, h1⟩
      intro j v hj
      have := hr j v (by rw [List.getElem?_append_left (List.getElem?_eq_some_iff.1 hj).1]; exact hj)
      simpa using this
    | succ i =>
      have hr2 : w.rangeAt b (o + t.sz) c2 := by
        intro j v hj
        have := hr (t.sz + j) v (by rw [← hl, List.getElem?_append_right (Nat.le_add_right _ _), Nat.add_sub_cancel_left]; exact hj)
        rw [← Nat.add_assoc] at this
        exact this
      obtain ⟨b', o', cs', e', hb', hra, hd⟩ := reps_rows hb h2 hr2 i (by simpa using hi)
      injection e' with e'
      injection e' with e1 e2
      subst e1 e2
      refine ⟨_, _, cs', rfl, hb', ?_, by simpa using hd⟩
      rw [show o + (i + 1) * t.sz = o + t.sz + i * t.sz from by rw [Nat.succ_mul]; omega]
      exact hra
theorem buildF_run {S : St} {a : Act} (hR : Rel w0 U S a w F hv) {t n e b : Nat} {ty : Ty} {parts : Array (Nat × Operand)} {l : List ty.D} (he : elemTy P t = some (e, ty, b)) (hc : parts.toList.length = n ∧ 0 < n ∧ n * ty.sz ≤ 16777216 ∧ n ≤ maxLen) (hb : buildF ty (ev S.t) 0 parts.toList = some l) :
    ∃ w' F' v, Grows w F w' F' ∧ RepC w' F' hv v (.fz ty l) ∧ (Instr.buildSlice t n (parts.map fun (i, x) => (i, a.eval x))).run P w = .ok v w' := by
  obtain ⟨i, z, hu, hi, hz, hzs, hs, hpos, _⟩ := elemTy_spec he
  obtain ⟨hl, hn0, hsm, hmx⟩ := hc
  obtain ⟨hsz, hds, hps⟩ := buildF_sound hR hb
  have hzz : (parts.map fun (i, x) => (i, a.eval x)).toList = ((parts.toList.map (fun p => a.eval p.2)).zipIdx 0).map (fun x => (x.2, x.1)) := by
    rw [Array.toList_map]
    conv => lhs; rw [hps]
    rw [List.map_map, List.zipIdx_map, List.map_map, List.zipIdx_map, List.map_map]
    rfl
  have hfill := Go.Great.fill_whole hpos (parts.toList.map (fun p => a.eval p.2)) ((Array.range (n * i.size)).map (z.cells[· % z.cells.size]!)) hsz (by simp [hl, hs])
  generalize hcs : ((parts.toList.map (fun p => a.eval p.2)).flatMap fun v => v.cells.toList) = cs at *
  have hlen : l.length = n := by
    have h1 := DReps.len hds
    have h2 : cs.length = n * ty.sz := by
      rw [← hcs, List.length_flatMap]
      have : ∀ v ∈ parts.toList.map (fun p => a.eval p.2), v.cells.toList.length = ty.sz := fun v hv => by simpa using hsz v hv
      rw [List.map_congr_left this, List.map_const', List.sum_replicate_nat, List.length_map, hl]
    rw [h2] at h1
    exact (Nat.eq_of_mul_eq_mul_right hpos h1).symm
  have hrun : (Instr.buildSlice t n (parts.map fun (i, x) => (i, a.eval x))).run P w = .ok (.slice (some ⟨w.heap.size, 0, none⟩) n n) (w.alloc (.cells cs.toArray e)) := by
    refine run_buildSlice w t e n _ cs.toArray i z hu hi hz (by rw [hs]; omega) (by rw [hs]; exact Nat.ne_of_gt (Nat.mul_pos hn0 hpos)) ?_
    rw [hs, hzz, ← hs]
    rw [← hs] at hfill
    exact hfill
  have hnew : (w.alloc (.cells cs.toArray e)).heap[w.heap.size]? = some (.cells cs.toArray e (0, 0)) := by show (w.heap.push _)[w.heap.size]? = _; simp
  let F' : Nat → Prop := fun b => F b ∨ b = w.heap.size
  have hfb := hR.iv.fb
  have hF : ∀ b, F b → F' b := fun _ h => .inl h
  have hw : ∀ b, F b → (w.alloc (.cells cs.toArray e)).heap[b]? = w.heap[b]? := fun b hb => Below.heap_alloc w _ b (hfb b hb)
  refine ⟨w.alloc (.cells cs.toArray e), F', _, ⟨rfl, rfl, rfl, by simp, fun k hk => Below.heap_alloc w _ k hk, hF, fun b hb => hb.imp id fun h => by subst h; exact ⟨Nat.le_refl _, by simp⟩⟩, ⟨some ⟨w.heap.size, 0, none⟩, n, by rw [hlen], ⟨by omega, fun h => by cases h⟩, ?_⟩, hrun⟩
  exact reps_rows (.inr rfl) (hds.mono hF hw) (by simpa using range_of_block hnew 0)
end
end Go.Proofs.YtcpimjekllkbkaaGreatDoor.E
namespace Go.Proofs.YtcpimjekllkbkaaGreatDoor.E
open Go.RowKit
section
variable {R : Type} [Esc R] {P : Program} {w0 w w' : World} {U : U0} {F F' : Nat → Prop} {hv : List Value} {H : List Blk} {r : R}
theorem RepC.nil {c : C} {v : Value} (h : RepC w F [] v c) : RepC w F hv v c :=
  RepC.mono (fun _ h => h) (fun _ _ => rfl) (fun _ _ _ hu => by simp at hu) h
theorem RepA.nil {x : A} {v : Value} (h : RepA w F [] v x) : RepA w F hv v x := by
  cases x with
  | c x => exact RepC.nil h
  | ag l => obtain ⟨cs, e, hc⟩ := h; exact ⟨cs, e, hc.mono fun _ _ _ _ hr => RepC.nil hr⟩
theorem RepT.nil {x : T} {v : Value} (h : RepT w F [] v x) : RepT w F hv v x := by
  cases x with
  | a x => exact RepA.nil h
  | tu l => obtain ⟨cs, e, hc⟩ := h; exact ⟨cs, e, hc.mono fun _ _ _ _ hr => RepA.nil hr⟩
theorem frozen {hvN : List Value} {HN : List Blk} {x : T} {v : Value} (iN : Inv w (uOf [] [] F) w' F' hvN HN) (hF : ∀ b, F b → b < w.heap.size) (hx : RepT w' F' hvN v x) : ∃ F2, Grows w F w' F2 ∧ RepT w' F2 [] v (viewT HN x) := by
  let F2 : Nat → Prop := fun b => b < w'.heap.size ∧ (F b ∨ w.heap.size ≤ b)
  have hF2 : ∀ b, F' b → F2 b := fun b hb => ⟨iN.fb b hb, (iN.f1 b hb).imp id fun h => h.resolve_right noU⟩
  have hview : ∀ {c : C} {v : Value}, RepC w' F' hvN v c → RepC w' F2 [] v (viewC HN c) := by
    intro c v h
    have up : ∀ {c : C}, c.hs = [] → RepC w' F' hvN v c → RepC w' F2 [] v c := fun hc h => RepC.noh hc (RepC.mono hF2 (fun _ _ => rfl) (fun _ _ _ hu => hu) h) []
    cases c with
    | ow g =>
      simp only [viewC]
      obtain ⟨F1, iv1, s1, h1⟩ := solid_sound iN h
      have hF1 : ∀ b, F1 b → F2 b := fun b hb => ⟨iv1.fb b hb, (iv1.f1 b hb).imp id fun h => h.resolve_right noU⟩
      simp only [solid] at h1 iv1
      split
      · rename_i e t l hH
        rw [hH] at h1
        exact DRep.mono (t := .sl t) hF1 (fun _ _ => rfl) h1
      · rename_i t l hH
        rw [hH] at h1
        exact DRep.mono (t := .sl t) hF1 (fun _ _ => rfl) h1
      · exact trivial
    | pt g o => exact trivial
    | po g i s o => exact trivial
    | pm g i o => exact trivial
    | mp g => exact trivial
    | fn f hs => cases hs with
      | nil => exact up (c := .fn f []) rfl h
      | cons g hs => exact trivial
    | _ => exact up rfl h
  exact ⟨F2, ⟨iN.os, iN.tape, iN.output, iN.size, fun k hk => iN.old k hk noU, fun b hb => ⟨Nat.lt_of_lt_of_le (hF b hb) iN.size, .inl hb⟩, fun b hb => hb.2.imp id fun h => ⟨h, hb.1⟩⟩, viewT_rep hF2 hview hx⟩
theorem rdK_sound {G : Gt R} (hG : AllSound P G) {o : Oper} {S : St} {a : Act} (hR : Rel w0 U S a w F hv) {k : T → Option R} (h : rdK P G o (ev S.t) S.H k = some r)
    {K : Act → World → Prop} {Q : Exit → Act → World → Prop} (hP : PanOk w0 U r Q) (hK : ∀ x w' F' v, k x = some r → Grows w F w' F' → RepT w' F' hv v x → K (a.put o.dst v) w') : o.wp P a w K Q := by
  have g0 := Grows.refl w F
  unfold rdK at h
  split at h
  · rename_i x hop
    exact wp_value (by unfold execOp; rw [hop]; rfl) (hK _ _ _ _ h g0 (ev_rep hR x))
  · rename_i x hop
    exact wp_value (by unfold execOp; rw [hop]; rfl) (hK _ _ _ _ h g0 (ev_rep hR x))
  · rename_i c x y hop
    split at h
    · rename_i b hev
      have hc := ev_rep hR c
      rw [hev] at hc
      obtain ⟨z, h1, h2⟩ := pickK_sound h (ev_rep hR x) (ev_rep hR y)
      refine wp_value ?_ (hK _ _ _ _ h1 g0 h2)
      unfold execOp
      rw [hop]
      simp only [show a.eval c = _ from hc]
      cases b <;> rfl
    · cases h
  · rename_i t ps hop
    have h' : buildK P t ps.toList S.t k = some r := by
      unfold buildK
      split at h
      · rename_i z place e
        rw [e]
        simp only [fillR_ev] at h
        exact h
      · cases h
    obtain ⟨z, v, h1, h2, h3⟩ := buildK_sound hR h'
    exact wp_value (by unfold execOp; rw [hop]; exact run_v h3) (hK _ _ _ _ h1 g0 h2)
  · rename_i t n ps hop
    split at h
    · rename_i e ty b he
      split at h
      · rename_i hc
        split at h
        · rename_i l hl
          obtain ⟨w', F', v, h1, h2, h3⟩ := buildF_run hR he hc hl
          exact wp_value (by unfold execOp; rw [hop]; exact run_v h3) (hK _ _ _ _ h h1 h2)
        · cases h
      · cases h
    · cases h
  · rename_i t x hop
    split at h
    · rename_i c hc
      obtain ⟨z, v, h1, h2, h3⟩ := loadK_sound hR.iv h (oc_rep hR hc)
      exact wp_value (by unfold execOp; rw [hop]; exact run_v h3) (hK _ _ _ _ h1 g0 h2)
    · cases h
  · rename_i x hop
    split at h
    · rename_i f hs hc
      have hx := oc_rep hR hc
      refine wp_value ?_ (hK _ _ _ _ h g0 hx)
      obtain ⟨caps, e, _⟩ := hx
      unfold execOp
      rw [hop]
      simp only [e]
      rfl
    · rename_i c _ hc
      split at h
      · rename_i hnp
        have hx := oc_rep hR hc
        obtain ⟨p, hp, hp2⟩ := isNp_rep hnp hx
        refine wp_value ?_ (hK _ _ _ _ h g0 hx)
        unfold execOp
        rw [hop]
        simp only [hp]
        cases p with
        | none => cases hp2
        | some p => rfl
      · cases h
    · cases h
  · rename_i op t x y yt hop
    obtain ⟨c, v, h1, h2, h3⟩ := binAO_sound h (ev_rep hR x) (ev_rep hR y) x
    exact wp_value (by unfold execOp; rw [hop]; exact run_v h3) (hK _ _ _ _ h1 g0 h2)
  · rename_i op t x hop
    split at h
    · rename_i p hp
      obtain ⟨c, v, h1, h2, h3⟩ := unK_sound (P := P) h (oc_rep hR hp)
      exact wp_value (by unfold execOp; rw [hop]; exact run_v h3) (hK _ _ _ _ h1 g0 h2)
    · cases h
  · rename_i s d x hop
    split at h
    · rename_i p hp
      obtain ⟨c, v, h1, h2, h3⟩ := bytesK_sound hR.iv h (oc_rep hR hp)
      exact wp_value (by unfold execOp; rw [hop]; exact run_v h3) (hK _ _ _ _ h1 g0 h2)
    · cases h
  · rename_i t x lo hi hop
    split at h
    · rename_i c l u hc hl hu
      rw [ooR_ev] at hl hu
      obtain ⟨c', v, h1, h2, h3⟩ := sliceK_sound hR.iv h (oc_rep hR hc) (oo_rep hR hl) (oo_rep hR hu)
      exact wp_value (by unfold execOp; rw [hop]; exact run_v h3) (hK _ _ _ _ h1 g0 h2)
    · cases h
  · rename_i s x f hop
    split at h
    · rename_i c hc
      obtain ⟨c', v, h1, h2, h3⟩ := fieldAddrK_sound h (oc_rep hR hc)
      exact wp_value (by unfold execOp; rw [hop]; exact run_v h3) (hK _ _ _ _ h1 g0 h2)
    · cases h
  · rename_i s x f hop
    split at h
    · rename_i y hev
      have hx := ev_rep hR x
      rw [hev] at hx
      obtain ⟨z, v, h1, h2, h3⟩ := fieldK_sound h hx
      exact wp_value (by unfold execOp; rw [hop]; exact run_v h3) (hK _ _ _ _ h1 g0 h2)
    · cases h
  · rename_i t x ix hop
    split at h
    · rename_i c i hc hi
      obtain ⟨c', v, h1, h2, h3⟩ := indexAddrK_sound hR.iv h (oc_rep hR hc) (oc_rep hR hi)
      exact wp_value (by unfold execOp; rw [hop]; exact run_v h3) (hK _ _ _ _ h1 g0 h2)
    · cases h
  · rename_i t x ix hop
    split at h
    · rename_i y i hev hi
      have hx := ev_rep hR x
      rw [hev] at hx
      obtain ⟨c', v, h1, h2, h3⟩ := indexK_sound h hx (oc_rep hR hi)
      exact wp_value (by unfold execOp; rw [hop]; exact run_v h3) (hK _ _ _ _ h1 g0 h2)
    · cases h
  · rename_i x i hop
    obtain ⟨z, v, h1, h2, h3⟩ := extractK_sound (P := P) h (ev_rep hR x)
    exact wp_value (by unfold execOp; rw [hop]; exact run_v h3) (hK _ _ _ _ h1 g0 h2)
  · rename_i t x ix ok hop
    split at h
    · rename_i c i hc hi
      obtain ⟨z, v, h1, h2, h3⟩ := lookupK_sound hR.iv h (oc_rep hR hc) (oc_rep hR hi)
      exact wp_value (by unfold execOp; rw [hop]; exact run_v h3) (hK _ _ _ _ h1 g0 h2)
    · cases h
  · rename_i fn first caps hop
    unfold makeFuncK at h
    split at h
    · rename_i f hs hf hc
      refine wp_value (v := .func (.func f) #[] (caps.map a.eval)) ?_ (hK _ _ _ _ h g0 ⟨caps.toList.map a.eval, ?_, capsK_sound hR hc⟩)
      · unfold execOp
        rw [hop]
        have : first = #[] := Array.toList_inj.1 hf
        subst this
        exact run_v (by simp [Instr.makeFunc])
      · rw [← Array.toList_map, Array.toArray_toList]
    · cases h
  · rename_i c hop
    obtain ⟨callee, args, argTypes⟩ := c
    simp only at h
    split at h
    · split at h
      · rename_i x t hx ht
        split at h
        · rename_i y hy
          obtain ⟨c', v, h1, h2, h3⟩ := lenK_sound hR.iv h (oc_rep hR hy) o.type
          refine wp_value ?_ (hK _ _ _ _ h1 g0 h2)
          unfold execOp
          rw [hop]
          have ea : args = #[x] := Array.toList_inj.1 hx
          have et : argTypes = #[t] := Array.toList_inj.1 ht
          subst ea et
          simp only [resolve, Sem.run_bind, Sem.run_pure, Result.andThen_ok, invoke, builtin]
          simp only [List.map_toArray, List.map_cons, List.map_nil, h3]
          rfl
        · cases h
      · cases h
    · split at h
      · rename_i x y hx
        split at h
        · rename_i p q hp hq
          obtain ⟨c', v, h1, h2, h3⟩ := mmK_sound (P := P) h (oc_rep hR hp) (oc_rep hR hq) argTypes o.type
          refine wp_value ?_ (hK _ _ _ _ h1 g0 h2)
          unfold execOp
          rw [hop]
          have ea : args = #[x, y] := Array.toList_inj.1 hx
          subst ea
          simp only [resolve, Sem.run_bind, Sem.run_pure, Result.andThen_ok, invoke, builtin]
          simp only [cond_true, cond_false] at h3
          simp only [List.map_toArray, List.map_cons, List.map_nil, h3]
          rfl
        · cases h
      · cases h
    · split at h
      · rename_i x y hx
        split at h
        · rename_i p q hp hq
          obtain ⟨c', v, h1, h2, h3⟩ := mmK_sound (P := P) h (oc_rep hR hp) (oc_rep hR hq) argTypes o.type
          refine wp_value ?_ (hK _ _ _ _ h1 g0 h2)
          unfold execOp
          rw [hop]
          have ea : args = #[x, y] := Array.toList_inj.1 hx
          subst ea
          simp only [resolve, Sem.run_bind, Sem.run_pure, Result.andThen_ok, invoke, builtin]
          simp only [cond_true, cond_false] at h3
          simp only [List.map_toArray, List.map_cons, List.map_nil, h3]
          rfl
        · cases h
      · cases h
    · rename_i f
      split at h
      · rename_i y hy
        unfold callR at h
        split at h
        case h_2 => cases h
        rename_i fid hs l0 hl
        rw [argsR_ev] at hl
        obtain ⟨harg0, _⟩ := argsK_sound hR hl
        obtain ⟨caps, hfv, hcaps⟩ := oc_rep hR hy
        have harg := harg0.app (capA_rep hcaps)
        revert h harg
        generalize l0 ++ capA hs = l
        generalize hvs : args.toList.map a.eval ++ caps = vs
        intro h harg
        cases hme : mayE fid with
        | true => rw [hme] at h; cases h
        | false =>
        rw [hme] at h
        simp only [cond_false] at h
        have hne : Nat.beq fid panF = false := by
          unfold mayE at hme
          simp only [Bool.or_eq_false_iff] at hme
          exact hme.1
        have hfr : ∀ {F2 : Nat → Prop} {w' : World}, Fr w (uOf [] [] F2) w' → Fr w0 U w' := fun hf => ⟨hf.os.trans hR.iv.os, hf.tape.trans hR.iv.tape, hf.output.trans hR.iv.output, Nat.le_trans hR.iv.size hf.size, fun k h1 h2 => (hf.old k (Nat.lt_of_lt_of_le h1 hR.iv.size) noU).trans (hR.iv.old k h1 h2)⟩
        unfold callM at h
        have enter : ∀ (hS : ∃ fn, P.funcs[fid]? = some fn ∧ fn.body.isSome = true ∧ (fn.name == "runtime.NumGoroutine") = false), (execOp a.eval o).run P w = .ok (.enter fid vs.toArray) w := by
          rintro ⟨fn, hf, hb, hname⟩
          unfold execOp
          rw [hop]
          simp only [resolve, hfv, Deferred.args, Sem.run_bind, Sem.run_pure, Result.andThen_ok, invoke, callFunc]
          have h1 : ¬ fn.name = "runtime.NumGoroutine" := by simpa using hname
          have h2 : ¬ fn.body = none := by intro e; rw [e] at hb; cases hb
          have h3 : vs.toArray = args.map a.eval ++ caps.toArray := by rw [← hvs, ← List.append_toArray, ← Array.toList_map, Array.toArray_toList]
          rw [h3]
          simp [hf, h1, h2]
        have answer : ∀ v, (callFunc fid vs.toArray).run P w = .ok (.value v) w → (execOp a.eval o).run P w = .ok (.value v) w := by
          intro v hv2
          unfold execOp
          rw [hop]
          simp only [resolve, hfv, Deferred.args, Sem.run_bind, Sem.run_pure, Result.andThen_ok, invoke]
          have h3 : vs.toArray = args.map a.eval ++ caps.toArray := by rw [← hvs, ← List.append_toArray, ← Array.toList_map, Array.toArray_toList]
          rw [← h3]
          exact hv2
        have does : ∀ {Q2 : Ending → World → Prop}, Does P fid vs.toArray w Q2 → (∀ e w', Q2 e w' → (∃ v, e = .returned v ∧ K (a.put o.dst v) w') ∨ ∃ pv, e = .panicked (pan1 pv) ∧ Q (.panic (pan1 pv)) a w') → o.wp P a w K Q := by
          intro Q2 hd hQ
          rcases hd with ⟨hS, hc⟩ | ⟨v, h1, h2⟩
          · unfold Oper.wp
            rw [enter hS]
            refine hc.mono fun e w' h => ?_
            rcases hQ e w' h with ⟨v, he, h5⟩ | ⟨pv, he, h5⟩
            · subst he
              exact h5
            · subst he
              exact h5
          · rcases hQ _ _ h2 with ⟨v', e, h3⟩ | ⟨pv, he, h5⟩
            · injection e with e
              subst e
              exact wp_value (answer _ h1) h3
            · cases he
        split at h
        · rename_i hn
          have hS := (hG.fn fid hne).resolve_right (fun e => by rw [e] at h; cases h)
          refine does (hS l [] _ r h _ w F [] (Inv.nil hR.iv.fb hR.iv.layC hR.iv.layF) (noH_rep hn harg [])) ?_
          rintro e w' (⟨x, HN, v, F', hvN, hk, rfl, iN, hx⟩ | ⟨pv, rfl, h1, h2⟩)
          rotate_left
          · exact .inr ⟨pv, rfl, hP _ _ _ hR.df h1 (hfr h2)⟩
          obtain ⟨F2, h1, h2⟩ := frozen iN hR.iv.fb hx
          exact .inl ⟨_, rfl, hK _ w' F2 v hk h1 (RepT.nil h2)⟩
        · split at h
          · have hS := (hG.fn fid hne).resolve_right (fun e => by rw [e] at h; cases h)
            have hargv : All2 (RepA w (fun b => b < w.heap.size) []) vs (l.map (viewA S.H)) := All2.map (R := RepA w F hv) (Q := RepA w (fun b => b < w.heap.size) []) (f := viewA S.H) (fun _ _ hh => viewA_rep hR.iv hh) harg
            refine does (hS _ [] _ r h _ w _ [] (Inv.nil (fun _ h => h) hR.iv.layC fun g hg => hR.iv.fb g (hR.iv.layF g hg)) hargv) ?_
            rintro e w' (⟨x, HN, v, F', hvN, hk, rfl, iN, hx⟩ | ⟨pv, rfl, h1, h2⟩)
            rotate_left
            · exact .inr ⟨pv, rfl, hP _ _ _ hR.df h1 (hfr h2)⟩
            split at hk
            · rename_i hfl
              simp only [Bool.and_eq_true, List.isEmpty_iff] at hfl
              obtain ⟨hfx, rfl⟩ := hfl
              have hnv : hvN = [] := List.length_eq_zero_iff.1 iN.len
              subst hnv
              have hx2 := flatT_rep hfx hx F
              have hx3 : RepT w' F [] v (viewT [] x) := viewT_rep (F := F) (F2 := F) (fun _ h => h) (fun {c v} h => by
                cases c with
                | ow g => exact trivial
                | pt g o => exact trivial
                | po g i s o => exact trivial
                | pm g i o => exact trivial
                | mp g => exact trivial
                | fn f hs => cases hs with
                  | nil => exact h
                  | cons g hs => exact trivial
                | _ => exact h) hx2
              exact .inl ⟨_, rfl, hK _ w' F v hk ⟨iN.os, iN.tape, iN.output, iN.size, fun k hk => iN.old k hk noU, fun _ h => h, fun _ h => .inl h⟩ (RepT.nil hx3)⟩
            · cases hk
          · cases h
      · cases h
    · cases h
  · cases h
end
end Go.Proofs.YtcpimjekllkbkaaGreatDoor.E
namespace Go.Proofs.YtcpimjekllkbkaaGreatDoor.E
open Go.RowKit
/-! sorted temporaries -/
def sortedB : List (Nat × T) → Bool
  | [] => true
  | (i, _) :: r => (match r with
    | [] => true
    | (j, _) :: _ => Nat.blt i j) && sortedB r
def fnd : List (Nat × T) → Nat → Option T
  | [], _ => none
  | (j, x) :: r, i => bif Nat.beq j i then some x else fnd r i
theorem look_fnd : ∀ (l : List (Nat × T)) (i : Nat), look l i = (fnd l i).getD unT
  | [], _ => rfl
  | (j, x) :: r, i => by simp only [look, fnd, look_fnd r i]; cases Nat.beq j i <;> rfl
def SortedT (l : List (Nat × T)) : Prop := l.Pairwise fun a b => a.1 < b.1
theorem sortedB_spec : ∀ {l : List (Nat × T)}, sortedB l = true → SortedT l
  | [], _ => List.Pairwise.nil
  | (i, x) :: r, h => by
    simp only [sortedB, Bool.and_eq_true] at h
    have ih := sortedB_spec h.2
    refine List.Pairwise.cons (fun p hp => ?_) ih
    cases r with
    | nil => cases hp
    | cons q r =>
      have h1 : i < q.1 := Nat.le_of_ble_eq_true h.1
      rcases List.mem_cons.1 hp with rfl | hp
      · exact h1
      · exact Nat.lt_trans h1 (List.rel_of_pairwise_cons ih hp)
theorem fnd_none {l : List (Nat × T)} {i : Nat} (h : ∀ p ∈ l, i < p.1) : fnd l i = none := by
  induction l with
  | nil => rfl
  | cons p r ih =>
    obtain ⟨j, x⟩ := p
    have h1 : i < j := h (j, x) (by simp)
    have : Nat.beq j i = false := by
      cases e : Nat.beq j i
      · rfl
      · have := Nat.eq_of_beq_eq_true e; omega
    simp only [fnd, this, cond_false]
    exact ih fun p hp => h p (List.mem_cons_of_mem _ hp)
theorem sorted_ext : ∀ {l l' : List (Nat × T)}, SortedT l → SortedT l' → (∀ i, fnd l i = fnd l' i) → l = l'
  | [], [], _, _, _ => rfl
  | [], (j, x) :: r, _, _, h => by have := h j; simp [fnd] at this
  | (j, x) :: r, [], _, _, h => by have := h j; simp [fnd] at this
  | (i, x) :: r, (j, y) :: s, h1, h2, h => by
    have hr : ∀ p ∈ r, i < p.1 := fun p hp => List.rel_of_pairwise_cons h1 hp
    have hs : ∀ p ∈ s, j < p.1 := fun p hp => List.rel_of_pairwise_cons h2 hp
    have hij : i = j := by
      rcases Nat.lt_trichotomy i j with hlt | heq | hgt
      · have e := h i
        rw [fnd_none (l := (j, y) :: s) (fun p hp => by rcases List.mem_cons.1 hp with rfl | hp; exact hlt; exact Nat.lt_trans hlt (hs p hp))] at e
        simp [fnd] at e
      · exact heq
      · have e := h j
        rw [fnd_none (l := (i, x) :: r) (fun p hp => by rcases List.mem_cons.1 hp with rfl | hp; exact hgt; exact Nat.lt_trans hgt (hr p hp))] at e
        simp [fnd] at e
    subst hij
    have hxy : x = y := by have := h i; simpa [fnd] using this
    subst hxy
    congr 1
    refine sorted_ext (List.Pairwise.of_cons h1) (List.Pairwise.of_cons h2) fun q => ?_
    by_cases hq : i = q
    · subst hq; rw [fnd_none hr, fnd_none hs]
    · have e := h q
      have : Nat.beq i q = false := by
        cases e : Nat.beq i q
        · rfl
        · exact absurd (Nat.eq_of_beq_eq_true e) hq
      simpa [fnd, this] using e
theorem del_id {l : List (Nat × T)} {i : Nat} (h : ∀ p ∈ l, p.1 ≠ i) : delT l i = l := by
  unfold delT
  rw [List.filter_eq_self]
  intro p hp
  have := h p hp
  cases e : Nat.beq p.1 i
  · rfl
  · exact absurd (Nat.eq_of_beq_eq_true e) this
theorem fnd_ins : ∀ {l : List (Nat × T)}, SortedT l → ∀ (i : Nat) (x : T) (j : Nat), fnd (insT l i x) j = if i = j then some x else fnd l j
  | [], _, i, x, j => by
    simp only [insT, fnd]
    by_cases h : i = j
    · subst h; simp
    · have : Nat.beq i j = false := by
        cases e : Nat.beq i j
        · rfl
        · exact absurd (Nat.eq_of_beq_eq_true e) h
      simp [this, h]
  | (q, y) :: r, hs, i, x, j => by
    have hr : ∀ p ∈ r, q < p.1 := fun p hp => List.rel_of_pairwise_cons hs hp
    have bne : ∀ {a b : Nat}, a ≠ b → Nat.beq a b = false := fun {a b} h => by
      cases e : Nat.beq a b
      · rfl
      · exact absurd (Nat.eq_of_beq_eq_true e) h
    simp only [insT]
    cases e : Nat.beq q i with
    | true =>
      have := Nat.eq_of_beq_eq_true e
      subst this
      rw [cond_true, del_id (fun p hp => Nat.ne_of_gt (hr p hp))]
      simp only [fnd]
      by_cases h : q = j
      · subst h; simp
      · simp [bne h, h]
    | false =>
      have hqi : q ≠ i := beq_ne e
      simp only [cond_false]
      cases e2 : Nat.blt i q with
      | true =>
        have hlt : i < q := Nat.le_of_ble_eq_true e2
        rw [cond_true, del_id (fun p hp => by have := hr p hp; omega)]
        simp only [fnd]
        by_cases h : i = j
        · subst h; simp
        · simp [bne h, h]
      | false =>
        simp only [cond_false, fnd]
        by_cases h : q = j
        · subst h
          simp [Ne.symm hqi]
        · simp only [bne h, cond_false]
          exact fnd_ins (List.Pairwise.of_cons hs) i x j
theorem sorted_ins : ∀ {l : List (Nat × T)}, SortedT l → ∀ (i : Nat) (x : T), SortedT (insT l i x)
  | [], _, i, x => by simp [insT, SortedT]
  | (q, y) :: r, hs, i, x => by
    have hr : ∀ p ∈ r, q < p.1 := fun p hp => List.rel_of_pairwise_cons hs hp
    have hs' := List.Pairwise.of_cons hs
    simp only [insT]
    cases e : Nat.beq q i with
    | true =>
      have := Nat.eq_of_beq_eq_true e
      subst this
      rw [cond_true, del_id (fun p hp => Nat.ne_of_gt (hr p hp))]
      exact List.Pairwise.cons hr hs'
    | false =>
      have hqi : q ≠ i := beq_ne e
      simp only [cond_false]
      cases e2 : Nat.blt i q with
      | true =>
        have hlt : i < q := Nat.le_of_ble_eq_true e2
        rw [cond_true, del_id (fun p hp => by have := hr p hp; omega)]
        refine List.Pairwise.cons (fun p hp => ?_) hs
        rcases List.mem_cons.1 hp with rfl | hp
        · exact hlt
        · exact Nat.lt_trans hlt (hr p hp)
      | false =>
        have hge : q < i := by
          rcases Nat.lt_trichotomy q i with h | h | h
          · exact h
          · exact absurd h hqi
          · rw [show Nat.blt i q = true from Nat.ble_eq_true_of_le h] at e2; cases e2
        simp only [cond_false]
        refine List.Pairwise.cons (fun p hp => ?_) (sorted_ins hs' i x)
        rcases mem_ins hp with rfl | ⟨hp, _⟩
        · exact hge
        · exact hr p hp
theorem ins_comm {l : List (Nat × T)} (hs : SortedT l) {i j : Nat} (hij : i ≠ j) (x y : T) : insT (insT l i x) j y = insT (insT l j y) i x := by
  refine sorted_ext (sorted_ins (sorted_ins hs i x) j y) (sorted_ins (sorted_ins hs j y) i x) fun q => ?_
  rw [fnd_ins (sorted_ins hs i x), fnd_ins hs, fnd_ins (sorted_ins hs j y), fnd_ins hs]
  by_cases h1 : i = q <;> by_cases h2 : j = q <;> simp [h1, h2]
  subst h1 h2
  exact absurd rfl hij
theorem ins_same {l : List (Nat × T)} (hs : SortedT l) {i : Nat} {x : T} (h : fnd l i = some x) : insT l i x = l := by
  refine sorted_ext (sorted_ins hs i x) hs fun q => ?_
  rw [fnd_ins hs]
  by_cases hq : i = q
  · subst hq; simp [h]
  · simp [hq]
section
variable {R : Type} {P : Program} {b : Bool}
theorem callM_uni {G : Gt R} (hG : GUni b G) (H : List Blk) (f : Nat) (hf : mayE f = false) (l : List A) : Uni false fun k : T → Option R => callM P G H f l k := by
  unfold callM
  refine Uni.ite ?_ (Uni.ite ?_ Uni.none)
  · exact Uni.bind ((hG f l []).le (b' := false) (by rw [hf]; cases b <;> simp)) (h := fun p k => k (viewT p.2 p.1)) fun p => Uni.ret _
  · exact Uni.bind ((hG f _ []).le (b' := false) (by rw [hf]; cases b <;> simp)) (h := fun p k => if (flatT p.1 && p.2.isEmpty) = true then k (viewT [] p.1) else none) fun p => Uni.ite (Uni.ret _) Uni.none
theorem callR_uni {G : Gt R} (hG : GUni b G) (ρ : Operand → T) (H : List Blk) (f : C) (ags : List Operand) : Uni false fun k : T → Option R => callR P G ρ H f ags k := by
  unfold callR
  cases f with
  | fn f hs =>
    cases argsR ρ ags with
    | none => exact Uni.none
    | some l =>
      simp only []
      cases hf : mayE f with
      | true => exact Uni.none
      | false => exact callM_uni hG H f hf _
  | _ => exact Uni.none
def outR (c : C) : T := .a (.c c)
theorem rdK_uni {G : Gt R} (hG : GUni b G) (o : Oper) (ρ : Operand → T) (H : List Blk) : Uni false fun k : T → Option R => rdK P G o ρ H k := by
  unfold rdK
  cases o.op with
  | move x => exact Uni.ret (ρ x)
  | assign x => exact Uni.ret (ρ x)
  | pick c a b =>
    simp only []
    cases ρ c with
    | tu => exact Uni.none
    | a x => cases x with
      | ag => exact Uni.none
      | c y => cases y <;> first | exact Uni.none | exact Uni.of0 (fun k => pickK_nat k)
  | build t ps =>
    simp only []
    cases placeOf P t with
    | none => exact Uni.none
    | some q => simp only []; cases fillR q.2 ρ q.1 ps.toList with
      | none => exact Uni.none
      | some cl => exact Uni.ret _
  | buildSlice t n ps =>
    simp only []
    cases elemTy P t with
    | none => exact Uni.none
    | some q =>
      simp only []
      refine Uni.ite ?_ Uni.none
      cases buildF q.2.1 ρ 0 ps.toList with
      | none => exact Uni.none
      | some l => exact Uni.ret _
  | load t x =>
    simp only []
    cases ocR (ρ x) with
    | none => exact Uni.none
    | some c => exact Uni.of0 (fun k => loadK_nat k)
  | nilCheck x =>
    simp only []
    cases ocR (ρ x) with
    | none => exact Uni.none
    | some c =>
      have gen : Uni false fun k : T → Option R => match isNp c with
        | some false => k (outR c)
        | _ => none := by
        cases isNp c with
        | none => exact Uni.none
        | some b => cases b with
          | true => exact Uni.none
          | false => exact Uni.ret (outR c)
      cases c with
      | fn f hs => exact Uni.ret (outR (.fn f hs))
      | _ => exact gen
  | binOp op t x y yt =>
    simp only []
    exact Uni.of1 (fun k => binAO_nat k) outR
  | unOp op t x =>
    simp only []
    cases ocR (ρ x) with
    | none => exact Uni.none
    | some a => exact Uni.of1 (fun k => unK_nat k) outR
  | convert s d x =>
    simp only []
    cases ocR (ρ x) with
    | none => exact Uni.none
    | some a => exact Uni.of1 (fun k => bytesK_nat k) outR
  | slice t x lo hi mx =>
    cases mx with
    | some _ => exact Uni.none
    | none =>
      simp only []
      cases ocR (ρ x) with
      | none => exact Uni.none
      | some c => cases ooR ρ lo with
        | none => exact Uni.none
        | some l => cases ooR ρ hi with
          | none => exact Uni.none
          | some h => exact Uni.of1 (fun k => sliceK_nat k) outR
  | fieldAddr s x f =>
    simp only []
    cases ocR (ρ x) with
    | none => exact Uni.none
    | some a => exact Uni.of1 (fun k => fieldAddrK_nat k) outR
  | field s x f =>
    simp only []
    cases ρ x with
    | tu => exact Uni.none
    | a y => exact Uni.of0 (fun k => fieldK_nat k)
  | indexAddr t x ix =>
    simp only []
    cases ocR (ρ x) with
    | none => exact Uni.none
    | some a => cases ocR (ρ ix) with
      | none => exact Uni.none
      | some b => exact Uni.of1 (fun k => indexAddrK_nat k) outR
  | index t x ix =>
    simp only []
    cases ρ x with
    | tu => exact Uni.none
    | a y => cases ocR (ρ ix) with
      | none => exact Uni.none
      | some b => exact Uni.of1 (fun k => indexK_nat k) outR
  | extract x i => exact Uni.of0 (fun k => extractK_nat k)
  | lookup t x ix ok =>
    simp only []
    cases ocR (ρ x) with
    | none => exact Uni.none
    | some a => cases ocR (ρ ix) with
      | none => exact Uni.none
      | some b => exact Uni.of0 (fun k => lookupK_nat k)
  | makeFunc fn first caps => exact Uni.of0 (fun k => makeFuncK_nat k)
  | call c =>
    obtain ⟨callee, args, argTypes⟩ := c
    cases callee with
    | value f =>
      simp only []
      cases ocR (ρ f) with
      | none => exact Uni.none
      | some y => exact callR_uni hG _ _ _ _
    | invoke r m => exact Uni.none
    | builtin b =>
      cases b with
      | len =>
        simp only []
        match args.toList, argTypes.toList with
        | [x], [t] =>
          simp only []
          cases ocR (ρ x) with
          | none => exact Uni.none
          | some y => exact Uni.of1 (fun k => lenK_nat k) outR
        | [], _ => exact Uni.none
        | _ :: _ :: _, _ => exact Uni.none
        | [_], [] => exact Uni.none
        | [_], _ :: _ :: _ => exact Uni.none
      | min =>
        simp only []
        match args.toList with
        | [x, y] =>
          simp only []
          cases ocR (ρ x) with
          | none => exact Uni.none
          | some p => cases ocR (ρ y) with
            | none => exact Uni.none
            | some q => exact Uni.of1 (fun k => mmK_nat k) outR
        | [] => exact Uni.none
        | [_] => exact Uni.none
        | _ :: _ :: _ :: _ => exact Uni.none
      | max =>
        simp only []
        match args.toList with
        | [x, y] =>
          simp only []
          cases ocR (ρ x) with
          | none => exact Uni.none
          | some p => cases ocR (ρ y) with
            | none => exact Uni.none
            | some q => exact Uni.of1 (fun k => mmK_nat k) outR
        | [] => exact Uni.none
        | [_] => exact Uni.none
        | _ :: _ :: _ :: _ => exact Uni.none
      | _ => exact Uni.none
  | _ => exact Uni.none
theorem fillR_congr {place : Nat → Option (Nat × Nat)} {ρ ρ' : Operand → T} : ∀ {ps : List (Nat × Operand)} {cells : List C}, (∀ x ∈ ps.map (·.2), ρ x = ρ' x) → fillR place ρ cells ps = fillR place ρ' cells ps
  | [], _, _ => rfl
  | (i, x) :: ps, cells, h => by
    have h1 := h x (by simp)
    have h2 : ∀ cells, fillR place ρ cells ps = fillR place ρ' cells ps := fun cells => fillR_congr fun y hy => h y (by simp only [List.map_cons, List.mem_cons]; exact .inr hy)
    simp only [fillR, h1, h2]
theorem buildF_congr {ty : Ty} {ρ ρ' : Operand → T} : ∀ {ps : List (Nat × Operand)} {j : Nat}, (∀ x ∈ ps.map (·.2), ρ x = ρ' x) → buildF ty ρ j ps = buildF ty ρ' j ps
  | [], _, _ => rfl
  | (i, x) :: ps, j, h => by
    have h1 := h x (by simp)
    have h2 : ∀ j, buildF ty ρ j ps = buildF ty ρ' j ps := fun j => buildF_congr fun y hy => h y (by simp only [List.map_cons, List.mem_cons]; exact .inr hy)
    simp only [buildF, h1, h2]
theorem argsR_congr {ρ ρ' : Operand → T} : ∀ {ags : List Operand}, (∀ x ∈ ags, ρ x = ρ' x) → argsR ρ ags = argsR ρ' ags
  | [], _ => rfl
  | x :: ags, h => by
    have h1 := h x (by simp)
    have h2 : argsR ρ ags = argsR ρ' ags := argsR_congr fun y hy => h y (List.mem_cons_of_mem _ hy)
    simp only [argsR, h1, h2]
theorem capsK_congr {ρ ρ' : Operand → T} : ∀ {l : List Operand}, (∀ x ∈ l, ρ x = ρ' x) → capsK ρ l = capsK ρ' l
  | [], _ => rfl
  | x :: l, h => by
    simp only [capsK]
    rw [h x (by simp), capsK_congr fun y hy => h y (List.mem_cons_of_mem _ hy)]
theorem rdK_congr {G : Gt R} {o : Oper} {ρ ρ' : Operand → T} {H : List Blk} (h : ∀ x ∈ o.op.operands, ρ x = ρ' x) (k : T → Option R) : rdK P G o ρ H k = rdK P G o ρ' H k := by
  unfold rdK
  cases hop : o.op <;> simp only [hop, Op.operands] at h <;> try simp only []
  case build t ps =>
    have : ∀ cells place, fillR place ρ cells ps.toList = fillR place ρ' cells ps.toList := fun cells place => fillR_congr fun x hx => h x (by simpa using hx)
    simp only [this]
  case buildSlice t n ps =>
    have : ∀ ty, buildF ty ρ 0 ps.toList = buildF ty ρ' 0 ps.toList := fun ty => buildF_congr fun x hx => h x (by simpa using hx)
    simp only [this]
  case makeFunc fn first caps =>
    have : capsK ρ caps.toList = capsK ρ' caps.toList := capsK_congr fun x hx => h x (by simp; exact .inr (by simpa using hx))
    simp only [this]
  case slice t x lo hi mx =>
    cases mx with
    | some _ => rfl
    | none =>
      have h1 : ρ x = ρ' x := h x (by simp)
      have h2 : ooR ρ lo = ooR ρ' lo := by
        cases lo with
        | none => rfl
        | some y => simp only [ooR, h y (by simp)]
      have h3 : ooR ρ hi = ooR ρ' hi := by
        cases hi with
        | none => rfl
        | some y => simp only [ooR, h y (by simp)]
      simp only [h1, h2, h3]
  case call c =>
    obtain ⟨callee, args, argTypes⟩ := c
    cases callee with
    | value f =>
      have h1 : ρ f = ρ' f := h f (by simp [Call.operands])
      have h2 : argsR ρ args.toList = argsR ρ' args.toList := argsR_congr fun x hx => h x (by simp [Call.operands]; exact .inr (by simpa using hx))
      simp only [h1, callR, h2]
    | invoke r m => rfl
    | builtin b =>
      cases b <;> first | rfl | skip
      case len =>
        simp only []
        split
        · rename_i x t hx ht
          have : ρ x = ρ' x := h x (by simp only [Call.operands]; have : x ∈ args.toList := by rw [hx]; simp
                                       simpa using this)
          simp only [this]
        · rfl
      all_goals
        simp only []
        split
        · rename_i x y hx
          have e1 : ρ x = ρ' x := h x (by simp only [Call.operands]; have : x ∈ args.toList := by rw [hx]; simp
                                          simpa using this)
          have e2 : ρ y = ρ' y := h y (by simp only [Call.operands]; have : y ∈ args.toList := by rw [hx]; simp
                                          simpa using this)
          simp only [e1, e2]
        · rfl
  all_goals first | rfl | (simp_all; done) | skip
end
end Go.Proofs.YtcpimjekllkbkaaGreatDoor.E
namespace Go.Proofs.YtcpimjekllkbkaaGreatDoor.E
open Go.RowKit
section
variable {R : Type} {pb : Bool}
def depsO (o : Oper) : List Nat := (o.after.toList.filter fun e => Region.binds .any e).map (·.on)
/-- of each operation: those that must go ahead of it, as numbers' bits -/
def befs : List Oper → List Nat → List Nat
  | [], acc => acc
  | o :: r, acc => befs r (acc ++ [(depsO o).foldl (fun m d => m ||| (2 ^ d ||| acc.getD d 0)) 0])
/-- j goes ahead of i -/
def ahead (ops : Array Oper) (B : List Nat) (i j : Nat) : Bool :=
  Nat.testBit (B.getD i 0) j && (match ops[i]? with
    | some o => (depsO o).any fun d => Nat.beq d j || Nat.testBit (B.getD d 0) j
    | none => false)
/-- the types of slices whose literals are one's own rows, even where the order is free -/
def litTs : List Nat := []
/-- operations that look at temporaries alone -/
def isPu (o : Oper) : Bool :=
  match o.op with
  | .move _ | .assign _ | .pick .. | .build .. | .nilCheck _ | .binOp .. | .unOp .. | .fieldAddr .. | .field .. | .index .. | .extract .. | .makeFunc .. => true
  | .buildSlice t n _ => !(Nat.beq n 0 || memN litTs t)
  | .call c => match c.callee with
    | .builtin .min | .builtin .max => true
    | _ => false
  | _ => false
def isSt (o : Oper) : Bool :=
  match o.op with
  | .store .. => o.dst.isNone
  | _ => false
def isPtrT (P : Program) (t : Nat) : Bool :=
  match P.underlying t with
  | some (.pointer _) => true
  | _ => false
/-- a function's own name -/
def isFc : Operand → Bool
  | .func _ => true
  | _ => false
/-- a call that is handed pointers -/
def isHC (P : Program) (o : Oper) : Bool :=
  match o.op with
  | .call c => match c.callee with
    | .value f => c.argTypes.toList.any (isPtrT P) || !isFc f
    | .builtin .append => true
    | _ => false
  | .buildSlice t n _ => Nat.beq n 0 || memN litTs t
  | .box .. | .alloc _ => true
  | _ => false
def isLd (o : Oper) : Bool :=
  match o.op with
  | .load .. | .indexAddr .. => true
  | .call c => match c.callee with
    | .builtin .len => true
    | _ => false
  | _ => false
/-- an operation that moves things: a handed call, an append, a store -/
def isMv (P : Program) (o : Oper) : Bool := isHC P o || isSt o
def isRk (P : Program) (o : Oper) : Bool := isRd o && !isHC P o
def isRs (P : Program) (o : Oper) : Bool := isRk P o || isSt o || isHC P o
def commO (P : Program) (oi oj : Oper) : Bool := (isRk P oi && isRk P oj) || (isSt oi && isPu oj) || (isPu oi && isSt oj) || (isMv P oi && (isPu oj || isLd oj))
/-- oi does not write what oj looks at -/
def lateO (ops : Array Oper) (oi oj : Oper) : Bool := match oi.dst with
  | some d => !(oj.looksAt ops).contains d
  | none => true
/-- what is looked at when a store is checked -/
def chkSee (ops : Array Oper) (j : Nat) : List Nat := (List.range (j + 1)).flatMap fun q => match ops[q]? with
  | some o => o.looksAt ops ++ o.dst.toList
  | none => []
/-- oi does not write what is looked at when the store oj is checked -/
def seenO (ops : Array Oper) (oi oj : Oper) (j : Nat) : Bool := !isSt oj || (match oi.dst with
  | some d => !(chkSee ops j).contains d
  | none => true)
/-- a box that is made, whatever comes -/
def isAl (o : Oper) : Bool := o.guard.isNone && (match o.op with
  | .alloc _ => true
  | _ => false)
/-- oi does not write what is looked at when oj is checked -/
def seeA (ops : Array Oper) (oi : Oper) (j : Nat) : Bool := match oi.dst with
  | some d => !(chkSee ops j).contains d
  | none => true
def pairOk (P : Program) (ops : Array Oper) (B : List Nat) (i j : Nat) : Bool :=
  ahead ops B i j || (!Nat.testBit (B.getD i 0) j && (match ops[i]?, ops[j]? with
    | some oi, some oj => (ops.toList.take (i + 1)).all (isRs P) && Oper.apart ops oj oi && (commO P oi oj && seenO ops oi oj j || isAl oi && isAl oj && seeA ops oi j)
    | _, _ => false))
def backOk (ops : Array Oper) (i : Nat) : Bool := match ops[i]? with
  | some o => (depsO o).all fun d => Nat.blt d i
  | none => false
def regOk (P : Program) (ops : Array Oper) : Bool :=
  (List.range ops.size).all fun i => backOk ops i && Nat.blt ((befs ops.toList []).getD i 0) (2 ^ i) && (List.range i).all fun j => pairOk P ops (befs ops.toList []) i j
/-- where a box will lie that an operation makes -/
def slotN (i : Nat) : List Blk → Nat → Option Nat
  | [], _ => none
  | .slot j :: r, p => bif Nat.beq j i then some p else slotN i r (p + 1)
  | _ :: r, p => slotN i r (p + 1)
def slotK (P : Program) (t h : Nat) (S : St) (k : T → St → Option R) : Option R :=
  match P.info? t with
  | some i => match i.zero with
    | some z => k (.a (.c (.pt h 0))) ⟨S.n, S.t, S.H.set h (.box false t (z.cells.toList.map constC))⟩
    | none => none
  | none => none
def opD (P : Program) (G : Gt R) (o : Oper) (i : Nat) (S : St) (k : T → St → Option R) : Option R :=
  match o.op with
  | .alloc t => match slotN i S.H 0 with
    | some h => slotK P t h S k
    | none => opK P G o S k
  | _ => opK P G o S k
theorem slotN_at {i h : Nat} : ∀ {H : List Blk} {p : Nat}, slotN i H p = some h → p ≤ h ∧ H[h - p]? = some (.slot i)
  | [], p, e => by cases e
  | B :: r, p, e => by
    have rest : slotN i r (p + 1) = some h → p ≤ h ∧ (B :: r)[h - p]? = some (.slot i) := fun e => by
      obtain ⟨h1, h2⟩ := slotN_at e
      refine ⟨by omega, ?_⟩
      rw [show h - p = h - (p + 1) + 1 by omega]
      simpa using h2
    cases B with
    | slot j =>
      simp only [slotN] at e
      cases hb : Nat.beq j i with
      | true =>
        rw [hb] at e
        simp only [cond_true, Option.some.injEq] at e
        subst e
        rw [Nat.eq_of_beq_eq_true hb]
        exact ⟨Nat.le_refl _, by simp⟩
      | false => rw [hb] at e; exact rest e
    | _ => exact rest e
theorem slotN_set {i j : Nat} (hij : j ≠ i) {B : Blk} (hB : ∀ q, B ≠ .slot q) : ∀ {H : List Blk} {p h : Nat}, H[h]? = some (.slot j) → slotN i (H.set h B) p = slotN i H p
  | [], p, h, e => by simp at e
  | C :: r, p, 0, e => by
    simp only [List.getElem?_cons_zero, Option.some.injEq] at e
    subst e
    have hb : Nat.beq j i = false := by
      cases h : Nat.beq j i with
      | false => rfl
      | true => exact absurd (Nat.eq_of_beq_eq_true h) hij
    cases B with
    | slot q => exact absurd rfl (hB q)
    | _ => simp only [List.set_cons_zero, slotN, hb, cond_false]
  | C :: r, p, h + 1, e => by
    have ih := slotN_set hij hB (H := r) (p := p + 1) (h := h) (by simpa using e)
    cases C with
    | slot q => simp only [List.set_cons_succ, slotN, ih]
    | _ => simp only [List.set_cons_succ, slotN, ih]
theorem opD_of {P : Program} {G : Gt R} {o : Oper} {i : Nat} {S : St} {k : T → St → Option R} (h : ∀ t, o.op ≠ .alloc t) : opD P G o i S k = opK P G o S k := by
  unfold opD
  cases hop : o.op with
  | alloc t => exact absurd hop (h t)
  | _ => rfl
def oneD (P : Program) (G : Gt R) (ops : Array Oper) (i : Nat) (S : St) (k : St → Option R) : Option R :=
  match ops[i]? with
  | some o => guardK ops o S (fun S => bif isRk P o then rdK P G o (ev S.t) S.H fun x => k (putT S o.dst x) else opD P G o i S fun x S' => k (putT S' o.dst x)) (fun S => k (putT S o.dst (.tu [])))
  | none => none
def frT (sel : List Nat) (z : T) : Bool := z.hs.all fun h => !memN sel h
/-- what such a call is handed -/
def hcSel (P : Program) (o : Oper) (S : St) : Option (List Nat) :=
  match o.op with
  | .call c => match c.callee with
    | .value f => match oc S.t f, argsK S.t c.args.toList with
      | some (.fn f hs), some l => if (!noH (l ++ capA hs) && (l ++ capA hs).all onlyA && lendOk P f) = true then some [] else some (closeK (solidAs (l ++ capA hs) S.H).2 1000 (hsAs (solidAs (l ++ capA hs) S.H).1) [])
      | _, _ => none
    | .builtin .append => match c.args.toList with
      | [x, _] => match oc S.t x with
        | some (.ow h) => some [h]
        | some .ns => some [S.H.length]
        | _ => none
      | _ => none
    | _ => none
  | .store _ x _ => match oc S.t x with
    | some (.pt h _) => some [h]
    | some (.po h _ _ _) => some [h]
    | some (.pm h _ _) => some [h]
    | _ => none
  | .buildSlice .. => some []
  | .box .. => some []
  | .alloc _ => some []
  | _ => none
/-- a temporary that is copied -/
def isMoveO (o : Oper) : Bool := o.guard.isNone && (match o.op with
  | .move (.tmp _) => true
  | _ => false)
/-- an operation that the call's handles have nothing to do with -/
def freeO (ops : Array Oper) (sel : List Nat) (S : St) (o : Oper) : Bool :=
  isMoveO o || (o.looksAt ops).all (fun u => frT sel (look S.t u)) && (match o.dst with
    | some d => frT sel (look S.t d)
    | none => true) && (match o.op with
    | .load _ x => match oc S.t x with
      | some (.pt _ _) => true
      | some (.pe _ _ _) => true
      | _ => false
    | .indexAddr _ x _ => match oc S.t x with
      | some (.fz _ _) => true
      | _ => false
    | .call c => match c.callee with
      | .builtin .len => (match c.args.toList with
        | [x] => match oc S.t x with
          | some (.fz _ _) => true
          | some (.s _) => true
          | _ => false
        | _ => false)
      | _ => true
    | _ => true)
def chkJ (ops : Array Oper) (i : Nat) (oi : Oper) (S : St) (sel : List Nat) (j : Nat) (oj : Oper) : Bool :=
  freeO ops sel S oj && lateO ops oi oj && (List.range i).all fun j' => Nat.blt j' j || (match ops[j']? with
    | some oj' => lateO ops oj' oj && (Nat.beq j' j || !(match oj.dst with
      | some d => oj'.dst == some d
      | none => false))
    | none => true)
def chkH (P : Program) (ops : Array Oper) (B : List Nat) (i : Nat) (S : St) : Bool :=
  match ops[i]? with
  | some oi => bif isMv P oi then (List.range i).all fun j => ahead ops B i j || (match ops[j]? with
      | some oj => (isSt oi && isPu oj) || (match hcSel P oi S with
        | some sel => chkJ ops i oi S sel j oj
        | none => false)
      | none => true)
    else true
  | none => true
/-- boxes that are made in any order have their places -/
def alN (ops : Array Oper) (B : List Nat) (j i : Nat) : Bool := Nat.blt j i && !ahead ops B i j && (match ops[i]? with
  | some o => isAl o
  | none => false)
def chkA (ops : Array Oper) (B : List Nat) (j : Nat) (l : List Nat) (S : St) : Bool := match ops[j]? with
  | some o => !isAl o || l.all fun i => !alN ops B j i || (slotN i S.H 0).isSome && (slotN j S.H 0).isSome
  | none => true
def oneC (P : Program) (G : Gt R) (ops : Array Oper) (B : List Nat) (i : Nat) (S : St) (k : St → Option R) : Option R :=
  bif chkH P ops B i S then oneD P G ops i S k else none
def seqC (P : Program) (G : Gt R) (ops : Array Oper) (B : List Nat) : List Nat → St → (St → Option R) → Option R
  | [], S, k => k S
  | i :: l, S, k => bif chkA ops B i l S then oneC P G ops B i S fun S' => seqC P G ops B l S' k else none
/-- a drawn region -/
def allN (ops : Array Oper) (B : List Nat) : List Nat := (List.range ops.size).filter fun j => (List.range ops.size).any fun i => (match ops[j]? with
  | some o => isAl o
  | none => false) && (alN ops B j i || alN ops B i j)
def preS (ops : Array Oper) (B : List Nat) (S : St) : St := ⟨S.n, S.t, S.H ++ (allN ops B).map .slot⟩
def drawK (P : Program) (G : Gt R) (ops : Array Oper) (S : St) (k : St → Option R) : Option R :=
  bif regOk P ops && sortedB S.t then seqC P G ops (befs ops.toList []) (List.range ops.size) (preS ops (befs ops.toList []) S) k else none
variable {P : Program} {w0 w w' : World} {U : U0} {F F' : Nat → Prop} {hv : List Value} {H : List Blk} {r : R}
theorem look_ins {l : List (Nat × T)} (hs : SortedT l) (i : Nat) (x : T) (j : Nat) : look (insT l i x) j = if i = j then x else look l j := by
  rw [look_fnd, fnd_ins hs, look_fnd]
  by_cases h : i = j <;> simp [h]
theorem look_put {S : St} (hs : SortedT S.t) {d : Option Tmp} {x : T} {j : Nat} (h : d ≠ some j) : look (putT S d x).t j = look S.t j := by
  cases d with
  | none => rfl
  | some d =>
    simp only [putT]
    cases Nat.blt d S.n with
    | false => rfl
    | true => simp only [cond_true]; rw [look_ins hs, if_neg (fun e => h (by rw [e]))]
theorem put_H (S : St) (d : Option Tmp) (x : T) : (putT S d x).H = S.H ∧ (putT S d x).n = S.n := by
  cases d with
  | none => exact ⟨rfl, rfl⟩
  | some d => simp only [putT]; cases Nat.blt d S.n <;> exact ⟨rfl, rfl⟩
theorem put_sorted {S : St} (hs : SortedT S.t) (d : Option Tmp) (x : T) : SortedT (putT S d x).t := by
  cases d with
  | none => exact hs
  | some d => simp only [putT]; cases Nat.blt d S.n with
    | false => exact hs
    | true => exact sorted_ins hs d x
theorem put_comm {S : St} (hs : SortedT S.t) {d e : Option Tmp} (h : ∀ i, d = some i → e ≠ some i) (x y : T) : putT (putT S d x) e y = putT (putT S e y) d x := by
  cases d with
  | none => rfl
  | some d =>
    cases e with
    | none => rfl
    | some e =>
      have hne : d ≠ e := fun he => h d rfl (by rw [he])
      simp only [putT]
      cases h1 : Nat.blt d S.n <;> cases h2 : Nat.blt e S.n <;> simp only [cond_true, cond_false, h1, h2]
      rw [ins_comm hs hne]
theorem know_same {S : St} (hs : SortedT S.t) {d : Nat} {x : Bool} (h : look S.t d = .a (.c (.b x))) : knowT S d x = S := by
  unfold knowT
  rw [look_fnd] at h
  have : fnd S.t d = some (.a (.c (.b x))) := by
    cases e : fnd S.t d with
    | none => rw [e] at h; cases h
    | some y => rw [e] at h; simpa using h
  rw [ins_same hs this]
/-- does the guard let it go? -/
def gdV (ops : Array Oper) (o : Oper) (S : St) : Option Bool :=
  match o.guard with
  | none => some true
  | some (j, want) => match (ops[j]?).bind (·.dst) with
    | some d => match look S.t d with
      | .tu [] => some false
      | .a (.c (.b x)) => some (x == want)
      | _ => none
    | none => none
theorem guard_gd {ops : Array Oper} {o : Oper} {S : St} (hs : SortedT S.t) (yes no : St → Option R) : guardK ops o S yes no = match gdV ops o S with
    | some true => yes S
    | some false => no S
    | none => none := by
  unfold guardK gdV
  cases o.guard with
  | none => rfl
  | some q =>
    obtain ⟨j, want⟩ := q
    simp only []
    cases (ops[j]?).bind (·.dst) with
    | none => rfl
    | some d =>
      simp only []
      cases hl : look S.t d with
      | tu l => cases l <;> rfl
      | a x => cases x with
        | ag => rfl
        | c y =>
          cases y with
          | b x =>
            have := know_same hs hl
            cases x <;> cases want <;> simp [this]
          | _ => rfl
/-- what a reading operation puts -/
theorem one_rd {G : Gt R} (hG : GUni pb G) {ops : Array Oper} {i : Nat} {o : Oper} (ho : ops[i]? = some o) (hr : isRk P o = true) : ∃ V : St → Option T, (∀ S k, SortedT S.t → oneD P G ops i S k = (V S).bind fun x => k (putT S o.dst x)) ∧
    ∀ S S', SortedT S.t → SortedT S'.t → S'.H = S.H → (∀ t ∈ o.looksAt ops, look S'.t t = look S.t t) → V S' = V S := by
  have hv : ∀ ρ H, ∃ v : Option T, ∀ k : T → Option R, rdK P G o ρ H k = v.bind k := fun ρ H => (rdK_uni hG o ρ H).opt
  refine ⟨fun S => match gdV ops o S with
    | some true => (hv (ev S.t) S.H).choose
    | some false => some (.tu [])
    | none => none, fun S k hs => ?_, fun S S' hs hs' hH hl => ?_⟩
  · unfold oneD
    rw [ho]
    simp only [hr, cond_true]
    rw [guard_gd hs]
    cases gdV ops o S with
    | none => rfl
    | some b => cases b with
      | false => rfl
      | true => exact (hv (ev S.t) S.H).choose_spec _
  · have hg : gdV ops o S' = gdV ops o S := by
      unfold gdV
      cases hgd : o.guard with
      | none => rfl
      | some q =>
        obtain ⟨j, want⟩ := q
        simp only []
        cases hd : (ops[j]?).bind (·.dst) with
        | none => rfl
        | some d =>
          have : look S'.t d = look S.t d := hl d (by simp [Oper.looksAt, hgd, hd])
          simp only [this]
    have hρ : ∀ x ∈ o.op.operands, ev S'.t x = ev S.t x := by
      intro x hx
      cases x with
      | tmp t => exact hl t (List.mem_append_left _ (List.mem_filterMap.2 ⟨.tmp t, by simpa using hx, rfl⟩))
      | _ => rfl
    have hch : (hv (ev S'.t) S'.H).choose = (hv (ev S.t) S.H).choose := by
      have : (fun k : T → Option R => rdK P G o (ev S'.t) S'.H k) = fun k => rdK P G o (ev S.t) S.H k := by
        funext k
        rw [hH]
        exact rdK_congr hρ k
      have key : ∀ (g g' : (T → Option R) → Option R) (e : g = g') (p : ∃ v : Option T, ∀ k, g k = v.bind k) (p' : ∃ v : Option T, ∀ k, g' k = v.bind k), p.choose = p'.choose := by
        intro g g' e p p'
        subst e
        rfl
      exact key _ _ this _ _
    simp only [hg, hch]
theorem swap_rd {G : Gt R} (hG : GUni pb G) {ops : Array Oper} {i j : Nat} {oi oj : Oper} (hi : ops[i]? = some oi) (hj : ops[j]? = some oj) (ri : isRk P oi = true) (rj : isRk P oj = true) (hap : Oper.apart ops oj oi = true) {S : St} (hs : SortedT S.t) (k : St → Option R) :
    oneD P G ops j S (fun S1 => oneD P G ops i S1 k) = oneD P G ops i S fun S1 => oneD P G ops j S1 k := by
  obtain ⟨h1, h2, h3⟩ := Oper.apart_spec hap
  obtain ⟨Vi, ei, ci⟩ := one_rd (P := P) hG hi ri
  obtain ⟨Vj, ej, cj⟩ := one_rd (P := P) hG hj rj
  rw [ej S _ hs, ei S _ hs]
  have a1 : ∀ x, Vi (putT S oj.dst x) = Vi S := fun x => ci S _ hs (put_sorted hs _ _) (put_H S _ _).1 fun t ht => look_put hs fun e => h1 t e ht
  have a2 : ∀ x, Vj (putT S oi.dst x) = Vj S := fun x => cj S _ hs (put_sorted hs _ _) (put_H S _ _).1 fun t ht => look_put hs fun e => h3 t e ht
  have b1 : ∀ x, oneD P G ops i (putT S oj.dst x) k = (Vi S).bind fun y => k (putT (putT S oj.dst x) oi.dst y) := fun x => by rw [ei _ _ (put_sorted hs _ _), a1]
  have b2 : ∀ x, oneD P G ops j (putT S oi.dst x) k = (Vj S).bind fun y => k (putT (putT S oi.dst x) oj.dst y) := fun x => by rw [ej _ _ (put_sorted hs _ _), a2]
  simp only [b1, b2]
  cases Vj S with
  | none => cases Vi S <;> rfl
  | some x => cases Vi S with
    | none => rfl
    | some y => simp only [Option.bind_some]; rw [put_comm hs (fun q hq => h2 q hq) x y]
theorem pu_rd {o : Oper} (h : isPu o = true) : isRk P o = true := by
  unfold isPu at h
  unfold isRk isRd isHC
  cases hop : o.op with
  | call c =>
    obtain ⟨callee, args, argTypes⟩ := c
    cases callee with
    | builtin b => cases b <;> first | rfl | (rw [hop] at h; cases h)
    | _ => first | rfl | (rw [hop] at h; cases h)
  | _ => rw [hop] at h <;> first | rfl | (cases h; done) | (simpa using h)
theorem rdK_pu {G : Gt R} {o : Oper} (h : isPu o = true) (ρ : Operand → T) (H H' : List Blk) (k : T → Option R) : rdK P G o ρ H' k = rdK P G o ρ H k := by
  unfold isPu at h
  unfold rdK
  cases hop : o.op with
  | call c =>
    obtain ⟨callee, args, argTypes⟩ := c
    cases callee with
    | builtin b => cases b <;> first | rfl | (rw [hop] at h; cases h)
    | _ => first | rfl | (rw [hop] at h; cases h)
  | _ => rw [hop] at h <;> first | rfl | cases h
theorem storeK_bind (t : Nat) (x : C) (cl : List C) (S : St) (k : St → Option R) : storeK P t x cl S k = ((storeK P t x cl S some).map (·.H)).bind fun H => k ⟨S.n, S.t, H⟩ := by
  unfold storeK
  cases P.info? t with
  | none => rfl
  | some i =>
    simp only []
    split
    · cases x with
      | pt h o =>
        simp only []
        split <;> first | rfl | (split <;> rfl)
      | po h i sz o =>
        simp only []
        split
        · split
          · split
            · split <;> rfl
            · rfl
          · rfl
        · rfl
      | pm h i o =>
        simp only []
        split
        · split
          · split
            · split <;> rfl
            · rfl
          · rfl
        · rfl
      | _ => rfl
    · rfl
/-- what a store makes of the blocks -/
theorem one_st {G : Gt R} {ops : Array Oper} {i : Nat} {o : Oper} (ho : ops[i]? = some o) (hr : isSt o = true) : ∃ V : St → Option (List Blk), (∀ S k, SortedT S.t → oneD P G ops i S k = (V S).bind fun H => k ⟨S.n, S.t, H⟩) ∧
    ∀ S S', S'.H = S.H → (∀ t ∈ o.looksAt ops, look S'.t t = look S.t t) → V S' = V S := by
  unfold isSt at hr
  cases hop : o.op with
  | store t x y =>
    rw [hop] at hr
    simp only at hr
    have hd : o.dst = none := by simpa using hr
    have hrd : isRk P o = false := by unfold isRk isRd; rw [hop]; rfl
    have hL : ∀ (t : Nat) (x : C) (cl : List C) (n n' : Nat) (ts ts' : List (Nat × T)) (H : List Blk), (storeK P t x cl ⟨n, ts, H⟩ some).map (·.H) = (storeK P t x cl ⟨n', ts', H⟩ some).map (·.H) := by
      intro t x cl n n' ts ts' H
      unfold storeK
      cases P.info? t with
      | none => rfl
      | some i =>
        simp only []
        split
        · cases x with
          | pt h o =>
            simp only []
            split <;> first | rfl | (split <;> rfl)
          | po h i sz o =>
            simp only []
            split
            · split
              · split
                · split <;> rfl
                · rfl
              · rfl
            · rfl
          | pm h i o =>
            simp only []
            split
            · split
              · split
                · split <;> rfl
                · rfl
              · rfl
            · rfl
          | _ => rfl
        · rfl
    have hT := @storeK_bind R P
    let V1 : St → Option (List Blk) := fun S => match oc S.t x, ev S.t y with
      | some c, .a a => match cellsA a with
        | some cl => (storeK P t c cl S some).map (·.H)
        | none => none
      | _, _ => none
    refine ⟨fun S => match gdV ops o S with
      | some true => V1 S
      | some false => some S.H
      | none => none, fun S k hs => ?_, fun S S' hH hl => ?_⟩
    · unfold oneD
      rw [ho]
      simp only [hrd, cond_false]
      rw [guard_gd hs, hd]
      cases gdV ops o S with
      | none => rfl
      | some b => cases b with
        | false => rfl
        | true =>
          show opD P G o i S (fun x S' => k (putT S' none x)) = _
          rw [opD_of (fun t e => by rw [hop] at e; cases e)]
          unfold opK
          rw [hop]
          simp only [V1]
          cases oc S.t x with
          | none => rfl
          | some c =>
            cases ev S.t y with
            | tu l => rfl
            | a z =>
              simp only []
              cases cellsA z with
              | none => rfl
              | some cl => exact hT t c cl S _
    · have hg : gdV ops o S' = gdV ops o S := by
        unfold gdV
        cases hgd : o.guard with
        | none => rfl
        | some q =>
          obtain ⟨j, want⟩ := q
          simp only []
          cases hd : (ops[j]?).bind (·.dst) with
          | none => rfl
          | some d =>
            have : look S'.t d = look S.t d := hl d (by simp [Oper.looksAt, hgd, hd])
            simp only [this]
      have hρ : ∀ z ∈ o.op.operands, ev S'.t z = ev S.t z := by
        intro z hz
        cases z with
        | tmp t => exact hl t (List.mem_append_left _ (List.mem_filterMap.2 ⟨.tmp t, by simpa using hz, rfl⟩))
        | _ => rfl
      rw [hop] at hρ
      have hx := hρ x (by simp [Op.operands])
      have hy := hρ y (by simp [Op.operands])
      have hV : V1 S' = V1 S := by
        simp only [V1]
        have hxo : oc S'.t x = oc S.t x := by unfold oc; rw [hx]
        rw [hxo, hy]
        cases oc S.t x with
        | none => rfl
        | some c =>
          cases ev S.t y with
          | tu l => rfl
          | a z =>
            simp only []
            cases cellsA z with
            | none => rfl
            | some cl =>
              have := hL t c cl S'.n S.n S'.t S.t S.H
              rw [show S' = ⟨S'.n, S'.t, S.H⟩ from by rw [← hH]]
              exact this
      simp only [hg, hV, hH]
  | _ => rw [hop] at hr; cases hr
theorem one_pu {G : Gt R} (hG : GUni pb G) {ops : Array Oper} {i : Nat} {o : Oper} (ho : ops[i]? = some o) (hr : isPu o = true) : ∃ V : List (Nat × T) → Option T, (∀ S k, SortedT S.t → oneD P G ops i S k = (V S.t).bind fun x => k (putT S o.dst x)) ∧
    ∀ t t', (∀ u ∈ o.looksAt ops, look t' u = look t u) → V t' = V t := by
  have hv : ∀ ρ, ∃ v : Option T, ∀ k : T → Option R, rdK P G o ρ [] k = v.bind k := fun ρ => (rdK_uni hG o ρ []).opt
  refine ⟨fun t => match gdV ops o ⟨0, t, []⟩ with
    | some true => (hv (ev t)).choose
    | some false => some (.tu [])
    | none => none, fun S k hs => ?_, fun t t' hl => ?_⟩
  · unfold oneD
    rw [ho]
    simp only [pu_rd hr, cond_true]
    rw [guard_gd hs]
    have : gdV ops o S = gdV ops o ⟨0, S.t, []⟩ := rfl
    rw [this]
    cases gdV ops o ⟨0, S.t, []⟩ with
    | none => rfl
    | some b => cases b with
      | false => rfl
      | true => simp only []; rw [rdK_pu hr (ev S.t) [] S.H]; exact (hv (ev S.t)).choose_spec _
  · have hg : gdV ops o ⟨0, t', []⟩ = gdV ops o ⟨0, t, []⟩ := by
      unfold gdV
      cases hgd : o.guard with
      | none => rfl
      | some q =>
        obtain ⟨j, want⟩ := q
        simp only []
        cases hd : (ops[j]?).bind (·.dst) with
        | none => rfl
        | some d =>
          have : look t' d = look t d := hl d (by simp [Oper.looksAt, hgd, hd])
          simp only [this]
    have hρ : ∀ x ∈ o.op.operands, ev t' x = ev t x := by
      intro x hx
      cases x with
      | tmp u => exact hl u (List.mem_append_left _ (List.mem_filterMap.2 ⟨.tmp u, by simpa using hx, rfl⟩))
      | _ => rfl
    have hch : (hv (ev t')).choose = (hv (ev t)).choose := by
      have : (fun k : T → Option R => rdK P G o (ev t') [] k) = fun k => rdK P G o (ev t) [] k := by
        funext k
        exact rdK_congr hρ k
      have key : ∀ (g g' : (T → Option R) → Option R) (e : g = g') (p : ∃ v : Option T, ∀ k, g k = v.bind k) (p' : ∃ v : Option T, ∀ k, g' k = v.bind k), p.choose = p'.choose := by
        intro g g' e p p'
        subst e
        rfl
      exact key _ _ this _ _
    simp only [hg, hch]
/-- a store and an operation that looks at temporaries alone -/
theorem swap_st {G : Gt R} (hG : GUni pb G) {ops : Array Oper} {i j : Nat} {oi oj : Oper} (hi : ops[i]? = some oi) (hj : ops[j]? = some oj) (ri : isPu oi = true) (rj : isSt oj = true)
    (h1 : ∀ t ∈ oj.looksAt ops, oi.dst ≠ some t) {S : St} (hs : SortedT S.t) (k : St → Option R) :
    oneD P G ops j S (fun S1 => oneD P G ops i S1 k) = oneD P G ops i S fun S1 => oneD P G ops j S1 k := by
  obtain ⟨Vi, ei, ci⟩ := one_pu (P := P) hG hi ri
  obtain ⟨Vj, ej, cj⟩ := one_st (P := P) (G := G) hj rj
  rw [ej S _ hs, ei S _ hs]
  have b1 : ∀ H, oneD P G ops i ⟨S.n, S.t, H⟩ k = (Vi S.t).bind fun x => k (putT ⟨S.n, S.t, H⟩ oi.dst x) := fun H => ei ⟨S.n, S.t, H⟩ k hs
  have a2 : ∀ x, Vj (putT S oi.dst x) = Vj S := fun x => cj S _ (put_H S _ _).1 fun t ht => look_put hs (h1 t ht)
  have b2 : ∀ x, oneD P G ops j (putT S oi.dst x) k = (Vj S).bind fun H => k ⟨(putT S oi.dst x).n, (putT S oi.dst x).t, H⟩ := fun x => by rw [ej _ _ (put_sorted hs _ _), a2]
  have e : ∀ x H, (⟨(putT S oi.dst x).n, (putT S oi.dst x).t, H⟩ : St) = putT ⟨S.n, S.t, H⟩ oi.dst x := by
    intro x H
    cases oi.dst with
    | none => rfl
    | some d => simp only [putT]; cases Nat.blt d S.n <;> rfl
  simp only [b1, b2, e]
  cases Vj S with
  | none => cases Vi S.t <;> rfl
  | some H => cases Vi S.t with
    | none => rfl
    | some x => rfl
theorem ld_rk {o : Oper} (h : isLd o = true) : isRk P o = true := by
  unfold isLd at h
  unfold isRk isRd isHC
  cases hop : o.op with
  | call c =>
    obtain ⟨callee, args, argTypes⟩ := c
    cases callee with
    | builtin b => cases b <;> first | rfl | (rw [hop] at h; cases h)
    | _ => first | rfl | (rw [hop] at h; cases h)
  | _ => rw [hop] at h <;> first | rfl | cases h
theorem hc_not {o : Oper} (h : isRk P o = true ∨ isSt o = true) : isHC P o = false := by
  rcases h with h | h
  · unfold isRk at h
    simp only [Bool.and_eq_true, Bool.not_eq_true'] at h
    exact h.2
  · unfold isSt at h
    unfold isHC
    cases hop : o.op <;> rw [hop] at h <;> first | rfl | cases h
end
end Go.Proofs.YtcpimjekllkbkaaGreatDoor.E
namespace Go.Proofs.YtcpimjekllkbkaaGreatDoor.E
open Go.RowKit
section
variable {R : Type} {pb : Bool} {P : Program} {S : St} {H : List Blk} {r : R}
theorem keep_free {sel : List Nat} {HN : List Blk} {h : Nat} (h0 : memN sel h = false) : keepN sel HN h = some h := by
  unfold keepN
  cases hp : pos sel h with
  | none => rfl
  | some p => exact absurd (List.mem_of_getElem? (pos_get hp)) (mem_of_memN h0)
theorem mapHs_free {m : Nat → Option Nat} : ∀ {l : List Nat}, (∀ g ∈ l, m g = some g) → mapHs m l = some l
  | [], _ => rfl
  | h :: l, e => by
    simp only [mapHs]
    rw [e h (by simp), mapHs_free fun g hg => e g (List.mem_cons_of_mem _ hg)]
theorem mapC_free {m : Nat → Option Nat} {c : C} (h : ∀ g ∈ c.hs, m g = some g) : mapC m c = c := by
  cases c with
  | ow g => simp only [mapC]; rw [h g (by simp [C.hs])]
  | pt g o => simp only [mapC]; rw [h g (by simp [C.hs])]
  | po g i s o => simp only [mapC]; rw [h g (by simp [C.hs])]
  | pm g i o => simp only [mapC]; rw [h g (by simp [C.hs])]
  | mp g => simp only [mapC]; rw [h g (by simp [C.hs])]
  | fn f hs => simp only [mapC]; rw [mapHs_free (l := hs) fun g hg => h g hg]
  | _ => rfl
theorem mapL_free {m : Nat → Option Nat} : ∀ {l : List C}, (∀ g ∈ hsL l, m g = some g) → l.map (mapC m) = l
  | [], _ => rfl
  | c :: l, h => by
    rw [List.map_cons, mapC_free fun g hg => h g (by simp [hsL, hg]), mapL_free fun g hg => h g (by simp [hsL, hg])]
theorem mapA_free {m : Nat → Option Nat} {x : A} (h : ∀ g ∈ x.hs, m g = some g) : mapA m x = x := by
  cases x with
  | c x => exact congrArg A.c (mapC_free h)
  | ag l => exact congrArg A.ag (mapL_free h)
theorem mapT_free {m : Nat → Option Nat} {x : T} (h : ∀ g ∈ x.hs, m g = some g) : mapT m x = x := by
  cases x with
  | a x => exact congrArg T.a (mapA_free h)
  | tu l =>
    refine congrArg T.tu ?_
    have : ∀ y ∈ l, mapA m y = y := fun y hy => mapA_free fun g hg => h g (by
      simp only [T.hs, List.mem_flatten, List.mem_map]
      exact ⟨_, ⟨y, hy, rfl⟩, hg⟩)
    exact (List.map_congr_left this).trans (List.map_id l)
theorem frT_map {sel : List Nat} {HN : List Blk} {z : T} (h : frT sel z = true) : mapT (keepN sel HN) z = z :=
  mapT_free fun g hg => keep_free (by
    have := List.all_eq_true.1 h g hg
    simpa using this)
theorem mapT_nil (HN : List Blk) (z : T) : mapT (keepN [] HN) z = z := mapT_free fun _ _ => rfl
theorem look_map (f : T → T) (hf : f unT = unT) : ∀ (t : List (Nat × T)) (u : Nat), look (t.map fun p => (p.1, f p.2)) u = f (look t u)
  | [], _ => hf.symm
  | (j, x) :: r, u => by
    simp only [List.map_cons, look]
    cases Nat.beq j u with
    | true => rfl
    | false => exact look_map f hf r u
theorem look_fg (sel : List Nat) (HN : List Blk) (t : List (Nat × T)) (u : Nat) : look (fgT sel HN t) u = mapT (keepN sel HN) (look t u) := by
  cases sel with
  | nil => exact (mapT_nil HN _).symm
  | cons y ys => exact look_map (mapT (keepN (y :: ys) HN)) rfl t u
theorem sorted_fg {sel : List Nat} {HN : List Blk} {t : List (Nat × T)} (h : SortedT t) : SortedT (fgT sel HN t) := by
  cases sel with
  | nil => exact h
  | cons y ys => exact List.pairwise_map.2 h
theorem del_map (f : T → T) (i : Nat) : ∀ (t : List (Nat × T)), delT (t.map fun p => (p.1, f p.2)) i = (delT t i).map fun p => (p.1, f p.2)
  | [] => rfl
  | (j, x) :: r => by
    have := del_map f i r
    unfold delT at this ⊢
    simp only [List.map_cons, List.filter_cons]
    split <;> simp [this]
theorem ins_map (f : T → T) (i : Nat) (x : T) : ∀ (t : List (Nat × T)), insT (t.map fun p => (p.1, f p.2)) i (f x) = (insT t i x).map fun p => (p.1, f p.2)
  | [] => rfl
  | (j, y) :: r => by
    simp only [List.map_cons, insT]
    cases Nat.beq j i with
    | true => simp only [cond_true, List.map_cons, del_map]
    | false => cases Nat.blt i j with
      | true => simp only [cond_true, cond_false, List.map_cons, del_map]
      | false => simp only [cond_false, List.map_cons, ins_map f i x r]
theorem fg_put {sel : List Nat} {HN HB : List Blk} (S : St) (d : Option Tmp) {z : T} (hz : mapT (keepN sel HN) z = z) : (⟨S.n, fgT sel HN (putT S d z).t, HB⟩ : St) = putT ⟨S.n, fgT sel HN S.t, HB⟩ d z := by
  cases d with
  | none => rfl
  | some d =>
    simp only [putT]
    cases Nat.blt d S.n with
    | false => rfl
    | true =>
      simp only [cond_true]
      cases sel with
      | nil => rfl
      | cons y ys =>
        have := ins_map (mapT (keepN (y :: ys) HN)) d z S.t
        rw [hz] at this
        simp only [fgT]
        rw [this]
theorem loadC_map {m : Nat → Option Nat} {t : Nat} {cs : List C} : loadC P t (cs.map (mapC m)) some = (loadC P t cs some).map (mapT m) := by
  unfold loadC
  cases isRowT P t with
  | none => rfl
  | some b => cases b with
    | true => cases P.info? t with
      | none => rfl
      | some i =>
        simp only [List.length_map]
        split
        · simp [mapT, mapA, List.map_take]
        · rfl
    | false => cases cs <;> rfl
theorem solid_len (c : C) (H : List Blk) : (solid c H).2.length = H.length := by
  unfold solid
  cases c with
  | ow h => simp only []; split <;> simp
  | _ => rfl
theorem solid_box {c : C} {H : List Blk} {h : Nat} {pn : Bool} {ty : Nat} {l : List C} (e : H.getD h .gone = .box pn ty l) : (solid c H).2.getD h .gone = .box pn ty l := by
  unfold solid
  cases c with
  | ow g =>
    simp only []
    split
    · rename_i a t q hg
      rw [List.getD_eq_getElem?_getD] at e hg ⊢
      by_cases hgh : g = h
      · subst hgh; rw [e] at hg; cases hg
      · rw [List.getElem?_set_ne hgh]; exact e
    · exact e
    · exact e
  | _ => exact e
theorem solidL_box {h : Nat} {pn : Bool} {ty : Nat} {l : List C} : ∀ {cl : List C} {H : List Blk}, H.getD h .gone = .box pn ty l → (solidL cl H).2.getD h .gone = .box pn ty l
  | [], H, e => e
  | c :: cl, H, e => solidL_box (cl := cl) (solid_box (c := c) e)
theorem solidA_box {x : A} {h : Nat} {pn : Bool} {ty : Nat} {l : List C} {H : List Blk} (e : H.getD h .gone = .box pn ty l) : (solidA x H).2.getD h .gone = .box pn ty l := by
  cases x with
  | c x => exact solid_box e
  | ag cl => exact solidL_box e
theorem solidAs_box {h : Nat} {pn : Bool} {ty : Nat} {l : List C} : ∀ {ags : List A} {H : List Blk}, H.getD h .gone = .box pn ty l → (solidAs ags H).2.getD h .gone = .box pn ty l
  | [], H, e => e
  | c :: cl, H, e => solidAs_box (ags := cl) (solidA_box (x := c) e)
theorem newB_free {sel : List Nat} {H HN : List Blk} {h : Nat} (hf : memN sel h = false) {pn : Bool} {ty : Nat} {l : List C} (e : H.getD h .gone = .box pn ty l) : (newB sel H HN).getD h .gone = .box pn ty (l.map (mapC (keepN sel HN))) := by
  have hB := getD_some e (by simp)
  have hl := (List.getElem?_eq_some_iff.1 hB).1
  have hl2 : h < (mergeB sel H.length HN 0 H).length := by rw [mergeB_len]; exact hl
  unfold newB
  rw [List.getD_eq_getElem?_getD, List.getElem?_append_left hl2]
  obtain ⟨B0, e0, e2⟩ := mergeB_get (sel := sel) (N := H.length) (HN := HN) (l := H) (i := 0) (j := h) (List.getElem?_eq_getElem hl2)
  rw [List.getElem?_eq_getElem hl2, Option.getD_some]
  rw [hB] at e0
  injection e0 with e0
  subst e0
  rw [Nat.zero_add] at e2
  rcases e2 with ⟨p, hp, _⟩ | ⟨_, e2⟩
  · exact absurd (List.mem_of_getElem? (pos_get hp)) (mem_of_memN hf)
  · rw [e2]; rfl
/-- what a call makes of the blocks -/
theorem callL_bind {G : Gt R} (hG : GUni pb G) (f : Nat) : ∃ W : List Blk → List A → Pl R (T × List Blk × List Nat × List Blk),
    (∀ (l : List A) (S : St) (k : T → St → Option R), callL P G f l S k = (W S.H l).run fun q => k (mapT (backN q.2.2.1 q.2.2.2.length) q.1) ⟨S.n, fgT q.2.2.1 q.2.1 S.t, newB q.2.2.1 q.2.2.2 q.2.1⟩) ∧
    ∀ H l q, W H l = .a q → (q.2.2.1 = if (!noH l && l.all onlyA && lendOk P f) = true then [] else closeK (solidAs l H).2 1000 (hsAs (solidAs l H).1) []) ∧
      ∀ h pn ty c, H.getD h .gone = .box pn ty c → q.2.2.2.getD h .gone = .box pn ty c := by
  let V : List A → List Blk → Pl R (T × List Blk) := fun l HA => (hG f l HA).choose
  have hV : ∀ l HA k, G f l HA (fun x HN => k (x, HN)) = (V l HA).run k := fun l HA k => (hG f l HA).choose_spec.2 k
  have hV2 : ∀ l HA (k : T → List Blk → Option R), G f l HA k = (V l HA).run fun p => k p.1 p.2 := fun l HA k => hV l HA fun p => k p.1 p.2
  refine ⟨fun H l => if (!noH l && l.all onlyA && lendOk P f) = true then (V (l.map (viewA H)) []).bind fun p => if (flatT p.1 && p.2.all flatB) = true then .a (p.1, p.2, [], H) else .c none
      else if (lendOk P f && l.any owA && (closeK (solidAs l H).2 1000 (hsAs (solidAs l H).1) []).all fun h => plainB (H.getD h .gone)) = true then bif okSel (closeK (solidAs l H).2 1000 (hsAs (solidAs l H).1) []) H.length then (V ((solidAs l H).1.map (mapA (pos (closeK (solidAs l H).2 1000 (hsAs (solidAs l H).1) [])))) (pickB (pos (closeK (solidAs l H).2 1000 (hsAs (solidAs l H).1) [])) H (fun _ _ => true) 0 (closeK (solidAs l H).2 1000 (hsAs (solidAs l H).1) []))).bind fun p => if (flatT p.1 && p.2.all flatX) = true then bif Nat.ble (closeK (solidAs l H).2 1000 (hsAs (solidAs l H).1) []).length p.2.length then .a (p.1, p.2, (closeK (solidAs l H).2 1000 (hsAs (solidAs l H).1) []), H) else .c none else .c none else .c none
      else bif okSel (closeK (solidAs l H).2 1000 (hsAs (solidAs l H).1) []) (solidAs l H).2.length then (V ((solidAs l H).1.map (mapA (pos (closeK (solidAs l H).2 1000 (hsAs (solidAs l H).1) [])))) (pickB (pos (closeK (solidAs l H).2 1000 (hsAs (solidAs l H).1) [])) (solidAs l H).2 (fun _ _ => true) 0 (closeK (solidAs l H).2 1000 (hsAs (solidAs l H).1) []))).bind fun p =>
        bif Nat.ble (closeK (solidAs l H).2 1000 (hsAs (solidAs l H).1) []).length p.2.length then .a (p.1, p.2, closeK (solidAs l H).2 1000 (hsAs (solidAs l H).1) [], (solidAs l H).2) else .c none
        else .c none, fun l S k => ?_, fun H l q e => ?_⟩
  · unfold callL
    simp only []
    split
    · rw [hV2]
      cases V (l.map (viewA S.H)) [] with
      | c o => rfl
      | a p =>
        simp only [Pl.bind, Pl.run]
        split
        · unfold backK
          have : Nat.ble ([] : List Nat).length p.2.length = true := Nat.ble_eq_true_of_le (Nat.zero_le _)
          rw [this]
          rfl
        · rfl
    · unfold passK lendK
      simp only []
      generalize closeK (solidAs l S.H).2 1000 (hsAs (solidAs l S.H).1) [] = sel
      split
      · cases okSel sel S.H.length with
        | false => rfl
        | true =>
          simp only [cond_true]
          rw [hV2]
          cases V ((solidAs l S.H).1.map (mapA (pos sel))) (pickB (pos sel) S.H (fun _ _ => true) 0 sel) with
          | c o => rfl
          | a p =>
            simp only [Pl.bind, Pl.run]
            split
            · unfold backK
              cases Nat.ble sel.length p.2.length <;> rfl
            · rfl
      cases okSel sel (solidAs l S.H).2.length with
      | false => rfl
      | true =>
        simp only [cond_true]
        rw [hV2]
        cases V ((solidAs l S.H).1.map (mapA (pos sel))) (pickB (pos sel) (solidAs l S.H).2 (fun _ _ => true) 0 sel) with
        | c o => rfl
        | a p =>
          simp only [Pl.bind, Pl.run]
          unfold backK
          cases Nat.ble sel.length p.2.length <;> rfl
  · simp only at e
    split at e
    · rename_i hc
      cases hv : V (l.map (viewA H)) [] with
      | c o => rw [hv] at e; cases e
      | a p =>
        rw [hv] at e
        simp only [Pl.bind] at e
        split at e
        · injection e with e
          subst e
          exact ⟨by rw [if_pos hc], fun h pn ty c hh => hh⟩
        · cases e
    · rename_i hc
      split at e
      · cases hok : okSel (closeK (solidAs l H).2 1000 (hsAs (solidAs l H).1) []) H.length with
        | false => rw [hok] at e; cases e
        | true =>
          rw [hok] at e
          simp only [cond_true] at e
          obtain ⟨p, hp, e⟩ := Pl.bind_a e
          split at e
          · cases hb : Nat.ble (closeK (solidAs l H).2 1000 (hsAs (solidAs l H).1) []).length p.2.length with
            | false => rw [hb] at e; cases e
            | true =>
              rw [hb] at e
              injection e with e
              subst e
              exact ⟨by rw [if_neg hc], fun h pn ty c hh => hh⟩
          · cases e
      cases hok : okSel (closeK (solidAs l H).2 1000 (hsAs (solidAs l H).1) []) (solidAs l H).2.length with
      | false => rw [hok] at e; cases e
      | true =>
        rw [hok] at e
        simp only [cond_true] at e
        obtain ⟨p, hp, e⟩ := Pl.bind_a e
        cases hb : Nat.ble (closeK (solidAs l H).2 1000 (hsAs (solidAs l H).1) []).length p.2.length with
        | false => rw [hb] at e; cases e
        | true =>
          rw [hb] at e
          injection e with e
          subst e
          exact ⟨by rw [if_neg hc], fun h pn ty c hh => solidAs_box hh⟩
theorem callK_bind {G : Gt R} (hG : GUni pb G) (f : C) (ags : List Operand) : ∃ W : List Blk → Option (List A) → Pl R (T × List Blk × List Nat × List Blk),
    (∀ (S : St) (k : T → St → Option R), callK P G f ags S k = (W S.H (argsK S.t ags)).run fun q => k (mapT (backN q.2.2.1 q.2.2.2.length) q.1) ⟨S.n, fgT q.2.2.1 q.2.1 S.t, newB q.2.2.1 q.2.2.2 q.2.1⟩) ∧
    ∀ H al q, W H al = .a q → (∃ g hs l, f = .fn g hs ∧ al = some l ∧ q.2.2.1 = if (!noH (l ++ capA hs) && (l ++ capA hs).all onlyA && lendOk P g) = true then [] else closeK (solidAs (l ++ capA hs) H).2 1000 (hsAs (solidAs (l ++ capA hs) H).1) []) ∧
      ∀ h pn ty c, H.getD h .gone = .box pn ty c → q.2.2.2.getD h .gone = .box pn ty c := by
  cases f with
  | fn f hs =>
    obtain ⟨W, h1, h2⟩ := callL_bind (P := P) hG f
    refine ⟨fun H al => match al with
      | some l => bif Nat.beq f panF then .c none else W H (l ++ capA hs)
      | none => .c none, fun S k => ?_, fun H al q e => ?_⟩
    · unfold callK
      cases argsK S.t ags with
      | none => rfl
      | some l =>
        simp only []
        cases Nat.beq f panF with
        | true => rfl
        | false => exact h1 _ S k
    · cases al with
      | none => cases e
      | some l =>
        simp only at e
        cases hb : Nat.beq f panF with
        | true => rw [hb] at e; cases e
        | false =>
        rw [hb] at e
        simp only [cond_false] at e
        obtain ⟨h3, h4⟩ := h2 H _ q e
        exact ⟨⟨f, hs, l, rfl, rfl, h3⟩, h4⟩
  | _ => exact ⟨fun _ _ => .c none, fun S k => rfl, fun H al q e => by cases e⟩
theorem fg_map (sel : List Nat) (HN : List Blk) (t : List (Nat × T)) : fgT sel HN t = t.map fun p => (p.1, mapT (keepN sel HN) p.2) := by
  cases sel with
  | nil =>
    show t = _
    have : (fun p : Nat × T => (p.1, mapT (keepN [] HN) p.2)) = id := by funext p; rw [mapT_nil]; rfl
    rw [this, List.map_id]
  | cons => rfl
theorem sorted_map {f : T → T} {t : List (Nat × T)} (h : SortedT t) : SortedT (t.map fun p => (p.1, f p.2)) := List.pairwise_map.2 h
theorem map_put {f : T → T} {HB : List Blk} (S : St) (d : Option Tmp) {z : T} (hz : f z = z) : (⟨S.n, (putT S d z).t.map fun p => (p.1, f p.2), HB⟩ : St) = putT ⟨S.n, S.t.map fun p => (p.1, f p.2), HB⟩ d z := by
  cases d with
  | none => rfl
  | some d =>
    simp only [putT]
    cases Nat.blt d S.n with
    | false => rfl
    | true =>
      simp only [cond_true]
      have := ins_map f d z S.t
      rw [hz] at this
      rw [this]
/-- what an append makes of the blocks -/
def appHW (e : Nat) (ty : Ty) (bytes h : Nat) (x : C) (H : List Blk) : Option (Nat × List Blk) :=
  match H.getD h .gone with
  | .arr e' t' l' => if e' = e then match castL t' ty l' with
    | some l => match srcOf ty H h x with
      | some m => if (l.length + m.length) * bytes ≤ 140737488355328 then some (h, (H.map (fB h)).set h (.arr e ty (l ++ m))) else none
      | none => none
    | none => none
    else none
  | _ => none
def appW (P : Program) (t : Nat) (s x : C) (H : List Blk) : Option (Nat × List Blk) :=
  match elemTy P t with
  | some (e, ty, bytes) => if 0 < bytes then match s with
      | .ns => appHW e ty bytes H.length x (H ++ [.arr e ty []])
      | .ow h => appHW e ty bytes h x H
      | _ => none
    else none
  | none => none
theorem appH_bind {e : Nat} {ty : Ty} {bytes h : Nat} {x : C} {S : St} (k : T → St → Option R) : appH e ty bytes h x S k = (appHW e ty bytes h x S.H).bind fun q => k (.a (.c (.ow q.1))) ⟨S.n, S.t.map (fun p => (p.1, fT q.1 p.2)), q.2⟩ := by
  unfold appH appHW
  cases S.H.getD h .gone with
  | arr e' t' l' =>
    simp only []
    split
    · cases castL t' ty l' with
      | none => rfl
      | some l =>
        simp only []
        cases srcOf ty S.H h x with
        | none => rfl
        | some m => simp only []; split <;> rfl
    · rfl
  | _ => rfl
theorem appendK_bind {t : Nat} {s x : C} {S : St} (k : T → St → Option R) : appendK P t s x S k = (appW P t s x S.H).bind fun q => k (.a (.c (.ow q.1))) ⟨S.n, S.t.map (fun p => (p.1, fT q.1 p.2)), q.2⟩ := by
  unfold appendK appW
  cases elemTy P t with
  | none => rfl
  | some q =>
    obtain ⟨e, ty, bytes⟩ := q
    simp only []
    split
    · cases s <;> first | rfl | exact appH_bind k
    · rfl
theorem fC_free {h : Nat} {c : C} (e : h ∉ c.hs) : fC h c = c := by
  unfold fC
  rw [if_neg (by simpa using e)]
theorem fL_free {h : Nat} : ∀ {l : List C}, h ∉ hsL l → l.map (fC h) = l
  | [], _ => rfl
  | c :: l, e => by
    simp only [hsL, List.mem_append, not_or] at e
    rw [List.map_cons, fC_free e.1, fL_free e.2]
theorem fA_free {h : Nat} {x : A} (e : h ∉ x.hs) : fA h x = x := by
  cases x with
  | c x => exact congrArg A.c (fC_free e)
  | ag l => exact congrArg A.ag (fL_free e)
theorem fT_free {h : Nat} {x : T} (e : h ∉ x.hs) : fT h x = x := by
  cases x with
  | a x => exact congrArg T.a (fA_free e)
  | tu l =>
    refine congrArg T.tu ?_
    have : ∀ y ∈ l, fA h y = y := fun y hy => fA_free fun hg => e (by
      simp only [T.hs, List.mem_flatten, List.mem_map]
      exact ⟨_, ⟨y, hy, rfl⟩, hg⟩)
    exact (List.map_congr_left this).trans (List.map_id l)
theorem frT_one {h : Nat} {z : T} (e : frT [h] z = true) : fT h z = z :=
  fT_free fun hm => by
    have := List.all_eq_true.1 e h hm
    simp [memN] at this
theorem loadC_fT {h t : Nat} {cs : List C} : loadC P t (cs.map (fC h)) some = (loadC P t cs some).map (fT h) := by
  unfold loadC
  cases isRowT P t with
  | none => rfl
  | some b => cases b with
    | true => cases P.info? t with
      | none => rfl
      | some i =>
        simp only [List.length_map]
        split
        · simp [fT, fA, List.map_take]
        · rfl
    | false => cases cs <;> rfl
theorem appHW_box {e : Nat} {ty : Ty} {bytes h : Nat} {x : C} {H : List Blk} {q : Nat × List Blk} (hq : appHW e ty bytes h x H = some q) : q.1 = h ∧ ∀ g, g ≠ h → ∀ pn t c, H.getD g .gone = .box pn t c → q.2.getD g .gone = .box pn t (c.map (fC h)) := by
  unfold appHW at hq
  split at hq
  · split at hq
    · split at hq
      · split at hq
        · split at hq
          · injection hq with hq
            subst hq
            refine ⟨rfl, fun g hg pn t c hB => ?_⟩
            simp only
            rw [List.getD_eq_getElem?_getD, List.getElem?_set_ne (Ne.symm hg), List.getElem?_map, getD_some hB (by simp)]
            rfl
          · cases hq
        · cases hq
      · cases hq
    · cases hq
  · cases hq
theorem appW_box {t : Nat} {s x : C} {H : List Blk} {q : Nat × List Blk} (hq : appW P t s x H = some q) : (s = .ow q.1 ∨ s = .ns ∧ q.1 = H.length) ∧ ∀ g, g ≠ q.1 → ∀ pn t c, H.getD g .gone = .box pn t c → q.2.getD g .gone = .box pn t (c.map (fC q.1)) := by
  unfold appW at hq
  split at hq
  · split at hq
    · split at hq
      · obtain ⟨h1, h2⟩ := appHW_box hq
        refine ⟨.inr ⟨rfl, h1⟩, fun g hg pn t c hB => ?_⟩
        rw [h1] at hg ⊢
        refine h2 g hg pn t c ?_
        have hl := (List.getElem?_eq_some_iff.1 (getD_some hB (by simp))).1
        rw [List.getD_eq_getElem?_getD] at hB ⊢
        rw [List.getElem?_append_left hl]
        exact hB
      · obtain ⟨h1, h2⟩ := appHW_box hq
        exact ⟨.inl (by rw [h1]), by rw [h1]; exact h2⟩
      · cases hq
    · cases hq
  · cases hq
/-- a store leaves the other boxes as they are -/
theorem store_keep {t g : Nat} {x : C} (hx : (∃ o, x = .pt g o) ∨ (∃ i sz o, x = .po g i sz o) ∨ ∃ i o, x = .pm g i o) {cl : List C} {S S2 : St} (e : storeK P t x cl S some = some S2) {h : Nat} (hg : h ≠ g) {pn : Bool} {ty : Nat} {c : List C} (hB : S.H.getD h .gone = .box pn ty c) : S2.H.getD h .gone = .box pn ty c := by
  have hl := (List.getElem?_eq_some_iff.1 (getD_some hB (by simp))).1
  unfold storeK at e
  split at e
  · split at e
    · rcases hx with ⟨o, rfl⟩ | ⟨i, sz, o, rfl⟩ | ⟨i, o, rfl⟩
      · simp only at e
        obtain ⟨m, hm⟩ := intern_pre (slots P 12 t) cl S.H
        split at e
        · split at e
          · injection e with e
            subst e
            simp only
            rw [List.getD_eq_getElem?_getD, List.getElem?_set_ne (Ne.symm hg), hm, List.getElem?_append_left hl, ← List.getD_eq_getElem?_getD]
            exact hB
          · cases e
        · cases e
      · simp only at e
        have hb := solidL_box (cl := cl) hB
        split at e
        · split at e
          · split at e
            · split at e
              · injection e with e
                subst e
                simp only
                rw [List.getD_eq_getElem?_getD, List.getElem?_set_ne (Ne.symm hg), ← List.getD_eq_getElem?_getD]
                exact hb
              · cases e
            · cases e
          · cases e
        · cases e
      · simp only at e
        have hb := solidL_box (cl := cl) hB
        split at e
        · split at e
          · split at e
            · split at e
              · injection e with e
                subst e
                simp only
                rw [List.getD_eq_getElem?_getD, List.getElem?_set_ne (Ne.symm hg), ← List.getD_eq_getElem?_getD]
                exact hb
              · cases e
            · cases e
          · cases e
        · cases e
    · cases e
  · cases e
end
end Go.Proofs.YtcpimjekllkbkaaGreatDoor.E
namespace Go.Proofs.YtcpimjekllkbkaaGreatDoor.E
open Go.RowKit
section
variable {R : Type} {pb : Bool} {P : Program} {S : St} {H : List Blk} {r : R}
theorem gd_same {ops : Array Oper} {o : Oper} {S S' : St} (hl : ∀ t ∈ o.looksAt ops, look S'.t t = look S.t t) : gdV ops o S' = gdV ops o S := by
  unfold gdV
  cases hgd : o.guard with
  | none => rfl
  | some q =>
    obtain ⟨j, want⟩ := q
    simp only []
    cases hd : (ops[j]?).bind (·.dst) with
    | none => rfl
    | some d =>
      have : look S'.t d = look S.t d := hl d (by simp [Oper.looksAt, hgd, hd])
      simp only [this]
theorem ev_same {ops : Array Oper} {o : Oper} {t t' : List (Nat × T)} (hl : ∀ u ∈ o.looksAt ops, look t' u = look t u) : ∀ x ∈ o.op.operands, ev t' x = ev t x := by
  intro x hx
  cases x with
  | tmp u => exact hl u (List.mem_append_left _ (List.mem_filterMap.2 ⟨.tmp u, by simpa using hx, rfl⟩))
  | _ => rfl
theorem args_same {t t' : List (Nat × T)} : ∀ {ags : List Operand}, (∀ x ∈ ags, ev t' x = ev t x) → argsK t' ags = argsK t ags
  | [], _ => rfl
  | x :: ags, h => by
    simp only [argsK]
    rw [h x (by simp), args_same fun y hy => h y (List.mem_cons_of_mem _ hy)]
def isHV (P : Program) (o : Oper) : Bool :=
  match o.op with
  | .call c => match c.callee with
    | .value f => c.argTypes.toList.any (isPtrT P) || !isFc f
    | _ => false
  | _ => false
theorem hv_hc {o : Oper} (h : isHV P o = true) : isHC P o = true := by
  unfold isHV at h
  unfold isHC
  cases hop : o.op with
  | call c =>
    rw [hop] at h
    obtain ⟨callee, args, argTypes⟩ := c
    cases callee with
    | value f => exact h
    | _ => cases h
  | _ => first | rfl | (rw [hop] at h; cases h)
/-- what a handed call makes of a state -/
theorem one_hv {G : Gt R} (hG : GUni pb G) {ops : Array Oper} {i : Nat} {o : Oper} (ho : ops[i]? = some o) (hr : isHV P o = true) : ∃ V : St → Pl R (Option (T × List Blk × List Nat × List Blk)),
    (∀ S k, SortedT S.t → oneD P G ops i S k = (V S).run fun
      | none => k (putT S o.dst (.tu []))
      | some q => k (putT ⟨S.n, fgT q.2.2.1 q.2.1 S.t, newB q.2.2.1 q.2.2.2 q.2.1⟩ o.dst (mapT (backN q.2.2.1 q.2.2.2.length) q.1))) ∧
    (∀ S S', S'.H = S.H → (∀ t ∈ o.looksAt ops, look S'.t t = look S.t t) → V S' = V S ∧ hcSel P o S' = hcSel P o S) ∧
    ∀ S q, V S = .a (some q) → hcSel P o S = some q.2.2.1 ∧ ∀ h pn ty c, S.H.getD h .gone = .box pn ty c → q.2.2.2.getD h .gone = .box pn ty c := by
  have hrk : isRk P o = false := by unfold isRk; rw [hv_hc hr]; simp
  unfold isHV at hr
  cases hop : o.op with
  | call c =>
    rw [hop] at hr
    simp only at hr
    obtain ⟨callee, args, argTypes⟩ := c
    cases callee with
    | value f =>
      have hW := fun y => callK_bind (P := P) hG y args.toList
      let V1 : St → Pl R (T × List Blk × List Nat × List Blk) := fun S => match oc S.t f with
        | some y => (hW y).choose S.H (argsK S.t args.toList)
        | none => .c none
      have same : ∀ S S' : St, S'.H = S.H → (∀ t ∈ o.looksAt ops, look S'.t t = look S.t t) → oc S'.t f = oc S.t f ∧ argsK S'.t args.toList = argsK S.t args.toList := by
        intro S S' hH hl
        have hρ := ev_same hl
        rw [hop] at hρ
        refine ⟨?_, args_same fun x hx => hρ x (by simp [Op.operands, Call.operands]; exact .inr (by simpa using hx))⟩
        unfold oc
        rw [hρ f (by simp [Op.operands, Call.operands])]
      refine ⟨fun S => match gdV ops o S with
        | some true => (V1 S).map some
        | some false => .a none
        | none => .c none, fun S k hs => ?_, fun S S' hH hl => ⟨?_, ?_⟩, fun S q e => ?_⟩
      · unfold oneD
        rw [ho]
        simp only [hrk, cond_false]
        rw [guard_gd hs]
        cases gdV ops o S with
        | none => rfl
        | some b => cases b with
          | false => rfl
          | true =>
            simp only []
            rw [opD_of (fun t e => by rw [hop] at e; cases e)]
            unfold opK
            rw [hop]
            simp only [V1]
            cases oc S.t f with
            | none => rfl
            | some y =>
              simp only []
              rw [(hW y).choose_spec.1]
              cases (hW y).choose S.H (argsK S.t args.toList) <;> rfl
      · simp only [gd_same hl]
        obtain ⟨e1, e2⟩ := same S S' hH hl
        have : V1 S' = V1 S := by simp only [V1, e1, e2, hH]
        rw [this]
      · unfold hcSel
        rw [hop]
        obtain ⟨e1, e2⟩ := same S S' hH hl
        simp only [e1, e2, hH]
      · simp only at e
        cases hg : gdV ops o S with
        | none => rw [hg] at e; cases e
        | some b => cases b with
          | false => rw [hg] at e; cases e
          | true =>
            rw [hg] at e
            simp only at e
            cases hv : V1 S with
            | c o => rw [hv] at e; cases e
            | a q' =>
              rw [hv] at e
              simp only [Pl.map, Pl.a.injEq, Option.some.injEq] at e
              subst e
              simp only [V1] at hv
              cases hy : oc S.t f with
              | none => rw [hy] at hv; cases hv
              | some y =>
                rw [hy] at hv
                simp only at hv
                obtain ⟨⟨g, hs, l, rfl, hl, hsel⟩, hbox⟩ := (hW y).choose_spec.2 _ _ _ hv
                refine ⟨?_, hbox⟩
                unfold hcSel
                rw [hop]
                simp only [hy, hl]
                rw [hsel]
                split <;> rfl
    | _ => cases hr
  | _ => rw [hop] at hr; cases hr
theorem buildL_box {ty : Ty} {ts : List (Nat × T)} {h : Nat} {pn : Bool} {t : Nat} {c : List C} : ∀ {ps : List (Nat × Operand)} {j : Nat} {H : List Blk} {q : List ty.D × List Blk}, buildL ty ts j ps H = some q → H.getD h .gone = .box pn t c → q.2.getD h .gone = .box pn t c
  | [], j, H, q, e, hB => by
    simp only [buildL, Option.some.injEq] at e
    subst e
    exact hB
  | (i, x) :: ps, j, H, q, e, hB => by
    simp only [buildL] at e
    split at e
    · split at e
      · split at e
        · rename_i cl hcl
          split at e
          · split at e
            · rename_i hb
              injection e with e
              subst e
              have := buildL_box hb (solidL_box hB)
              exact this
            · cases e
          · cases e
        · cases e
      · cases e
    · cases e
theorem buildL_same {ty : Ty} {ts ts' : List (Nat × T)} : ∀ {ps : List (Nat × Operand)} {j : Nat} {H : List Blk}, (∀ x ∈ ps, ev ts' x.2 = ev ts x.2) → buildL ty ts' j ps H = buildL ty ts j ps H
  | [], _, _, _ => rfl
  | (i, x) :: ps, j, H, hs => by
    simp only [buildL]
    rw [hs (i, x) List.mem_cons_self]
    have ih := fun j H => buildL_same (ty := ty) (ts := ts) (ts' := ts') (ps := ps) (j := j) (H := H) fun y hy => hs y (List.mem_cons_of_mem _ hy)
    simp only [ih]
theorem buildSliceK_pr {t n : Nat} {ps : List (Nat × Operand)} {S : St} {q : T × St} (h : buildSliceK P t n ps S pr = some q) : q.2.n = S.n ∧ q.2.t = S.t ∧ ∀ h pn ty c, S.H.getD h .gone = .box pn ty c → q.2.H.getD h .gone = .box pn ty c := by
  unfold buildSliceK at h
  split at h
  · split at h
    · split at h
      · rename_i hb
        injection h with h
        subst h
        refine ⟨rfl, rfl, fun h pn ty c hB => ?_⟩
        have h1 := buildL_box hb hB
        have hl := (List.getElem?_eq_some_iff.1 (getD_some h1 (by simp))).1
        simp only
        rw [List.getD_eq_getElem?_getD, List.getElem?_append_left hl, ← List.getD_eq_getElem?_getD]
        exact h1
      · cases h
    · cases h
  · cases h
theorem buildSliceK_same {t n : Nat} {ps : List (Nat × Operand)} {S S' : St} (hH : S'.H = S.H) (hs : ∀ x ∈ ps, ev S'.t x.2 = ev S.t x.2) : (buildSliceK P t n ps S' pr).map (fun q => (q.1, (id : T → T), q.2.H)) = (buildSliceK P t n ps S pr).map fun q => (q.1, id, q.2.H) := by
  unfold buildSliceK
  cases elemTy P t with
  | none => rfl
  | some e =>
    obtain ⟨e, ty, b⟩ := e
    simp only []
    split
    · rw [buildL_same hs, hH]
      cases buildL ty S.t 0 ps S.H <;> rfl
    · rfl
/-- an operation that moves things: a handed call, an append -/
theorem one_hc {G : Gt R} (hG : GUni pb G) {ops : Array Oper} {i : Nat} {o : Oper} (ho : ops[i]? = some o) (hr : isHC P o = true) : ∃ V : St → Pl R (Option (T × (T → T) × List Blk)),
    (∀ S k, SortedT S.t → oneD P G ops i S k = (V S).run fun
      | none => k (putT S o.dst (.tu []))
      | some q => k (putT ⟨S.n, S.t.map (fun p => (p.1, q.2.1 p.2)), q.2.2⟩ o.dst q.1)) ∧
    (∀ S S', S'.H = S.H → (∀ t ∈ o.looksAt ops, look S'.t t = look S.t t) → V S' = V S ∧ hcSel P o S' = hcSel P o S) ∧
    ∀ S q, V S = .a (some q) → ∃ sel, hcSel P o S = some sel ∧ q.2.1 unT = unT ∧ (∀ z, frT sel z = true → q.2.1 z = z) ∧ ∀ h, memN sel h = false → ∀ pn ty c, S.H.getD h .gone = .box pn ty c → ∃ c', q.2.2.getD h .gone = .box pn ty c' ∧ ∀ t d, loadC P t (c'.drop d) some = (loadC P t (c.drop d) some).map q.2.1 := by
  cases hv : isHV P o with
  | true =>
    obtain ⟨V, h1, h2, h3⟩ := one_hv hG ho hv
    refine ⟨fun S => (V S).map fun q => q.map fun q => (mapT (backN q.2.2.1 q.2.2.2.length) q.1, mapT (keepN q.2.2.1 q.2.1), newB q.2.2.1 q.2.2.2 q.2.1), fun S k hs => ?_, fun S S' hH hl => ⟨by simp only [(h2 S S' hH hl).1], (h2 S S' hH hl).2⟩, fun S q e => ?_⟩
    · rw [h1 S k hs]
      simp only []
      cases V S with
      | c o => rfl
      | a qo => cases qo with
        | none => rfl
        | some q => simp only [Pl.run, Pl.map, Option.map_some, fg_map]
    · simp only at e
      cases hV : V S with
      | c o => rw [hV] at e; cases e
      | a qo =>
        rw [hV] at e
        cases qo with
        | none => simp [Pl.map] at e
        | some q' =>
          simp only [Pl.map, Pl.opt, Pl.a.injEq, Option.map_some, Option.some.injEq] at e
          subst e
          obtain ⟨h4, h5⟩ := h3 S q' hV
          refine ⟨_, h4, rfl, fun z hz => frT_map hz, fun h hm pn ty c hB => ⟨_, newB_free hm (h5 h pn ty c hB), fun t d => ?_⟩⟩
          rw [← List.map_drop, loadC_map]
  | false =>
    have hrk : isRk P o = false := by unfold isRk; rw [hr]; simp
    unfold isHC at hr
    unfold isHV at hv
    cases hop : o.op with
    | call c =>
      rw [hop] at hr hv
      simp only at hr hv
      obtain ⟨callee, args, argTypes⟩ := c
      cases callee with
      | value f => simp only at hr hv; rw [hr] at hv; cases hv
      | builtin b =>
        cases b with
        | append =>
          let V1 : St → Option (Nat × List Blk) := fun S => match args.toList, argTypes.toList with
            | [x, y], [t, u] => if t = u then match oc S.t x, oc S.t y with
              | some s, some z => appW P t s z S.H
              | _, _ => none else none
            | _, _ => none
          have same : ∀ S S' : St, (∀ t ∈ o.looksAt ops, look S'.t t = look S.t t) → ∀ x ∈ args.toList, oc S'.t x = oc S.t x := by
            intro S S' hl x hx
            have hρ := ev_same hl
            rw [hop] at hρ
            unfold oc
            rw [hρ x (by simp [Op.operands, Call.operands]; simpa using hx)]
          refine ⟨fun S => match gdV ops o S with
            | some true => Pl.opt ((V1 S).map fun q => some (.a (.c (.ow q.1)), fT q.1, q.2))
            | some false => .a none
            | none => .c none, fun S k hs => ?_, fun S S' hH hl => ⟨?_, ?_⟩, fun S q e => ?_⟩
          · unfold oneD
            rw [ho]
            simp only [hrk, cond_false]
            rw [guard_gd hs]
            cases gdV ops o S with
            | none => rfl
            | some b => cases b with
              | false => rfl
              | true =>
                simp only []
                rw [opD_of (fun t e => by rw [hop] at e; cases e)]
                unfold opK
                rw [hop]
                simp only [V1]
                split
                · rename_i x y t u hx hu
                  simp only [hx, hu]
                  by_cases htu : t = u
                  · simp only [if_pos htu]
                    cases oc S.t x with
                    | none => rfl
                    | some s => cases oc S.t y with
                      | none => rfl
                      | some z =>
                        simp only []
                        rw [appendK_bind]
                        cases appW P t s z S.H <;> rfl
                  · simp only [if_neg htu]
                    rfl
                · rename_i hno
                  cases hx : args.toList with
                  | nil => rfl
                  | cons x xs => cases xs with
                    | nil => rfl
                    | cons y ys => cases ys with
                      | cons => rfl
                      | nil => cases hu : argTypes.toList with
                        | nil => rfl
                        | cons t ts => cases ts with
                          | nil => rfl
                          | cons u us => cases us with
                            | cons => rfl
                            | nil => exact absurd hu (by intro hu; exact hno x y t u hx hu)
          · simp only [gd_same hl]
            have : V1 S' = V1 S := by
              simp only [V1]
              have hs := same S S' hl
              split
              · rename_i x y t u hx _
                rw [hs x (by rw [hx]; simp), hs y (by rw [hx]; simp), hH]
              · rfl
            rw [this]
          · unfold hcSel
            rw [hop]
            simp only
            have hs := same S S' hl
            split
            · rename_i x y hx
              rw [hs x (by rw [hx]; simp), hH]
            · rfl
          · simp only at e
            cases hg : gdV ops o S with
            | none => rw [hg] at e; cases e
            | some b => cases b with
              | false => rw [hg] at e; cases e
              | true =>
                rw [hg] at e
                simp only at e
                cases hv1 : V1 S with
                | none => rw [hv1] at e; cases e
                | some q' =>
                  rw [hv1] at e
                  simp only [Pl.opt, Pl.a.injEq, Option.map_some, Option.some.injEq] at e
                  subst e
                  simp only [V1] at hv1
                  split at hv1
                  · rename_i x y t u hx hu
                    split at hv1
                    · split at hv1
                      · rename_i s z hs hz
                        obtain ⟨h1, h2⟩ := appW_box hv1
                        refine ⟨[q'.1], ?_, rfl, fun z hz => frT_one hz, fun h hm pn ty c hB => ⟨_, h2 h (fun e => by subst e; simp [memN] at hm) pn ty c hB, fun t d => ?_⟩⟩
                        · unfold hcSel
                          rw [hop]
                          simp only [hx, hs]
                          rcases h1 with rfl | ⟨rfl, h1⟩
                          · rfl
                          · rw [h1]
                        · rw [← List.map_drop, loadC_fT]
                      · cases hv1
                    · cases hv1
                  · cases hv1
        | _ => cases hr
      | _ => cases hr
    | buildSlice t n ps =>
      let V1 : St → Option (T × (T → T) × List Blk) := fun S => (buildSliceK P t n ps.toList S pr).map fun q => (q.1, id, q.2.H)
      refine ⟨fun S => match gdV ops o S with
        | some true => Pl.opt ((V1 S).map some)
        | some false => .a none
        | none => .c none, fun S k hs => ?_, fun S S' hH hl => ⟨?_, ?_⟩, fun S q e => ?_⟩
      · unfold oneD
        rw [ho]
        simp only [hrk, cond_false]
        rw [guard_gd hs]
        cases gdV ops o S with
        | none => rfl
        | some b => cases b with
          | false => rfl
          | true =>
            simp only []
            rw [opD_of (fun t e => by rw [hop] at e; cases e)]
            unfold opK
            rw [hop]
            simp only [V1]
            rw [buildSliceK_nat]
            cases hb : buildSliceK P t n ps.toList S pr with
            | none => rfl
            | some q =>
              obtain ⟨e1, e2, _⟩ := buildSliceK_pr hb
              simp only [Option.bind_some, Option.map_some, un2, List.map_id']
              rw [show q.2 = ⟨S.n, S.t.map fun p => (p.1, id p.2), q.2.H⟩ from by
                have : (S.t.map fun p : Nat × T => (p.1, id p.2)) = S.t := List.map_id _
                rw [this, ← e1, ← e2]]
              rfl
      · simp only [gd_same hl]
        have hρ := ev_same hl
        rw [hop] at hρ
        have : V1 S' = V1 S := by
          simp only [V1]
          rw [buildSliceK_same hH fun x hx => hρ x.2 (by simp [Op.operands]; exact ⟨x.1, by simpa using hx⟩)]
        rw [this]
      · unfold hcSel
        rw [hop]
      · simp only at e
        cases hg : gdV ops o S with
        | none => rw [hg] at e; cases e
        | some b => cases b with
          | false => rw [hg] at e; cases e
          | true =>
            rw [hg] at e
            simp only at e
            cases hv1 : V1 S with
            | none => rw [hv1] at e; cases e
            | some q' =>
              rw [hv1] at e
              simp only [Pl.opt, Pl.a.injEq, Option.map_some, Option.some.injEq] at e
              subst e
              simp only [V1] at hv1
              obtain ⟨q0, hb, rfl⟩ := Option.map_eq_some_iff.1 hv1
              obtain ⟨_, _, e3⟩ := buildSliceK_pr hb
              exact ⟨[], by unfold hcSel; rw [hop], rfl, fun z _ => rfl, fun h _ pn ty c hB => ⟨c, e3 h pn ty c hB, fun t d => by cases loadC P t (c.drop d) some <;> rfl⟩⟩
    | box t x =>
      let W1 : St → Option (T × St) := fun S => match ev S.t x with
        | .a a => match cellsA a with
          | some cl => newK P t cl S pr
          | none => none
        | _ => none
      let V1 : St → Option (T × (T → T) × List Blk) := fun S => (W1 S).map fun q => (q.1, id, q.2.H)
      refine ⟨fun S => match gdV ops o S with
        | some true => Pl.opt ((V1 S).map some)
        | some false => .a none
        | none => .c none, fun S k hs => ?_, fun S S' hH hl => ⟨?_, ?_⟩, fun S q e => ?_⟩
      · unfold oneD
        rw [ho]
        simp only [hrk, cond_false]
        rw [guard_gd hs]
        cases gdV ops o S with
        | none => rfl
        | some b => cases b with
          | false => rfl
          | true =>
            simp only []
            rw [opD_of (fun t e => by rw [hop] at e; cases e)]
            unfold opK
            rw [hop]
            simp only [V1, W1]
            cases ev S.t x with
            | tu l => rfl
            | a a =>
              simp only []
              cases cellsA a with
              | none => rfl
              | some cl =>
                simp only [newK, pr, Option.map_some, Pl.opt, Pl.run]
                have : (S.t.map fun p : Nat × T => (p.1, id p.2)) = S.t := List.map_id _
                rw [this]
      · simp only [gd_same hl]
        have hρ := ev_same hl
        rw [hop] at hρ
        have hx := hρ x (by simp [Op.operands])
        have : V1 S' = V1 S := by
          simp only [V1, W1, hx, newK, hH, pr]
          cases ev S.t x with
          | tu l => rfl
          | a a =>
            simp only []
            cases hca : cellsA a with
            | none => rfl
            | some cl => rfl
        rw [this]
      · unfold hcSel
        rw [hop]
      · simp only at e
        cases hg : gdV ops o S with
        | none => rw [hg] at e; cases e
        | some b => cases b with
          | false => rw [hg] at e; cases e
          | true =>
            rw [hg] at e
            simp only at e
            cases hv1 : V1 S with
            | none => rw [hv1] at e; cases e
            | some q' =>
              rw [hv1] at e
              simp only [Pl.opt, Pl.a.injEq, Option.map_some, Option.some.injEq] at e
              subst e
              simp only [V1] at hv1
              obtain ⟨q0, hb, rfl⟩ := Option.map_eq_some_iff.1 hv1
              simp only [W1] at hb
              split at hb
              · split at hb
                · rename_i cl _
                  simp only [newK, pr, Option.some.injEq] at hb
                  subst hb
                  refine ⟨[], by unfold hcSel; rw [hop], rfl, fun z _ => rfl, fun h _ pn ty c hB => ⟨c, ?_, fun t d => by cases loadC P t (c.drop d) some <;> rfl⟩⟩
                  have hl := (List.getElem?_eq_some_iff.1 (getD_some hB (by simp))).1
                  obtain ⟨m, hm⟩ := intern_pre (slots P 12 t) cl S.H
                  simp only
                  rw [hm, List.getD_eq_getElem?_getD, List.append_assoc, List.getElem?_append_left hl, ← List.getD_eq_getElem?_getD]
                  exact hB
                · cases hb
              · cases hb
    | alloc t =>
      let W1 : St → Option (T × List Blk) := fun S => match P.info? t with
        | some f => match f.zero with
          | some z => match slotN i S.H 0 with
            | some h => some (.a (.c (.pt h 0)), S.H.set h (.box false t (z.cells.toList.map constC)))
            | none => (newK P t (z.cells.toList.map constC) S pr).map fun q => (q.1, q.2.H)
          | none => none
        | none => none
      let V1 : St → Option (T × (T → T) × List Blk) := fun S => (W1 S).map fun q => (q.1, id, q.2)
      refine ⟨fun S => match gdV ops o S with
        | some true => Pl.opt ((V1 S).map some)
        | some false => .a none
        | none => .c none, fun S k hs => ?_, fun S S' hH hl => ⟨?_, ?_⟩, fun S q e => ?_⟩
      · unfold oneD
        rw [ho]
        simp only [hrk, cond_false]
        rw [guard_gd hs]
        cases gdV ops o S with
        | none => rfl
        | some b => cases b with
          | false => rfl
          | true =>
            simp only []
            unfold opD
            rw [hop]
            simp only [V1, W1]
            have hid : (S.t.map fun p : Nat × T => (p.1, id p.2)) = S.t := List.map_id _
            cases slotN i S.H 0 with
            | some h =>
              simp only [slotK]
              cases P.info? t with
              | none => rfl
              | some a =>
                simp only []
                cases a.zero with
                | none => rfl
                | some cl =>
                  simp only [Option.map_some, Pl.opt, Pl.run]
                  rw [hid]
            | none =>
              simp only []
              unfold opK
              rw [hop]
              simp only []
              cases P.info? t with
              | none => rfl
              | some a =>
                simp only []
                cases a.zero with
                | none => rfl
                | some cl =>
                  simp only [newK, pr, Option.map_some, Pl.opt, Pl.run]
                  rw [hid]
      · simp only [gd_same hl]
        have : V1 S' = V1 S := by
          simp only [V1, W1, newK, hH, pr]
          cases P.info? t with
          | none => rfl
          | some a =>
            simp only []
            cases a.zero with
            | none => rfl
            | some cl => simp only []; cases slotN i S.H 0 <;> rfl
        rw [this]
      · unfold hcSel
        rw [hop]
      · simp only at e
        cases hg : gdV ops o S with
        | none => rw [hg] at e; cases e
        | some b => cases b with
          | false => rw [hg] at e; cases e
          | true =>
            rw [hg] at e
            simp only at e
            cases hv1 : V1 S with
            | none => rw [hv1] at e; cases e
            | some q' =>
              rw [hv1] at e
              simp only [Pl.opt, Pl.a.injEq, Option.map_some, Option.some.injEq] at e
              subst e
              simp only [V1] at hv1
              obtain ⟨q0, hb, rfl⟩ := Option.map_eq_some_iff.1 hv1
              simp only [W1] at hb
              split at hb
              · split at hb
                · rename_i cl hcl
                  split at hb
                  · rename_i g hsl
                    injection hb with hb
                    subst hb
                    refine ⟨[], by unfold hcSel; rw [hop], rfl, fun z _ => rfl, fun h _ pn ty c hB => ⟨c, ?_, fun t d => by cases loadC P t (c.drop d) some <;> rfl⟩⟩
                    have hs := (slotN_at hsl).2
                    have hne : g ≠ h := fun e => by subst e; rw [Nat.sub_zero] at hs; rw [List.getD_eq_getElem?_getD, hs] at hB; cases hB
                    simp only
                    rw [List.getD_eq_getElem?_getD, List.getElem?_set_ne hne, ← List.getD_eq_getElem?_getD]
                    exact hB
                  · simp only [newK, pr, Option.map_some, Option.some.injEq] at hb
                    subst hb
                    refine ⟨[], by unfold hcSel; rw [hop], rfl, fun z _ => rfl, fun h _ pn ty c hB => ⟨c, ?_, fun t d => by cases loadC P t (c.drop d) some <;> rfl⟩⟩
                    have hl := (List.getElem?_eq_some_iff.1 (getD_some hB (by simp))).1
                    obtain ⟨m, hm⟩ := intern_pre (slots P 12 t) (cl.cells.toList.map constC) S.H
                    simp only
                    rw [hm, List.getD_eq_getElem?_getD, List.append_assoc, List.getElem?_append_left hl, ← List.getD_eq_getElem?_getD]
                    exact hB
                · cases hb
              · cases hb
    | _ => rw [hop] at hr; cases hr
theorem st_hc {o : Oper} (h : isSt o = true) : isHC P o = false := hc_not (.inr h)
/-- an operation that moves things -/
theorem one_mv {G : Gt R} (hG : GUni pb G) {ops : Array Oper} {i : Nat} {o : Oper} (ho : ops[i]? = some o) (hr : isMv P o = true) : ∃ V : St → Pl R (Option (T × (T → T) × List Blk)),
    (∀ S k, SortedT S.t → oneD P G ops i S k = (V S).run fun
      | none => k (putT S o.dst (.tu []))
      | some q => k (putT ⟨S.n, S.t.map (fun p => (p.1, q.2.1 p.2)), q.2.2⟩ o.dst q.1)) ∧
    (∀ S S', S'.H = S.H → (∀ t ∈ o.looksAt ops, look S'.t t = look S.t t) → V S' = V S ∧ hcSel P o S' = hcSel P o S) ∧
    ∀ S q, V S = .a (some q) → ∀ sel, hcSel P o S = some sel → q.2.1 unT = unT ∧ (∀ z, frT sel z = true → q.2.1 z = z) ∧ ∀ h, memN sel h = false → ∀ pn ty c, S.H.getD h .gone = .box pn ty c → ∃ c', q.2.2.getD h .gone = .box pn ty c' ∧ ∀ t d, loadC P t (c'.drop d) some = (loadC P t (c.drop d) some).map q.2.1 := by
  cases hh : isHC P o with
  | true =>
    obtain ⟨V, h1, h2, h3⟩ := one_hc (P := P) hG ho hh
    refine ⟨V, h1, h2, fun S q e sel hsel => ?_⟩
    obtain ⟨sel', h4, h5⟩ := h3 S q e
    rw [h4] at hsel
    injection hsel with hsel
    subst hsel
    exact h5
  | false =>
    have hst : isSt o = true := by unfold isMv at hr; rw [hh] at hr; simpa using hr
    have hd : o.dst = none := by
      have h := hst
      unfold isSt at h
      split at h
      · simpa using h
      · cases h
    cases hop : o.op with
    | store t x y =>
      have hrd : isRk P o = false := by unfold isRk isRd; rw [hop]; rfl
      have same : ∀ S S' : St, (∀ t ∈ o.looksAt ops, look S'.t t = look S.t t) → ev S'.t x = ev S.t x ∧ ev S'.t y = ev S.t y := by
        intro S S' hl
        have hρ := ev_same hl
        rw [hop] at hρ
        exact ⟨hρ x (by simp [Op.operands]), hρ y (by simp [Op.operands])⟩
      obtain ⟨V0, e0, c0⟩ := one_st (R := Unit) (P := P) (G := fun _ _ _ _ => none) ho hst
      let V1 : St → Option (List Blk) := fun S => match oc S.t x, ev S.t y with
        | some c, .a a => match cellsA a with
          | some cl => (storeK P t c cl S some).map (·.H)
          | none => none
        | _, _ => none
      have hL : ∀ (c : C) (cl : List C) (S S' : St), S'.H = S.H → (storeK P t c cl S' some).map (·.H) = (storeK P t c cl S some).map (·.H) := by
        intro c cl S S' hH
        obtain ⟨n, ts, H⟩ := S
        obtain ⟨n', ts', H'⟩ := S'
        simp only at hH
        subst hH
        unfold storeK
        cases P.info? t with
        | none => rfl
        | some i =>
          simp only []
          split
          · cases c with
            | pt h o =>
              simp only []
              split <;> first | rfl | (split <;> rfl)
            | po h i sz o =>
              simp only []
              split
              · split
                · split
                  · split <;> rfl
                  · rfl
                · rfl
              · rfl
            | pm h i o =>
              simp only []
              split
              · split
                · split
                  · split <;> rfl
                  · rfl
                · rfl
              · rfl
            | _ => rfl
          · rfl
      refine ⟨fun S => match gdV ops o S with
        | some true => Pl.opt ((V1 S).map fun H => some (unT, id, H))
        | some false => .a none
        | none => .c none, fun S k hs => ?_, fun S S' hH hl => ⟨?_, ?_⟩, fun S q e sel hsel => ?_⟩
      · unfold oneD
        rw [ho]
        simp only [hrd, cond_false]
        rw [guard_gd hs, hd]
        cases gdV ops o S with
        | none => rfl
        | some b => cases b with
          | false => rfl
          | true =>
            simp only []
            rw [opD_of (fun t e => by rw [hop] at e; cases e)]
            unfold opK
            rw [hop]
            simp only [V1]
            cases oc S.t x with
            | none => rfl
            | some c =>
              cases ev S.t y with
              | tu l => rfl
              | a z =>
                simp only []
                cases cellsA z with
                | none => rfl
                | some cl =>
                  simp only []
                  rw [storeK_bind]
                  cases (storeK P t c cl S some).map (·.H) with
                  | none => rfl
                  | some H =>
                    show k ⟨S.n, S.t, H⟩ = k ⟨S.n, S.t.map (fun p => (p.1, p.2)), H⟩
                    simp
      · simp only [gd_same hl]
        have : V1 S' = V1 S := by
          simp only [V1]
          obtain ⟨h1, h2⟩ := same S S' hl
          have hxo : oc S'.t x = oc S.t x := by unfold oc; rw [h1]
          rw [hxo, h2]
          cases oc S.t x with
          | none => rfl
          | some c =>
            cases ev S.t y with
            | tu l => rfl
            | a z =>
              simp only []
              cases cellsA z with
              | none => rfl
              | some cl => exact hL c cl S S' hH
        rw [this]
      · unfold hcSel
        rw [hop]
        simp only
        have hxo : oc S'.t x = oc S.t x := by unfold oc; rw [(same S S' hl).1]
        rw [hxo]
      · simp only at e
        cases hg : gdV ops o S with
        | none => rw [hg] at e; cases e
        | some b => cases b with
          | false => rw [hg] at e; cases e
          | true =>
            rw [hg] at e
            simp only at e
            cases hv1 : V1 S with
            | none => rw [hv1] at e; cases e
            | some HH =>
              rw [hv1] at e
              simp only [Pl.opt, Pl.a.injEq, Option.map_some, Option.some.injEq] at e
              subst e
              refine ⟨rfl, fun z _ => rfl, fun h hm pn ty c hB => ?_⟩
              simp only [V1] at hv1
              split at hv1
              case h_2 => cases hv1
              rename_i c1 a1 hc1 ha1
              split at hv1
              case h_2 => cases hv1
              rename_i cl hcl
              cases hst1 : storeK P t c1 cl S some with
              | none => rw [hst1] at hv1; cases hv1
              | some S2 =>
                rw [hst1] at hv1
                simp only [Option.map_some, Option.some.injEq] at hv1
                subst hv1
                refine ⟨c, ?_, fun t d => by cases loadC P t (c.drop d) some <;> rfl⟩
                unfold hcSel at hsel
                rw [hop] at hsel
                simp only [hc1] at hsel
                have ne : ∀ g, memN [g] h = false → h ≠ g := fun g hg e => by subst e; simp [memN] at hg
                split at hsel
                · rename_i g o' he
                  injection he with he
                  injection hsel with hsel
                  subst hsel he
                  exact store_keep (.inl ⟨_, rfl⟩) hst1 (ne _ hm) hB
                · rename_i g i' sz' o' he
                  injection he with he
                  injection hsel with hsel
                  subst hsel he
                  exact store_keep (.inr (.inl ⟨_, _, _, rfl⟩)) hst1 (ne _ hm) hB
                · rename_i g i' o' he
                  injection he with he
                  injection hsel with hsel
                  subst hsel he
                  exact store_keep (.inr (.inr ⟨_, _, rfl⟩)) hst1 (ne _ hm) hB
                · cases hsel
    | _ => unfold isSt at hst; rw [hop] at hst; cases hst
/-- what a load puts -/
theorem one_ld {G : Gt R} {ops : Array Oper} {i : Nat} {o : Oper} {t : Nat} {x : Operand} (ho : ops[i]? = some o) (hop : o.op = .load t x) {S : St} (hs : SortedT S.t) (k : St → Option R) : oneD P G ops i S k = (match gdV ops o S with
    | some true => (match oc S.t x with
      | some c => loadK P S.H t c some
      | none => none)
    | some false => some (.tu [])
    | none => none).bind fun z => k (putT S o.dst z) := by
  have hrk : isRk P o = true := ld_rk (by unfold isLd; rw [hop])
  unfold oneD
  rw [ho]
  simp only [hrk, cond_true]
  rw [guard_gd hs]
  cases gdV ops o S with
  | none => rfl
  | some b => cases b with
    | false => rfl
    | true =>
      simp only []
      unfold rdK
      rw [hop]
      simp only [ocR_ev]
      cases oc S.t x with
      | none => rfl
      | some c => exact loadK_nat _
/-- what a length is -/
theorem one_len {G : Gt R} {ops : Array Oper} {i : Nat} {o : Oper} {args : Array Operand} {ats : Array TypeId} (ho : ops[i]? = some o) (hop : o.op = .call ⟨.builtin .len, args, ats⟩) {S : St} (hs : SortedT S.t) (k : St → Option R) : oneD P G ops i S k = (match gdV ops o S with
    | some true => (match args.toList, ats.toList with
      | [x], [t] => match oc S.t x with
        | some c => (lenK P S.H t c some).map outR
        | none => none
      | _, _ => none)
    | some false => some (.tu [])
    | none => none).bind fun z => k (putT S o.dst z) := by
  have hrk : isRk P o = true := ld_rk (by unfold isLd; rw [hop])
  unfold oneD
  rw [ho]
  simp only [hrk, cond_true]
  rw [guard_gd hs]
  cases gdV ops o S with
  | none => rfl
  | some b => cases b with
    | false => rfl
    | true =>
      simp only []
      unfold rdK
      rw [hop]
      simp only [ocR_ev]
      generalize args.toList = l1
      generalize ats.toList = l2
      match l1, l2 with
      | [x], [t] =>
        simp only []
        cases oc S.t x with
        | none => rfl
        | some c =>
          simp only []
          rw [lenK_nat]
          cases lenK P S.H t c some <;> rfl
      | [], _ => rfl
      | _ :: _ :: _, _ => rfl
      | [_], [] => rfl
      | [_], _ :: _ :: _ => rfl
/-- what an element's address is -/
theorem one_ia {G : Gt R} {ops : Array Oper} {i : Nat} {o : Oper} {t : Nat} {x ix : Operand} (ho : ops[i]? = some o) (hop : o.op = .indexAddr t x ix) {S : St} (hs : SortedT S.t) (k : St → Option R) : oneD P G ops i S k = (match gdV ops o S with
    | some true => (match oc S.t x, oc S.t ix with
      | some c, some n => (indexAddrK P S.H t c n some).map outR
      | _, _ => none)
    | some false => some (.tu [])
    | none => none).bind fun z => k (putT S o.dst z) := by
  have hrk : isRk P o = true := ld_rk (by unfold isLd; rw [hop])
  unfold oneD
  rw [ho]
  simp only [hrk, cond_true]
  rw [guard_gd hs]
  cases gdV ops o S with
  | none => rfl
  | some b => cases b with
    | false => rfl
    | true =>
      simp only []
      unfold rdK
      rw [hop]
      simp only [ocR_ev]
      cases oc S.t x with
      | none => rfl
      | some c => cases oc S.t ix with
        | none => rfl
        | some n =>
          simp only []
          rw [indexAddrK_nat]
          cases indexAddrK P S.H t c n some <;> rfl
theorem late_of {ops : Array Oper} {oi oj : Oper} (h : lateO ops oi oj = true) {t : Nat} (ht : t ∈ oj.looksAt ops) : oi.dst ≠ some t := by
  intro e
  unfold lateO at h
  rw [e] at h
  simp only [Bool.not_eq_true', List.contains_eq_mem, decide_eq_false_iff_not] at h
  exact h ht
theorem look_self {S : St} (hs : SortedT S.t) {d : Nat} {z : T} (hd : Nat.blt d S.n = true) : look (putT S (some d) z).t d = z := by
  simp only [putT, hd, cond_true]
  rw [look_ins hs, if_pos rfl]
theorem put_noop {S S' : St} {d : Option Tmp} (h : ∀ e, d = some e → Nat.blt e S.n = false) (hn : S'.n = S.n) (z : T) : putT S' d z = S' := by
  cases d with
  | none => rfl
  | some e => simp only [putT]; rw [hn, h e rfl]; rfl
theorem map_put2 {f : T → T} {HB : List Blk} (S : St) (d : Option Tmp) (z : T) : (⟨S.n, (putT S d z).t.map fun p => (p.1, f p.2), HB⟩ : St) = putT ⟨S.n, S.t.map fun p => (p.1, f p.2), HB⟩ d (f z) := by
  cases d with
  | none => rfl
  | some d =>
    simp only [putT]
    cases Nat.blt d S.n with
    | false => rfl
    | true =>
      simp only [cond_true]
      rw [ins_map f d z S.t]
theorem one_move {G : Gt R} {ops : Array Oper} {j u : Nat} {o : Oper} (ho : ops[j]? = some o) (hg : o.guard = none) (hop : o.op = .move (.tmp u)) (S : St) (k : St → Option R) : oneD P G ops j S k = k (putT S o.dst (look S.t u)) := by
  have hrk : isRk P o = true := pu_rd (by unfold isPu; rw [hop])
  unfold oneD
  rw [ho]
  simp only [hrk, cond_true]
  unfold guardK
  rw [hg]
  simp only []
  unfold rdK
  rw [hop]
  rfl
/-- a handed call and a temporary that is copied -/
theorem swap_move {G : Gt R} (hG : GUni pb G) {ops : Array Oper} {i j : Nat} {oi oj : Oper} (hi : ops[i]? = some oi) (hj : ops[j]? = some oj) (ri : isMv P oi = true) (hm : isMoveO oj = true) (hap : Oper.apart ops oj oi = true)
    {S : St} (hs : SortedT S.t) {k : St → Option R} {sel : List Nat} (hsel : hcSel P oi S = some sel)
    (h : oneD P G ops j S (fun S1 => oneD P G ops i S1 k) = some r) : oneD P G ops i S (fun S2 => oneD P G ops j S2 k) = some r := by
  obtain ⟨h1, h2, h3⟩ := Oper.apart_spec hap
  obtain ⟨Vi, ei, ci, si⟩ := one_mv (P := P) hG hi ri
  unfold isMoveO at hm
  simp only [Bool.and_eq_true, Option.isNone_iff_eq_none] at hm
  obtain ⟨hg, hm⟩ := hm
  cases hop : oj.op with
  | move x =>
    rw [hop] at hm
    cases x with
    | tmp u =>
      have hu : u ∈ oj.looksAt ops := List.mem_append_left _ (List.mem_filterMap.2 ⟨.tmp u, by simp [hop, Op.operands], rfl⟩)
      have em := fun S k => one_move (P := P) (G := G) hj hg hop S k
      rw [em] at h
      simp only [em]
      have hs1 := put_sorted hs oj.dst (look S.t u)
      have hVi : Vi (putT S oj.dst (look S.t u)) = Vi S := (ci S _ (put_H S _ _).1 fun t ht => look_put hs fun e => h1 t e ht).1
      rw [ei _ _ hs1, hVi] at h
      rw [ei _ _ hs]
      cases hv : Vi S with
      | c o => rw [hv] at h; exact h
      | a qo =>
        rw [hv] at h
        cases qo with
        | none =>
          simp only [Pl.run] at h ⊢
          rw [look_put hs fun e => h3 u e hu]
          rw [put_comm hs (fun q hq => h2 q hq)] at h
          exact h
        | some q =>
          simp only [Pl.run] at h ⊢
          obtain ⟨hun, _, _⟩ := si S q hv sel hsel
          have hsf : SortedT (S.t.map fun p => (p.1, q.2.1 p.2)) := sorted_map hs
          rw [(put_H S oj.dst (look S.t u)).2, map_put2 S oj.dst (look S.t u), put_comm (S := ⟨S.n, S.t.map (fun p => (p.1, q.2.1 p.2)), q.2.2⟩) hsf (fun q hq => h2 q hq)] at h
          rw [look_put hsf fun e => h3 u e hu]
          rw [show look (S.t.map fun p => (p.1, q.2.1 p.2)) u = q.2.1 (look S.t u) from look_map _ hun _ _]
          exact h
    | _ => cases hm
  | _ => rw [hop] at hm; cases hm
/-- a handed call and an operation that has nothing to do with what is handed -/
theorem swap_hc {G : Gt R} (hG : GUni pb G) {ops : Array Oper} {i j : Nat} {oi oj : Oper} (hi : ops[i]? = some oi) (hj : ops[j]? = some oj) (ri : isMv P oi = true) (rj : isPu oj = true ∨ isLd oj = true) (hap : Oper.apart ops oj oi = true) (hown : lateO ops oj oj = true)
    {S : St} (hs : SortedT S.t) {k : St → Option R} {sel : List Nat} (hsel : hcSel P oi S = some sel)
    (h : oneD P G ops j S (fun S1 => if freeO ops sel S1 oj = true then oneD P G ops i S1 k else none) = some r) : oneD P G ops i S (fun S2 => oneD P G ops j S2 k) = some r := by
  cases hmv : isMoveO oj with
  | true =>
    have hf : ∀ S1, freeO ops sel S1 oj = true := fun S1 => by unfold freeO; rw [hmv, Bool.true_or]
    simp only [hf, if_true] at h
    exact swap_move hG hi hj ri hmv hap hs hsel h
  | false =>
  have hfo : ∀ S1, freeO ops sel S1 oj = ((oj.looksAt ops).all (fun u => frT sel (look S1.t u)) && (match oj.dst with
    | some d => frT sel (look S1.t d)
    | none => true) && (match oj.op with
    | .load _ x => match oc S1.t x with
      | some (.pt _ _) => true
      | some (.pe _ _ _) => true
      | _ => false
    | .indexAddr _ x _ => match oc S1.t x with
      | some (.fz _ _) => true
      | _ => false
    | .call c => match c.callee with
      | .builtin .len => (match c.args.toList with
        | [x] => match oc S1.t x with
          | some (.fz _ _) => true
          | some (.s _) => true
          | _ => false
        | _ => false)
      | _ => true
    | _ => true)) := fun S1 => by unfold freeO; rw [hmv, Bool.false_or]; try rfl
  obtain ⟨h1, h2, h3⟩ := Oper.apart_spec hap
  obtain ⟨Vi, ei, ci, si⟩ := one_mv (P := P) hG hi ri
  rw [ei _ _ hs]
  -- the common part: z0 is what the operation puts, ahead of the call
  have common : ∀ z0 : T, (if freeO ops sel (putT S oj.dst z0) oj = true then oneD P G ops i (putT S oj.dst z0) k else none) = some r →
      (∀ S2 : St, S2.H = S.H → S2.n = S.n → SortedT S2.t → (∀ u ∈ oj.looksAt ops, look S2.t u = look S.t u) → oneD P G ops j S2 k = k (putT S2 oj.dst z0)) →
      (∀ (S2 : St) (f : T → T), S2.n = S.n → SortedT S2.t → (∀ u ∈ oj.looksAt ops, frT sel (look S.t u) = true ∧ look S2.t u = look S.t u) →
        (∀ h, memN sel h = false → ∀ pn ty c, S.H.getD h .gone = .box pn ty c → ∃ c', S2.H.getD h .gone = .box pn ty c' ∧ ∀ t d, loadC P t (c'.drop d) some = (loadC P t (c.drop d) some).map f) →
        freeO ops sel (putT S oj.dst z0) oj = true → oneD P G ops j S2 k = k (putT S2 oj.dst z0) ∨ oneD P G ops j S2 k = k (putT S2 oj.dst (f z0))) →
      ((Vi S).run fun
        | none => oneD P G ops j (putT S oi.dst (.tu [])) k
        | some q => oneD P G ops j (putT ⟨S.n, S.t.map (fun p => (p.1, q.2.1 p.2)), q.2.2⟩ oi.dst q.1) k) = some r := by
    intro z0 h hA hB
    split at h
    case isFalse => cases h
    rename_i hfr
    have hs1 := put_sorted hs oj.dst z0
    have hVi : Vi (putT S oj.dst z0) = Vi S := (ci S _ (put_H S _ _).1 fun t ht => look_put hs fun e => h1 t e ht).1
    rw [ei _ _ hs1, hVi] at h
    have hfr0 := hfr
    rw [hfo] at hfr
    simp only [Bool.and_eq_true, List.all_eq_true] at hfr
    obtain ⟨⟨hf1, hf2⟩, hf3⟩ := hfr
    have hlook : ∀ u ∈ oj.looksAt ops, frT sel (look S.t u) = true := fun u hu => by
      have := hf1 u hu
      rwa [look_put hs (late_of hown hu)] at this
    cases hv : Vi S with
    | c o => rw [hv] at h; exact h
    | a qo =>
      rw [hv] at h
      cases qo with
      | none =>
        simp only [Pl.run] at h ⊢
        rw [hA _ (put_H _ _ _).1 (put_H _ _ _).2 (put_sorted hs _ _) (fun u hu => look_put hs fun e => h3 u e hu)]
        rw [put_comm hs (fun q hq => h2 q hq) z0 (.tu [])] at h
        exact h
      | some q =>
        simp only [Pl.run] at h ⊢
        obtain ⟨hun, hfix, hbox⟩ := si S q hv sel hsel
        have hsf : SortedT (S.t.map fun p => (p.1, q.2.1 p.2)) := sorted_map hs
        -- the value put is free of what is handed, or is not put at all
        have hz : q.2.1 z0 = z0 ∨ ∀ e, oj.dst = some e → Nat.blt e S.n = false := by
          cases hd : oj.dst with
          | none => exact .inr fun e h => by cases h
          | some d =>
            cases hb : Nat.blt d S.n with
            | false => exact .inr fun e h => by injection h with h; rw [← h]; exact hb
            | true =>
              rw [hd] at hf2
              simp only at hf2
              rw [look_self hs hb] at hf2
              exact .inl (hfix _ hf2)
        have hput : ∀ S' : St, S'.n = S.n → putT S' oj.dst (q.2.1 z0) = putT S' oj.dst z0 := by
          intro S' hn
          rcases hz with hz | hz
          · rw [hz]
          · rw [put_noop hz hn, put_noop hz hn]
        have hfg : (⟨(putT S oj.dst z0).n, (putT S oj.dst z0).t.map (fun p => (p.1, q.2.1 p.2)), q.2.2⟩ : St) = putT ⟨S.n, S.t.map (fun p => (p.1, q.2.1 p.2)), q.2.2⟩ oj.dst z0 := by
          rw [(put_H S oj.dst z0).2]
          rcases hz with hz | hz
          · exact map_put S oj.dst hz
          · rw [put_noop hz rfl, put_noop (S' := ⟨S.n, S.t.map (fun p => (p.1, q.2.1 p.2)), q.2.2⟩) hz rfl]
        rw [hfg] at h
        have hS2 := hB (putT ⟨S.n, S.t.map (fun p => (p.1, q.2.1 p.2)), q.2.2⟩ oi.dst q.1) q.2.1 (put_H _ _ _).2 (put_sorted hsf _ _)
          (fun u hu => ⟨hlook u hu, by
            rw [look_put hsf fun e => h3 u e hu]
            show look (S.t.map fun p => (p.1, q.2.1 p.2)) u = _
            rw [look_map _ hun]
            exact hfix _ (hlook u hu)⟩) (fun h hm pn ty c hB => by rw [(put_H _ _ _).1]; exact hbox h hm pn ty c hB) hfr0
        have hfin : k (putT (putT ⟨S.n, S.t.map (fun p => (p.1, q.2.1 p.2)), q.2.2⟩ oi.dst q.1) oj.dst z0) = some r := by
          rw [← put_comm (S := ⟨S.n, S.t.map (fun p => (p.1, q.2.1 p.2)), q.2.2⟩) hsf (fun q hq => h2 q hq) z0 _]
          exact h
        rcases hS2 with e | e
        · rw [e]; exact hfin
        · rw [e]
          have hp := hput (putT ⟨S.n, S.t.map (fun p => (p.1, q.2.1 p.2)), q.2.2⟩ oi.dst q.1) (put_H _ _ _).2
          rw [hp]
          exact hfin
  rcases rj with rj | rj
  · obtain ⟨V, e, c⟩ := one_pu (P := P) hG hj rj
    rw [e S _ hs] at h
    cases hv : V S.t with
    | none => rw [hv] at h; cases h
    | some z0 =>
      rw [hv] at h
      simp only [Option.bind_some] at h
      exact common z0 h (fun S2 _ _ hs2 hl => by rw [e S2 _ hs2, c S.t S2.t hl, hv]; rfl) (fun S2 f _ hs2 hl _ _ => .inl (by rw [e S2 _ hs2, c S.t S2.t (fun u hu => (hl u hu).2), hv]; rfl))
  · cases hop : oj.op with
    | load t x =>
      rw [one_ld hj hop hs] at h
      obtain ⟨z0, hz0, h⟩ := Option.bind_eq_some_iff.1 h
      refine common z0 h (fun S2 hH _ hs2 hl => ?_) (fun S2 f _ hs2 hl hbox hfr0 => ?_)
      · have hρ := ev_same hl
        rw [hop] at hρ
        have hx : oc S2.t x = oc S.t x := by unfold oc; rw [hρ x (by simp [Op.operands])]
        rw [one_ld hj hop hs2, gd_same hl, hx, hH, hz0]
        rfl
      · have hl2 : ∀ u ∈ oj.looksAt ops, look S2.t u = look S.t u := fun u hu => (hl u hu).2
        have hρ := ev_same hl2
        rw [hop] at hρ
        have hx : oc S2.t x = oc S.t x := by unfold oc; rw [hρ x (by simp [Op.operands])]
        have hfr := hfr0
        cases hg : gdV ops oj S with
        | none => rw [hg] at hz0; cases hz0
        | some b =>
          rw [hg] at hz0
          cases b with
          | false =>
            injection hz0 with hz0
            subst hz0
            exact .inl (by rw [one_ld hj hop hs2, gd_same hl2, hg]; rfl)
          | true =>
            simp only at hz0
            -- the address is a box that is not handed
            have hx1 : oc (putT S oj.dst z0).t x = oc S.t x := by
              have : ∀ u ∈ oj.looksAt ops, look (putT S oj.dst z0).t u = look S.t u := fun u hu => look_put hs (late_of hown hu)
              have hρ2 := ev_same this
              rw [hop] at hρ2
              unfold oc
              rw [hρ2 x (by simp [Op.operands])]
            rw [hfo] at hfr
            simp only [Bool.and_eq_true] at hfr
            have h5 := hfr.2
            rw [hop] at h5
            simp only [hx1] at h5
            cases hc : oc S.t x with
            | none => rw [hc] at h5; cases h5
            | some c =>
              rw [hc] at h5 hz0
              cases c with
              | pt g o =>
                simp only at hz0
                have hgf : memN sel g = false := by
                  cases x with
                  | tmp u =>
                    have hu : u ∈ oj.looksAt ops := List.mem_append_left _ (List.mem_filterMap.2 ⟨.tmp u, by simp [hop, Op.operands], rfl⟩)
                    have hfu := (hl u hu).1
                    have hlu : look S.t u = .a (.c (.pt g o)) := by
                      unfold oc at hc
                      split at hc
                      · rename_i c' e'
                        injection hc with hc
                        rw [← hc]
                        exact e'
                      · cases hc
                    rw [hlu] at hfu
                    simpa [frT, T.hs, A.hs, C.hs] using hfu
                  | const v =>
                    exfalso
                    unfold oc at hc
                    split at hc
                    · rename_i c' e'
                      injection hc with hc
                      rw [hc] at e'
                      simp only [ev] at e'
                      unfold ofConst at e'
                      split at e' <;> cases e'
                    · cases hc
                  | _ =>
                    exfalso
                    unfold oc at hc
                    split at hc
                    · rename_i c' e'
                      injection hc with hc
                      rw [hc] at e'
                      simp only [ev] at e'
                      first
                        | (cases e'; done)
                        | (unfold unT at e'; cases e')
                    · cases hc
                refine .inr ?_
                rw [one_ld hj hop hs2, gd_same hl2, hg, hx, hc]
                simp only
                unfold loadK at hz0 ⊢
                simp only at hz0 ⊢
                cases hB : S.H.getD g .gone with
                | box pn ty cs =>
                  rw [hB] at hz0
                  simp only at hz0
                  obtain ⟨c', hB', hld⟩ := hbox g hgf pn ty cs hB
                  rw [hB']
                  simp only
                  rw [hld, hz0]
                  rfl
                | _ => rw [hB] at hz0; cases hz0
              | pe t' d o =>
                simp only at hz0
                refine .inl ?_
                rw [one_ld hj hop hs2, gd_same hl2, hg, hx, hc]
                simp only
                have : loadK P S2.H t (.pe t' d o) some = loadK P S.H t (.pe t' d o) some := by unfold loadK; rfl
                rw [this, hz0]
                rfl
              | _ => cases h5
    | indexAddr t x ix =>
      rw [one_ia hj hop hs] at h
      obtain ⟨z0, hz0, h⟩ := Option.bind_eq_some_iff.1 h
      refine common z0 h (fun S2 hH _ hs2 hl => ?_) (fun S2 f _ hs2 hl hbox hfr0 => ?_)
      · have hρ := ev_same hl
        rw [hop] at hρ
        have hx : oc S2.t x = oc S.t x := by unfold oc; rw [hρ x (by simp [Op.operands])]
        have hix : oc S2.t ix = oc S.t ix := by unfold oc; rw [hρ ix (by simp [Op.operands])]
        rw [one_ia hj hop hs2, gd_same hl, hx, hix, hH, hz0]
        rfl
      · have hl2 : ∀ u ∈ oj.looksAt ops, look S2.t u = look S.t u := fun u hu => (hl u hu).2
        have hρ := ev_same hl2
        rw [hop] at hρ
        have hx : oc S2.t x = oc S.t x := by unfold oc; rw [hρ x (by simp [Op.operands])]
        have hix : oc S2.t ix = oc S.t ix := by unfold oc; rw [hρ ix (by simp [Op.operands])]
        have hfr := hfr0
        refine .inl ?_
        rw [one_ia hj hop hs2, gd_same hl2, hx, hix]
        cases hg : gdV ops oj S with
        | none => rw [hg] at hz0; cases hz0
        | some b =>
          rw [hg] at hz0
          cases b with
          | false =>
            injection hz0 with hz0
            subst hz0
            rfl
          | true =>
            simp only at hz0 ⊢
            have hx1 : oc (putT S oj.dst z0).t x = oc S.t x := by
              have : ∀ u ∈ oj.looksAt ops, look (putT S oj.dst z0).t u = look S.t u := fun u hu => look_put hs (late_of hown hu)
              have hρ2 := ev_same this
              rw [hop] at hρ2
              unfold oc
              rw [hρ2 x (by simp [Op.operands])]
            rw [hfo] at hfr
            simp only [Bool.and_eq_true] at hfr
            have h5 := hfr.2
            rw [hop] at h5
            simp only [hx1] at h5
            cases hc : oc S.t x with
            | none => rw [hc] at h5; cases h5
            | some c =>
              rw [hc] at h5 hz0
              cases c with
              | fz ty l =>
                have : ∀ n, indexAddrK P S2.H t (.fz ty l) n some = indexAddrK P S.H t (.fz ty l) n some := fun n => by unfold indexAddrK; rfl
                cases hn : oc S.t ix with
                | none => rw [hn] at hz0; cases hz0
                | some n =>
                  rw [hn] at hz0
                  show ((indexAddrK P S2.H t (.fz ty l) n some).map outR).bind _ = _
                  rw [this, show (indexAddrK P S.H t (.fz ty l) n some).map outR = some z0 from hz0]
                  rfl
              | _ => cases h5
    | call c =>
      obtain ⟨callee, args, ats⟩ := c
      unfold isLd at rj
      rw [hop] at rj
      cases callee with
      | value f => cases rj
      | invoke r m => cases rj
      | builtin b =>
      cases b <;> first | cases rj | skip
      rw [one_len hj hop hs] at h
      obtain ⟨z0, hz0, h⟩ := Option.bind_eq_some_iff.1 h
      have hxs : ∀ {S2 : St}, (∀ u ∈ oj.looksAt ops, look S2.t u = look S.t u) → ∀ x ∈ args.toList, oc S2.t x = oc S.t x := fun hl x hx => by
        have hρ := ev_same hl
        rw [hop] at hρ
        unfold oc
        rw [hρ x (by simp [Op.operands, Call.operands]; simpa using hx)]
      refine common z0 h (fun S2 hH _ hs2 hl => ?_) (fun S2 f _ hs2 hl hbox hfr0 => ?_)
      · have hx := hxs hl
        rw [one_len hj hop hs2, gd_same hl, hH]
        cases hg : gdV ops oj S with
        | none => rw [hg] at hz0; cases hz0
        | some b =>
          rw [hg] at hz0
          cases b with
          | false => injection hz0 with hz0; subst hz0; rfl
          | true =>
            simp only at hz0 ⊢
            split at hz0
            · rename_i x t h1 h2
              simp only [h1, h2] at hx ⊢
              rw [hx x (by simp), hz0]
              rfl
            · cases hz0
      · have hl2 : ∀ u ∈ oj.looksAt ops, look S2.t u = look S.t u := fun u hu => (hl u hu).2
        have hx := hxs hl2
        have hfr := hfr0
        refine .inl ?_
        rw [one_len hj hop hs2, gd_same hl2]
        cases hg : gdV ops oj S with
        | none => rw [hg] at hz0; cases hz0
        | some b =>
          rw [hg] at hz0
          cases b with
          | false => injection hz0 with hz0; subst hz0; rfl
          | true =>
            simp only at hz0 ⊢
            have hx1 := hxs (S2 := putT S oj.dst z0) fun u hu => look_put hs (late_of hown hu)
            rw [hfo] at hfr
            simp only [Bool.and_eq_true] at hfr
            have h5 := hfr.2
            rw [hop] at h5
            simp only at h5
            split at hz0
            · rename_i x t h1 h2
              simp only [h1, h2] at hx hx1 h5 ⊢
              rw [hx1 x (by simp)] at h5
              rw [hx x (by simp)]
              cases hc : oc S.t x with
              | none => rw [hc] at h5; cases h5
              | some c =>
                rw [hc] at h5 hz0
                cases c with
                | fz ty l =>
                  show ((lenK P S2.H t (.fz ty l) some).map outR).bind _ = _
                  rw [show lenK P S2.H t (.fz ty l) some = lenK P S.H t (.fz ty l) some from by unfold lenK; cases P.underlying t with | none => rfl | some d => cases d <;> rfl, show (lenK P S.H t (.fz ty l) some).map outR = some z0 from hz0]
                  rfl
                | s y =>
                  show ((lenK P S2.H t (.s y) some).map outR).bind _ = _
                  rw [show lenK P S2.H t (.s y) some = lenK P S.H t (.s y) some from by unfold lenK; cases P.underlying t with | none => rfl | some d => cases d <;> rfl, show (lenK P S.H t (.s y) some).map outR = some z0 from hz0]
                  rfl
                | _ => cases h5
            · cases hz0
    | _ => unfold isLd at rj; rw [hop] at rj; cases rj
end
end Go.Proofs.YtcpimjekllkbkaaGreatDoor.E
namespace Go.Proofs.YtcpimjekllkbkaaGreatDoor.E
open Go.RowKit
section
variable {R : Type} {pb : Bool} {P : Program} {r : R}
theorem mv_not {o : Oper} (h : isMv P o = false) : isHC P o = false ∧ isSt o = false := by
  unfold isMv at h
  simpa using h
theorem swap_rs {G : Gt R} (hG : GUni pb G) {ops : Array Oper} {i j : Nat} {oi oj : Oper} (hi : ops[i]? = some oi) (hj : ops[j]? = some oj) (hn : isMv P oi = false) (hc : commO P oi oj = true) (hap : Oper.apart ops oj oi = true) {S : St} (hs : SortedT S.t) (k : St → Option R) :
    oneD P G ops j S (fun S1 => oneD P G ops i S1 k) = oneD P G ops i S fun S1 => oneD P G ops j S1 k := by
  obtain ⟨h1, h2, h3⟩ := Oper.apart_spec hap
  unfold commO at hc
  rw [hn, (mv_not hn).2] at hc
  simp only [Bool.or_eq_true, Bool.and_eq_true, Bool.false_and, Bool.false_eq_true, or_false] at hc
  rcases hc with ⟨ri, rj⟩ | ⟨ri, rj⟩
  · exact swap_rd hG hi hj ri rj hap hs k
  · exact swap_st hG hi hj ri rj (fun t ht e => h3 t e ht) hs k
theorem comm_not {oi oj : Oper} (hn : isMv P oi = false) (hc : commO P oi oj = true) : isHC P oj = false ∧ isRs P oj = true ∧ isRk P oi = true := by
  unfold commO at hc
  rw [hn, (mv_not hn).2] at hc
  simp only [Bool.or_eq_true, Bool.and_eq_true, Bool.false_and, Bool.false_eq_true, or_false] at hc
  unfold isRs
  rcases hc with ⟨ri, rj⟩ | ⟨ri, rj⟩
  · exact ⟨hc_not (.inl rj), by simp [rj], ri⟩
  · exact ⟨hc_not (.inr rj), by simp [rj], pu_rd ri⟩
/-- one step as a state -/
theorem one_rs {G : Gt R} (hG : GUni pb G) {ops : Array Oper} {i : Nat} {o : Oper} (ho : ops[i]? = some o) (hr : isRs P o = true) (hn : isHC P o = false) : ∃ V : St → Option St, ∀ S, SortedT S.t → (∀ k, oneD P G ops i S k = (V S).bind k) ∧ ∀ S', V S = some S' → SortedT S'.t := by
  unfold isRs at hr
  rw [hn, Bool.or_false, Bool.or_eq_true] at hr
  rcases hr with hr | hr
  · obtain ⟨V, h1, _⟩ := one_rd (P := P) hG ho hr
    refine ⟨fun S => (V S).map fun x => putT S o.dst x, fun S hs => ⟨fun k => ?_, fun S' e => ?_⟩⟩
    · rw [h1 S k hs]; simp only []; cases V S <;> rfl
    · simp only [] at e; cases hv : V S with
      | none => rw [hv] at e; cases e
      | some x => rw [hv] at e; injection e with e; rw [← e]; exact put_sorted hs _ _
  · obtain ⟨V, h1, _⟩ := one_st (P := P) (G := G) ho hr
    refine ⟨fun S => (V S).map fun H => ⟨S.n, S.t, H⟩, fun S hs => ⟨fun k => ?_, fun S' e => ?_⟩⟩
    · rw [h1 S k hs]; simp only []; cases V S <;> rfl
    · simp only [] at e; cases hv : V S with
      | none => rw [hv] at e; cases e
      | some x => rw [hv] at e; injection e with e; rw [← e]; exact hs
theorem chk_not {ops : Array Oper} {B : List Nat} {i : Nat} {o : Oper} (ho : ops[i]? = some o) (hn : isMv P o = false) (S : St) : chkH P ops B i S = true := by
  unfold chkH
  rw [ho]
  simp only [hn, cond_false]
theorem al_hc {o : Oper} (h : isAl o = true) : isHC P o = true := by
  unfold isAl at h
  rw [Bool.and_eq_true] at h
  unfold isHC
  cases hop : o.op <;> rw [hop] at h <;> first | rfl | (cases h.2; done)
theorem al_mv {o : Oper} (h : isAl o = true) : isMv P o = true := by unfold isMv; rw [al_hc h]; rfl
theorem chkA_not {ops : Array Oper} {B : List Nat} {i : Nat} {o : Oper} (ho : ops[i]? = some o) (hn : isAl o = false) (l : List Nat) (S : St) : chkA ops B i l S = true := by
  unfold chkA
  rw [ho]
  simp only [hn, Bool.not_false, Bool.true_or]
theorem seq_not {G : Gt R} {ops : Array Oper} {B : List Nat} {i : Nat} {o : Oper} (ho : ops[i]? = some o) (hn : isAl o = false) (l : List Nat) (S : St) (k : St → Option R) : seqC P G ops B (i :: l) S k = oneC P G ops B i S fun S' => seqC P G ops B l S' k := by
  show (bif chkA ops B i l S then _ else _) = _
  rw [chkA_not ho hn]
  rfl
theorem seq_some {G : Gt R} {ops : Array Oper} {B : List Nat} {i : Nat} {l : List Nat} {S : St} {k : St → Option R} (h : seqC P G ops B (i :: l) S k = some r) : chkA ops B i l S = true ∧ oneC P G ops B i S (fun S' => seqC P G ops B l S' k) = some r := by
  have h' : (bif chkA ops B i l S then oneC P G ops B i S (fun S' => seqC P G ops B l S' k) else none) = some r := h
  cases hc : chkA ops B i l S with
  | false => rw [hc] at h'; cases h'
  | true => rw [hc] at h'; exact ⟨rfl, h'⟩
theorem not_al {o : Oper} (hn : isMv P o = false) : isAl o = false := by
  cases h : isAl o with
  | false => rfl
  | true => rw [al_mv h] at hn; cases hn
theorem oneC_not {G : Gt R} {ops : Array Oper} {B : List Nat} {i : Nat} {o : Oper} (ho : ops[i]? = some o) (hn : isMv P o = false) (S : St) (k : St → Option R) : oneC P G ops B i S k = oneD P G ops i S k := by
  unfold oneC
  rw [chk_not ho hn]
  rfl
theorem free_same {ops : Array Oper} {sel : List Nat} {S S' : St} {o : Oper} (h : ∀ u ∈ o.looksAt ops ++ o.dst.toList, look S'.t u = look S.t u) : freeO ops sel S' o = freeO ops sel S o := by
  unfold freeO
  have hl : ∀ u ∈ o.looksAt ops, look S'.t u = look S.t u := fun u hu => h u (List.mem_append_left _ hu)
  have e1 : (o.looksAt ops).all (fun u => frT sel (look S'.t u)) = (o.looksAt ops).all (fun u => frT sel (look S.t u)) := by
    rw [Bool.eq_iff_iff]
    simp only [List.all_eq_true]
    exact ⟨fun g u hu => by rw [← hl u hu]; exact g u hu, fun g u hu => by rw [hl u hu]; exact g u hu⟩
  rw [e1]
  congr 1
  congr 1
  · congr 1
    cases hd : o.dst with
    | none => rfl
    | some d => simp only []; rw [h d (by rw [hd]; simp)]
  · cases hop : o.op with
    | load t x =>
      have hρ := ev_same hl
      rw [hop] at hρ
      have hx : oc S'.t x = oc S.t x := by unfold oc; rw [hρ x (by simp [Op.operands])]
      simp only [hx]
    | indexAddr t x ix =>
      have hρ := ev_same hl
      rw [hop] at hρ
      have hx : oc S'.t x = oc S.t x := by unfold oc; rw [hρ x (by simp [Op.operands])]
      simp only [hx]
    | call c =>
      obtain ⟨callee, args, ats⟩ := c
      cases callee with
      | builtin b =>
        cases b <;> first | rfl | skip
        simp only []
        split
        · rename_i x hx
          have hρ := ev_same hl
          rw [hop] at hρ
          have hm : x ∈ args.toList := by rw [hx]; simp
          have hx : oc S'.t x = oc S.t x := by unfold oc; rw [hρ x (by simpa [Op.operands, Call.operands] using hm)]
          simp only [hx]
        · rfl
      | _ => rfl
    | _ => rfl
theorem mem_see {ops : Array Oper} {j q : Nat} {o : Oper} (hq : q ≤ j) (ho : ops[q]? = some o) {u : Nat} (hu : u ∈ o.looksAt ops ++ o.dst.toList) : u ∈ chkSee ops j := by
  unfold chkSee
  refine List.mem_flatMap.2 ⟨q, List.mem_range.2 (by omega), ?_⟩
  rw [ho]
  exact hu
theorem sel_same {G : Gt R} (hG : GUni pb G) {ops : Array Oper} {i : Nat} {o : Oper} (ho : ops[i]? = some o) (hr : isMv P o = true) {S S' : St} (hH : S'.H = S.H) (hl : ∀ t ∈ o.looksAt ops, look S'.t t = look S.t t) : hcSel P o S' = hcSel P o S := by
  obtain ⟨_, _, h, _⟩ := one_mv (P := P) hG ho hr
  exact (h S S' hH hl).2
/-- a check does not see what it does not look at -/
theorem chk_same {G : Gt R} (hG : GUni pb G) {ops : Array Oper} {B : List Nat} {j : Nat} {S S' : St} (hH : S'.H = S.H) (hl : ∀ u ∈ chkSee ops j, look S'.t u = look S.t u) : chkH P ops B j S' = chkH P ops B j S := by
  unfold chkH
  cases ho : ops[j]? with
  | none => rfl
  | some oj =>
    simp only []
    cases hm : isMv P oj with
    | false => rfl
    | true =>
      simp only [cond_true]
      have hsel : hcSel P oj S' = hcSel P oj S := sel_same hG ho hm hH fun t ht => hl t (mem_see (Nat.le_refl _) ho (List.mem_append_left _ ht))
      rw [Bool.eq_iff_iff]
      simp only [List.all_eq_true, List.mem_range]
      refine ⟨fun g q hq => ?_, fun g q hq => ?_⟩
      all_goals
        have g := g q hq
        revert g
        cases hoq : ops[q]? with
        | none => exact id
        | some oq =>
          simp only [hsel]
          cases hcSel P oj S with
          | none => exact id
          | some sel =>
            simp only []
            unfold chkJ
            rw [free_same (S := S) (S' := S') fun u hu => hl u (mem_see (Nat.le_of_lt hq) hoq hu)]
            exact id
/-- an operation that is ready goes first -/
theorem front_rs {G : Gt R} (hG : GUni pb G) {ops : Array Oper} {B : List Nat} {i : Nat} {oi : Oper} (hi : ops[i]? = some oi) (hn : isMv P oi = false) : ∀ (a : List Nat) {b : List Nat} {S : St} {k : St → Option R}, SortedT S.t →
    (∀ j ∈ a, ∃ oj, ops[j]? = some oj ∧ commO P oi oj = true ∧ Oper.apart ops oj oi = true ∧ seenO ops oi oj j = true) → seqC P G ops B (a ++ i :: b) S k = oneD P G ops i S fun S' => seqC P G ops B (a ++ b) S' k
  | [], b, S, k, hs, h => (seq_not hi (not_al hn) _ S k).trans (oneC_not hi hn S _)
  | j :: a, b, S, k, hs, h => by
    obtain ⟨oj, hj, hc, hap, hsee⟩ := h j (by simp)
    obtain ⟨hnj, rj, rki⟩ := comm_not hn hc
    have hrest := fun q hq => h q (List.mem_cons_of_mem _ hq)
    obtain ⟨Vj, ej⟩ := one_rs (P := P) hG hj rj hnj
    obtain ⟨Vi, ei, _⟩ := one_rd (P := P) hG hi rki
    have hna : isAl oj = false := by
      cases h : isAl oj with
      | false => rfl
      | true => rw [al_hc (P := P) h] at hnj; cases hnj
    show seqC P G ops B (j :: (a ++ i :: b)) S k = oneD P G ops i S fun S' => seqC P G ops B (j :: (a ++ b)) S' k
    simp only [seq_not hj hna]
    have hchk : ∀ x, chkH P ops B j (putT S oi.dst x) = chkH P ops B j S := by
      intro x
      unfold seenO at hsee
      rw [Bool.or_eq_true] at hsee
      rcases hsee with hsee | hsee
      · have : isMv P oj = false := by unfold isMv; rw [hnj]; simpa using hsee
        rw [chk_not hj this, chk_not hj this]
      · refine chk_same hG (put_H _ _ _).1 fun u hu => look_put hs fun e => ?_
        rw [e] at hsee
        simp only [Bool.not_eq_true'] at hsee
        rw [List.contains_iff_mem.2 hu] at hsee
        cases hsee
    unfold oneC
    rw [ei S _ hs]
    simp only [hchk]
    cases hck : chkH P ops B j S with
    | false =>
      simp only [cond_false]
      cases Vi S <;> rfl
    | true =>
      simp only [cond_true]
      rw [← ei S (fun S' => oneD P G ops j S' fun S1 => seqC P G ops B (a ++ b) S1 k) hs]
      have : oneD P G ops j S (fun S1 => seqC P G ops B (a ++ i :: b) S1 k) = oneD P G ops j S fun S1 => oneD P G ops i S1 fun S' => seqC P G ops B (a ++ b) S' k := by
        rw [(ej S hs).1, (ej S hs).1]
        cases hv : Vj S with
        | none => rfl
        | some S1 => exact front_rs hG hi hn a ((ej S hs).2 S1 hv) hrest
      rw [this]
      exact swap_rs hG hi hj hn hc hap hs _
theorem oneC_some {G : Gt R} {ops : Array Oper} {B : List Nat} {i : Nat} {S : St} {k : St → Option R} (h : oneC P G ops B i S k = some r) : chkH P ops B i S = true ∧ oneD P G ops i S k = some r := by
  unfold oneC at h
  cases hc : chkH P ops B i S with
  | false => rw [hc] at h; cases h
  | true => rw [hc] at h; exact ⟨rfl, h⟩
theorem rk_mv {o : Oper} (hrk : isRk P o = true) : isMv P o = false := by
  unfold isMv
  rw [hc_not (.inl hrk), Bool.false_or]
  cases hst : isSt o with
  | false => rfl
  | true =>
    unfold isSt at hst
    split at hst
    · rename_i hop
      unfold isRk isRd at hrk
      rw [hop] at hrk
      cases hrk
    · cases hst
/-- a handed call that is ready goes first -/
theorem front_hc {G : Gt R} (hG : GUni pb G) {ops : Array Oper} {B : List Nat} {i : Nat} {oi : Oper} (hi : ops[i]? = some oi) (ri : isMv P oi = true) : ∀ (a : List Nat) {b : List Nat} {S : St} {k : St → Option R}, SortedT S.t →
    (∀ j ∈ a, j < i ∧ ahead ops B i j = false ∧ ∃ oj, ops[j]? = some oj ∧ (isPu oj = true ∨ isLd oj = true) ∧ Oper.apart ops oj oi = true) → a.Pairwise (· < ·) → seqC P G ops B (a ++ i :: b) S k = some r →
    ∃ Si : St, Si.H = S.H ∧ (∀ t, (∀ j ∈ a, ∀ oj, ops[j]? = some oj → oj.dst ≠ some t) → look Si.t t = look S.t t) ∧ chkH P ops B i Si = true ∧ oneD P G ops i S (fun S' => seqC P G ops B (a ++ b) S' k) = some r
  | [], b, S, k, hs, h, hp, e => by
    obtain ⟨h1, h2⟩ := oneC_some (seq_some e).2
    exact ⟨S, rfl, fun _ _ => rfl, h1, h2⟩
  | j :: a, b, S, k, hs, h, hp, e => by
    obtain ⟨hji, hah, oj, hj, rj, hap⟩ := h j (by simp)
    obtain ⟨h1, h2, h3⟩ := Oper.apart_spec hap
    have hrk : isRk P oj = true := rj.elim pu_rd ld_rk
    have hnj : isMv P oj = false := by
      unfold isMv
      rw [hc_not (.inl hrk), Bool.false_or]
      cases hst : isSt oj with
      | false => rfl
      | true =>
        unfold isSt at hst
        split at hst
        · rename_i hop
          unfold isRk isRd at hrk
          rw [hop] at hrk
          cases hrk
        · cases hst
    obtain ⟨hpj, hpa⟩ := List.pairwise_cons.1 hp
    obtain ⟨_, e1⟩ := oneC_some (seq_some e).2
    obtain ⟨Vj, ej, _⟩ := one_rd (P := P) hG hj hrk
    rw [ej S _ hs] at e1
    obtain ⟨z0, hv, e1⟩ := Option.bind_eq_some_iff.1 e1
    have hs1 := put_sorted hs oj.dst z0
    obtain ⟨Si, hH, hlk, hchk, h4⟩ := front_hc hG hi ri a hs1 (fun q hq => h q (List.mem_cons_of_mem _ hq)) hpa e1
    obtain ⟨_, _, ci, _⟩ := one_mv (P := P) hG hi ri
    have hH1 : Si.H = S.H := hH.trans (put_H _ _ _).1
    have hlk1 : ∀ t, (∀ q ∈ j :: a, ∀ oq, ops[q]? = some oq → oq.dst ≠ some t) → look Si.t t = look S.t t := fun t ht =>
      (hlk t fun q hq => ht q (List.mem_cons_of_mem _ hq)).trans (look_put hs (ht j (by simp) oj hj))
    have hselS : hcSel P oi Si = hcSel P oi S := (ci S Si hH1 fun t ht => hlk1 t fun q hq oq hoq e => by
      obtain ⟨_, _, oq', hoq', _, hapq⟩ := h q hq
      rw [hoq] at hoq'
      injection hoq' with hoq'
      subst hoq'
      exact (Oper.apart_spec hapq).1 t e ht).2
    refine ⟨Si, hH1, hlk1, hchk, ?_⟩
    show oneD P G ops i S (fun S' => seqC P G ops B (j :: (a ++ b)) S' k) = some r
    simp only [seq_not hj (not_al hnj), oneC_not hj hnj]
    by_cases hsp : isSt oi = true ∧ isPu oj = true
    · rw [swap_st hG hj hi hsp.2 hsp.1 (fun t ht e => (Oper.apart_spec hap).1 t e ht) hs, ej S _ hs, hv]
      exact h4
    -- what was seen behind all of them
    have hc := hchk
    unfold chkH at hc
    rw [hi] at hc
    simp only [ri, cond_true] at hc
    rw [hselS] at hc
    simp only [List.all_eq_true, List.mem_range] at hc
    have hcj := hc j hji
    rw [hah, Bool.false_or, hj] at hcj
    simp only [Bool.or_eq_true, Bool.and_eq_true] at hcj
    replace hcj := hcj.resolve_left hsp
    cases hsel : hcSel P oi S with
    | none => rw [hsel] at hcj; cases hcj
    | some sel =>
      rw [hsel] at hcj
      simp only at hcj
      unfold chkJ at hcj
      simp only [Bool.and_eq_true, List.all_eq_true, List.mem_range] at hcj
      obtain ⟨⟨hfree, _⟩, hall⟩ := hcj
      have hown : lateO ops oj oj = true := by
        have := hall j hji
        rw [hj] at this
        have hlt : Nat.blt j j = false := by cases h : Nat.blt j j with
          | false => rfl
          | true => exact absurd (Nat.le_of_ble_eq_true h) (Nat.lt_irrefl _)
        rw [hlt, Bool.false_or] at this
        simp only [Bool.and_eq_true] at this
        exact this.1
      have later : ∀ q ∈ a, ∀ oq, ops[q]? = some oq → lateO ops oq oj = true ∧ ∀ d, oj.dst = some d → oq.dst ≠ some d := by
        intro q hq oq hoq
        have hjq := hpj q hq
        have := hall q (h q (List.mem_cons_of_mem _ hq)).1
        rw [hoq] at this
        have hlt : Nat.blt q j = false := by cases h : Nat.blt q j with
          | false => rfl
          | true => have : q < j := Nat.le_of_ble_eq_true h; omega
        have hne : Nat.beq q j = false := by cases h : Nat.beq q j with
          | false => rfl
          | true => have := Nat.eq_of_beq_eq_true h; omega
        rw [hlt, hne, Bool.false_or] at this
        simp only [Bool.false_or, Bool.and_eq_true] at this
        refine ⟨this.1, fun d hd e => ?_⟩
        have h6 := this.2
        rw [hd] at h6
        simp [e] at h6
      have hl1 : ∀ u ∈ oj.looksAt ops, look Si.t u = look (putT S oj.dst z0).t u := fun u hu => hlk u fun q hq oq hoq => late_of (later q hq oq hoq).1 hu
      have hfree1 : freeO ops sel (putT S oj.dst z0) oj = true := by
        unfold freeO at hfree ⊢
        rw [Bool.or_eq_true] at hfree ⊢
        refine hfree.imp id fun hfree => ?_
        simp only [Bool.and_eq_true, List.all_eq_true] at hfree ⊢
        obtain ⟨⟨f1, f2⟩, f3⟩ := hfree
        refine ⟨⟨fun u hu => by rw [← hl1 u hu]; exact f1 u hu, ?_⟩, ?_⟩
        · cases hd : oj.dst with
          | none => rfl
          | some d =>
            rw [hd] at f2
            simp only at f2 ⊢
            have := hlk d fun q hq oq hoq => (later q hq oq hoq).2 d hd
            rw [hd] at this
            rw [← this]
            exact f2
        · cases hop : oj.op with
          | load t x =>
            rw [hop] at f3
            simp only at f3 ⊢
            have hρ := ev_same hl1
            rw [hop] at hρ
            have hx : oc Si.t x = oc (putT S oj.dst z0).t x := by unfold oc; rw [hρ x (by simp [Op.operands])]
            rw [← hx]
            exact f3
          | indexAddr t x ix =>
            rw [hop] at f3
            simp only at f3 ⊢
            have hρ := ev_same hl1
            rw [hop] at hρ
            have hx : oc Si.t x = oc (putT S oj.dst z0).t x := by unfold oc; rw [hρ x (by simp [Op.operands])]
            rw [← hx]
            exact f3
          | call c =>
            obtain ⟨callee, args, ats⟩ := c
            cases callee with
            | builtin b =>
              cases b <;> first | rfl | skip
              rw [hop] at f3
              simp only at f3 ⊢
              split at f3
              · rename_i x hxa
                have hρ := ev_same hl1
                rw [hop] at hρ
                have hm : x ∈ args.toList := by rw [hxa]; simp
                have hx : oc Si.t x = oc (putT S oj.dst z0).t x := by unfold oc; rw [hρ x (by simpa [Op.operands, Call.operands] using hm)]
                simp only [← hx]
                exact f3
              · cases f3
            | _ => rfl
          | _ => rfl
      refine swap_hc hG hi hj ri rj hap hown hs hsel ?_
      rw [ej S _ hs, hv]
      simp only [Option.bind_some]
      rw [if_pos hfree1]
      exact h4
end
end Go.Proofs.YtcpimjekllkbkaaGreatDoor.E
namespace Go.Proofs.YtcpimjekllkbkaaGreatDoor.E
open Go.RowKit
/-! # 12c. Boxes that are made in any order -/
section
variable {R : Type} {pb : Bool} {P : Program} {r : R}
theorem slot_gd {H : List Blk} {h i : Nat} {B : Blk} (e : H[h]? = some (.slot i)) {g : Nat} (hg : ∀ q, H.getD g .gone ≠ .slot q) : (H.set h B).getD g .gone = H.getD g .gone := by
  have hne : h ≠ g := fun he => by subst he; exact hg i (by rw [List.getD_eq_getElem?_getD, e]; rfl)
  rw [List.getD_eq_getElem?_getD, List.getElem?_set_ne hne, ← List.getD_eq_getElem?_getD]
theorem loadK_slot {H : List Blk} {h i : Nat} {B : Blk} (e : H[h]? = some (.slot i)) {t : Nat} {c : C} {z : T} (hz : loadK P H t c some = some z) : loadK P (H.set h B) t c some = some z := by
  cases c with
  | pt g o =>
    rw [← hz]
    unfold loadK at hz ⊢
    simp only at hz ⊢
    rw [slot_gd e fun q hq => by rw [hq] at hz; cases hz]
  | po g j sz o =>
    rw [← hz]
    unfold loadK at hz ⊢
    simp only at hz ⊢
    rw [slot_gd e fun q hq => by rw [hq] at hz; cases hz]
  | pm g j o =>
    rw [← hz]
    unfold loadK at hz ⊢
    simp only at hz ⊢
    rw [slot_gd e fun q hq => by rw [hq] at hz; cases hz]
  | _ => exact hz
theorem lenK_slot {H : List Blk} {h i : Nat} {B : Blk} (e : H[h]? = some (.slot i)) {t : Nat} {c z : C} (hz : lenK P H t c some = some z) : lenK P (H.set h B) t c some = some z := by
  rw [← hz]
  unfold lenK at hz ⊢
  generalize P.underlying t = u at hz ⊢
  cases u with
  | none => rfl
  | some d =>
    cases c with
    | ow g =>
      cases d <;> first | rfl | skip
      simp only at hz ⊢
      rw [slot_gd e fun q hq => by rw [hq] at hz; cases hz]
    | _ => cases d <;> rfl
theorem indexAddrK_slot {H : List Blk} {h i : Nat} {B : Blk} (e : H[h]? = some (.slot i)) {t : Nat} {c n z : C} (hz : indexAddrK P H t c n some = some z) : indexAddrK P (H.set h B) t c n some = some z := by
  rw [← hz]
  unfold indexAddrK at hz ⊢
  generalize elemOf P t = u at hz ⊢
  cases u with
  | none => rfl
  | some d =>
    cases n <;> first | rfl | skip
    cases c with
    | ow g =>
      simp only at hz ⊢
      rw [slot_gd e fun q hq => by rw [hq] at hz; cases hz]
    | _ => rfl
/-- a reading operation does not see a box that is made beside it -/
theorem rd_slot {G : Gt R} (hG : GUni pb G) {ops : Array Oper} {j : Nat} {oj : Oper} (hj : ops[j]? = some oj) (rj : isPu oj = true ∨ isLd oj = true) {S S' : St} (hs : SortedT S.t) (hs' : SortedT S'.t) (hl : ∀ t ∈ oj.looksAt ops, look S'.t t = look S.t t)
    {h i : Nat} {B : Blk} (e : S.H[h]? = some (.slot i)) (hH : S'.H = S.H.set h B) {K : St → Option R} (ek : oneD P G ops j S K = some r) : ∃ z, (∀ K : St → Option R, oneD P G ops j S K = K (putT S oj.dst z)) ∧ ∀ K : St → Option R, oneD P G ops j S' K = K (putT S' oj.dst z) := by
  have fin : ∀ {V V' : Option T}, (∀ K : St → Option R, oneD P G ops j S K = V.bind fun x => K (putT S oj.dst x)) → (∀ K : St → Option R, oneD P G ops j S' K = V'.bind fun x => K (putT S' oj.dst x)) → (∀ z, V = some z → V' = some z) → ∃ z, (∀ K : St → Option R, oneD P G ops j S K = K (putT S oj.dst z)) ∧ ∀ K : St → Option R, oneD P G ops j S' K = K (putT S' oj.dst z) := by
    intro V V' e1 e2 e3
    rw [e1] at ek
    obtain ⟨z, hz, _⟩ := Option.bind_eq_some_iff.1 ek
    exact ⟨z, fun K => by rw [e1, hz]; rfl, fun K => by rw [e2, e3 z hz]; rfl⟩
  rcases rj with rj | rj
  · obtain ⟨V, h1, h2⟩ := one_pu (P := P) hG hj rj
    exact fin (fun K => h1 S K hs) (fun K => h1 S' K hs') fun z hz => by rw [h2 _ _ hl]; exact hz
  · have rj' := rj
    unfold isLd at rj'
    have hρ := ev_same hl
    have ocs : ∀ x ∈ oj.op.operands, oc S'.t x = oc S.t x := fun x hx => by unfold oc; rw [hρ x hx]
    cases hop : oj.op with
    | load t x =>
      refine fin (fun K => one_ld hj hop hs K) (fun K => one_ld hj hop hs' K) fun z hz => ?_
      rw [gd_same hl, ocs x (by rw [hop]; simp [Op.operands])]
      cases hg : gdV ops oj S with
      | none => rw [hg] at hz; cases hz
      | some b => cases b with
        | false => rw [hg] at hz; exact hz
        | true =>
          rw [hg] at hz
          simp only at hz ⊢
          cases hc : oc S.t x with
          | none => rw [hc] at hz; cases hz
          | some c =>
            rw [hc] at hz
            rw [hH]
            exact loadK_slot e hz
    | indexAddr t x ix =>
      refine fin (fun K => one_ia hj hop hs K) (fun K => one_ia hj hop hs' K) fun z hz => ?_
      rw [gd_same hl, ocs x (by rw [hop]; simp [Op.operands]), ocs ix (by rw [hop]; simp [Op.operands])]
      cases hg : gdV ops oj S with
      | none => rw [hg] at hz; cases hz
      | some b => cases b with
        | false => rw [hg] at hz; exact hz
        | true =>
          rw [hg] at hz
          simp only at hz ⊢
          cases hc : oc S.t x with
          | none => rw [hc] at hz; cases hz
          | some c =>
            cases hn : oc S.t ix with
            | none => rw [hc, hn] at hz; cases hz
            | some n =>
              rw [hc, hn] at hz
              simp only at hz ⊢
              obtain ⟨y, hy, rfl⟩ := Option.map_eq_some_iff.1 hz
              rw [hH, indexAddrK_slot e hy]
              rfl
    | call c =>
      obtain ⟨callee, args, ats⟩ := c
      cases callee with
      | builtin b =>
        cases b with
        | len =>
          refine fin (fun K => one_len hj hop hs K) (fun K => one_len hj hop hs' K) fun z hz => ?_
          rw [gd_same hl]
          cases hg : gdV ops oj S with
          | none => rw [hg] at hz; cases hz
          | some b => cases b with
            | false => rw [hg] at hz; exact hz
            | true =>
              rw [hg] at hz
              simp only at hz ⊢
              split at hz
              · rename_i x t hx ht
                rw [ocs x (by rw [hop]; simp [Op.operands, Call.operands, ← Array.mem_toList_iff, hx])]
                cases hc : oc S.t x with
                | none => rw [hc] at hz; cases hz
                | some c =>
                  rw [hc] at hz
                  simp only at hz ⊢
                  obtain ⟨y, hy, rfl⟩ := Option.map_eq_some_iff.1 hz
                  rw [hH, lenK_slot e hy]
                  rfl
              · cases hz
        | _ => rw [hop] at rj'; cases rj'
      | _ => rw [hop] at rj'; cases rj'
    | _ => rw [hop] at rj'; cases rj'
/-- what a box's making does, that has its place -/
theorem al_eq {G : Gt R} {ops : Array Oper} {i : Nat} {o : Oper} (ho : ops[i]? = some o) (ha : isAl o = true) {h : Nat} {S : St} (hsl : slotN i S.H 0 = some h) {K0 : St → Option R} (e0 : oneD P G ops i S K0 = some r) : ∃ pn ty cl, ∀ (S : St) (K : St → Option R), slotN i S.H 0 = some h → oneD P G ops i S K = K (putT ⟨S.n, S.t, S.H.set h (.box pn ty cl)⟩ o.dst (.a (.c (.pt h 0)))) := by
  have hrk : isRk P o = false := by unfold isRk; rw [al_hc ha]; simp
  unfold isAl at ha
  rw [Bool.and_eq_true] at ha
  obtain ⟨hg, ha⟩ := ha
  have hgn : o.guard = none := by simpa using hg
  cases hop : o.op with
  | alloc t =>
    have key : ∀ (S : St) (K : St → Option R), slotN i S.H 0 = some h → oneD P G ops i S K = slotK P t h S fun x S' => K (putT S' o.dst x) := by
      intro S K hsl
      unfold oneD
      rw [ho]
      unfold guardK
      simp only [hrk, cond_false, hgn]
      unfold opD
      rw [hop]
      simp only [hsl]
    rw [key S K0 hsl] at e0
    unfold slotK at e0
    split at e0
    · rename_i inf hinf
      split at e0
      · rename_i z hz
        refine ⟨false, t, z.cells.toList.map constC, fun S K hsl => ?_⟩
        rw [key S K hsl]
        unfold slotK
        simp only [hinf, hz]
      · cases e0
    · cases e0
  | _ => rw [hop] at ha; cases ha
theorem set_put {S : St} (H : List Blk) (d : Option Tmp) (x : T) : (⟨(putT S d x).n, (putT S d x).t, H⟩ : St) = putT ⟨S.n, S.t, H⟩ d x := by
  cases d with
  | none => rfl
  | some d => simp only [putT]; cases Nat.blt d S.n <;> rfl
theorem see_dst {ops : Array Oper} {oi : Oper} {j : Nat} (h : seeA ops oi j = true) : ∀ u ∈ chkSee ops j, oi.dst ≠ some u := by
  intro u hu e
  unfold seeA at h
  rw [e] at h
  simp only [Bool.not_eq_true'] at h
  rw [List.contains_iff_mem.2 hu] at h
  cases h
/-- of a box's making the check does not see the blocks -/
theorem chkH_al {ops : Array Oper} {B : List Nat} {j : Nat} {oj : Oper} (hj : ops[j]? = some oj) (ha : isAl oj = true) {S S' : St} (hl : ∀ u ∈ chkSee ops j, look S'.t u = look S.t u) : chkH P ops B j S' = chkH P ops B j S := by
  unfold chkH
  rw [hj]
  simp only [al_mv ha, cond_true]
  have hsel : ∀ S : St, hcSel P oj S = some [] := by
    intro S
    unfold isAl at ha
    rw [Bool.and_eq_true] at ha
    unfold hcSel
    cases hop : oj.op with
    | alloc t => rfl
    | _ => first | rfl | (rw [hop] at ha; exact absurd ha.2 (by simp))
  rw [Bool.eq_iff_iff]
  simp only [List.all_eq_true, List.mem_range, hsel]
  refine ⟨fun g q hq => ?_, fun g q hq => ?_⟩
  all_goals
    have g := g q hq
    revert g
    cases hoq : ops[q]? with
    | none => exact id
    | some oq =>
      simp only []
      unfold chkJ
      rw [free_same (S := S) (S' := S') fun u hu => hl u (mem_see (Nat.le_of_lt hq) hoq hu)]
      exact id
/-- a box's making goes first -/
theorem front_al {G : Gt R} (hG : GUni pb G) {ops : Array Oper} {B : List Nat} {i : Nat} {oi : Oper} (hi : ops[i]? = some oi) (ha : isAl oi = true) (his : i < ops.size) : ∀ (a : List Nat) {b : List Nat} {S : St} {k : St → Option R}, SortedT S.t →
    (∀ j ∈ a, j < i ∧ ahead ops B i j = false ∧ ∃ oj, ops[j]? = some oj ∧ (isPu oj = true ∨ isLd oj = true ∨ isAl oj = true ∧ seeA ops oi j = true) ∧ Oper.apart ops oj oi = true) → a.Pairwise (· < ·) → i ∉ a ++ b → seqC P G ops B (a ++ i :: b) S k = some r →
    oneD P G ops i S (fun S' => seqC P G ops B (a ++ b) S' k) = some r ∧ ((∃ j ∈ a, ∃ oj, ops[j]? = some oj ∧ isAl oj = true) → (slotN i S.H 0).isSome = true)
  | [], b, S, k, hs, h, hp, _, e => ⟨(oneC_some (seq_some e).2).2, fun ⟨j, hj, _⟩ => by cases hj⟩
  | j :: a, b, S, k, hs, h, hp, hnj0, e => by
    have hnd : i ∉ a ++ b := fun hm => hnj0 (List.mem_cons_of_mem _ hm)
    classical
    rcases Classical.em (∃ q ∈ j :: a, ∃ oq, ops[q]? = some oq ∧ isAl oq = true) with hno | hno
    rotate_left
    · obtain ⟨_, _, _, _, h1⟩ := front_hc hG hi (al_mv ha) (j :: a) hs (fun q hq => by
        obtain ⟨h1, h2, oq, h3, h4, h5⟩ := h q hq
        refine ⟨h1, h2, oq, h3, ?_, h5⟩
        rcases h4 with h4 | h4 | h4
        · exact .inl h4
        · exact .inr h4
        · exact absurd ⟨q, hq, oq, h3, h4.1⟩ hno) hp e
      exact ⟨h1, fun h => absurd h hno⟩
    obtain ⟨hji, hah, oj, hj, rj, hap⟩ := h j (by simp)
    obtain ⟨h1, h2, h3⟩ := Oper.apart_spec hap
    obtain ⟨hpj, hpa⟩ := List.pairwise_cons.1 hp
    have hrest := fun q hq => h q (List.mem_cons_of_mem _ hq)
    obtain ⟨hcA, e0⟩ := seq_some (show seqC P G ops B (j :: (a ++ i :: b)) S k = some r from e)
    obtain ⟨hcc, e1⟩ := oneC_some e0
    -- reading ones
    have rd : isPu oj = true ∨ isLd oj = true → oneD P G ops i S (fun S' => seqC P G ops B ((j :: a) ++ b) S' k) = some r ∧ (slotN i S.H 0).isSome = true := by
      intro rj
      have hrk : isRk P oj = true := rj.elim pu_rd ld_rk
      have hnj : isMv P oj = false := rk_mv hrk
      obtain ⟨Vj, ej, _⟩ := one_rd (P := P) hG hj hrk
      have e2 := e1
      rw [ej S _ hs] at e2
      obtain ⟨z0, hv, e2⟩ := Option.bind_eq_some_iff.1 e2
      obtain ⟨g1, g2⟩ := front_al hG hi ha his a (put_sorted hs oj.dst z0) hrest hpa hnd e2
      have hal : ∃ q ∈ a, ∃ oq, ops[q]? = some oq ∧ isAl oq = true := by
        obtain ⟨q, hq, oq, hoq, h4⟩ := hno
        rcases List.mem_cons.1 hq with rfl | hq
        · rw [hj] at hoq
          injection hoq with hoq
          subst hoq
          rw [al_mv (P := P) h4] at hnj
          cases hnj
        · exact ⟨q, hq, oq, hoq, h4⟩
      have hsm := g2 hal
      obtain ⟨hh, hsl⟩ := Option.isSome_iff_exists.1 hsm
      obtain ⟨pn, ty, cl, hal2⟩ := al_eq hi ha hsl g1
      rw [hal2 _ _ hsl] at g1
      rw [(put_H S oj.dst z0).1] at hsl
      refine ⟨?_, by rw [hsl]; rfl⟩
      rw [hal2 S _ hsl]
      have hat := (slotN_at hsl).2
      rw [Nat.sub_zero] at hat
      have hs2 : SortedT (putT ⟨S.n, S.t, S.H.set hh (.box pn ty cl)⟩ oi.dst (.a (.c (.pt hh 0)))).t := put_sorted (S := ⟨S.n, S.t, S.H.set hh (.box pn ty cl)⟩) hs _ _
      obtain ⟨z, k1, k2⟩ := rd_slot (P := P) hG hj rj (S := S) (S' := putT ⟨S.n, S.t, S.H.set hh (.box pn ty cl)⟩ oi.dst (.a (.c (.pt hh 0)))) hs hs2 (fun t ht => look_put (S := ⟨S.n, S.t, S.H.set hh (.box pn ty cl)⟩) hs fun e => h3 t e ht) hat (put_H _ _ _).1 e1
      show seqC P G ops B (j :: (a ++ b)) _ k = some r
      rw [seq_not hj (not_al hnj), oneC_not hj hnj, k2]
      have e3 := e1
      rw [k1] at e3
      obtain ⟨g1, _⟩ := front_al hG hi ha his a (put_sorted hs oj.dst z) hrest hpa hnd e3
      rw [hal2 _ _ (by rw [(put_H S oj.dst z).1]; exact hsl), (put_H S oj.dst z).1, set_put, put_comm (S := ⟨S.n, S.t, S.H.set hh (.box pn ty cl)⟩) hs (fun q hq => h2 q hq)] at g1
      exact g1
    rcases rj with rj | rj | ⟨rj, hsee⟩
    · obtain ⟨g1, g2⟩ := rd (.inl rj)
      exact ⟨g1, fun _ => g2⟩
    · obtain ⟨g1, g2⟩ := rd (.inr rj)
      exact ⟨g1, fun _ => g2⟩
    -- another box
    have hA := hcA
    unfold chkA at hA
    rw [hj] at hA
    simp only [rj, Bool.not_true, Bool.false_or, List.all_eq_true] at hA
    have hAi := hA i (by simp)
    have hn : alN ops B j i = true := by
      unfold alN
      rw [hah, hi]
      simp only [Bool.not_false, Bool.and_true, ha]
      exact Nat.ble_eq_true_of_le hji
    rw [hn, Bool.not_true, Bool.false_or, Bool.and_eq_true] at hAi
    obtain ⟨hsi, hsj⟩ := hAi
    obtain ⟨p, hp1⟩ := Option.isSome_iff_exists.1 hsi
    obtain ⟨q, hq1⟩ := Option.isSome_iff_exists.1 hsj
    have hpa1 := (slotN_at hp1).2
    have hqa1 := (slotN_at hq1).2
    rw [Nat.sub_zero] at hpa1 hqa1
    have hne : i ≠ j := by omega
    obtain ⟨pn, ty, cl, hjal⟩ := al_eq hj rj hq1 e1
    have e2 := e1
    rw [hjal _ _ hq1] at e2
    have hs1 : SortedT (putT ⟨S.n, S.t, S.H.set q (.box pn ty cl)⟩ oj.dst (.a (.c (.pt q 0)))).t := put_sorted (S := ⟨S.n, S.t, S.H.set q (.box pn ty cl)⟩) hs _ _
    obtain ⟨g1, _⟩ := front_al hG hi ha his a hs1 hrest hpa hnd e2
    have hp2 : slotN i (putT ⟨S.n, S.t, S.H.set q (.box pn ty cl)⟩ oj.dst (.a (.c (.pt q 0)))).H 0 = some p := by
      rw [(put_H _ _ _).1, slotN_set (Ne.symm hne) (fun _ h => by cases h) hqa1]
      exact hp1
    obtain ⟨pn2, ty2, cl2, hial⟩ := al_eq hi ha hp2 g1
    refine ⟨?_, fun _ => by rw [hp1]; rfl⟩
    rw [hial _ _ hp1]
    have hq2 : slotN j (putT ⟨S.n, S.t, S.H.set p (.box pn2 ty2 cl2)⟩ oi.dst (.a (.c (.pt p 0)))).H 0 = some q := by
      rw [(put_H _ _ _).1, slotN_set hne (fun _ h => by cases h) hpa1]
      exact hq1
    have hpq : p ≠ q := fun e => by
      subst e
      rw [hpa1] at hqa1
      injection hqa1 with hqa1
      injection hqa1 with hqa1
      exact hne hqa1
    have hsee2 := see_dst hsee
    have hck : chkH P ops B j (putT ⟨S.n, S.t, S.H.set p (.box pn2 ty2 cl2)⟩ oi.dst (.a (.c (.pt p 0)))) = true := by
      rw [chkH_al hj rj (S := S) fun u hu => look_put (S := ⟨S.n, S.t, S.H.set p (.box pn2 ty2 cl2)⟩) hs (hsee2 u hu)]
      exact hcc
    have hcA2 : chkA ops B j (a ++ b) (putT ⟨S.n, S.t, S.H.set p (.box pn2 ty2 cl2)⟩ oi.dst (.a (.c (.pt p 0)))) = true := by
      unfold chkA
      rw [hj]
      simp only [rj, Bool.not_true, Bool.false_or, List.all_eq_true]
      intro u hu
      have hAu := hA u (by rcases List.mem_append.1 hu with h | h <;> simp [h])
      rw [Bool.or_eq_true] at hAu ⊢
      refine hAu.imp id fun hAu => ?_
      rw [(put_H _ _ _).1]
      rw [Bool.and_eq_true] at hAu ⊢
      have hui : i ≠ u := by
        rintro rfl
        exact hnd hu
      rw [slotN_set hui (fun _ h => by cases h) hpa1, slotN_set hne (fun _ h => by cases h) hpa1]
      exact hAu
    show (bif chkA ops B j (a ++ b) _ then oneC P G ops B j _ _ else none) = some r
    rw [hcA2]
    unfold oneC
    rw [hck]
    simp only [cond_true]
    rw [hjal _ _ hq2]
    rw [hial _ _ hp2] at g1
    rw [← g1]
    congr 1
    rw [(put_H _ _ _).1, (put_H _ _ _).1]
    have w1 := set_put (S := ⟨S.n, S.t, S.H.set p (.box pn2 ty2 cl2)⟩) ((S.H.set p (.box pn2 ty2 cl2)).set q (.box pn ty cl)) oi.dst (.a (.c (.pt p 0)))
    have w2 := set_put (S := ⟨S.n, S.t, S.H.set q (.box pn ty cl)⟩) ((S.H.set q (.box pn ty cl)).set p (.box pn2 ty2 cl2)) oj.dst (.a (.c (.pt q 0)))
    rw [w1, w2, List.set_comm _ _ hpq]
    exact (put_comm (S := ⟨S.n, S.t, (S.H.set q (.box pn ty cl)).set p (.box pn2 ty2 cl2)⟩) hs (fun q hq => h2 q hq) _ _).symm
end
end Go.Proofs.YtcpimjekllkbkaaGreatDoor.E
namespace Go.Proofs.YtcpimjekllkbkaaGreatDoor.E
open Go.RowKit
section
variable {R : Type} [Esc R] {pb : Bool} {P : Program} {w0 w w' : World} {U : U0} {F F' : Nat → Prop} {hv : List Value} {H : List Blk} {r : R}
theorem guard_sorted {ops : Array Oper} {o : Oper} {S : St} {a : Act} (hR : Rel w0 U S a w F hv) {yes no : St → Option R} (h : guardK ops o S yes no = some r) :
    (Region.wanted o (yielded ops a.tmps) = true ∧ ∃ S', yes S' = some r ∧ Rel w0 U S' a w F hv ∧ (SortedT S.t → SortedT S'.t)) ∨ (Region.wanted o (yielded ops a.tmps) = false ∧ ∃ S', no S' = some r ∧ Rel w0 U S' a w F hv ∧ (SortedT S.t → SortedT S'.t)) := by
  classical
  have h2 : guardK ops o S (fun S' => if (SortedT S.t → SortedT S'.t) then yes S' else none) (fun S' => if (SortedT S.t → SortedT S'.t) then no S' else none) = some r := by
    have kn : ∀ d b, SortedT S.t → SortedT (knowT S d b).t := fun d b hs => sorted_ins hs _ _
    unfold guardK at h ⊢
    cases hg : o.guard with
    | none => rw [hg] at h; simp only at h ⊢; rw [if_pos (fun hs => hs)]; exact h
    | some q =>
      obtain ⟨j, want⟩ := q
      rw [hg] at h
      simp only at h ⊢
      cases hd : (ops[j]?).bind (·.dst) with
      | none => rw [hd] at h; cases h
      | some d =>
        rw [hd] at h
        simp only at h ⊢
        cases hl : look S.t d with
        | tu l => cases l with
          | nil => rw [hl] at h; simp only at h ⊢; rw [if_pos (fun hs => hs)]; exact h
          | cons => rw [hl] at h; cases h
        | a x => cases x with
          | ag => rw [hl] at h; cases h
          | c y =>
            cases y with
            | b x =>
              rw [hl] at h
              simp only at h ⊢
              cases x <;> cases want <;> simp only [if_true, Bool.false_eq_true, if_false] at h ⊢ <;> rw [if_pos (kn _ _)] <;> exact h
            | _ => rw [hl] at h; cases h
  rcases guardK_sound hR h2 with ⟨hw, S', h1, h3⟩ | ⟨hw, S', h1, h3⟩
  · split at h1
    · exact .inl ⟨hw, S', h1, h3, ‹_›⟩
    · cases h1
  · split at h1
    · exact .inr ⟨hw, S', h1, h3, ‹_›⟩
    · cases h1
/-- nothing points to a box that is not made yet -/
theorem nil_ref {c : C} {h : Nat} (hn : hv[h]? = some .nilIface) {v : Value} (hc : RepC w F hv v c) : h ∉ c.hs := by
  intro hm
  cases c with
  | ow g =>
    simp only [C.hs, List.mem_singleton] at hm
    subst hm
    obtain ⟨h1, ad, n, c, rfl⟩ := hc
    rw [hn] at h1
    cases h1
  | pt g o =>
    simp only [C.hs, List.mem_singleton] at hm
    subst hm
    obtain ⟨b, h1, _⟩ := hc
    rw [hn] at h1
    cases h1
  | po g i sz o =>
    simp only [C.hs, List.mem_singleton] at hm
    subst hm
    obtain ⟨b, n, c, h1, _⟩ := hc
    rw [hn] at h1
    cases h1
  | pm g i o =>
    simp only [C.hs, List.mem_singleton] at hm
    subst hm
    obtain ⟨l, b, h1, _⟩ := hc
    rw [hn] at h1
    cases h1
  | mp g =>
    simp only [C.hs, List.mem_singleton] at hm
    subst hm
    obtain ⟨b, ps, h1, _⟩ := hc
    rw [hn] at h1
    cases h1
  | fn f hs =>
    obtain ⟨caps, _, ha⟩ := hc
    have : h ∈ hs := hm
    obtain ⟨j, hj⟩ := List.mem_iff_getElem?.1 this
    obtain ⟨u, _, g, h1, _⟩ := ha.get hj
    rw [hn] at h1
    cases h1
  | _ => cases hm
theorem nil_refL {h : Nat} (hn : hv[h]? = some .nilIface) : ∀ {cl : List C} {vs : List Value}, All2 (RepC w F hv) vs cl → h ∉ hsL cl
  | [], _, _ => by simp [hsL]
  | c :: cl, v :: vs, ha => by
    simp only [hsL, List.mem_append, not_or]
    exact ⟨nil_ref hn ha.1, nil_refL hn ha.2⟩
  | _ :: _, [], ha => ha.elim
theorem nil_refA {h : Nat} (hn : hv[h]? = some .nilIface) {x : A} {v : Value} (hx : RepA w F hv v x) : h ∉ x.hs := by
  cases x with
  | c x => exact nil_ref hn hx
  | ag l => obtain ⟨cs, _, hc⟩ := hx; exact nil_refL hn hc
theorem nil_refT {h : Nat} (hn : hv[h]? = some .nilIface) {x : T} {v : Value} (hx : RepT w F hv v x) : h ∉ x.hs := by
  cases x with
  | a x => exact nil_refA hn hx
  | tu l =>
    obtain ⟨vs, _, ha⟩ := hx
    simp only [T.hs, List.mem_flatten, List.mem_map]
    rintro ⟨_, ⟨x, hx, rfl⟩, hm⟩
    obtain ⟨j, hj⟩ := List.mem_iff_getElem?.1 hx
    obtain ⟨u, _, hu⟩ := ha.get hj
    exact nil_refA hn hu hm
/-- a box is made at its place -/
theorem slot_sound {S : St} {a : Act} (hR : Rel w0 U S a w F hv) {i h : Nat} (hsl : slotN i S.H 0 = some h) {o : Oper} {t : Nat} {k : T → St → Option R} (e : slotK P t h S k = some r) (hop : o.op = .alloc t) {K : Act → World → Prop} {Q : Exit → Act → World → Prop}
    (hK : ∀ H' w' hv' v, k (.a (.c (.pt h 0))) ⟨S.n, S.t, H'⟩ = some r → Rel w0 U ⟨S.n, S.t, H'⟩ a w' F hv' → RepT w' F hv' v (.a (.c (.pt h 0))) → K (a.put o.dst v) w') : o.wp P a w K Q := by
  have hat := (slotN_at hsl).2
  rw [Nat.sub_zero] at hat
  unfold slotK at e
  split at e
  case h_2 => cases e
  rename_i inf hi
  split at e
  case h_2 => cases e
  rename_i z hz
  have hlt : h < hv.length := by rw [hR.iv.len]; exact (List.getElem?_eq_some_iff.1 hat).1
  have hn : hv[h]? = some .nilIface := by
    have := hR.iv.rep h hv[h] _ (List.getElem?_eq_getElem hlt) hat
    rw [List.getElem?_eq_getElem hlt, show hv[h] = _ from this]
  have hnew : (w.alloc (.cells z.cells t)).heap[w.heap.size]? = some (.cells z.cells t (0, 0)) := by show (w.heap.push _)[w.heap.size]? = _; simp
  have hk : ∀ k, k < w.heap.size → (w.alloc (.cells z.cells t)).heap[k]? = w.heap[k]? := fun k hk => Below.heap_alloc w _ k hk
  have iv' := hR.iv.upd (w' := w.alloc (.cells z.cells t)) (F' := F) (v' := .pointer (some ⟨w.heap.size, 0, none⟩)) (B' := .box false t (z.cells.toList.map constC)) hn hat rfl rfl rfl (by simp) (fun k h1 _ => hk k h1) (fun _ h => h) (fun _ h => .inl h)
    (.inr fun g u C h1 h2 _ hm => by
      cases C with
      | box pn ty c =>
        obtain ⟨b, cs, _, _, hc⟩ := hR.iv.rep g u _ h1 h2
        exact nil_refL hn hc hm
      | _ => cases hm)
    ⟨w.heap.size, z.cells, rfl, hnew, consts_rep z.cells.toList⟩
    (fun g hg => by
      have : w.heap.size = g := by simpa [owns, vblocks, vblock, eq_comm] using hg.2
      subst this
      exact ⟨fun hf => Nat.lt_irrefl _ (hR.iv.fb _ hf), .inr (Nat.le_refl _)⟩) (fun h => by cases h)
  have st : Step w F hv (w.alloc (.cells z.cells t)) F (hv.set h (.pointer (some ⟨w.heap.size, 0, none⟩))) (fun g => g ≠ h) := ⟨fun _ h => h, fun b hb => hk b (hR.iv.fb b hb), fun g hg u hu => by rw [List.getElem?_set_ne (Ne.symm hg)]; exact hu⟩
  have hR' : Rel w0 U ⟨S.n, S.t, S.H.set h (.box false t (z.cells.toList.map constC))⟩ a (w.alloc (.cells z.cells t)) F (hv.set h (.pointer (some ⟨w.heap.size, 0, none⟩))) :=
    ⟨hR.sz, fun p hp => st.t (fun g hg e => by subst e; exact nil_refT hn (hR.tm p hp) hg) (hR.tm p hp), hR.df, iv'⟩
  refine wp_value ?_ (hK _ _ _ _ e hR' ⟨w.heap.size, by rw [List.getElem?_set_self hlt], rfl⟩)
  unfold execOp
  rw [hop]
  exact run_v (by simp [Instr.alloc, zeroValue, typeInfo, hi, hz, newVar, newRow, Sem.run_bind])
theorem oneD_sound {G : Gt R} (hG : AllSound P G) (hU : GUni pb G) {ops : Array Oper} {i : Nat} {o : Oper} (ho : ops[i]? = some o) {S : St} {a : Act} (hR : Rel w0 U S a w F hv) {k : St → Option R} (h : oneD P G ops i S k = some r)
    {K : Act → World → Prop} {Q : Exit → Act → World → Prop} (hP : PanOk w0 U r Q) (hK : ∀ S' a' w' F' hv', k S' = some r → a'.tmps.size = a.tmps.size → Rel w0 U S' a' w' F' hv' → (isRs P o = true → SortedT S.t → SortedT S'.t) → K a' w') : wpOp P ops Q i K a w := by
  unfold oneD at h
  rw [ho] at h
  unfold wpOp
  rw [ho]
  rcases guard_sorted hR h with ⟨hw, S1, h1, hR1, hs1⟩ | ⟨hw, S1, h1, hR1, hs1⟩
  · simp only [hw, if_true]
    refine .inl ?_
    cases hr : isRk P o with
    | true =>
      rw [hr] at h1
      simp only [cond_true] at h1
      refine rdK_sound hG hR1 h1 hP fun x w' F' v h2 gr hx => ?_
      exact hK _ _ _ _ _ h2 (put_size _ _ _) ((hR1.grows gr).putT hx o.dst) fun _ hs => put_sorted (hs1 hs) _ _
    | false =>
      rw [hr] at h1
      simp only [cond_false] at h1
      classical
      cases hsl : (match o.op with | .alloc _ => slotN i S1.H 0 | _ => none) with
      | some h =>
        cases hop : o.op with
        | alloc t =>
          rw [hop] at hsl
          simp only at hsl
          unfold opD at h1
          rw [hop] at h1
          simp only [hsl] at h1
          exact slot_sound (P := P) hR1 hsl h1 hop fun H' w' hv' v h2 h3 hx => hK _ _ _ _ _ h2 (put_size _ _ _) (h3.putT hx o.dst) fun _ hs => put_sorted (S := ⟨S1.n, S1.t, H'⟩) (hs1 hs) _ _
        | _ => rw [hop] at hsl; cases hsl
      | none =>
      replace h1 : opK P G o S1 (fun x S' => k (putT S' o.dst x)) = some r := by
        unfold opD at h1
        cases hop : o.op with
        | alloc t =>
          rw [hop] at h1 hsl
          simp only at hsl
          simp only [hsl] at h1
          exact h1
        | _ => rw [hop] at h1; exact h1
      have h2 : opK P G o S1 (fun x S' => if (isRs P o = true → SortedT S1.t → SortedT S'.t) then k (putT S' o.dst x) else none) = some r := by
        cases hst : isSt o with
        | true =>
          have hst2 := hst
          unfold isSt at hst2
          cases hop : o.op with
          | store t x y =>
            unfold opK at h1 ⊢
            rw [hop] at h1
            rw [hop]
            simp only at h1 ⊢
            split at h1
            · rename_i c z hc hz
              split at h1
              · rename_i cl hcl
                rw [storeK_bind] at h1
                rw [storeK_bind]
                simpa using h1
              · cases h1
            · cases h1
          | _ => rw [hop] at hst2; cases hst2
        | false =>
          cases hhc : isHC P o with
          | false =>
            have hn : isRs P o = false := by unfold isRs; rw [hr, hst, hhc]; rfl
            have e : (fun (x : T) (S' : St) => if (isRs P o = true → SortedT S1.t → SortedT S'.t) then k (putT S' o.dst x) else none) = fun x S' => k (putT S' o.dst x) := by
              funext x S'
              rw [if_pos (fun h => by rw [hn] at h; cases h)]
            rw [e]
            exact h1
          | true =>
            have hh := hhc
            unfold isHC at hh
            cases hop : o.op with
            | call c =>
              rw [hop] at hh
              simp only at hh
              obtain ⟨callee, args, argTypes⟩ := c
              cases callee with
              | value f =>
                unfold opK at h1 ⊢
                rw [hop] at h1
                rw [hop]
                simp only at h1 ⊢
                cases hy : oc S1.t f with
                | none => rw [hy] at h1; cases h1
                | some y =>
                  rw [hy] at h1
                  simp only at h1 ⊢
                  obtain ⟨W, hW, _⟩ := callK_bind (P := P) hU y args.toList
                  rw [hW] at h1 ⊢
                  cases hw2 : W S1.H (argsK S1.t args.toList) with
                  | c o => rw [hw2] at h1; exact h1
                  | a q =>
                    rw [hw2] at h1
                    simp only [Pl.run] at h1 ⊢
                    rw [if_pos (fun _ hs => sorted_fg hs)]
                    exact h1
              | builtin b =>
                cases b with
                | append =>
                  unfold opK at h1 ⊢
                  rw [hop] at h1
                  rw [hop]
                  simp only at h1 ⊢
                  split at h1
                  · rename_i x y t u _ _
                    split at h1
                    · rename_i htu
                      rw [if_pos htu]
                      split at h1
                      · rename_i s z hs hz
                        rw [appendK_bind] at h1 ⊢
                        cases hw2 : appW P t s z S1.H with
                        | none => rw [hw2] at h1; cases h1
                        | some q =>
                          rw [hw2] at h1
                          simp only [Option.bind_some] at h1 ⊢
                          rw [if_pos (fun _ hs => sorted_map hs)]
                          exact h1
                      · cases h1
                    · cases h1
                  · cases h1
                | _ => cases hh
              | _ => cases hh
            | buildSlice t n ps =>
              unfold opK buildSliceK at h1 ⊢
              rw [hop] at h1
              rw [hop]
              simp only at h1 ⊢
              split at h1
              · split at h1
                · rename_i hc
                  rw [if_pos hc]
                  split at h1
                  · rw [if_pos (fun _ hs => hs)]
                    exact h1
                  · cases h1
                · cases h1
              · cases h1
            | alloc t =>
              unfold opK at h1 ⊢
              rw [hop] at h1
              rw [hop]
              simp only at h1 ⊢
              split at h1
              · split at h1
                · simp only [newK] at h1 ⊢
                  rw [if_pos (fun _ hs => hs)]
                  exact h1
                · cases h1
              · cases h1
            | box t x =>
              unfold opK at h1 ⊢
              rw [hop] at h1
              rw [hop]
              simp only at h1 ⊢
              split at h1
              · split at h1
                · simp only [newK] at h1 ⊢
                  rw [if_pos (fun _ hs => hs)]
                  exact h1
                · cases h1
              · cases h1
            | _ => rw [hop] at hh; cases hh
      refine opK_sound hG hR1 h2 hP fun x S' w' F' hv' v h3 h4 hx => ?_
      split at h3
      · rename_i hst
        exact hK _ _ _ _ _ h3 (put_size _ _ _) (h4.putT hx o.dst) fun e hs => put_sorted (hst e (hs1 hs)) _ _
      · cases h3
  · simp only [hw]
    exact hK _ _ _ _ _ h1 (put_size _ _ _) (hR1.putT (v := undef) (x := .tu []) (show RepT w F hv undef (.tu []) from ⟨#[], rfl, trivial⟩) o.dst) fun _ hs => put_sorted (hs1 hs) _ _
def remaining (n : Nat) (listed : Array Bool) : List Nat := (List.range n).filter fun i => !listed.getD i true
theorem mem_remaining {n : Nat} {listed : Array Bool} {i : Nat} : i ∈ remaining n listed ↔ i < n ∧ listed.getD i true = false := by
  simp [remaining]
theorem remaining_set {n : Nat} {listed : Array Bool} {i : Nat} (hn : listed.size = n) : ∀ {a b : List Nat}, remaining n listed = a ++ i :: b → remaining n (listed.setIfInBounds i true) = a ++ b := by
  intro a b h
  have nd : (a ++ i :: b).Nodup := by rw [← h]; exact (List.nodup_range).filter _
  have hi : i < n := (mem_remaining.1 (by rw [h]; simp)).1
  have e : remaining n (listed.setIfInBounds i true) = (remaining n listed).filter fun j => !(j == i) := by
    unfold remaining
    rw [List.filter_filter]
    apply List.filter_congr
    intro j hj
    have hj' : j < n := List.mem_range.1 hj
    by_cases hji : i = j
    · subst hji
      simp [hn, hi]
    · have : (j == i) = false := by simpa using Ne.symm hji
      rw [getD_set_ne true hji, this]
      simp
  rw [e, h, List.filter_append, List.filter_cons]
  simp only [beq_self_eq_true, Bool.not_true, Bool.false_eq_true, if_false]
  have ha : ∀ j ∈ a, (!(j == i)) = true := fun j hj => by
    have : j ≠ i := by
      rintro rfl
      exact (List.nodup_append.1 nd).2.2 j hj j (by simp) rfl
    simpa using this
  have hb : ∀ j ∈ b, (!(j == i)) = true := fun j hj => by
    have : j ≠ i := by
      rintro rfl
      exact (List.nodup_cons.1 (List.nodup_append.1 nd).2.1).1 hj
    simpa using this
  rw [List.filter_eq_self.2 ha, List.filter_eq_self.2 hb]
def Shut (ops : Array Oper) (listed : Array Bool) : Prop := ∀ i o, ops[i]? = some o → listed.getD i true = true → ∀ d ∈ depsO o, listed.getD d true = true
theorem ahead_listed {ops : Array Oper} {B : List Nat} {listed : Array Bool} (hsh : Shut ops listed) (hB : ∀ i j, j < i → i < ops.size → Nat.testBit (B.getD i 0) j = true → ahead ops B i j = true) (hback : ∀ i o, ops[i]? = some o → ∀ d ∈ depsO o, d < i) (hlt : ∀ i, i < ops.size → B.getD i 0 < 2 ^ i) :
    ∀ (i : Nat) (o : Oper), ops[i]? = some o → (∀ d ∈ depsO o, listed.getD d true = true) → ∀ j, j < i → ahead ops B i j = true → listed.getD j true = true := by
  intro i
  induction i using Nat.strongRecOn with
  | _ i ih =>
    intro o ho hd j hji ha
    unfold ahead at ha
    rw [ho] at ha
    simp only [Bool.and_eq_true, List.any_eq_true, Bool.or_eq_true] at ha
    obtain ⟨_, d, hdm, h⟩ := ha
    rcases h with h | h
    · have := Nat.eq_of_beq_eq_true h
      subst this
      exact hd d hdm
    · have hdi := hback i o ho d hdm
      have hdl := hd d hdm
      have hds : d < ops.size := Nat.lt_trans hdi (Array.getElem?_eq_some_iff.1 ho).1
      have hod : ops[d]? = some ops[d] := Array.getElem?_eq_getElem hds
      by_cases hjd : j < d
      · exact ih d hdi _ hod (hsh d _ hod hdl) j hjd (hB d j hjd hds h)
      · have h1 := hlt d hds
        have h2 : 2 ^ d ≤ 2 ^ j := Nat.pow_le_pow_right (by decide) (Nat.le_of_not_lt hjd)
        rw [Nat.testBit_lt_two_pow (Nat.lt_of_lt_of_le h1 h2)] at h
        cases h
theorem regOk_spec {ops : Array Oper} (h : regOk P ops = true) {i : Nat} (hi : i < ops.size) : backOk ops i = true ∧ (befs ops.toList []).getD i 0 < 2 ^ i ∧ ∀ j, j < i → pairOk P ops (befs ops.toList []) i j = true := by
  simp only [regOk, List.all_eq_true, List.mem_range, Bool.and_eq_true] at h
  obtain ⟨⟨h1, h2⟩, h3⟩ := h i hi
  exact ⟨h1, Nat.le_of_ble_eq_true h2, h3⟩
theorem mem_deps {o : Oper} {d : Nat} : d ∈ depsO o ↔ ∃ e ∈ o.after, Region.binds .any e = true ∧ e.on = d := by
  simp [depsO, and_assoc]
theorem take_all {ops : Array Oper} {i : Nat} (h : (ops.toList.take (i + 1)).all (isRs P) = true) {j : Nat} (hj : j ≤ i) {o : Oper} (ho : ops[j]? = some o) : isRs P o = true := by
  refine List.all_eq_true.1 h o (List.mem_of_getElem? (i := j) ?_)
  rw [List.getElem?_take, if_pos (by omega)]
  simpa using ho
theorem any_sound {G : Gt R} (hG : AllSound P G) (hU : GUni pb G) {ops : Array Oper} (hreg : regOk P ops = true) {k : St → Option R} {Q : Exit → Act → World → Prop} (hP : PanOk w0 U r Q) {n : Nat}
    (hK : ∀ S' a' w' F' hv', k S' = some r → a'.tmps.size = n → Rel w0 U S' a' w' F' hv' → Q .normal a' w') :
    ∀ (m : Nat) (listed : Array Bool) (S : St) (a : Act) (w : World) (F : Nat → Prop) (hv : List Value), listed.size = ops.size → (remaining ops.size listed).length = m → Shut ops listed → (SortedT S.t ∨ ∀ i ∈ remaining ops.size listed, ¬ (ops.toList.take (i + 1)).all (isRs P) = true) →
      seqC P G ops (befs ops.toList []) (remaining ops.size listed) S k = some r → a.tmps.size = n → Rel w0 U S a w F hv → wpAny P .any ops Q m listed a w := by
  have hback : ∀ i o, ops[i]? = some o → ∀ d ∈ depsO o, d < i := by
    intro i o ho d hd
    have := (regOk_spec hreg (Array.getElem?_eq_some_iff.1 ho).1).1
    unfold backOk at this
    rw [ho] at this
    exact Nat.le_of_ble_eq_true (List.all_eq_true.1 this d hd)
  have hB : ∀ i j, j < i → i < ops.size → Nat.testBit ((befs ops.toList []).getD i 0) j = true → ahead ops (befs ops.toList []) i j = true := by
    intro i j hji hi ht
    have := (regOk_spec hreg hi).2.2 j hji
    unfold pairOk at this
    rw [ht] at this
    simpa using this
  have hlt : ∀ i, i < ops.size → (befs ops.toList []).getD i 0 < 2 ^ i := fun i hi => (regOk_spec hreg hi).2.1
  intro m
  induction m with
  | zero =>
    intro listed S a w F hv hls hm hsh hso h hn hR
    have h0 : remaining ops.size listed = [] := List.length_eq_zero_iff.1 hm
    rw [h0] at h
    refine ⟨?_, hK _ _ _ _ _ h hn hR⟩
    cases e : Region.ready .any ops listed with
    | nil => rfl
    | cons x xs =>
      have : x ∈ Region.ready .any ops listed := by rw [e]; simp
      obtain ⟨h1, o, ho, _⟩ := mem_ready.1 this
      have : x ∈ remaining ops.size listed := mem_remaining.2 ⟨(Array.getElem?_eq_some_iff.1 ho).1, h1⟩
      rw [h0] at this
      cases this
  | succ m ih =>
    intro listed S a w F hv hls hm hsh hso h hn hR
    refine ⟨fun hnil => ?_, fun i hi => ?_⟩
    · -- the first one that is left is ready
      cases hrem : remaining ops.size listed with
      | nil => rw [hrem] at hm; cases hm
      | cons i b =>
        exfalso
        have him := mem_remaining.1 (show i ∈ remaining ops.size listed by rw [hrem]; simp)
        have hmin : ∀ j, j < i → listed.getD j true = true := by
          intro j hj
          cases e : listed.getD j true with
          | true => rfl
          | false =>
            have hjm : j ∈ remaining ops.size listed := mem_remaining.2 ⟨Nat.lt_trans hj him.1, e⟩
            have hsort : (remaining ops.size listed).Pairwise (· < ·) := (List.pairwise_lt_range).filter _
            rw [hrem] at hjm hsort
            rcases List.mem_cons.1 hjm with rfl | hjm
            · omega
            · have := List.rel_of_pairwise_cons hsort hjm
              omega
        have : i ∈ Region.ready .any ops listed := mem_ready.2 ⟨him.2, _, Array.getElem?_eq_getElem him.1, fun e he hb => by
          have hd := hback i _ (Array.getElem?_eq_getElem him.1) e.on (mem_deps.2 ⟨e, he, hb, rfl⟩)
          have := hmin e.on hd
          have hlt2 : e.on < listed.size := by rw [hls]; omega
          rw [Array.getD_eq_getD_getElem?, Array.getElem?_eq_getElem hlt2] at this ⊢
          exact this⟩
        rw [hnil] at this
        cases this
    · obtain ⟨hiu, o, ho, hdeps⟩ := mem_ready.1 hi
      have his : i < ops.size := (Array.getElem?_eq_some_iff.1 ho).1
      have hdl : ∀ d ∈ depsO o, listed.getD d true = true := by
        intro d hd
        obtain ⟨e, he, hb, rfl⟩ := mem_deps.1 hd
        have := hdeps e he hb
        have hd2 := hback i o ho _ hd
        have hlt2 : e.on < listed.size := by rw [hls]; omega
        rw [Array.getD_eq_getD_getElem?, Array.getElem?_eq_getElem hlt2] at this ⊢
        exact this
      have him : i ∈ remaining ops.size listed := mem_remaining.2 ⟨his, hiu⟩
      obtain ⟨pre, post, hsplit⟩ := List.append_of_mem him
      have hsort : (remaining ops.size listed).Pairwise (· < ·) := (List.pairwise_lt_range).filter _
      have hpre : ∀ j ∈ pre, j < i ∧ ahead ops (befs ops.toList []) i j = false ∧ (ops.toList.take (i + 1)).all (isRs P) = true ∧ ∃ oj, ops[j]? = some oj ∧ Oper.apart ops oj o = true ∧ (commO P o oj = true ∧ seenO ops o oj j = true ∨ isAl o = true ∧ isAl oj = true ∧ seeA ops o j = true) := by
        intro j hj
        have hji : j < i := by
          rw [hsplit, List.pairwise_append] at hsort
          exact hsort.2.2 j hj i (by simp)
        have hju : listed.getD j true = false := (mem_remaining.1 (by rw [hsplit]; simp [hj])).2
        have hp := (regOk_spec hreg his).2.2 j hji
        unfold pairOk at hp
        have hah : ahead ops (befs ops.toList []) i j = false := by
          cases hp : ahead ops (befs ops.toList []) i j with
          | false => rfl
          | true =>
            have := ahead_listed hsh hB hback hlt i o ho hdl j hji hp
            rw [hju] at this
            cases this
        rw [Bool.or_eq_true] at hp
        rcases hp with hp | hp
        · rw [hah] at hp; cases hp
        · rw [Bool.and_eq_true] at hp
          have hp := hp.2
          rw [ho] at hp
          cases hoj : ops[j]? with
          | none => rw [hoj] at hp; cases hp
          | some oj =>
            rw [hoj] at hp
            simp only [Bool.and_eq_true, Bool.or_eq_true] at hp
            exact ⟨hji, hah, hp.1.1, oj, rfl, hp.1.2, hp.2.imp id fun h => ⟨h.1.1, h.1.2, h.2⟩⟩
      have hfront : oneD P G ops i S (fun S' => seqC P G ops (befs ops.toList []) (pre ++ post) S' k) = some r := by
        rw [hsplit] at h
        cases pre with
        | nil => exact (oneC_some (seq_some h).2).2
        | cons j pre =>
          have hall : (ops.toList.take (i + 1)).all (isRs P) = true := (hpre j (by simp)).2.2.1
          have hs : SortedT S.t := hso.resolve_right fun hno => hno i him hall
          cases hhc : isMv P o with
          | false =>
            rw [← front_rs hU ho hhc (j :: pre) hs fun q hq => ?_]
            · exact h
            · obtain ⟨hqi, _, hal, oq, hoq, hap, hc⟩ := hpre q hq
              rcases hc with ⟨hc, hse⟩ | ⟨hc, _⟩
              · exact ⟨oq, hoq, hc, hap, hse⟩
              · rw [al_mv (P := P) hc] at hhc; cases hhc
          | true =>
            have hpw : (j :: pre).Pairwise (· < ·) := by
              rw [hsplit, List.pairwise_append] at hsort
              exact hsort.1
            have hrk : isRk P o = false := by
              cases hrk : isRk P o with
              | false => rfl
              | true => rw [rk_mv hrk] at hhc; cases hhc
            have hpu : isPu o = false := by
              cases hpu : isPu o with
              | false => rfl
              | true => rw [pu_rd hpu] at hrk; cases hrk
            have hcm : ∀ oq, commO P o oq = true → isPu oq = true ∨ isLd oq = true := by
              intro oq hc
              unfold commO at hc
              rw [hrk, hpu, hhc] at hc
              simp only [Bool.false_and, Bool.true_and, Bool.false_or, Bool.or_false, Bool.or_eq_true, Bool.and_eq_true] at hc
              rcases hc with hc | hc
              · exact .inl hc.2
              · exact hc
            cases hala : isAl o with
            | true =>
              have hnd : i ∉ (j :: pre) ++ post := by
                have nd : ((j :: pre) ++ i :: post).Nodup := by rw [← hsplit]; exact (List.nodup_range).filter _
                intro hm
                rw [List.nodup_append] at nd
                rcases List.mem_append.1 hm with hm | hm
                · exact nd.2.2 i hm i (by simp) rfl
                · exact (List.nodup_cons.1 nd.2.1).1 hm
              exact (front_al hU ho hala his (j :: pre) hs (fun q hq => by
                obtain ⟨hqi, hah, hal, oq, hoq, hap, hc⟩ := hpre q hq
                refine ⟨hqi, hah, oq, hoq, ?_, hap⟩
                rcases hc with ⟨hc, _⟩ | ⟨_, hc⟩
                · rcases hcm oq hc with h | h
                  · exact .inl h
                  · exact .inr (.inl h)
                · exact .inr (.inr hc)) hpw hnd h).1
            | false =>
            obtain ⟨_, _, _, _, hgo⟩ := front_hc hU ho hhc (j :: pre) hs (fun q hq => by
              obtain ⟨hqi, hah, hal, oq, hoq, hap, hc⟩ := hpre q hq
              refine ⟨hqi, hah, oq, hoq, ?_, hap⟩
              rcases hc with ⟨hc, _⟩ | ⟨hc, _⟩
              · exact hcm oq hc
              · rw [hala] at hc; cases hc) hpw h
            exact hgo
      have hrem2 := remaining_set hls hsplit
      refine oneD_sound hG hU ho hR hfront hP fun S' a' w' F' hv' h1 h2 h3 h4 => ?_
      refine ih (listed.setIfInBounds i true) S' a' w' F' hv' (by simpa using hls) ?_ ?_ ?_ (by rw [hrem2]; exact h1) (h2.trans hn) h3
      · rw [hrem2]
        rw [hsplit] at hm
        simp at hm ⊢
        omega
      · intro q oq hoq hl d hd
        by_cases hiq : i = q
        · subst hiq
          rw [ho] at hoq
          injection hoq with hoq
          subst hoq
          have := hdl d hd
          by_cases hid : i = d
          · have := hback i _ ho d hd; omega
          · rw [getD_set_ne true hid]; exact this
        · rw [getD_set_ne true hiq] at hl
          have := hsh q oq hoq hl d hd
          by_cases hid : i = d
          · subst hid
            have hlt2 : i < listed.size := by rw [hls]; exact his
            simp [hlt2]
          · rw [getD_set_ne true hid]; exact this
      · cases hr : isRs P o with
        | true =>
          rcases hso with hs | hno
          · exact .inl (h4 hr hs)
          · exact .inr fun q hq => hno q (by rw [hsplit]; rw [hrem2] at hq; rcases List.mem_append.1 hq with hq | hq <;> simp [hq])
        | false =>
          refine .inr fun q hq hal => ?_
          have hqm : q ∈ remaining ops.size listed := by rw [hsplit]; rw [hrem2] at hq; rcases List.mem_append.1 hq with hq | hq <;> simp [hq]
          by_cases hqi : q < i
          · have hqp : q ∈ pre := by
              rw [hsplit] at hqm hsort
              rcases List.mem_append.1 hqm with h | h
              · exact h
              · rw [List.pairwise_append] at hsort
                rcases List.mem_cons.1 h with rfl | h
                · omega
                · have := List.rel_of_pairwise_cons hsort.2.1 h; omega
            have := (hpre q hqp).2.2.1
            rw [take_all this (Nat.le_refl _) ho] at hr
            cases hr
          · rw [take_all hal (by omega) ho] at hr
            cases hr
theorem rel_drew {S : St} {a : Act} (h : Rel w0 U S a w F hv) : Rel w0 U S a { w with drawn := w.drawn + 1 } F hv :=
  h.grows (w' := { w with drawn := w.drawn + 1 }) ⟨rfl, rfl, rfl, Nat.le_refl _, fun _ _ => rfl, fun _ h => h, fun _ h => .inl h⟩
/-- places for boxes -/
theorem rel_slots {S : St} {a : Act} (hR : Rel w0 U S a w F hv) : ∀ l : List Nat, ∃ hv', Rel w0 U ⟨S.n, S.t, S.H ++ l.map .slot⟩ a w F hv'
  | [] => ⟨hv, by simpa using hR⟩
  | l => by
    suffices h : ∀ (l : List Nat) {S : St} {hv : List Value}, Rel w0 U S a w F hv → ∃ hv', Rel w0 U ⟨S.n, S.t, S.H ++ l.map .slot⟩ a w F hv' from h l hR
    intro l
    induction l with
    | nil => intro S hv hR; exact ⟨hv, by simpa using hR⟩
    | cons i l ih =>
      intro S hv hR
      have iv := hR.iv.push (v := .nilIface) (B := .slot i) w.heap.size hR.iv.size (fun g u C b h1 h2 h3 => (hR.iv.rep g u C h1 h2).own_lt h3) rfl (fun g hg => by have := hg.1; cases this) rfl
      obtain ⟨hv', h⟩ := ih (S := ⟨S.n, S.t, S.H ++ [.slot i]⟩) (hR.ext iv (Step.ext _ _))
      exact ⟨hv', by simpa using h⟩
theorem drawK_ok {cx : Cx R} (hm : cx.P.follows .mixedOrders = true) (hG : AllSound cx.P cx.G) (hU : GUni pb cx.G) (hdk : cx.dk = drawK cx.P cx.G) : DrawOk cx := by
  intro r w0 U n id ops S k Q a w F hv h hn hR hP hK
  rw [hdk] at h
  unfold drawK at h
  cases e : regOk cx.P ops && sortedB S.t with
  | false => rw [e] at h; cases h
  | true =>
    rw [e] at h
    simp only [Bool.and_eq_true] at e
    have hrem : remaining ops.size (Array.replicate ops.size false) = List.range ops.size := by
      unfold remaining
      rw [List.filter_eq_self]
      intro i hi
      have : i < ops.size := List.mem_range.1 hi
      simp [this]
    obtain ⟨hv2, hR2⟩ := rel_slots hR (allN ops (befs ops.toList []))
    refine wp_region_any hm (any_sound hG hU e.1 hP hK ops.size _ (preS ops (befs ops.toList []) S) a _ F hv2 (by simp) (by rw [hrem]; simp) ?_ (.inl (sortedB_spec e.2)) (by rw [hrem]; exact h) hn (rel_drew hR2))
    intro i o ho hl
    have : i < ops.size := (Array.getElem?_eq_some_iff.1 ho).1
    simp [this] at hl
end
end Go.Proofs.YtcpimjekllkbkaaGreatDoor.E
namespace Go.Proofs.YtcpimjekllkbkaaGreatDoor.E
open Go.RowKit
/-! # 12b. A region's operations, listed in another order -/
def posN (l : List Nat) (i : Nat) : Nat := match pos l i with
  | some p => p
  | none => l.length
def permE (l : List Nat) (o : Oper) : Oper := { o with after := (o.after.toList.map fun e => { e with on := posN l e.on }).toArray, guard := match o.guard with
  | some (g, b) => some (posN l g, b)
  | none => none }
def permO (l : List Nat) (ops : Array Oper) : Array Oper := (l.map fun i => permE l (ops.getD i default)).toArray
def permOk (l : List Nat) (n : Nat) : Bool := Nat.beq l.length n && okSel l n && (List.range n).all fun i => memN l i
def readyN (ops : Array Oper) (done : List Nat) (i : Nat) : Bool := match ops[i]? with
  | some o => (depsO o).all (memN done)
  | none => false
def movesN (P : Program) (ops : Array Oper) (i : Nat) : Bool := match ops[i]? with
  | some o => isMv P o
  | none => false
/-- what moves nothing goes first -/
def schedN (P : Program) (ops : Array Oper) : Nat → List Nat → List Nat → List Nat
  | 0, _, done => done
  | n + 1, rem, done => match rem.find? (fun i => readyN ops done i && !movesN P ops i) with
    | some i => schedN P ops n (rem.filter fun j => !Nat.beq j i) (done ++ [i])
    | none => match rem.find? (readyN ops done) with
      | some i => schedN P ops n (rem.filter fun j => !Nat.beq j i) (done ++ [i])
      | none => done
def drawP {R : Type} (P : Program) (G : Gt R) (ops : Array Oper) (S : St) (k : St → Option R) : Option R :=
  bif regOk P ops then drawK P G ops S k else
    (match schedN P ops ops.size (List.range ops.size) [] with
      | l => bif permOk l ops.size then drawK P G (permO l ops) S k else none)
section
variable {P : Program} {ops : Array Oper} {Q : Exit → Act → World → Prop} {l : List Nat}
theorem memN_of : ∀ {l : List Nat} {h : Nat}, memN l h = true → h ∈ l
  | x :: r, h, e => by
    simp only [memN, Bool.or_eq_true] at e
    rcases e with e | e
    · rw [Nat.eq_of_beq_eq_true e]; simp
    · exact List.mem_cons_of_mem _ (memN_of e)
theorem permOk_spec {n : Nat} (h : permOk l n = true) : l.length = n ∧ l.Nodup ∧ (∀ i ∈ l, i < n) ∧ ∀ i, i < n → ∃ p, pos l i = some p ∧ l[p]? = some i := by
  simp only [permOk, Bool.and_eq_true, List.all_eq_true, List.mem_range] at h
  obtain ⟨⟨h1, h2⟩, h3⟩ := h
  obtain ⟨nd, lt⟩ := okSel_of h2
  refine ⟨Nat.eq_of_beq_eq_true h1, nd, lt, fun i hi => ?_⟩
  cases hp : pos l i with
  | none => exact absurd (memN_of (h3 i hi)) (pos_none hp)
  | some p => exact ⟨p, rfl, pos_get hp⟩
theorem permO_at {n : Nat} (hs : ops.size = n) (h : permOk l n = true) {i p : Nat} (hp : l[p]? = some i) : (permO l ops)[p]? = (ops[i]?).map (permE l) := by
  obtain ⟨_, _, lt, _⟩ := permOk_spec h
  have hi : i < ops.size := by rw [hs]; exact lt i (List.mem_of_getElem? hp)
  unfold permO
  simp [hp, hi]
theorem posN_at {n : Nat} (h : permOk l n = true) {i p : Nat} (hp : l[p]? = some i) : posN l i = p := by
  obtain ⟨_, nd, _, _⟩ := permOk_spec h
  unfold posN
  rw [get_pos nd hp]
theorem yielded_perm {n : Nat} (hs : ops.size = n) (h : permOk l n = true) (tmps : Array Value) (g : Nat) : yielded (permO l ops) tmps (posN l g) = yielded ops tmps g := by
  obtain ⟨hl, nd, lt, ex⟩ := permOk_spec h
  unfold yielded
  by_cases hg : g < n
  · obtain ⟨p, h1, h2⟩ := ex g hg
    rw [posN_at h h2, permO_at hs h h2]
    cases ops[g]? <;> rfl
  · have e1 : ops[g]? = none := by rw [Array.getElem?_eq_none_iff]; omega
    have e2 : pos l g = none := by
      cases hp : pos l g with
      | none => rfl
      | some p => exact absurd (lt g (List.mem_of_getElem? (pos_get hp))) hg
    have e3 : (permO l ops)[posN l g]? = none := by
      rw [Array.getElem?_eq_none_iff]
      unfold posN permO
      rw [e2]
      simp
    rw [e1, e3]
theorem wanted_perm {n : Nat} (hs : ops.size = n) (h : permOk l n = true) (tmps : Array Value) (o : Oper) : Region.wanted (permE l o) (yielded (permO l ops) tmps) = Region.wanted o (yielded ops tmps) := by
  unfold Region.wanted permE
  cases o.guard with
  | none => rfl
  | some q => obtain ⟨g, b⟩ := q; simp only [yielded_perm hs h]
/-- the marks of two lists -/
def Marks (l : List Nat) (n : Nat) (m m' : Array Bool) : Prop := m.size = n ∧ m'.size = n ∧ ∀ (p i : Nat), l[p]? = some i → m'[p]? = m[i]?
theorem ready_perm {n : Nat} (hs : ops.size = n) (h : permOk l n = true) {m m' : Array Bool} (hm : Marks l n m m') {i p : Nat} (hp : l[p]? = some i) : p ∈ Region.ready .any (permO l ops) m' ↔ i ∈ Region.ready .any ops m := by
  obtain ⟨hl, nd, lt, ex⟩ := permOk_spec h
  obtain ⟨h1, h2, h3⟩ := hm
  have hi : i < n := lt i (List.mem_of_getElem? hp)
  have gd : ∀ (d : Bool) (q : Nat), m'.getD (posN l q) d = m.getD q d := by
    intro d q
    by_cases hq : q < n
    · obtain ⟨r, e1, e2⟩ := ex q hq
      rw [posN_at h e2, Array.getD_eq_getD_getElem?, Array.getD_eq_getD_getElem?, h3 r q e2]
    · have e2 : pos l q = none := by
        cases hp : pos l q with
        | none => rfl
        | some p => exact absurd (lt q (List.mem_of_getElem? (pos_get hp))) hq
      have e3 : posN l q = n := by unfold posN; rw [e2]; exact hl
      rw [e3, Array.getD_eq_getD_getElem?, Array.getD_eq_getD_getElem?, Array.getElem?_eq_none (by omega), Array.getElem?_eq_none (by omega)]
  rw [mem_ready, mem_ready, permO_at hs h hp]
  have g0 := gd true i
  rw [posN_at h hp] at g0
  rw [g0]
  constructor
  · rintro ⟨e1, o', e2, e3⟩
    refine ⟨e1, ?_⟩
    cases ho : ops[i]? with
    | none => rw [ho] at e2; cases e2
    | some o =>
      rw [ho] at e2
      injection e2 with e2
      subst e2
      refine ⟨o, rfl, fun e he hb => ?_⟩
      have := e3 { e with on := posN l e.on } (by simp only [permE]; simp; exact ⟨e, by simpa using he, rfl, rfl⟩) hb
      rw [gd] at this
      exact this
  · rintro ⟨e1, o, e2, e3⟩
    refine ⟨e1, permE l o, by rw [e2]; rfl, fun e he hb => ?_⟩
    simp only [permE, List.mem_toArray, List.mem_map] at he
    obtain ⟨e0, he0, rfl⟩ := he
    rw [gd]
    exact e3 e0 (by simpa using he0) hb
theorem any_perm {n : Nat} (hs : ops.size = n) (h : permOk l n = true) : ∀ (q : Nat) (m m' : Array Bool) (a : Act) (w : World), Marks l n m m' → wpAny P .any (permO l ops) Q q m' a w → wpAny P .any ops Q q m a w := by
  obtain ⟨hl, nd, lt, ex⟩ := permOk_spec h
  have nil : ∀ {m m' : Array Bool}, Marks l n m m' → Region.ready .any ops m = [] → Region.ready .any (permO l ops) m' = [] := by
    intro m m' hm e
    cases e' : Region.ready .any (permO l ops) m' with
    | nil => rfl
    | cons p r =>
      have hp : p ∈ Region.ready .any (permO l ops) m' := by rw [e']; simp
      have hps : p < l.length := by
        obtain ⟨_, o, ho, _⟩ := mem_ready.1 hp
        have := (Array.getElem?_eq_some_iff.1 ho).1
        simpa [permO] using this
      have := (ready_perm hs h hm (List.getElem?_eq_getElem hps)).1 hp
      rw [e] at this
      cases this
  intro q
  induction q with
  | zero =>
    intro m m' a w hm hh
    refine ⟨?_, hh.2⟩
    cases e : Region.ready .any ops m with
    | nil => rfl
    | cons i r =>
      have hi : i ∈ Region.ready .any ops m := by rw [e]; simp
      obtain ⟨_, o, ho, _⟩ := mem_ready.1 hi
      have his : i < n := by rw [← hs]; exact (Array.getElem?_eq_some_iff.1 ho).1
      obtain ⟨p, _, hp⟩ := ex i his
      have := (ready_perm hs h hm hp).2 hi
      rw [hh.1] at this
      cases this
  | succ q ih =>
    intro m m' a w hm hh
    refine ⟨fun e => hh.1 (nil hm e), fun i hi => ?_⟩
    obtain ⟨_, o, ho, _⟩ := mem_ready.1 hi
    have his : i < n := by rw [← hs]; exact (Array.getElem?_eq_some_iff.1 ho).1
    obtain ⟨p, _, hp⟩ := ex i his
    have hw := hh.2 p ((ready_perm hs h hm hp).2 hi)
    have hm2 : Marks l n (m.setIfInBounds i true) (m'.setIfInBounds p true) := by
      obtain ⟨h1, h2, h3⟩ := hm
      refine ⟨by simpa using h1, by simpa using h2, fun r j hr => ?_⟩
      by_cases hrp : p = r
      · subst hrp
        rw [hp] at hr
        injection hr with hr
        subst hr
        have hpl : p < m'.size := by rw [h2, ← hl]; exact (List.getElem?_eq_some_iff.1 hp).1
        simp [hpl, show i < m.size by omega]
      · have hij : i ≠ j := by
          rintro rfl
          have h4 := get_pos nd hp
          have h5 := get_pos nd hr
          rw [h4] at h5
          exact hrp (Option.some.inj h5)
        rw [Array.getElem?_setIfInBounds_ne hrp, Array.getElem?_setIfInBounds_ne hij]
        exact h3 r j hr
    have hK : ∀ a w, wpAny P .any (permO l ops) Q q (m'.setIfInBounds p true) a w → wpAny P .any ops Q q (m.setIfInBounds i true) a w := fun a w => ih _ _ a w hm2
    unfold wpOp at hw ⊢
    rw [permO_at hs h hp, ho] at hw
    rw [ho]
    simp only [Option.map_some] at hw ⊢
    rw [wanted_perm hs h] at hw
    split
    · rename_i hwt
      rw [if_pos hwt] at hw
      rcases hw with hw | hw
      · exact .inl (Oper.wp_mono hK hw)
      · exact .inr hw
    · rename_i hwt
      rw [if_neg hwt] at hw
      exact hK _ _ hw
theorem draw_run {R : Type} [Esc R] {pb : Bool} {P : Program} {w0 w : World} {U : U0} {F : Nat → Prop} {hv : List Value} {r : R} (hm : P.follows .mixedOrders = true) {G : Gt R} (hG : AllSound P G) (hU : GUni pb G) {n id : Nat} {ops : Array Oper} {S : St} {k : St → Option R} {Q : Exit → Act → World → Prop} {a : Act} (h : drawK P G ops S k = some r) (hn : a.tmps.size = n) (hR : Rel w0 U S a w F hv) (hP : PanOk w0 U r Q)
    (hK : ∀ S' a' w' F' hv', k S' = some r → a'.tmps.size = n → Rel w0 U S' a' w' F' hv' → Q .normal a' w') : wpAny P .any ops Q ops.size (Array.replicate ops.size false) a { w with drawn := w.drawn + 1 } := by
  unfold drawK at h
  cases e : regOk P ops && sortedB S.t with
  | false => rw [e] at h; cases h
  | true =>
    rw [e] at h
    simp only [Bool.and_eq_true] at e
    have hrem : remaining ops.size (Array.replicate ops.size false) = List.range ops.size := by
      unfold remaining
      rw [List.filter_eq_self]
      intro i hi
      have : i < ops.size := List.mem_range.1 hi
      simp [this]
    obtain ⟨hv2, hR2⟩ := rel_slots hR (allN ops (befs ops.toList []))
    refine any_sound hG hU e.1 hP hK ops.size _ (preS ops (befs ops.toList []) S) a _ F hv2 (by simp) (by rw [hrem]; simp) ?_ (.inl (sortedB_spec e.2)) (by rw [hrem]; exact h) hn (rel_drew hR2)
    intro i o ho hl
    have : i < ops.size := (Array.getElem?_eq_some_iff.1 ho).1
    simp [this] at hl
theorem drawP_ok {R : Type} [Esc R] {pb : Bool} {cx : Cx R} (hm : cx.P.follows .mixedOrders = true) (hG : AllSound cx.P cx.G) (hU : GUni pb cx.G) (hdk : cx.dk = drawP cx.P cx.G) : DrawOk cx := by
  intro r w0 U n id ops S k Q a w F hv h hn hR hP hK
  rw [hdk] at h
  unfold drawP at h
  cases hr : regOk cx.P ops with
  | true =>
    rw [hr] at h
    exact wp_region_any hm (draw_run (id := id) hm hG hU h hn hR hP hK)
  | false =>
    rw [hr] at h
    simp only [cond_false] at h
    generalize schedN cx.P ops ops.size (List.range ops.size) [] = l at h
    cases hp : permOk l ops.size with
    | false => rw [hp] at h; cases h
    | true =>
      rw [hp] at h
      have := draw_run (id := id) hm hG hU h hn hR hP hK
      have hsz : (permO l ops).size = ops.size := by
        unfold permO
        simp [(permOk_spec hp).1]
      rw [hsz] at this
      refine wp_region_any hm (any_perm rfl hp _ _ _ _ _ ⟨by simp, by simp, fun p i hi => ?_⟩ this)
      have h1 : i < ops.size := (permOk_spec hp).2.2.1 i (List.mem_of_getElem? hi)
      have h2 : p < ops.size := by rw [← (permOk_spec hp).1]; exact (List.getElem?_eq_some_iff.1 hi).1
      simp [h1, h2]
end
end Go.Proofs.YtcpimjekllkbkaaGreatDoor.E
