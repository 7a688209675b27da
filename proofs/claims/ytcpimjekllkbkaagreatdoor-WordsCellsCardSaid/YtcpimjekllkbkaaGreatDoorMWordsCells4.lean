/- For the law WordsCells. -/
import Derived.Test.YtcpimjekllkbkaaGreatDoorMWordsCells3
import Derived.Laws.Externs
import Derived.Test.YtcpimjekllkbkaaGreatDoorMWordsCells1
import Derived.Shelf.Strings.Builder2
import Derived.Lib.Join
set_option linter.unusedVariables false
set_option linter.unusedSimpArgs false
set_option linter.unusedSectionVars false
namespace Go.Proofs.YtcpimjekllkbkaaGreatDoor.E
open Go.RowKit
/-! # 13. A function's row -/
section
variable {R : Type} {P : Program} {pb : Bool}
/-- the same, but stuck where the number of rounds is not known (so that the kernel compares what calls are given, not what they come to) -/
def lazyN.{u} {α : Sort u} (f : Nat → α) : Nat → α
  | 0 => f 0
  | n + 1 => f (n + 1)
theorem lazyN_eq.{u} {α : Sort u} (f : Nat → α) : lazyN f = f := by
  funext n
  cases n <;> rfl
/-- what a function comes to, and at one place at most -/
def Good {R : Type} [Esc R] (P : Program) (f : Nat) (g : Gx R) : Prop := Sound P f g ∧ ∀ l HA, Uni (mayE f) fun k : T × List Blk → Option R => g l HA fun x HN => k (x, HN)
def AllGood {R : Type} [Esc R] (P : Program) (b : Bool) (G : Gt R) : Prop := AllSound P G ∧ GUni b G
theorem AllGood.nil [Esc R] {b : Bool} : AllGood P b (Gof (R := R) []) := ⟨AllSound.nil, fun _ _ _ => Uni.none⟩
theorem AllGood.cons [Esc R] {b : Bool} {f : Nat} {g : Gx R} {l : List (Nat × Gx R)} (h : Good P f g) (hl : AllGood P b (Gof l)) (hb : (!mayE f || b) = true := by rfl) (hne : Nat.beq f panF = false := by rfl) : AllGood P b (Gof ((f, g) :: l)) :=
  ⟨AllSound.cons h.1 hl.1 hne, fun i ags HA => by
    cases e : Nat.beq f i with
    | true =>
      have := Nat.eq_of_beq_eq_true e
      subst this
      refine Uni.congr ((h.2 ags HA).le (b' := b && mayE f) fun hm => ?_) fun k => by simp only [Gof, e, cond_true]
      rw [hm] at hb ⊢
      simpa using hb
    | false => exact Uni.congr (hl.2 i ags HA) fun k => by simp only [Gof, e, cond_false]⟩
theorem escG_uni [Esc R] (l : List A) (HA : List Blk) : Uni true fun k : T × List Blk → Option R => escG l HA fun x HN => k (x, HN) := by
  unfold escG
  split
  · exact ⟨.c _, .inl rfl, fun k => rfl⟩
  · exact Uni.none
theorem AllGood.esc [Esc R] {l : List (Nat × Gx R)} (hl : AllGood P true (Gof l)) : AllGood P true (Gof ((panF, escG) :: l)) :=
  ⟨AllSound.esc hl.1, fun i ags HA => by
    cases e : Nat.beq panF i with
    | true =>
      have := Nat.eq_of_beq_eq_true e
      subst this
      exact Uni.congr (escG_uni ags HA) fun k => by simp only [Gof, e, cond_true]
    | false => exact Uni.congr (hl.2 i ags HA) fun k => by simp only [Gof, e, cond_false]⟩
theorem opD_uni {G : Gt R} (hG : GUni pb G) (o : Oper) (i : Nat) (S : St) : Uni pb fun k : T × St → Option R => opD P G o i S fun x S' => k (x, S') := by
  unfold opD
  cases hop : o.op with
  | alloc t =>
    simp only []
    cases slotN i S.H 0 with
    | none => exact opK_uni hG o S
    | some h =>
      simp only []
      unfold slotK
      cases P.info? t with
      | none => exact Uni.none
      | some inf =>
        simp only []
        cases inf.zero with
        | none => exact Uni.none
        | some z => exact Uni.ret (T.a (.c (.pt h 0)), (⟨S.n, S.t, S.H.set h (.box false t (z.cells.toList.map constC))⟩ : St))
  | _ => exact opK_uni hG o S
theorem oneD_uni {G : Gt R} (hG : GUni pb G) (ops : Array Oper) (i : Nat) (S : St) : Uni pb fun k => oneD P G ops i S k := by
  unfold oneD
  cases ops[i]? with
  | none => exact Uni.none
  | some o =>
    refine guardK_uni (yes := fun k S => bif isRk P o then rdK P G o (ev S.t) S.H fun x => k (putT S o.dst x) else opD P G o i S fun x S' => k (putT S' o.dst x)) (no := fun k S => k (putT S o.dst (.tu []))) (fun S => ?_) (fun S => Uni.ret _)
    cases isRk P o with
    | true => exact Uni.bind ((rdK_uni hG o (ev S.t) S.H).le (b' := pb) (by simp)) (h := fun x k => k (putT S o.dst x)) fun x => Uni.ret _
    | false => exact Uni.bind (opD_uni hG o i S) (h := fun p k => k (putT p.2 o.dst p.1)) fun p => Uni.ret _
theorem seqC_uni {G : Gt R} (hG : GUni pb G) (ops : Array Oper) (B : List Nat) : ∀ (l : List Nat) (S : St), Uni pb fun k => seqC P G ops B l S k
  | [], S => Uni.ret S
  | i :: l, S => by
    have : Uni pb fun k : St → Option R => oneC P G ops B i S k := by
      unfold oneC
      cases chkH P ops B i S with
      | true => exact oneD_uni hG ops i S
      | false => exact Uni.none
    have hb : Uni pb fun k : St → Option R => oneC P G ops B i S fun S' => seqC P G ops B l S' k := Uni.bind (g := fun k => oneC P G ops B i S k) (h := fun S' k => seqC P G ops B l S' k) this fun S' => seqC_uni hG ops B l S'
    show Uni pb fun k : St → Option R => bif chkA ops B i l S then oneC P G ops B i S fun S' => seqC P G ops B l S' k else none
    cases chkA ops B i l S with
    | true => exact hb
    | false => exact Uni.none
theorem drawK_uni {G : Gt R} (hG : GUni pb G) (ops : Array Oper) (S : St) : Uni pb fun k => drawK P G ops S k := by
  unfold drawK
  cases regOk P ops && sortedB S.t with
  | true => exact seqC_uni hG ops _ _ (preS ops _ S)
  | false => exact Uni.none
theorem drawP_uni {G : Gt R} (hG : GUni pb G) (ops : Array Oper) (S : St) : Uni pb fun k : St → Option R => drawP P G ops S k := by
  unfold drawP
  cases regOk P ops with
  | true => exact drawK_uni hG ops S
  | false =>
    simp only [cond_false]
    generalize schedN P ops ops.size (List.range ops.size) [] = l
    cases permOk l ops.size with
    | true => exact drawK_uni hG _ S
    | false => exact Uni.none
def LoopRuns (cx : Cx R) (n : Nat) : List (Bool × Code) → Prop
  | [] => True
  | q :: l => LoopRun cx n q ∧ LoopRuns cx n l
theorem LoopRuns.of {cx : Cx R} {n : Nat} : ∀ {l : List (Bool × Code)}, LoopRuns cx n l → ∀ q ∈ l, LoopRun cx n q
  | _ :: _, h, q, hq => by
    rcases List.mem_cons.1 hq with rfl | hq
    · exact h.1
    · exact LoopRuns.of h.2 q hq
theorem LoopRuns.ok {cx : Cx R} {n : Nat} : ∀ {l : List (Bool × Code)}, LoopRuns cx n l → LoopsOk cx n l
  | [], _ => trivial
  | _ :: _, h => ⟨h.1.ok, LoopRuns.ok h.2⟩
theorem LoopRun.loop {cx : Cx R} {n : Nat} {q : Bool × Code} (h : q.1 = false) {i m : Nat} {step : (cx.ds i).D → ((cx.ds i).D → Option R) → exK R (cx.dx i) → Option R} (hf : fid q.2 = some i) (hr : ∀ a k1 k2, roundK cx q.2 i n a k1 k2 = step a k1 k2) (hl : ∀ a k, cx.lp i a k = runC step m a k) : LoopRun cx n q := by
  obtain ⟨b, c⟩ := q
  cases h
  exact ⟨i, m, step, hf, hr, hl⟩
/-- a loop that is never entered -/
theorem LoopRun.no {cx : Cx R} {n : Nat} {q : Bool × Code} (h : q.1 = false) {i : Nat} (hf : fid q.2 = some i) (hl : ∀ a k, cx.lp i a k = none) : LoopRun cx n q := by
  obtain ⟨b, c⟩ := q
  cases h
  exact ⟨i, 0, fun a k1 k2 => roundK cx c i n a k1 k2, hf, fun _ _ _ => rfl, fun a k => hl a k⟩
theorem LoopRun.join {cx : Cx R} {n : Nat} {q : Bool × Code} (h : q.1 = true) {i : Nat} (hf : fid q.2 = some i) (hr : ∀ a k, codeK cx q.2 (encS n (cx.ds (jkey i)) a) (fun x S' => selK x S' (cx.dx (jkey i)) k) = cx.lp (jkey i) a k) : LoopRun cx n q := by
  obtain ⟨b, c⟩ := q
  cases h
  exact ⟨i, hf, hr⟩
theorem LoopRun.joinS {cx : Cx R} {n : Nat} {q : Bool × Code} (h : q.1 = true) {i : Nat} {L Li : (cx.ds (jkey i)).D → exK R (cx.dx (jkey i)) → Option R} (e : L = Li) (hf : fid q.2 = some i) (hl : ∀ a k, L a k = cx.lp (jkey i) a k)
    (hr : ∀ a k, codeK cx q.2 (encS n (cx.ds (jkey i)) a) (fun x S' => selK x S' (cx.dx (jkey i)) k) = Li a k) : LoopRun cx n q :=
  LoopRun.join h hf fun a k => (hr a k).trans (by rw [← hl, e])
theorem Good.fn [Esc R] {cx : Cx R} (hm : cx.P.follows .mixedOrders = true) {f : Nat} (hG : AllGood cx.P (mayE f) cx.G) (hdk : cx.dk = drawP cx.P cx.G) {fn : Func} (hf : cx.P.funcs[f]? = some fn) (hname : (fn.name == "runtime.NumGoroutine") = false) (hb : fn.body.isSome = true)
    (hL : LoopRuns cx fn.ntmps (fnLoops cx.jn fn)) (np : Nat) (d : Desc) (hnp : Nat.ble np fn.ntmps = true) {G : d.D → (T → List Blk → Option R) → Option R} (heq : ∀ x k, bodyK cx fn d x k = G x k) : Good cx.P f (typed np d G) := by
  refine ⟨fn_sound hG.1 (drawP_ok hm hG.1 hG.2 hdk) hf hname hb hL.ok np d hnp heq, fun l HA => ?_⟩
  unfold typed
  cases Nat.beq HA.length d.H.length && Nat.beq l.length np with
  | false => exact Uni.none
  | true =>
    simp only [cond_true]
    cases decS d ⟨0, initT 0 l, HA⟩ with
    | none => exact Uni.none
    | some x =>
      have := bodyK_uni (cx := cx) hG.2 (by intro ops S; rw [hdk]; exact drawP_uni hG.2 ops S) fn (LoopRuns.of hL) d x
      exact Uni.congr this fun k => (heq x _).symm
theorem Good.freeze [Esc R] {f : Nat} {g : Gx R} (h : Good P f g) : Good P f (frz g) :=
  ⟨h.1.freeze, fun l HA => by
    cases HA with
    | nil => exact Uni.bind (h.2 l []) (h := fun p k => k (viewT p.2 p.1, [])) fun p => Uni.ret _
    | cons => exact Uni.none⟩
theorem Good.freezeT [Esc R] {f : Nat} {np : Nat} {d : Desc} (hd : d.H = []) {g g' : d.D → (T → List Blk → Option R) → Option R} (h : Good P f (typed np d g)) (e : ∀ x k, g' x k = g x fun x HN => k (viewT HN x) []) : Good P f (typed np d g') := by
  have : typed np d g' = frz (typed np d g) := by
    funext l HA k
    cases HA with
    | nil =>
      unfold frz typed
      simp only []
      cases Nat.beq ([] : List Blk).length d.H.length && Nat.beq l.length np with
      | false => rfl
      | true =>
        simp only [cond_true]
        cases decS d ⟨0, initT 0 l, []⟩ with
        | none => rfl
        | some x => exact e x k
    | cons B HA =>
      unfold frz typed
      rw [hd]
      rfl
  rw [this]
  exact h.freeze
/-- the same, its slices no longer one's own -/
theorem Good.fnF [Esc R] {cx : Cx R} (hm : cx.P.follows .mixedOrders = true) {f : Nat} (hG : AllGood cx.P (mayE f) cx.G) (hdk : cx.dk = drawP cx.P cx.G) {fn : Func} (hf : cx.P.funcs[f]? = some fn) (hname : (fn.name == "runtime.NumGoroutine") = false) (hb : fn.body.isSome = true)
    (hL : LoopRuns cx fn.ntmps (fnLoops cx.jn fn)) (np : Nat) (d : Desc) (hnp : Nat.ble np fn.ntmps = true) (hd : d.H = []) {G : d.D → (T → List Blk → Option R) → Option R} (heq : ∀ x k, bodyK cx fn d x (fun x HN => k (viewT HN x) []) = G x k) : Good cx.P f (typed np d G) :=
  (Good.fn hm hG hdk hf hname hb hL np d hnp (fun _ _ => rfl)).freezeT hd fun x k => (heq x k).symm
def fits (np : Nat) (d : Desc) (l : List A) (HA : List Blk) : Bool := Nat.beq HA.length d.H.length && Nat.beq l.length np && (decS d ⟨0, initT 0 l, HA⟩).isSome
/-- a function that is called in several ways -/
def orG (g h : Gx R) (c : List A → List Blk → Bool) : Gx R := fun l HA k => bif c l HA then g l HA k else h l HA k
theorem Good.or [Esc R] {f : Nat} {g h : Gx R} (hg : Good P f g) (hh : Good P f h) (c : List A → List Blk → Bool) : Good P f (orG g h c) := by
  refine ⟨fun args HA k r e => ?_, fun l HA => ?_⟩
  · unfold orG at e
    cases hc : c args HA with
    | true => rw [hc] at e; exact hg.1 args HA k r e
    | false => rw [hc] at e; exact hh.1 args HA k r e
  · unfold orG
    cases c l HA with
    | true => exact hg.2 l HA
    | false => exact hh.2 l HA
def noJn : Nat → Bool := fun _ => false
def noFz : Nat → List Nat := fun _ => []
def noDs : Nat → Desc := fun _ => ⟨[], []⟩
def noDx : Nat → List (X × Desc) := fun _ => []
def noLp {R : Type} : (i : Nat) → (noDs i).D → exK R (noDx i) → Option R := fun _ _ _ => none
@[reducible] def byteAt (s : ByteArray) (i : Int) : Int := ((s.data.toList.getD i.toNat 0).toNat : Int)
end
end Go.Proofs.YtcpimjekllkbkaaGreatDoor.E
namespace Go.Proofs.YtcpimjekllkbkaaGreatDoor.E
open Go.RowKit
/-! # 14. A function that asks whether its slice is nil -/
section
variable {R : Type} {P : Program}
theorem decS_one {ty : Ty} {a : A} {x : (⟨[(0, .d (.sl ty))], []⟩ : Desc).D} (h : decS ⟨[(0, .d (.sl ty))], []⟩ ⟨0, initT 0 [a], []⟩ = some x) : decA (.sl ty) a = some x.1 := by
  have hd : decA (.sl ty) (.c .un) = none := rfl
  unfold decS at h
  simp only [decTs] at h
  cases a with
  | ag l => simp [initT, look, decA] at h
  | c y =>
    by_cases hy : y = .un
    · subst hy
      simp [initT, look, unT, decA] at h
    · have : look (initT 0 [.c y]) 0 = .a (.c y) := by
        cases y <;> first | rfl | exact absurd rfl hy
      rw [this] at h
      simp only at h
      cases hv : decA (.sl ty) (.c y) with
      | none => rw [hv] at h; cases h
      | some v =>
        rw [hv] at h
        simp only [decTs, decBs, Option.some.injEq] at h
        rw [← h]
theorem Good.nilOr [Esc R] {cx : Cx R} (hm : cx.P.follows .mixedOrders = true) {f : Nat} (hG : AllGood cx.P (mayE f) cx.G) (hdk : cx.dk = drawP cx.P cx.G) {fn : Func} (hf : cx.P.funcs[f]? = some fn) (hname : (fn.name == "runtime.NumGoroutine") = false) (hb : fn.body.isSome = true)
    (hL : LoopRuns cx fn.ntmps (fnLoops cx.jn fn)) (ty : Ty) (hnp : Nat.ble 1 fn.ntmps = true) {G : (⟨[(0, .d (.sl ty))], []⟩ : Desc).D → (T → List Blk → Option R) → Option R}
    (h1 : ∀ k, bodyS cx fn 0 ⟨fn.ntmps, [(0, .a (.c .ns))], []⟩ k = G ([], ()) k) (h2 : ∀ x k, bodyS cx fn 0 ⟨fn.ntmps, [(0, .a (.c (.nz ty x.1)))], []⟩ k = G x k) : Good cx.P f (typed 1 ⟨[(0, .d (.sl ty))], []⟩ G) := by
  have hd := drawP_ok hm hG.1 hG.2 hdk
  refine ⟨fun args HA k r h vs w F hv iv harg => .inl ⟨⟨fn, hf, hb, hname⟩, ?_⟩, fun l HA => ?_⟩
  · unfold typed at h
    cases hlens : Nat.beq HA.length 0 && Nat.beq args.length 1 with
    | false => rw [show (⟨[(0, SlotD.d (.sl ty))], []⟩ : Desc).H.length = 0 from rfl, hlens] at h; cases h
    | true =>
      rw [show (⟨[(0, SlotD.d (.sl ty))], []⟩ : Desc).H.length = 0 from rfl, hlens] at h
      simp only [cond_true] at h
      simp only [Bool.and_eq_true] at hlens
      have e1 : HA = [] := List.length_eq_zero_iff.1 (Nat.eq_of_beq_eq_true hlens.1)
      have e2 := Nat.eq_of_beq_eq_true hlens.2
      subst e1
      match args, e2 with
      | [a], _ =>
      match vs, harg with
      | [v], harg =>
      split at h
      case h_2 => cases h
      rename_i x hx
      have ha := decS_one hx
      have hr : RepC w F hv v (.fz ty x.1) := decA_rep ha harg.1 hv
      obtain ⟨ad, c, ev, ⟨hle, hnil⟩, hrows⟩ := id hr
      injection ev with ev
      have hle1 : 1 ≤ fn.ntmps := Nat.le_of_ble_eq_true hnp
      cases ad with
      | none =>
        have hl : x.1 = [] := by
          cases hx1 : x.1 with
          | nil => rfl
          | cons y l =>
            obtain ⟨b, o, cs, e, _⟩ := hrows 0 (by rw [hx1]; simp)
            cases e
        have hc := hnil rfl
        subst hc
        have hv0 : v = .slice none 0 0 := by rw [ev, hl]; rfl
        have hx' : x = ([], ()) := by obtain ⟨y, u⟩ := x; simp only at hl; subst hl; rfl
        rw [hx'] at h
        rw [← h1] at h
        exact body_run hG.1 hd hf hL.ok (args := [.c .ns]) (by simpa using hle1) 0 h iv ⟨hv0, trivial⟩ fun a hR => hR
      | some ad =>
        rw [← h2] at h
        exact body_run hG.1 hd hf hL.ok (args := [.c (.nz ty x.1)]) (by simpa using hle1) 0 h iv ⟨⟨hr, ad, _, _, ev⟩, trivial⟩ fun a hR => hR
  · unfold typed
    cases Nat.beq HA.length (⟨[(0, SlotD.d (.sl ty))], []⟩ : Desc).H.length && Nat.beq l.length 1 with
    | false => exact Uni.none
    | true =>
      simp only [cond_true]
      cases decS (⟨[(0, .d (.sl ty))], []⟩ : Desc) ⟨0, initT 0 l, HA⟩ with
      | none => exact Uni.none
      | some x =>
        have := bodyS_uni (cx := cx) hG.2 (by intro ops S; rw [hdk]; exact drawP_uni hG.2 ops S) fn (LoopRuns.of hL) 0 ⟨fn.ntmps, [(0, .a (.c (.nz ty x.1)))], []⟩
        exact Uni.congr this fun k => (h2 x _).symm
end
end Go.Proofs.YtcpimjekllkbkaaGreatDoor.E
namespace Go.Proofs.YtcpimjekllkbkaaGreatDoor.E
open Go.RowKit
/-! # 15. Functions without a text -/
section
variable {R : Type} {P : Program}
theorem decS_two {t0 t1 : Ty} {a b : A} {x : (⟨[(0, .d t0), (1, .d t1)], []⟩ : Desc).D} (h : decS ⟨[(0, .d t0), (1, .d t1)], []⟩ ⟨0, initT 0 [a, b], []⟩ = some x) : decA t0 a = some x.1 ∧ decA t1 b = some x.2.1 := by
  unfold decS at h
  simp only [decTs] at h
  have l0 : look (initT 0 [a, b]) 0 = .a a ∨ (∃ t : T, look (initT 0 [a, b]) 0 = t ∧ ∀ z, t ≠ .a z) ∨ (a = .c .un ∧ look (initT 0 [a, b]) 0 = .a (.c .un)) := by
    cases a with
    | ag l => exact .inl rfl
    | c y => cases y <;> first | exact .inl rfl | exact .inr (.inr ⟨rfl, by cases b with | ag l => rfl | c z => cases z <;> rfl⟩)
  have l1 : look (initT 0 [a, b]) 1 = .a b := by
    cases a with
    | ag l => cases b with
      | ag l => rfl
      | c z => cases z <;> rfl
    | c y => cases y <;> cases b with
      | ag l => rfl
      | c z => cases z <;> rfl
  have l0' : look (initT 0 [a, b]) 0 = .a a := by
    rcases l0 with h0 | ⟨t, h0, h1⟩ | ⟨h0, h1⟩
    · exact h0
    · rw [h0] at h
      cases t with
      | a z => exact absurd rfl (h1 z)
      | tu l => cases h
    · rw [h1, h0]
  rw [l0', l1] at h
  simp only at h
  cases h0 : decA t0 a with
  | none => rw [h0] at h; cases h
  | some v0 =>
    rw [h0] at h
    simp only at h
    cases h1 : decA t1 b with
    | none => rw [h1] at h; cases h
    | some v1 =>
      rw [h1] at h
      simp only [decTs, decBs, Option.some.injEq] at h
      rw [← h]
      exact ⟨rfl, rfl⟩
theorem Good.ext2 [Esc R] {f : Nat} {fn : Func} {e : Array Value → Sem Value} (hf : P.funcs[f]? = some fn) (hname : (fn.name == "runtime.NumGoroutine") = false) (hb : fn.body.isNone = true) (hn : Extern.findNext fn = none) (he : Extern.find fn = some e)
    {t0 t1 : Ty} (φ : t0.D → t1.D → Int) (hrun : ∀ (w : World) (F : Nat → Prop) (v0 v1 : Value) (x0 : t0.D) (x1 : t1.D), RepA w F [] v0 (encA t0 x0) → RepA w F [] v1 (encA t1 x1) → (e #[v0, v1]).run P w = .ok (.int .i64 (φ x0 x1)) w)
    {G : (⟨[(0, .d t0), (1, .d t1)], []⟩ : Desc).D → (T → List Blk → Option R) → Option R} (hG : ∀ x k, G x k = k (.a (.c (.i .i64 (φ x.1 x.2.1)))) []) : Good P f (typed 2 ⟨[(0, .d t0), (1, .d t1)], []⟩ G) := by
  refine ⟨fun args HA k r h vs w F hv iv harg => ?_, fun l HA => ?_⟩
  · unfold typed at h
    cases hlens : Nat.beq HA.length 0 && Nat.beq args.length 2 with
    | false => rw [show (⟨[(0, SlotD.d t0), (1, SlotD.d t1)], []⟩ : Desc).H.length = 0 from rfl, hlens] at h; cases h
    | true =>
      rw [show (⟨[(0, SlotD.d t0), (1, SlotD.d t1)], []⟩ : Desc).H.length = 0 from rfl, hlens] at h
      simp only [cond_true] at h
      simp only [Bool.and_eq_true] at hlens
      have e1 : HA = [] := List.length_eq_zero_iff.1 (Nat.eq_of_beq_eq_true hlens.1)
      have e2 := Nat.eq_of_beq_eq_true hlens.2
      subst e1
      match args, e2 with
      | [a, b], _ =>
      match vs, harg with
      | [v0, v1], harg =>
      split at h
      case h_2 => cases h
      rename_i x hx
      obtain ⟨h0, h1⟩ := decS_two hx
      have r0 := decA_rep h0 harg.1 []
      have r1 := decA_rep h1 harg.2.1 []
      rw [hG] at h
      refine .inr ⟨.int .i64 (φ x.1 x.2.1), ?_, .inl ⟨_, [], _, F, hv, h, rfl, iv, rfl⟩⟩
      have := hrun w F v0 v1 x.1 x.2.1 r0 r1
      rw [run_callFunc_extern hf hname hb hn he]
      rw [show ([v0, v1] : List Value).toArray = #[v0, v1] from rfl, this]
      rfl
  · unfold typed
    cases Nat.beq HA.length (⟨[(0, SlotD.d t0), (1, SlotD.d t1)], []⟩ : Desc).H.length && Nat.beq l.length 2 with
    | false => exact Uni.none
    | true =>
      simp only [cond_true]
      cases decS (⟨[(0, .d t0), (1, .d t1)], []⟩ : Desc) ⟨0, initT 0 l, HA⟩ with
      | none => exact Uni.none
      | some x => exact Uni.congr (Uni.ret (.a (.c (.i .i64 (φ x.1 x.2.1))), [])) fun k => hG x _
/-- how often a byte stands in a text -/
def cntB (s : ByteArray) (c : Int) : Int := s.foldl (fun (n : Int) x => if x == c.toNat.toUInt8 then n + 1 else n) ((0 : Nat) : Int)
def idxB (s : ByteArray) (c : Int) : Int := firstIdx s c.toNat.toUInt8
theorem idxB_run (w : World) (F : Nat → Prop) (v0 v1 : Value) (x0 : Ty.str.D) (x1 : (Ty.int .u8).D) (h0 : RepA w F [] v0 (encA .str x0)) (h1 : RepA w F [] v1 (encA (.int .u8) x1)) : (Extern.BytealgIndexByte.indexByte #[v0, v1]).run P w = .ok (.int .i64 (idxB x0 x1)) w := by
  have e0 : v0 = .string x0 := h0
  have e1 : v1 = .int .u8 x1 := h1
  subst e0 e1
  exact run_indexByte_string x0 x1 w
theorem cntB_run (w : World) (F : Nat → Prop) (v0 v1 : Value) (x0 : Ty.str.D) (x1 : (Ty.int .u8).D) (h0 : RepA w F [] v0 (encA .str x0)) (h1 : RepA w F [] v1 (encA (.int .u8) x1)) : (Extern.BytealgCount.count #[v0, v1]).run P w = .ok (.int .i64 (cntB x0 x1)) w := by
  have e0 : v0 = .string x0 := h0
  have e1 : v1 = .int .u8 x1 := h1
  subst e0 e1
  change Sem.run P (do
    let b ← Extern.Bytes.bytesOf (.string x0)
    let c' ← Extern.Bytes.asByte (.int .u8 x1)
    pure (goInt (b.foldl (fun n x => if x == c' then n + 1 else n) (0 : Nat)))) w = _
  simp only [Extern.Bytes.bytesOf, Extern.Bytes.asByte, Sem.run_bind, Sem.run_pure, Result.andThen]
  rfl
end
end Go.Proofs.YtcpimjekllkbkaaGreatDoor.E
namespace Go.Proofs.YtcpimjekllkbkaaGreatDoor.E
open Go.RowKit
/-! # 16. Functions whose calls were walked by hand: plain words go in, data comes out -/
section
variable {R : Type} {P : Program}
theorem look_init : ∀ (l : List A) (i j : Nat) (a : A), l[j]? = some a → look (initT i l) (i + j) = .a a := by
  have before : ∀ (l : List A) (i m : Nat), m < i → look (initT i l) m = unT := by
    intro l
    induction l with
    | nil => intro i m _; rfl
    | cons a l ih =>
      intro i m hm
      have hb : Nat.beq i m = false := by
        cases e : Nat.beq i m with
        | false => rfl
        | true => have := Nat.eq_of_beq_eq_true e; omega
      have key : look ((i, .a a) :: initT (i + 1) l) m = unT := by
        simp only [look, hb, cond_false]
        exact ih (i + 1) m (by omega)
      cases a with
      | ag x => exact key
      | c x => cases x <;> first | exact key | exact ih (i + 1) m (by omega)
  intro l
  induction l with
  | nil => intro i j a h; simp at h
  | cons x l ih =>
    intro i j a h
    cases j with
    | zero =>
      simp only [List.getElem?_cons_zero, Option.some.injEq] at h
      subst h
      have key : look ((i, .a x) :: initT (i + 1) l) (i + 0) = .a x := by simp [look]
      cases x with
      | ag y => exact key
      | c y => cases y <;> first | exact key | exact before l (i + 1) (i + 0) (by omega)
    | succ j =>
      have h' : l[j]? = some a := by simpa using h
      have hb : Nat.beq i (i + (j + 1)) = false := by
        cases e : Nat.beq i (i + (j + 1)) with
        | false => rfl
        | true => have := Nat.eq_of_beq_eq_true e; omega
      have hi := ih (i + 1) j a h'
      have e1 : i + 1 + j = i + (j + 1) := by omega
      rw [e1] at hi
      have key : look ((i, .a x) :: initT (i + 1) l) (i + (j + 1)) = .a a := by
        simp only [look, hb, cond_false]
        exact hi
      cases x with
      | ag y => exact key
      | c y => cases y <;> first | exact key | exact hi
/-- a plain word's value -/
def valD : (t : Ty) → t.D → Value
  | .bool, x => .bool x
  | .int k, x => .int k x
  | .str, x => .string x
  | _, _ => .nilIface
def scal : Ty → Bool
  | .bool | .int _ | .str => true
  | _ => false
theorem scal_val {t : Ty} (h : scal t = true) {x : t.D} {w : World} {F : Nat → Prop} {hv : List Value} {v : Value} (hr : RepA w F hv v (encA t x)) : v = valD t x := by
  cases t <;> first | exact hr | cases h
/-- a call's way back -/
def Back (P : Program) (f : Nat) (vs : Array Value) (w : World) (φ : T) : Prop :=
  Calls P f vs w fun e w' => ∃ v, e = .returned v ∧ RepT w' (fun b => (w.heap.size ≤ b ∨ b ∈ layG) ∧ b < w'.heap.size) [] v φ ∧ Below w.heap.size w w'
theorem hand_core [Esc R] {f : Nat} {fn : Func} (hf : P.funcs[f]? = some fn) (hname : (fn.name == "runtime.NumGoroutine") = false) (hb : fn.body.isSome = true) {vs : Array Value} {w : World} {F : Nat → Prop}
    (iv : Inv w (uOf [] [] F) w F [] []) {k : T → List Blk → Option R} {r : R} {φ : T} (h : k φ [] = some r) (hc : Back P f vs w φ) :
    Does P f vs w fun e w' => (∃ x HN v F' hvN, k x HN = some r ∧ e = .returned v ∧ Inv w (uOf [] [] F) w' F' hvN HN ∧ RepT w' F' hvN v x) ∨ ∃ pv, e = .panicked (pan1 pv) ∧ Esc.esc pv = some r ∧ Fr w (uOf [] [] F) w' := by
  refine .inl ⟨⟨fn, hf, hb, hname⟩, hc.mono ?_⟩
  rintro e w' ⟨v, rfl, hr, hbw⟩
  refine .inl ⟨φ, [], v, fun b => F b ∨ w.heap.size ≤ b ∧ b < w'.heap.size, [], h, rfl, iv.grow hbw.os hbw.tape hbw.output hbw.size (fun k hk => hbw.block k hk) (fun b hb => .inl hb) (fun b hb => hb), ?_⟩
  exact (⟨fun b hb => hb.1.elim (fun h => .inr ⟨h, hb.2⟩) (fun h => .inl (iv.layF b h)), fun _ _ => rfl, fun _ _ _ hu => by cases hu⟩ : Step w' (fun b => (w.heap.size ≤ b ∨ b ∈ layG) ∧ b < w'.heap.size) [] w' (fun b => F b ∨ w.heap.size ≤ b ∧ b < w'.heap.size) [] (fun _ => True)).t (fun _ _ => trivial) hr
theorem Good.hand1 [Esc R] {f : Nat} {fn : Func} (hf : P.funcs[f]? = some fn) (hname : (fn.name == "runtime.NumGoroutine") = false) (hb : fn.body.isSome = true) {t0 : Ty} (s0 : scal t0 = true)
    {c : t0.D → Prop} [∀ x, Decidable (c x)] {φ : t0.D → T} (hc : ∀ x w, LayC w → (∀ g ∈ layG, g < w.heap.size) → c x → Back P f #[valD t0 x] w (φ x))
    {G : (⟨[(0, .d t0)], []⟩ : Desc).D → (T → List Blk → Option R) → Option R} (hG : ∀ x k, G x k = if c x.1 then k (φ x.1) [] else none) : Good P f (typed 1 ⟨[(0, .d t0)], []⟩ G) := by
  refine ⟨fun args HA k r h vs w F hv iv harg => ?_, fun l HA => ?_⟩
  · unfold typed at h
    cases hlens : Nat.beq HA.length 0 && Nat.beq args.length 1 with
    | false => rw [show (⟨[(0, SlotD.d t0)], []⟩ : Desc).H.length = 0 from rfl, hlens] at h; cases h
    | true =>
      rw [show (⟨[(0, SlotD.d t0)], []⟩ : Desc).H.length = 0 from rfl, hlens] at h
      simp only [cond_true] at h
      simp only [Bool.and_eq_true] at hlens
      have e1 : HA = [] := List.length_eq_zero_iff.1 (Nat.eq_of_beq_eq_true hlens.1)
      have e2 := Nat.eq_of_beq_eq_true hlens.2
      subst e1
      have e3 : hv = [] := List.length_eq_zero_iff.1 iv.len
      subst e3
      match args, e2 with
      | [a], _ =>
      match vs, harg with
      | [v0], harg =>
      split at h
      case h_2 => cases h
      rename_i x hx
      unfold decS at hx
      simp only [decTs] at hx
      rw [look_init [a] 0 0 a rfl] at hx
      simp only at hx
      cases h0 : decA t0 a with
      | none => rw [h0] at hx; cases hx
      | some y0 =>
        rw [h0] at hx
        simp only [decTs, decBs, Option.some.injEq] at hx
        subst hx
        have r0 := scal_val s0 (decA_rep h0 harg.1 [])
        rw [hG] at h
        split at h
        · rename_i hcx
          subst r0
          exact hand_core hf hname hb iv h (hc y0 w iv.layC (fun g hg => iv.fb g (iv.layF g hg)) hcx)
        · cases h
  · unfold typed
    cases Nat.beq HA.length (⟨[(0, SlotD.d t0)], []⟩ : Desc).H.length && Nat.beq l.length 1 with
    | false => exact Uni.none
    | true =>
      simp only [cond_true]
      cases decS (⟨[(0, .d t0)], []⟩ : Desc) ⟨0, initT 0 l, HA⟩ with
      | none => exact Uni.none
      | some x => exact Uni.congr (Uni.ite (c := c x.1) (Uni.ret (φ x.1, [])) Uni.none) fun k => hG x _
theorem Good.hand2 [Esc R] {f : Nat} {fn : Func} (hf : P.funcs[f]? = some fn) (hname : (fn.name == "runtime.NumGoroutine") = false) (hb : fn.body.isSome = true) {t0 t1 : Ty} (s0 : scal t0 = true) (s1 : scal t1 = true)
    {c : t0.D → t1.D → Prop} [∀ x y, Decidable (c x y)] {φ : t0.D → t1.D → T} (hc : ∀ x y w, LayC w → (∀ g ∈ layG, g < w.heap.size) → c x y → Back P f #[valD t0 x, valD t1 y] w (φ x y))
    {G : (⟨[(0, .d t0), (1, .d t1)], []⟩ : Desc).D → (T → List Blk → Option R) → Option R} (hG : ∀ x k, G x k = if c x.1 x.2.1 then k (φ x.1 x.2.1) [] else none) : Good P f (typed 2 ⟨[(0, .d t0), (1, .d t1)], []⟩ G) := by
  refine ⟨fun args HA k r h vs w F hv iv harg => ?_, fun l HA => ?_⟩
  · unfold typed at h
    cases hlens : Nat.beq HA.length 0 && Nat.beq args.length 2 with
    | false => rw [show (⟨[(0, SlotD.d t0), (1, SlotD.d t1)], []⟩ : Desc).H.length = 0 from rfl, hlens] at h; cases h
    | true =>
      rw [show (⟨[(0, SlotD.d t0), (1, SlotD.d t1)], []⟩ : Desc).H.length = 0 from rfl, hlens] at h
      simp only [cond_true] at h
      simp only [Bool.and_eq_true] at hlens
      have e1 : HA = [] := List.length_eq_zero_iff.1 (Nat.eq_of_beq_eq_true hlens.1)
      have e2 := Nat.eq_of_beq_eq_true hlens.2
      subst e1
      have e3 : hv = [] := List.length_eq_zero_iff.1 iv.len
      subst e3
      match args, e2 with
      | [a, b], _ =>
      match vs, harg with
      | [v0, v1], harg =>
      split at h
      case h_2 => cases h
      rename_i x hx
      obtain ⟨h0, h1⟩ := decS_two hx
      have r0 := scal_val s0 (decA_rep h0 harg.1 [])
      have r1 := scal_val s1 (decA_rep h1 harg.2.1 [])
      rw [hG] at h
      split at h
      · rename_i hcx
        subst r0 r1
        exact hand_core hf hname hb iv h (hc _ _ w iv.layC (fun g hg => iv.fb g (iv.layF g hg)) hcx)
      · cases h
  · unfold typed
    cases Nat.beq HA.length (⟨[(0, SlotD.d t0), (1, SlotD.d t1)], []⟩ : Desc).H.length && Nat.beq l.length 2 with
    | false => exact Uni.none
    | true =>
      simp only [cond_true]
      cases decS (⟨[(0, .d t0), (1, .d t1)], []⟩ : Desc) ⟨0, initT 0 l, HA⟩ with
      | none => exact Uni.none
      | some x => exact Uni.congr (Uni.ite (c := c x.1 x.2.1) (Uni.ret (φ x.1 x.2.1, [])) Uni.none) fun k => hG x _
theorem Good.hand3 [Esc R] {f : Nat} {fn : Func} (hf : P.funcs[f]? = some fn) (hname : (fn.name == "runtime.NumGoroutine") = false) (hb : fn.body.isSome = true) {t0 t1 t2 : Ty} (s0 : scal t0 = true) (s1 : scal t1 = true) (s2 : scal t2 = true)
    {c : t0.D → t1.D → t2.D → Prop} [∀ x y z, Decidable (c x y z)] {φ : t0.D → t1.D → t2.D → T} (hc : ∀ x y z w, LayC w → (∀ g ∈ layG, g < w.heap.size) → c x y z → Back P f #[valD t0 x, valD t1 y, valD t2 z] w (φ x y z))
    {G : (⟨[(0, .d t0), (1, .d t1), (2, .d t2)], []⟩ : Desc).D → (T → List Blk → Option R) → Option R} (hG : ∀ x k, G x k = if c x.1 x.2.1 x.2.2.1 then k (φ x.1 x.2.1 x.2.2.1) [] else none) : Good P f (typed 3 ⟨[(0, .d t0), (1, .d t1), (2, .d t2)], []⟩ G) := by
  refine ⟨fun args HA k r h vs w F hv iv harg => ?_, fun l HA => ?_⟩
  · unfold typed at h
    cases hlens : Nat.beq HA.length 0 && Nat.beq args.length 3 with
    | false => rw [show (⟨[(0, SlotD.d t0), (1, SlotD.d t1), (2, SlotD.d t2)], []⟩ : Desc).H.length = 0 from rfl, hlens] at h; cases h
    | true =>
      rw [show (⟨[(0, SlotD.d t0), (1, SlotD.d t1), (2, SlotD.d t2)], []⟩ : Desc).H.length = 0 from rfl, hlens] at h
      simp only [cond_true] at h
      simp only [Bool.and_eq_true] at hlens
      have e1 : HA = [] := List.length_eq_zero_iff.1 (Nat.eq_of_beq_eq_true hlens.1)
      have e2 := Nat.eq_of_beq_eq_true hlens.2
      subst e1
      have e3 : hv = [] := List.length_eq_zero_iff.1 iv.len
      subst e3
      match args, e2 with
      | [a, b, d], _ =>
      match vs, harg with
      | [v0, v1, v2], harg =>
      split at h
      case h_2 => cases h
      rename_i x hx
      unfold decS at hx
      simp only [decTs] at hx
      rw [look_init [a, b, d] 0 0 a rfl, show look (initT 0 [a, b, d]) 1 = .a b from look_init [a, b, d] 0 1 b rfl, show look (initT 0 [a, b, d]) 2 = .a d from look_init [a, b, d] 0 2 d rfl] at hx
      simp only at hx
      cases h0 : decA t0 a with
      | none => rw [h0] at hx; cases hx
      | some y0 =>
        cases h1 : decA t1 b with
        | none => rw [h0, h1] at hx; cases hx
        | some y1 =>
          cases h2 : decA t2 d with
          | none => rw [h0, h1, h2] at hx; cases hx
          | some y2 =>
            rw [h0, h1, h2] at hx
            simp only [decTs, decBs, Option.some.injEq] at hx
            subst hx
            have r0 := scal_val s0 (decA_rep h0 harg.1 [])
            have r1 := scal_val s1 (decA_rep h1 harg.2.1 [])
            have r2 := scal_val s2 (decA_rep h2 harg.2.2.1 [])
            rw [hG] at h
            split at h
            · rename_i hcx
              subst r0 r1 r2
              exact hand_core hf hname hb iv h (hc y0 y1 y2 w iv.layC (fun g hg => iv.fb g (iv.layF g hg)) hcx)
            · cases h
  · unfold typed
    cases Nat.beq HA.length (⟨[(0, SlotD.d t0), (1, SlotD.d t1), (2, SlotD.d t2)], []⟩ : Desc).H.length && Nat.beq l.length 3 with
    | false => exact Uni.none
    | true =>
      simp only [cond_true]
      cases decS (⟨[(0, .d t0), (1, .d t1), (2, .d t2)], []⟩ : Desc) ⟨0, initT 0 l, HA⟩ with
      | none => exact Uni.none
      | some x => exact Uni.congr (Uni.ite (c := c x.1 x.2.1 x.2.2.1) (Uni.ret (φ x.1 x.2.1 x.2.2.1, [])) Uni.none) fun k => hG x _
instance escT : Esc (T × List Blk) := ⟨fun _ => none⟩
/-- what a good function's call leaves, to a walk by hand: plain data at one end -/
theorem Good.calls {f : Nat} {g : Gx (T × List Blk)} (h : Good P f g) {fn : Func} (hf : P.funcs[f]? = some fn) (hname : (fn.name == "runtime.NumGoroutine") = false) (hb : fn.body.isSome = true) {args : List A} {vs : List Value} {W : World} (hc : LayC W) (hl : ∀ g ∈ layG, g < W.heap.size)
    (ha : All2 (RepA W (fun b => b < W.heap.size) []) vs args) {x : T} (ht : ∀ k, g args [] k = k x []) : Calls P f vs.toArray W fun e W' => ∃ v F', e = .returned v ∧ RepT W' F' [] v x ∧ Below W.heap.size W W' ∧ (∀ b, F' b → b < W'.heap.size) := by
  have hd := h.1 args [] (fun x HN => some (x, HN)) (x, []) (ht _) vs W _ [] (Inv.nil (fun _ h => h) hc hl) ha
  rcases hd with ⟨_, hd⟩ | ⟨v, hd, _⟩
  rotate_left
  · have h1 : ¬ fn.name = "runtime.NumGoroutine" := by simpa using hname
    have h2 : ¬ fn.body = none := by intro e; rw [e] at hb; cases hb
    simp [callFunc, hf, h1, h2, Sem.run_pure] at hd
  refine hd.mono ?_
  rintro e W' (⟨y, HN, v, F', hvN, hk, rfl, iN, hx⟩ | ⟨pv, rfl, hp, _⟩)
  rotate_left
  · cases hp
  simp only [Option.some.injEq, Prod.mk.injEq] at hk
  obtain ⟨rfl, rfl⟩ := hk
  have e3 : hvN = [] := List.length_eq_zero_iff.1 iN.len
  subst e3
  exact ⟨v, F', rfl, hx, ⟨iN.os, iN.tape, iN.output, iN.size, fun k hk => iN.old k hk noU⟩, iN.fb⟩
end
end Go.Proofs.YtcpimjekllkbkaaGreatDoor.E
/- Contracts by hand: value.quoted (strings.Builder), strconv.FormatInt and ParseInt, as the engine takes them. -/
namespace Go.Proofs.YtcpimjekllkbkaaGreatDoor
open Go.RowKit Go.Shelf
/-- what a byte of a quoted text is written as -/
def qByte (c : UInt8) : List UInt8 :=
  if c = 34 ∨ c = 92 then [92, c] else if c < 32 ∨ c > 126 then [92, 120, ([48, 49, 50, 51, 52, 53, 54, 55, 56, 57, 97, 98, 99, 100, 101, 102] : List UInt8).getD (c.toNat / 16) 0, ([48, 49, 50, 51, 52, 53, 54, 55, 56, 57, 97, 98, 99, 100, 101, 102] : List UInt8).getD (c.toNat % 16) 0] else [c]
def quotedL (l : List UInt8) : List UInt8 := 34 :: (l.flatMap qByte ++ [34])
theorem qByte_len (c : UInt8) : (qByte c).length ≤ 4 := by
  unfold qByte
  split
  · simp
  · split <;> simp
theorem flatMap_qByte_len (l : List UInt8) : (l.flatMap qByte).length ≤ 4 * l.length := by
  induction l with
  | nil => simp
  | cons c l ih => have := qByte_len c; simp only [List.flatMap_cons, List.length_append, List.length_cons]; omega
theorem flatMap_take_snoc (s : ByteArray) (k : Nat) (h : k < s.size) : (s.data.toList.take (k + 1)).flatMap qByte = (s.data.toList.take k).flatMap qByte ++ qByte s[k] := by
  rw [show s.data.toList.take (k + 1) = s.data.toList.take k ++ [s[k]] from by rw [List.take_succ_eq_append_getElem (by simpa using h)]; rfl]
  simp
theorem cellsOf_app (l m : List UInt8) : Lib.byteCells l ++ Lib.byteCells m = Lib.byteCells (l ++ m) := by simp [Lib.byteCells]
theorem cellsOf_one (l : List UInt8) (c : UInt8) : Lib.byteCells l ++ [.int .u8 (c.toNat : Int)] = Lib.byteCells (l ++ [c]) := by simp [Lib.byteCells]
/-- what the loop has written behind k rounds -/
def qTo (s : ByteArray) (k : Nat) : List UInt8 := 34 :: (s.data.toList.take k).flatMap qByte
theorem qTo_succ (s : ByteArray) (k : Nat) (h : k < s.size) : qTo s (k + 1) = qTo s k ++ qByte s[k] := by
  unfold qTo
  rw [flatMap_take_snoc s k h, List.cons_append]
theorem qTo_len (s : ByteArray) (k : Nat) (h : k ≤ s.size) : (qTo s k).length ≤ 1 + 4 * k := by
  unfold qTo
  have := flatMap_qByte_len (s.data.toList.take k)
  have h2 : (s.data.toList.take k).length ≤ k := List.length_take_le _ _
  simp only [List.length_cons]
  omega
theorem byteCells_len (l : List UInt8) : (Lib.byteCells l).length = l.length := by simp [Lib.byteCells]
theorem hexd_fin : ∀ i : Fin 16, ((⟨#[48, 49, 50, 51, 52, 53, 54, 55, 56, 57, 97, 98, 99, 100, 101, 102]⟩ : ByteArray)[i.1]'(i.2)) = ([48, 49, 50, 51, 52, 53, 54, 55, 56, 57, 97, 98, 99, 100, 101, 102] : List UInt8).getD i.1 0 := by decide
theorem hexd_at (n : Nat) (h : n < (⟨#[48, 49, 50, 51, 52, 53, 54, 55, 56, 57, 97, 98, 99, 100, 101, 102]⟩ : ByteArray).size) : ((⟨#[48, 49, 50, 51, 52, 53, 54, 55, 56, 57, 97, 98, 99, 100, 101, 102]⟩ : ByteArray)[n]'h) = ([48, 49, 50, 51, 52, 53, 54, 55, 56, 57, 97, 98, 99, 100, 101, 102] : List UInt8).getD n 0 := hexd_fin ⟨n, h⟩
set_option maxHeartbeats 4000000 in
set_option maxRecDepth 100000 in
theorem quoted_calls (a0 : ByteArray) (w : World) (hsz : a0.size ≤ 1048576) :
    Calls Tryz.prog 27 #[.string a0] w fun e w' => e = .returned (.string ⟨(quotedL a0.data.toList).toArray⟩) ∧ Below w.heap.size w w' := by
  have hmx : a0.size ≤ 9223372036854775807 := by omega
  go_enter Tryz.func27, Tryz.ntmps27
  go_wp2_with fail
  have h0 := Lib.fresh_isBuilder 67 5 w
  refine (writeByte w.heap.size w.heap.size [] 34 _ h0 (by simp) (by simp)).mono ?_
  rintro e W1 ⟨rfl, h1, b1⟩
  have b2 : Below w.heap.size w W1 := ((Below.refl w.heap.size w).alloc (Nat.le_refl _) _).trans b1
  have h2 : Lib.BuilderAt 67 5 w.heap.size w.heap.size (.pointer (some ⟨w.heap.size, 0, none⟩)) (Lib.byteCells (qTo a0 0)) W1 := h1
  clear h1 b1 h0
  generalize hB : w.heap.size = B at *
  have HB := Lib.hid hB
  clear hB
  go_wp2
  go_loopw [9] (fun v wr => ∃ k : Nat, k ≤ a0.size ∧ v = .int .i64 k ∧ Lib.BuilderAt 67 5 B B (.pointer (some ⟨B, 0, none⟩)) (Lib.byteCells (qTo a0 k)) wr ∧ Below B w wr) (fun v _ => a0.size - (intOf v).toNat)
  case atStart => exact ⟨0, Nat.zero_le _, rfl, h2, b2⟩
  case round =>
    obtain ⟨k, hk, rfl, hb, hbel⟩ := hrel
    by_cases hlt : k < a0.size
    · have hs := qTo_succ a0 k hlt
      have HS := Lib.hid hs
      clear hs
      have hl := qTo_len a0 k hk
      have hz : B ≤ wr.heap.size := by have := hbel.size; have := HB.out; omega
      have e34 : a0[k] = 34 ↔ (a0[k].toNat : Int) = 34 := ⟨fun h => by rw [h]; rfl, fun h => UInt8.toNat_inj.1 (by show _ = 34; omega)⟩
      have e92 : a0[k] = 92 ↔ (a0[k].toNat : Int) = 92 := ⟨fun h => by rw [h]; rfl, fun h => UInt8.toNat_inj.1 (by show _ = 92; omega)⟩
      have l32 : a0[k] < 32 ↔ (a0[k].toNat : Int) < 32 := by rw [UInt8.lt_iff_toNat_lt]; show _ < 32 ↔ _; omega
      have g126 : a0[k] > 126 ↔ (126 : Int) < (a0[k].toNat : Int) := by show 126 < a0[k] ↔ _; rw [UInt8.lt_iff_toNat_lt]; show 126 < _ ↔ _; omega
      have h255 : (a0[k].toNat : Int) < 256 := by have := a0[k].toNat_lt; omega
      by_cases hA : (a0[k].toNat : Int) = 34 ∨ (a0[k].toNat : Int) = 92
      · have hq : qByte a0[k] = [92, a0[k]] := by unfold qByte; rw [if_pos (by rw [e34, e92]; exact hA)]
        have HQ := Lib.hid hq
        have hor : ((a0[k].toNat : Int) == 34) = true ∨ ((a0[k].toNat : Int) == 34) = false ∧ ((a0[k].toNat : Int) == 92) = true := by
          by_cases h1 : (a0[k].toNat : Int) = 34
          · exact .inl (beq_iff_eq.2 h1)
          · exact .inr ⟨beq_eq_false_iff_ne.2 h1, beq_iff_eq.2 (hA.resolve_left h1)⟩
        clear hq hA e34 e92 l32 g126
        rcases hor with b34 | ⟨b34, b92⟩
        all_goals
          go_wp2_with fail
          refine (writeByte B B _ 92 _ (.inr hb) (by rw [byteCells_len]; omega) hz).mono ?_
          rintro e W2 ⟨rfl, hb2, bb2⟩
          go_wp2_with fail
          refine (writeByte B B _ a0[k].toNat _ (.inr hb2) (by simp only [List.length_append, byteCells_len, List.length_singleton]; omega) (Nat.le_trans hz bb2.size)).mono ?_
          rintro e W3 ⟨rfl, hb3, bb3⟩
          go_wp2
          go_roundw
          case rel => exact ⟨k + 1, by omega, by go_num, by rw [HS.out, HQ.out]; simpa [Lib.byteCells] using hb3, (hbel.trans bb2).trans bb3⟩
          case measure => simp [intOf]; omega
      · have b34 : ((a0[k].toNat : Int) == 34) = false := beq_eq_false_iff_ne.2 (fun h => hA (.inl h))
        have b92 : ((a0[k].toNat : Int) == 92) = false := beq_eq_false_iff_ne.2 (fun h => hA (.inr h))
        have nA : ¬ (a0[k] = 34 ∨ a0[k] = 92) := by rw [e34, e92]; exact hA
        have NA := Lib.hid nA
        clear hA e34 e92 nA
        by_cases hC : (a0[k].toNat : Int) < 32 ∨ 126 < (a0[k].toNat : Int)
        · have hq : qByte a0[k] = [92, 120, ([48, 49, 50, 51, 52, 53, 54, 55, 56, 57, 97, 98, 99, 100, 101, 102] : List UInt8).getD (a0[k].toNat / 16) 0, ([48, 49, 50, 51, 52, 53, 54, 55, 56, 57, 97, 98, 99, 100, 101, 102] : List UInt8).getD (a0[k].toNat % 16) 0] := by
            unfold qByte; rw [if_neg NA.out, if_pos (by rw [l32, g126]; exact hC)]
          have HQ := Lib.hid hq
          have hor : decide ((a0[k].toNat : Int) < 32) = true ∨ decide ((a0[k].toNat : Int) < 32) = false ∧ decide (126 < (a0[k].toNat : Int)) = true := by
            by_cases h1 : (a0[k].toNat : Int) < 32
            · exact .inl (decide_eq_true h1)
            · exact .inr ⟨decide_eq_false h1, decide_eq_true (hC.resolve_left h1)⟩
          clear hq hC l32 g126 NA
          rcases hor with d32 | ⟨d32, d126⟩
          all_goals
            go_wp2_with fail
            refine (writeString B B _ ⟨#[92, 120]⟩ _ (.inr hb) (by rw [byteCells_len]; show _ + 2 ≤ _; omega) hz).mono ?_
            rintro e W2 ⟨rfl, hb2, bb2⟩
            go_wp2_with fail
            refine (writeByte B B _ _ _ (.inr hb2) (by simp only [List.length_append, byteCells_len, Lib.strCells_length]; show _ + 2 + 1 ≤ _; omega) (Nat.le_trans hz bb2.size)).mono ?_
            rintro e W3 ⟨rfl, hb3, bb3⟩
            go_wp2_with fail
            refine (writeByte B B _ _ _ (.inr hb3) (by simp only [List.length_append, byteCells_len, Lib.strCells_length, List.length_singleton]; show _ + 2 + 1 + 1 ≤ _; omega) (Nat.le_trans hz (Nat.le_trans bb2.size bb3.size))).mono ?_
            rintro e W4 ⟨rfl, hb4, bb4⟩
            go_wp2
            go_roundw
            case rel => exact ⟨k + 1, by omega, by go_num, by rw [HS.out, HQ.out]; simpa [Lib.byteCells, Lib.strCells, hexd_at] using hb4, ((hbel.trans bb2).trans bb3).trans bb4⟩
            case measure => simp [intOf]; omega
        · have hq : qByte a0[k] = [a0[k]] := by unfold qByte; rw [if_neg NA.out, if_neg (by rw [l32, g126]; exact hC)]
          have HQ := Lib.hid hq
          have d32 : decide ((a0[k].toNat : Int) < 32) = false := decide_eq_false (fun h => hC (.inl h))
          have d126 : decide (126 < (a0[k].toNat : Int)) = false := decide_eq_false (fun h => hC (.inr h))
          clear hq hC l32 g126 NA
          go_wp2_with fail
          refine (writeByte B B _ a0[k].toNat _ (.inr hb) (by rw [byteCells_len]; omega) hz).mono ?_
          rintro e W2 ⟨rfl, hb2, bb2⟩
          go_wp2
          go_roundw
          case rel => exact ⟨k + 1, by omega, by go_num, by rw [HS.out, HQ.out]; simpa [Lib.byteCells] using hb2, hbel.trans bb2⟩
          case measure => simp [intOf]; omega
    · obtain rfl : k = a0.size := by omega
      have hz : B ≤ wr.heap.size := by have := hbel.size; have := HB.out; omega
      have hl := qTo_len a0 a0.size hk
      go_wp2_with fail
      refine (writeByte B B _ 34 _ (.inr hb) (by rw [byteCells_len]; omega) hz).mono ?_
      rintro e W2 ⟨rfl, hb2, bb2⟩
      have hb3 : Lib.BuilderAt 67 5 B B (.pointer (some ⟨B, 0, none⟩)) (Lib.byteCells (quotedL a0.data.toList)) W2 := by
        have e1 : qTo a0 a0.size ++ [34] = quotedL a0.data.toList := by
          unfold qTo quotedL
          rw [List.take_of_length_le (by simp)]
          rfl
        have e2 : Lib.byteCells (qTo a0 a0.size) ++ [.int .u8 34] = Lib.byteCells (qTo a0 a0.size ++ [34]) := cellsOf_one _ 34
        rw [← e1, ← e2]
        exact hb2
      clear hb2 hb
      go_wp2_with fail
      refine (Tryz.Builder_String_any B B _ _ (.inr hb3) (Nat.le_trans hz bb2.size)).mono ?_
      rintro e W3 ⟨rfl, bb3⟩
      go_wp2
      go_ret
      exact ⟨rfl, by rw [HB.out]; exact (hbel.trans bb2).trans bb3⟩
namespace E
def quB (s : ByteArray) : ByteArray := ⟨(quotedL s.data.toList).toArray⟩
def fmtB (n : Int) : ByteArray := ⟨(Lib.itoa n).toArray⟩
/-- is it no number? -/
def piE (s : ByteArray) : Bool := match Lib.parseIntB 64 s.data.toList with
  | .ok _ => false
  | _ => true
/-- what comes of it -/
def piV (s : ByteArray) : Int := match Lib.parseIntB 64 s.data.toList with
  | .ok v => v
  | .range => Lib.intSat 64 s.data.toList
  | _ => 0
theorem quoted_back (x : ByteArray) (w : World) (_ : LayC w) (_ : ∀ g ∈ layG, g < w.heap.size) (h : x.size ≤ 1048576) : Back Tryz.prog 27 #[valD .str x] w (.a (.c (.s (quB x)))) := by
  refine (quoted_calls x w h).mono ?_
  rintro e w' ⟨rfl, hb⟩
  exact ⟨_, rfl, rfl, hb⟩
theorem fmt_back (x y : Int) (w : World) (hc : LayC w) (_ : ∀ g ∈ layG, g < w.heap.size) (h : y = 10 ∧ -9223372036854775808 ≤ x ∧ x ≤ 9223372036854775807) : Back Tryz.prog 26 #[valD (.int .i64) x, valD (.int .i64) y] w (.a (.c (.s (fmtB x)))) := by
  obtain ⟨rfl, h0, h1⟩ := h
  refine (Tryz.strconv_FormatInt_10 x h0 h1 w hc.pow10).mono ?_
  rintro e w' ⟨rfl, k, os, rfl⟩
  exact ⟨_, rfl, rfl, Laid.below_grow w k os⟩
theorem parse_back (s : ByteArray) (y z : Int) (w : World) (hc : LayC w) (_ : ∀ g ∈ layG, g < w.heap.size) (h : y = 10 ∧ z = 64 ∧ s.size ≤ 281474976710656) : Back Tryz.prog 59 #[valD .str s, valD (.int .i64) y, valD (.int .i64) z] w (.tu [.c (.i .i64 (piV s)), .c (.er (piE s))]) := by
  obtain ⟨rfl, rfl, hs⟩ := h
  obtain ⟨b, hb⟩ : ∃ b, Lib.parseIntB 64 s.data.toList = b := ⟨_, rfl⟩
  cases b with
  | ok v =>
    refine (Tryz.strconv_ParseInt_10_at64_ok s (by omega) v hb w).mono ?_
    rintro e w' ⟨rfl, hw⟩
    have hbw : Below w.heap.size w w' := by
      rcases hw with rfl | ⟨t, rfl⟩
      · exact Below.refl _ _
      · exact Lib.bytesWorld_below _ _ _
    refine ⟨_, rfl, ⟨_, rfl, ?_, ?_, trivial⟩, hbw⟩
    · show Value.int .i64 v = .int .i64 (piV s)
      unfold piV; rw [hb]
    · show (if piE s = true then _ else _)
      unfold piE; rw [hb]; rfl
  | range =>
    obtain ⟨tp, p, hv⟩ := hc.rng
    refine (Tryz.strconv_ParseInt_10_at64_range_var s hs hb tp p w hv).mono ?_
    rintro e w' ⟨N, rfl, _, _, hbw⟩
    refine ⟨_, rfl, ⟨_, rfl, ?_, ?_, trivial⟩, hbw⟩
    · show Value.int .i64 _ = .int .i64 (piV s)
      unfold piV; rw [hb]
    · show (if piE s = true then _ else _)
      unfold piE; rw [hb]; exact ⟨_, _, rfl⟩
  | _ =>
    obtain ⟨tp, p, hv⟩ := hc.syn
    refine (Tryz.strconv_ParseInt_10_at64_syntax_var s hs (fun v e => by rw [hb] at e; cases e) (fun e => by rw [hb] at e; cases e) tp p w hv).mono ?_
    rintro e w' ⟨N, rfl, _, _, hbw⟩
    refine ⟨_, rfl, ⟨_, rfl, ?_, ?_, trivial⟩, hbw⟩
    · show Value.int .i64 _ = .int .i64 (piV s)
      unfold piV; rw [hb]
    · show (if piE s = true then _ else _)
      unfold piE; rw [hb]; exact ⟨_, _, rfl⟩
end E
end Go.Proofs.YtcpimjekllkbkaaGreatDoor
/- strings.Builder's grow and Grow at a fresh builder, strings.Join: walked over this program (the shelf's contracts do not fit its copyCheck). -/
namespace Go.Proofs.YtcpimjekllkbkaaGreatDoor
open Go.RowKit Go.Shelf
theorem lt_of_blk {w : World} {b : Nat} {o : Obj} (h : w.heap[b]? = some o) : b < w.heap.size := (Array.getElem?_eq_some_iff.1 h).1
set_option maxHeartbeats 2000000 in
set_option maxRecDepth 1000000 in
theorem grow_fresh (B b n : Nat) (w : World) (hB : B ≤ b) (hbk : w.heap[b]? = some (.cells #[.pointer (some ⟨b, 0, none⟩), .slice none 0 0] 67 (0, 0))) (hBw : B ≤ w.heap.size) (hn : n ≤ 281474976710656) :
    Calls Tryz.prog 56 #[.pointer (some ⟨b, 0, none⟩), .int .i64 n] w fun e w' => e = .returned (.tuple #[]) ∧ (Lib.BuilderAt 67 5 B b (.pointer (some ⟨b, 0, none⟩)) [] w' ∧ Below B w w') := by
  obtain ⟨cs, hrun, hle, hmax⟩ := Lib.run_makeNoZero (P := Tryz.prog) w.drew #[3] 65 5 (by kernel_rfl) n hn
  have hw : IntKind.i64.wrap (IntKind.i64.wrap 0 + (n : Int)) = n := by
    rw [IntKind.wrap_i64, IntKind.wrap_i64]
    omega
  have hcall : (callFunc 72 #[.int .i64 (IntKind.i64.wrap (IntKind.i64.wrap 0 + (n : Int)))]).run Tryz.prog w.drew = .ok (.value (.slice (some ⟨w.drew.heap.size, 0, none⟩) n cs.size)) (w.drew.drew.drew.alloc (.cells cs 5)) := by
    rw [hw, run_callFunc_extern Tryz.func72 (by kernel_rfl) (by kernel_rfl) (by kernel_rfl) (e := Extern.BytealgMakeNoZero.makeNoZero #[3] #[65]) (by kernel_rfl), hrun]
    rfl
  have hlt := lt_of_blk hbk
  have c1 : w.drew.cell? ⟨b, 1, none⟩ = some (.slice none 0 0) := by
    have : w.drew.heap[b]? = _ := hbk
    rw [Lib.cell_of_heap this]; rfl
  have c2 : (w.alloc (.cells cs 5)).cell? ⟨b, 1, none⟩ = some (.slice none 0 0) := by
    have : (w.alloc (.cells cs 5)).heap[b]? = _ := (Lib.alloc_old w _ b hlt).trans hbk
    rw [Lib.cell_of_heap this]; rfl
  have f2 : (w.alloc (.cells cs 5)).frozen? ⟨b, 1, none⟩ = false := Lib.frozen_of_heap ((Lib.alloc_old w _ b hlt).trans hbk) 1
  have hcopy : ∀ W : World, (Builtin.copy_ #[65, 65] 3 #[.slice (some ⟨w.heap.size, 0, none⟩) 0 cs.size, .slice none 0 0]).run Tryz.prog W = .ok (goInt 0) W :=
    fun W => run_copy_none W 65 65 3 5 _ _ 0 cs.size 0 0 (by kernel_rfl) (by kernel_rfl) rfl
  clear hw hlt
  go_enter Tryz.func56, Tryz.ntmps56
  go_wp2
  have hfin := Lib.grown_fresh (T := 67) (e := 5) (cs := cs) hB hbk hBw (hmax (by unfold maxLen; omega)) (by decide)
  go_region
  all_goals (go_wp2; go_end0; exact ⟨rfl, hfin⟩)
set_option maxHeartbeats 2000000 in
set_option maxRecDepth 1000000 in
theorem Grow_fresh (B b n : Nat) (w : World) (hB : B ≤ b) (hbk : w.heap[b]? = some (.cells #[.pointer none, .slice none 0 0] 67 (0, 0))) (hBw : B ≤ w.heap.size) (hn : n ≤ 281474976710656) :
    Calls Tryz.prog 28 #[.pointer (some ⟨b, 0, none⟩), .int .i64 n] w fun e w' => e = .returned (.tuple #[]) ∧ (Lib.BuilderAt 67 5 B b (.pointer (some ⟨b, 0, none⟩)) [] w' ∧ Below B w w') := by
  have hbk1 : (w.setCell ⟨b, 0, none⟩ (.pointer (some ⟨b, 0, none⟩))).heap[b]? = some (.cells #[.pointer (some ⟨b, 0, none⟩), .slice none 0 0] 67 (0, 0)) := by
    simp [World.setCell, Array.getElem?_modify, hbk]
  have c1 : (w.setCell ⟨b, 0, none⟩ (.pointer (some ⟨b, 0, none⟩))).cell? ⟨b, 1, none⟩ = some (.slice none 0 0) := by rw [Lib.cell_of_heap hbk1]; rfl
  have hb1 : Below B w (w.setCell ⟨b, 0, none⟩ (.pointer (some ⟨b, 0, none⟩))) := (Below.refl B w).setCell (p := ⟨b, 0, none⟩) hB _
  go_enter Tryz.func28, Tryz.ntmps28
  have hU : Lib.BuilderAt 67 5 B b (.pointer (some ⟨b, 0, none⟩)) [] (w.setCell ⟨b, 0, none⟩ (.pointer (some ⟨b, 0, none⟩))) := ⟨hB, .slice none 0 0, hbk1, World.ownsRow_nil _ _ _ _, by simp [Value.ownBlock]⟩
  have c1' : (w.setCell ⟨b, 0, none⟩ (.pointer (some ⟨b, 0, none⟩))).drew.cell? ⟨b, 1, none⟩ = some (.slice none 0 0) := c1
  go_wp2_with (go_at_call 55; refine (copyCheck_fresh b w (by rw [Lib.cell_of_heap hbk]; rfl) (by simp [World.shape?, hbk]) (Lib.frozen_of_heap hbk 0)).mono ?_; rintro e w' ⟨rfl, rfl⟩)
  go_region
  all_goals go_wp2_with (go_at_call 56; refine (grow_fresh B b n (w.setCell ⟨b, 0, none⟩ (.pointer (some ⟨b, 0, none⟩))).drew hB hbk1 (by simpa [World.setCell, World.drew, -World.drew_eq] using hBw) hn).mono ?_; rintro e w' ⟨rfl, h1, h2⟩)
  all_goals first
    | (go_end0; exact ⟨rfl, h1, hb1.drew.trans h2⟩)
    | (go_end0; exact ⟨rfl, hU.drew, hb1.drew⟩)
set_option maxHeartbeats 4000000 in
set_option maxRecDepth 100000 in
theorem join_many (bk o c : Nat) (xs : List ByteArray) (sep : ByteArray) (w : World)
    (hcells : ∀ (j : Nat) x, xs[j]? = some x → w.cell? ⟨bk, o + j, none⟩ = some (.string x))
    (hbk : bk < w.heap.size) (h2 : 2 ≤ xs.length) (hN : xs.length ≤ 140737488355328) (hcap : xs.length ≤ c)
    (hlen : (Lib.join (xs.map (·.data.toList)) sep.data.toList).length ≤ 140737488355328) :
    Calls Tryz.prog 13 #[.slice (some ⟨bk, o, none⟩) xs.length c, .string sep] w fun e w' => e = .returned (.string ⟨(Lib.join (xs.map (·.data.toList)) sep.data.toList).toArray⟩) ∧ Below w.heap.size w w' := by
  have HC := Lib.hid hcells
  clear hcells
  obtain ⟨x0, r, hxs⟩ : ∃ x0 r, xs = x0 :: r := by
    cases xs with
    | nil => simp at h2
    | cons a t => exact ⟨a, t, rfl⟩
  have hjl : sep.size * (xs.length - 1) + Lib.lens (xs.map (·.data.toList)) ≤ 140737488355328 := by
    have := Lib.join_length x0.data.toList (r.map (·.data.toList)) sep.data.toList
    rw [hxs] at hlen ⊢
    simp only [List.map_cons] at hlen ⊢
    rw [this, List.length_map] at hlen
    rw [Lib.size_eq, List.length_cons, Nat.add_sub_cancel]
    exact hlen
  have hmul : sep.size * (xs.length - 1) ≤ 140737488355328 := by omega
  generalize hM : sep.size * (xs.length - 1) = M at hjl hmul
  have hcast : ((xs.length : Int) - 1) = ((xs.length - 1 : Nat) : Int) := by omega
  have hlt : sep.size < 9223372036854775807 / (xs.length - 1) := by
    have : sep.size + 1 ≤ 9223372036854775807 / (xs.length - 1) := by
      rw [Nat.le_div_iff_mul_le (by omega), Nat.add_mul, hM]
      omega
    omega
  have hdv : ¬ (9223372036854775807 / ((xs.length : Int) - 1) ≤ (sep.size : Int)) := by
    have e : (9223372036854775807 : Int) / ((xs.length - 1 : Nat) : Int) = ((9223372036854775807 / (xs.length - 1) : Nat) : Int) := IntWalk.up_div (x := 9223372036854775807) rfl rfl
    rw [hcast, e]
    generalize 9223372036854775807 / (xs.length - 1) = q at hlt
    omega
  have hprod : wrap64 ((sep.size : Int) * ((xs.length : Int) - 1)) = (M : Int) := by
    have e : (sep.size : Int) * ((xs.length - 1 : Nat) : Int) = ((sep.size * (xs.length - 1) : Nat) : Int) := IntWalk.up_mul rfl rfl
    rw [hcast, e, hM]
    exact IntWalk.wrap64_in _ ⟨by omega, by omega⟩
  have hM0 : sep.size = 0 → M = 0 := fun h => by rw [← hM, h, Nat.zero_mul]
  clear hlt hcast
  have hne0 : ((xs.length : Int) == 0) = false := beq_eq_false_iff_ne.2 (by omega)
  have hne1 : ((xs.length : Int) == 1) = false := beq_eq_false_iff_ne.2 (by omega)
  have Hxs := Lib.hid hxs
  have Hlen := Lib.hid hlen
  clear hxs hlen
  go_enter Tryz.func13, Tryz.ntmps13
  go_wp2_with fail
  all_goals (
    go_loop [5, 41] (fun n i => ∃ k : Nat, k ≤ xs.length ∧ i = .int .i64 k ∧ n = .int .i64 ((M + Lib.lens ((xs.map (·.data.toList)).take k) : Nat) : Int)) (fun _ i => xs.length - (intOf i).toNat)
    case atStart => exact ⟨0, Nat.zero_le _, rfl, by first | (simp [Lib.lens]; done) | (have := hM0 (by omega); simp [Lib.lens, this])⟩
    case round =>
      obtain ⟨k, hk, rfl, rfl⟩ := hrel
      by_cases hkn : k < xs.length
      · obtain ⟨x, hx⟩ : ∃ x, xs[k]? = some x := ⟨xs[k], List.getElem?_eq_getElem hkn⟩
        have hc := HC.out k x hx
        have hstep := Lib.lens_take_succ (xs.map (·.data.toList)) k x.data.toList (by simp [hx])
        have hbound : Lib.lens ((xs.map (·.data.toList)).take (k + 1)) ≤ Lib.lens (xs.map (·.data.toList)) := Lib.lens_take_le _ _
        rw [← Lib.size_eq] at hstep
        generalize hA1 : Lib.lens ((xs.map (·.data.toList)).take (k + 1)) = A1 at hstep hbound
        generalize Lib.lens ((xs.map (·.data.toList)).take k) = A0 at hstep
        have HA1 := Lib.hid hA1
        clear hA1
        go_wp2
        exact ⟨⟨k + 1, by omega, by go_num, by rw [HA1.out]; refine congrArg _ ?_; omega⟩, by simp [intOf]; omega⟩
      · have hke : k = xs.length := by omega
        subst hke
        have hall : (xs.map (·.data.toList)).take xs.length = xs.map (·.data.toList) := List.take_of_length_le (by simp)
        rw [hall]
        generalize hT : Lib.lens (xs.map (·.data.toList)) = T at hjl
        have HT := Lib.hid hT
        clear hT hall
        go_wp2_with fail
        have hMT : ((M : Int) + (T : Int)) = ((M + T : Nat) : Int) := by omega
        rw [hMT]
        refine (Grow_fresh w.heap.size w.heap.size (M + T) _ (Nat.le_refl _) (heap_alloc_new w _) (by simp) (by omega)).mono ?_
        rintro e w1 ⟨rfl, h1, hb1⟩
        have hb1' : Below w.heap.size w w1 := ((Below.refl w.heap.size w).alloc (Nat.le_refl _) _).trans hb1
        have hx0 : xs[0]? = some x0 := by rw [Hxs.out]; rfl
        have hc0 : w1.cell? ⟨bk, o, none⟩ = some (.string x0) := by
          rw [hb1'.cell (p := ⟨bk, o, none⟩) hbk]
          exact HC.out 0 x0 hx0
        have H1 := Lib.hid (Or.inr h1 : Lib.IsBuilder 67 5 w.heap.size w.heap.size [] w1)
        have Hb1 := Lib.hid hb1'
        have hBw1 : w.heap.size ≤ w1.heap.size := hb1'.size
        clear h1 hb1 hb1' hMT
        have hwhole : Lib.join (xs.map (·.data.toList)) sep.data.toList = x0.data.toList ++ Lib.joinTail sep.data.toList (r.map (·.data.toList)) := by
          rw [Hxs.out, List.map_cons, Lib.join_cons]
        have hCle : ∀ k, (x0.data.toList ++ Lib.joinTail sep.data.toList ((r.map (·.data.toList)).take k)).length ≤ 140737488355328 := fun k => by
          have h1 := Hlen.out
          rw [hwhole, List.length_append] at h1
          have h2 := Lib.joinTail_take_le sep.data.toList (r.map (·.data.toList)) k
          rw [List.length_append]
          omega
        have HCle := Lib.hid hCle
        have Hwhole := Lib.hid hwhole
        clear hCle hwhole
        go_wp2_with fail
        refine (writeString w.heap.size w.heap.size [] x0 w1 H1.out (by have := HCle.out 0; simp [Lib.joinTail] at this ⊢; omega) hBw1).mono ?_
        rintro e w2 ⟨rfl, h2', hb2⟩
        have hstart : ([] : List Value) ++ Lib.strCells x0 = Lib.byteCells (x0.data.toList ++ Lib.joinTail sep.data.toList ((r.map (·.data.toList)).take 0)) := by
          simp [Lib.joinTail, Lib.strCells_eq]
        rw [hstart] at h2'
        have H2 := Lib.hid (Or.inr h2' : Lib.IsBuilder 67 5 w.heap.size w.heap.size _ w2)
        have Hb2 := Lib.hid (Hb1.out.trans hb2)
        clear h2' hb2 hstart
        have hrl : r.length = xs.length - 1 := by rw [Hxs.out]; simp
        go_wp2_with fail
        go_loopw [65] (fun i wr => ∃ k : Nat, k ≤ r.length ∧ i = .int .i64 k ∧ Hid (Lib.IsBuilder 67 5 w.heap.size w.heap.size (Lib.byteCells (x0.data.toList ++ Lib.joinTail sep.data.toList ((r.map (·.data.toList)).take k))) wr) ∧ Hid (Below w.heap.size w wr)) (fun i _ => r.length - (intOf i).toNat)
        case atStart => exact ⟨0, Nat.zero_le _, rfl, H2, Hb2⟩
        case round =>
          obtain ⟨k, hk', rfl, HB, HW⟩ := hrel
          by_cases hkr : k < r.length
          · obtain ⟨y, hy⟩ : ∃ y, r[k]? = some y := ⟨r[k], List.getElem?_eq_getElem hkr⟩
            have hxy : xs[k + 1]? = some y := by rw [Hxs.out]; simpa using hy
            have hcy : wr.cell? ⟨bk, o + 1 + k, none⟩ = some (.string y) := by
              rw [HW.out.cell (p := ⟨bk, o + 1 + k, none⟩) hbk, show o + 1 + k = o + (k + 1) by omega]
              exact HC.out (k + 1) y hxy
            have hBw : w.heap.size ≤ wr.heap.size := HW.out.size
            have hnext : Lib.byteCells (x0.data.toList ++ Lib.joinTail sep.data.toList ((r.map (·.data.toList)).take k)) ++ Lib.strCells sep ++ Lib.strCells y = Lib.byteCells (x0.data.toList ++ Lib.joinTail sep.data.toList ((r.map (·.data.toList)).take (k + 1))) := by
              rw [Lib.joinTail_take_succ sep.data.toList (r.map (·.data.toList)) k y.data.toList (by simp [hy]), Lib.strCells_eq, Lib.strCells_eq, ← Lib.byteCells_append, ← Lib.byteCells_append, List.append_assoc, List.append_assoc, List.append_assoc]
            have hl1 := HCle.out (k + 1)
            rw [Lib.joinTail_take_succ sep.data.toList (r.map (·.data.toList)) k y.data.toList (by simp [hy])] at hl1
            simp only [List.length_append, ← Lib.size_eq] at hl1
            have hl0 : (Lib.byteCells (x0.data.toList ++ Lib.joinTail sep.data.toList ((r.map (·.data.toList)).take k))).length = x0.size + (Lib.joinTail sep.data.toList ((r.map (·.data.toList)).take k)).length := by
              rw [Lib.byteCells_length, List.length_append, ← Lib.size_eq]
            generalize (Lib.joinTail sep.data.toList ((r.map (·.data.toList)).take k)).length = J at hl0 hl1
            have Hn := Lib.hid hnext
            clear hnext hy hxy
            go_wp2_with fail
            refine (writeString w.heap.size w.heap.size _ sep wr HB.out (by rw [hl0]; omega) hBw).mono ?_
            rintro e w3 ⟨rfl, h3, hb3⟩
            have hBw3 : w.heap.size ≤ w3.heap.size := Nat.le_trans hBw hb3.size
            have H3 := Lib.hid h3
            have Hb3 := Lib.hid hb3
            clear h3 hb3
            go_wp2_with fail
            refine (writeString w.heap.size w.heap.size _ y w3 (Or.inr H3.out) (by rw [List.length_append, hl0, Lib.strCells_length]; omega) hBw3).mono ?_
            rintro e w4 ⟨rfl, h4, hb4⟩
            rw [Hn.out] at h4
            have H4 := Lib.hid (Or.inr h4 : Lib.IsBuilder 67 5 w.heap.size w.heap.size _ w4)
            have Hb4 := Lib.hid ((HW.out.trans Hb3.out).trans hb4)
            clear h4 hb4
            go_wp2
            exact ⟨⟨k + 1, by omega, by go_num, H4, Hb4⟩, by simp [intOf]; omega⟩
          · have hke : k = r.length := by omega
            subst hke
            have hfull : (r.map (·.data.toList)).take r.length = r.map (·.data.toList) := List.take_of_length_le (by simp)
            have hB' := HB.out
            rw [hfull, ← Hwhole.out] at hB'
            have hBw : w.heap.size ≤ wr.heap.size := HW.out.size
            go_wp2_with fail
            refine (Tryz.Builder_String_any w.heap.size w.heap.size _ wr hB' hBw).mono ?_
            rintro e w5 ⟨rfl, hb5⟩
            have Hb5 := Lib.hid (HW.out.trans hb5)
            clear hb5 hB'
            go_wp2
            go_ret
            exact ⟨rfl, Hb5.out⟩)
theorem join_none (a : Option Addr) (c : Nat) (sep : ByteArray) (w : World) :
    Calls Tryz.prog 13 #[.slice a 0 c, .string sep] w fun e w' => e = .returned (.string ⟨#[]⟩) ∧ w' = w := by
  go_enter Tryz.func13, Tryz.ntmps13
  go_wp2
  go_ret
  exact ⟨rfl, rfl⟩
theorem join_one (bk o c : Nat) (x sep : ByteArray) (w : World) (hc : w.cell? ⟨bk, o, none⟩ = some (.string x)) :
    Calls Tryz.prog 13 #[.slice (some ⟨bk, o, none⟩) 1 c, .string sep] w fun e w' => e = .returned (.string x) ∧ w' = w := by
  go_enter Tryz.func13, Tryz.ntmps13
  go_wp2
  go_ret
  exact ⟨rfl, rfl⟩
theorem join_all (ad : Option Addr) (c : Nat) (xs : List ByteArray) (sep : ByteArray) (w : World)
    (hcells : xs ≠ [] → ∃ bk o, ad = some ⟨bk, o, none⟩ ∧ bk < w.heap.size ∧ ∀ (j : Nat) x, xs[j]? = some x → w.cell? ⟨bk, o + j, none⟩ = some (.string x))
    (hN : xs.length ≤ 140737488355328) (hcap : xs.length ≤ c)
    (hlen : (Lib.join (xs.map (·.data.toList)) sep.data.toList).length ≤ 140737488355328) :
    Calls Tryz.prog 13 #[.slice ad xs.length c, .string sep] w fun e w' => e = .returned (.string ⟨(Lib.join (xs.map (·.data.toList)) sep.data.toList).toArray⟩) ∧ Below w.heap.size w w' := by
  match xs, hcells, hN, hcap, hlen with
  | [], _, _, _, _ => exact (join_none ad c sep w).mono fun e w' ⟨he, hw⟩ => ⟨he, hw ▸ Below.refl _ _⟩
  | [x], hcells, _, _, _ =>
    obtain ⟨bk, o, rfl, hbk, hc⟩ := hcells (by simp)
    refine (join_one bk o c x sep w (hc 0 x rfl)).mono fun e w' ⟨he, hw⟩ => ⟨?_, hw ▸ Below.refl _ _⟩
    rw [he, List.map_cons, List.map_nil, Lib.join_one, Lib.mk_data]
  | x :: y :: r, hcells, hN, hcap, hlen =>
    obtain ⟨bk, o, rfl, hbk, hc⟩ := hcells (by simp)
    exact join_many bk o c (x :: y :: r) sep w hc hbk (by simp) hN hcap hlen
end Go.Proofs.YtcpimjekllkbkaaGreatDoor
/- strings.Join, as the engine takes it. -/
namespace Go.Proofs.YtcpimjekllkbkaaGreatDoor.E
open Go.RowKit
def joinB (xs : List ByteArray) (sep : ByteArray) : ByteArray := ⟨(Lib.join (xs.map (·.data.toList)) sep.data.toList).toArray⟩
section
variable {R : Type} {P : Program}
theorem Good.handL [Esc R] {f : Nat} {fn : Func} (hf : P.funcs[f]? = some fn) (hname : (fn.name == "runtime.NumGoroutine") = false) (hb : fn.body.isSome = true)
    {c : List ByteArray → ByteArray → Prop} [∀ x y, Decidable (c x y)] {φ : List ByteArray → ByteArray → T}
    (hc : ∀ (xs : List ByteArray) (sep : ByteArray) (ad : Option Addr) (m : Nat) (w : World), c xs sep → xs.length ≤ m → (xs ≠ [] → ∃ bk o, ad = some ⟨bk, o, none⟩ ∧ bk < w.heap.size ∧ ∀ (j : Nat) x, xs[j]? = some x → w.cell? ⟨bk, o + j, none⟩ = some (.string x)) → Back P f #[.slice ad xs.length m, .string sep] w (φ xs sep))
    {G : (⟨[(0, .d (.sl .str)), (1, .d .str)], []⟩ : Desc).D → (T → List Blk → Option R) → Option R} (hG : ∀ x k, G x k = if c x.1 x.2.1 then k (φ x.1 x.2.1) [] else none) : Good P f (typed 2 ⟨[(0, .d (.sl .str)), (1, .d .str)], []⟩ G) := by
  refine ⟨fun args HA k r h vs w F hv iv harg => ?_, fun l HA => ?_⟩
  · unfold typed at h
    cases hlens : Nat.beq HA.length 0 && Nat.beq args.length 2 with
    | false => rw [show (⟨[(0, SlotD.d (.sl .str)), (1, SlotD.d .str)], []⟩ : Desc).H.length = 0 from rfl, hlens] at h; cases h
    | true =>
      rw [show (⟨[(0, SlotD.d (.sl .str)), (1, SlotD.d .str)], []⟩ : Desc).H.length = 0 from rfl, hlens] at h
      simp only [cond_true] at h
      simp only [Bool.and_eq_true] at hlens
      have e1 : HA = [] := List.length_eq_zero_iff.1 (Nat.eq_of_beq_eq_true hlens.1)
      have e2 := Nat.eq_of_beq_eq_true hlens.2
      subst e1
      have e3 : hv = [] := List.length_eq_zero_iff.1 iv.len
      subst e3
      match args, e2 with
      | [a, b], _ =>
      match vs, harg with
      | [v0, v1], harg =>
      split at h
      case h_2 => cases h
      rename_i x hx
      obtain ⟨h0, h1⟩ := decS_two hx
      have r0 : DRep w F (.sl .str) x.1 [v0] := decA_rep h0 harg.1 []
      have r1 : v1 = .string x.2.1 := decA_rep h1 harg.2.1 []
      rw [hG] at h
      split at h
      · rename_i hcx
        obtain ⟨ad, m, e0, ⟨hm, _⟩, hrows⟩ := r0
        simp only [List.cons.injEq, and_true] at e0
        subst e0 r1
        refine hand_core hf hname hb iv h (hc x.1 x.2.1 ad m w hcx hm fun hne => ?_)
        have hpos : 0 < List.length x.1 := List.length_pos_iff.2 hne
        obtain ⟨bk, o, cs, rfl, hF, _, _⟩ := hrows 0 hpos
        refine ⟨bk, o, rfl, iv.fb bk hF, fun j y hy => ?_⟩
        obtain ⟨hj, hyj⟩ := List.getElem?_eq_some_iff.1 hy
        obtain ⟨b2, o2, cs2, e2, _, hr2, hd2⟩ := hrows j hj
        simp only [Option.some.injEq, Addr.mk.injEq, and_true] at e2
        obtain ⟨rfl, rfl⟩ := e2
        have hd3 : cs2 = [.string y] := by rw [← hyj]; exact hd2
        have := hr2 0 (.string y) (by rw [hd3]; rfl)
        have e1 : Ty.str.sz = 1 := rfl
        rw [e1, Nat.mul_one, Nat.add_zero] at this
        exact this
      · cases h
  · unfold typed
    cases Nat.beq HA.length (⟨[(0, SlotD.d (.sl .str)), (1, SlotD.d .str)], []⟩ : Desc).H.length && Nat.beq l.length 2 with
    | false => exact Uni.none
    | true =>
      simp only [cond_true]
      cases decS (⟨[(0, .d (.sl .str)), (1, .d .str)], []⟩ : Desc) ⟨0, initT 0 l, HA⟩ with
      | none => exact Uni.none
      | some x => exact Uni.congr (Uni.ite (c := c x.1 x.2.1) (Uni.ret (φ x.1 x.2.1, [])) Uni.none) fun k => hG x _
end
theorem join_back (xs : List ByteArray) (sep : ByteArray) (ad : Option Addr) (m : Nat) (w : World) (h : xs.length ≤ 140737488355328 ∧ (joinB xs sep).size ≤ 140737488355328) (hm : xs.length ≤ m) (hcells : xs ≠ [] → ∃ bk o, ad = some ⟨bk, o, none⟩ ∧ bk < w.heap.size ∧ ∀ (j : Nat) x, xs[j]? = some x → w.cell? ⟨bk, o + j, none⟩ = some (.string x)) :
    Back Tryz.prog 13 #[.slice ad xs.length m, .string sep] w (.a (.c (.s (joinB xs sep)))) := by
  refine (join_all ad m xs sep w hcells h.1 hm (by have := h.2; unfold joinB at this; rw [Lib.size_eq] at this; simpa using this)).mono ?_
  rintro e w' ⟨rfl, hb⟩
  exact ⟨_, rfl, rfl, hb⟩
end Go.Proofs.YtcpimjekllkbkaaGreatDoor.E
