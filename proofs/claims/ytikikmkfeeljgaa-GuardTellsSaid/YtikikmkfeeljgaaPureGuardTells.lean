/- GuardTells: the law's walk comes to true, whatever it is handed. -/
import Derived.Test.YtikikmkfeeljgaaPvG4
namespace Go.Proofs.Ytikikmkfeeljgaa.Pure
open Go.RowKit Go.Proofs.Ytikikmkfeeljgaa.G Go.Proofs.YtikikmkfeeljgaaW.PrintWords Go.Proofs.YtikikmkfeeljgaaW.PrintLast Go.Proofs.YtikikmkfeeljgaaW.PrintMore
theorem ev_tells (a0 : Int) (a1 : ByteArray) (a2 : List ByteArray) (a3 : Int) (a4 : ByteArray) (a5 : Int) (l : List S41) : Ev (fun k => verdererlaw15_GuardTells.f k a0 a1 a2 a3 a4 a5 l) true := by
 obtain ⟨b, hq, he⟩ := ev_few a0 a1 a2 a3 a4 a5 l
 unfold verdererlaw15_GuardTells.f
 refine Ev.bind he ?_
 cases b with
 | false => exact ev_known15
 | true =>
  obtain ⟨h2, hl, hx⟩ := hq rfl
  have hl : l.length ≤ 41 := by omega
  have hx : ∀ x ∈ l, x.f2.length ≤ 5000 := fun x hm => by have := hx x hm; omega
  have hbl := boundS_len l hl hx
  refine Ev.bind (ev_free a0 a1 a2 a3 a4 a5 l (by omega) hl hx) (Ev.bind (ev_rfree a0 a1 a2 a3 a4 a5 l (by omega) hl hx) (Ev.bind (ev_check a0 a1 a2 a3 a4 a5 l (by omega) hl hx) (Ev.bind (ev_rcheck a0 a1 a2 a3 a4 a5 l (by omega) hl hx) (Ev.bind (ev_bound a0 a1 a2 a3 a4 a5 l hl hx) (Ev.bind (ev_rbound a0 a1 a2 a3 a4 a5 l hl hx) (Ev.bind (ev_texts (boundS l) (by omega)) ?_))))))
  simp only [if_true, and_self]
  exact ev_known15
theorem GuardTells (a0 : Int) (a1 : ByteArray) (a2 : List ByteArray) (a3 : Int) (a4 : ByteArray) (a5 : Int) (l : List S41) {p : Prop} (_ : p) : ∃ k, verdererlaw15_GuardTells.f k a0 a1 a2 a3 a4 a5 l = some true := (ev_tells a0 a1 a2 a3 a4 a5 l).rounds
end Go.Proofs.Ytikikmkfeeljgaa.Pure
