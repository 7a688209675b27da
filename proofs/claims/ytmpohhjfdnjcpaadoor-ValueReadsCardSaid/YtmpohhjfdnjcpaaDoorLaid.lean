/- What a walk of value's functions asks of the world: the package-level variables of strconv read as their initialisers lay them. -/
import Derived.Test.YtmpohhjfdnjcpaaDoorProg
import Derived.WalkSmall
import Derived.Lib.LaidTab
import Derived.Lib.ItoaNum
import Derived.Sort.Grow
import Derived.KernelRfl
namespace Go.Proofs.YtmpohhjfdnjcpaaDoor
open Go.RowKit

theorem g_pow10 : Tryd.prog.globalNamed "internal/strconv.uint64pow10" = some 1 := by kernel_rfl
theorem g_syn : Tryd.prog.globalNamed "strconv.ErrSyntax" = some 2 := by kernel_rfl
theorem g_rng : Tryd.prog.globalNamed "strconv.ErrRange" = some 3 := by kernel_rfl

/-- The variables lie below the heap's end, and read so. -/
structure Laid (w : World) : Prop where
  pow10 : Lib.TabIs Tryd.prog w "internal/strconv.uint64pow10" .u64 Lib.pow10Tab
  syn : ∃ (tp : TypeId) (p : Value), w.var? Tryd.prog "strconv.ErrSyntax" = some #[.iface tp p]
  rng : ∃ (tp : TypeId) (p : Value), w.var? Tryd.prog "strconv.ErrRange" = some #[.iface tp p]
  size : 200 ≤ w.heap.size ∨ (1 < w.heap.size ∧ 2 < w.heap.size ∧ 3 < w.heap.size)
theorem Laid.lts {w : World} (h : Laid w) : 1 < w.heap.size ∧ 2 < w.heap.size ∧ 3 < w.heap.size := by
  rcases h.size with h | h <;> omega
theorem Laid.of_below {w W : World} (h : Laid w) (hb : Below w.heap.size w W) : Laid W := by
  obtain ⟨l1, l2, l3⟩ := h.lts
  have hs := hb.size
  obtain ⟨t1, p1, h1⟩ := h.syn
  obtain ⟨t2, p2, h2⟩ := h.rng
  exact ⟨var?_below hb g_pow10 l1 h.pow10, ⟨t1, p1, var?_below hb g_syn l2 h1⟩, ⟨t2, p2, var?_below hb g_rng l3 h2⟩, .inr (by omega)⟩
theorem Laid.below_grow (w : World) (k : Nat) (os : Array Obj) : Below w.heap.size w (Sort.grow (w.drewN k) os) :=
  ⟨rfl, rfl, rfl, by simp [Sort.grow], fun j hj => by
    show ((w.drewN k).heap ++ os)[j]? = _
    rw [Array.getElem?_append_left (by simpa using hj)]
    rfl⟩
end Go.Proofs.YtmpohhjfdnjcpaaDoor
