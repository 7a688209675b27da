/- From what a row lists of strconv's variables to what the walks ask of the world. -/
import Derived.Test.YtmpohhjfdnjcpaaDoorRows
import Derived.Test.YtmpohhjfdnjcpaaDoorLaid
import Derived.Stop.LaidErr
import Derived.Lib.LaidTab
import Derived.LaidLaws
namespace Go.Proofs.YtmpohhjfdnjcpaaDoor
open Go.RowKit

theorem gt_pow10 : (Tryd.prog.globals[1]?).map (·.type) = some 81 := by kernel_rfl
theorem gt_syn : (Tryd.prog.globals[2]?).map (·.type) = some 55 := by kernel_rfl
theorem gt_rng : (Tryd.prog.globals[3]?).map (·.type) = some 55 := by kernel_rfl
theorem err_star : "*" ++ "errors.errorString" = "*errors.errorString" := by decide
theorem row_err (u : TypeId) (h : Tryd.prog.typeName? 3 u = some "*errors.errorString") : u = 101 :=
  typeName_ptr_named (nm := "errors.errorString") (by rw [err_star]; kernel_rfl) (by kernel_rfl) (by decide) u (by rw [err_star]; exact h)
theorem lt_of_var {w : World} {n : String} {g : Nat} {cs : Array Value} (hg : Tryd.prog.globalNamed n = some g) (h : w.var? Tryd.prog n = some cs) : g < w.heap.size := by
  unfold World.var? at h
  rw [hg] at h
  simp only [Option.bind_some] at h
  rcases Nat.lt_or_ge g w.heap.size with hl | hl
  · exact hl
  · rw [Array.getElem?_eq_none hl] at h; cases h
/-- the list of all the law's rows -/
def laidList : List (String × DataW Unit) := [("math/bits.deBruijn32tab", Rows.laid_math_bits_deBruijn32tab), ("math/bits.deBruijn64tab", Rows.laid_math_bits_deBruijn64tab), ("internal/strconv.uint64pow10", Rows.laid_internal_strconv_uint64pow10), ("strconv.ErrRange", Rows.laid_strconv_ErrRange), ("strconv.ErrSyntax", Rows.laid_strconv_ErrSyntax)]
theorem laid_of {W : World} (h : laidMetH Tryd.prog laidList W) : Laid W := by
  have h0 : laidMet Tryd.prog laidList W := h
  have h3 := h0.tail.tail
  have p := Lib.tabIs_of_head (zs := Lib.pow10Tab) (k := .u64) g_pow10 gt_pow10 Tryd.underlying81 Tryd.underlying62 (by kernel_rfl) (by kernel_rfl) h3
  obtain ⟨a0, s0, hv0, -, -, -⟩ := laid_sentinel h3.tail g_rng gt_rng Tryd.underlying55 row_err Tryd.underlying101 Tryd.underlying103 rfl rfl Tryd.underlying9 (by kernel_rfl) (by kernel_rfl)
  obtain ⟨a1, s1, hv1, -, -, -⟩ := laid_sentinel h3.tail.tail g_syn gt_syn Tryd.underlying55 row_err Tryd.underlying101 Tryd.underlying103 rfl rfl Tryd.underlying9 (by kernel_rfl) (by kernel_rfl)
  exact ⟨p, ⟨_, _, hv1⟩, ⟨_, _, hv0⟩, .inr ⟨lt_of_var g_pow10 p, lt_of_var g_syn hv1, lt_of_var g_rng hv0⟩⟩
end Go.Proofs.YtmpohhjfdnjcpaaDoor
