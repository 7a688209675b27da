/- ValueLine: the printed law comes to true, whatever it is handed. -/
import Derived.Test.YtmpohhjfdnjcpaaDoorPv4
namespace Go.Proofs.YtmpohhjfdnjcpaaDoor.Pure
open Go.RowKit Go.Proofs.YtmpohhjfdnjcpaaDoor.G
theorem ValueLine (a0_0 : Int) (a0_1 : Bool) (a0_2 : Int) (a0_3 : ByteArray) (a1_0 : Int) (a1_1 : Bool) (a1_2 : Int) (a1_3 : ByteArray) (a2_0 : Int) (a2_1 : Bool) (a2_2 : Int) (a2_3 : ByteArray)
    (_ : (Lit.int .i64 a0_0).wf = true ∧ True ∧ (Lit.int .i64 a0_2).wf = true ∧ a0_3.size ≤ 9223372036854775807)
    (_ : (Lit.int .i64 a1_0).wf = true ∧ True ∧ (Lit.int .i64 a1_2).wf = true ∧ a1_3.size ≤ 9223372036854775807)
    (_ : (Lit.int .i64 a2_0).wf = true ∧ True ∧ (Lit.int .i64 a2_2).wf = true ∧ a2_3.size ≤ 9223372036854775807) :
    ∃ k, verdererlaw01_ValueLine.f k a0_0 a0_1 a0_2 a0_3 a1_0 a1_1 a1_2 a1_3 a2_0 a2_1 a2_2 a2_3 = some true :=
  line a0_0 a0_1 a0_2 a0_3 a1_0 a1_1 a1_2 a1_3 a2_0 a2_1 a2_2 a2_3
end Go.Proofs.YtmpohhjfdnjcpaaDoor.Pure
