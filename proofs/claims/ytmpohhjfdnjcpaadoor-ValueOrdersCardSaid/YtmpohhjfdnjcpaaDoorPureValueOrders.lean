/- ValueOrders: the printed law comes to true, whatever it is handed. -/
import Derived.Test.YtmpohhjfdnjcpaaDoorPv3
namespace Go.Proofs.YtmpohhjfdnjcpaaDoor.Pure
open Go.RowKit Go.Proofs.YtmpohhjfdnjcpaaDoor.G
theorem ValueOrders (a0_0 : Int) (a0_1 : Bool) (a0_2 : Int) (a0_3 : ByteArray) (a1_0 : Int) (a1_1 : Bool) (a1_2 : Int) (a1_3 : ByteArray) (a2 : Int)
    (w0 : (Lit.int .i64 a0_0).wf = true ∧ True ∧ (Lit.int .i64 a0_2).wf = true ∧ a0_3.size ≤ 9223372036854775807)
    (w1 : (Lit.int .i64 a1_0).wf = true ∧ True ∧ (Lit.int .i64 a1_2).wf = true ∧ a1_3.size ≤ 9223372036854775807) (_ : (Lit.int .i64 a2).wf = true) :
    ∃ k, verdererlaw01_ValueOrders.f k a0_0 a0_1 a0_2 a0_3 a1_0 a1_1 a1_2 a1_3 a2 = some true :=
  orders a0_0 a0_1 a0_2 a0_3 a1_0 a1_1 a1_2 a1_3 a2 w0.2.2.2 w1.2.2.2
end Go.Proofs.YtmpohhjfdnjcpaaDoor.Pure
