/- ValueShows: the printed law comes to true, whatever it is handed. -/
import Derived.Test.YtmpohhjfdnjcpaaDoorPv8
namespace Go.Proofs.YtmpohhjfdnjcpaaDoor.Pure
open Go.RowKit Go.Proofs.YtmpohhjfdnjcpaaDoor.G
theorem ValueShows (a0_0 : Int) (a0_1 : Bool) (a0_2 : Int) (a0_3 : ByteArray) (w0 : (Lit.int .i64 a0_0).wf = true ∧ True ∧ (Lit.int .i64 a0_2).wf = true ∧ a0_3.size ≤ 9223372036854775807) : ∃ k, verdererlaw01_ValueShows.f k a0_0 a0_1 a0_2 a0_3 = some true :=
  shows a0_0 a0_1 a0_2 a0_3 (wf_inr w0.2.2.1)
end Go.Proofs.YtmpohhjfdnjcpaaDoor.Pure
