/- ValueReads: the printed law comes to true, whatever it is handed. -/
import Derived.Test.YtmpohhjfdnjcpaaDoorPv9
namespace Go.Proofs.YtmpohhjfdnjcpaaDoor.Pure
open Go.RowKit Go.Proofs.YtmpohhjfdnjcpaaDoor.G
theorem ValueReads (a0 : ByteArray) (_ : a0.size ≤ 140737488351232) : ∃ k, verdererlaw01_ValueReads.f k a0 = some true :=
  reads a0
end Go.Proofs.YtmpohhjfdnjcpaaDoor.Pure
