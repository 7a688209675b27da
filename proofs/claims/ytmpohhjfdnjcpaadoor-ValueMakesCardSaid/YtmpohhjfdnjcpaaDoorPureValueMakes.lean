/- ValueMakes: the printed law comes to true, whatever it is handed. -/
import Derived.Test.YtmpohhjfdnjcpaaDoorGx8
namespace Go.Proofs.YtmpohhjfdnjcpaaDoor.Pure
open Go.RowKit Go.Proofs.YtmpohhjfdnjcpaaDoor.G
theorem ValueMakes (a0 : Bool) (a1 : Int) (a2 : ByteArray) (_ : (Lit.int .i64 a1).wf = true) (_ : a2.size ≤ 140737488351232) : verdererlaw01_ValueMakes.f a0 a1 a2 = some true := rfl
end Go.Proofs.YtmpohhjfdnjcpaaDoor.Pure
