-- Written by a program for this claim (my own print over the kit's words).
import Derived.Test.YtmpohhjfdnjcpaaDoorProg
import Derived.Below
import Derived.Deep.Draws
import Derived.Deep.AppendLies
import Derived.Maps.AppendAt
import Derived.OwnWalk
import Derived.Laws.BytesArg
import Derived.Laws.MakeOwn
import Derived.Laws.OwnMore
import Derived.Deep.OwnRows
import Derived.Tactics
import Derived.Lib.ConvBytes
import Derived.Laws.Slices
import Derived.WalkKit
import Derived.KernelRfl
import Derived.RowKit3
import Derived.Deep.LoopGhost
import Derived.Deep.QuietTactic
import Derived.BigQuiet
import Derived.WideLaws
import Derived.Deep.DeepCutAuto
import Derived.Deep.CutBlock
import Derived.Deep.RegionHeld3
import Derived.Laws.Rows
import Derived.Lib.AppendStr
import Derived.ArgAppend
import Derived.Laws.IdiomCopy
import Derived.OrdersHeld
import Derived.Laws.BitsLemmas
import Derived.RowKit
import Derived.Test.YtmpohhjfdnjcpaaDoorLaid
import Derived.Test.YtmpohhjfdnjcpaaDoorWWords
import Derived.Test.YtmpohhjfdnjcpaaDoorWLast
import Derived.Test.YtmpohhjfdnjcpaaDoorWTab
import Derived.Test.YtmpohhjfdnjcpaaDoorWFour
import Derived.Test.YtmpohhjfdnjcpaaDoorWQPut
import Derived.Test.YtmpohhjfdnjcpaaDoorWApart
import Derived.Test.YtmpohhjfdnjcpaaDoorWArr
import Derived.Test.YtmpohhjfdnjcpaaDoorWZeros
import Derived.Test.YtmpohhjfdnjcpaaDoorWFoot
import Derived.Test.YtmpohhjfdnjcpaaDoorWKept
import Derived.Test.YtmpohhjfdnjcpaaDoorWShare
import Derived.Test.YtmpohhjfdnjcpaaDoorWN
import Derived.Test.YtmpohhjfdnjcpaaDoorWFootNe
import Derived.Test.YtmpohhjfdnjcpaaDoorWAt
import Derived.Test.YtmpohhjfdnjcpaaDoorWEqStruct
import Derived.Test.YtmpohhjfdnjcpaaDoorWRepsOne
import Derived.Test.YtmpohhjfdnjcpaaDoorWInv
import Derived.Test.YtmpohhjfdnjcpaaDoorWInvWords
import Derived.Test.YtmpohhjfdnjcpaaDoorWGuard
import Derived.Test.YtmpohhjfdnjcpaaDoorWNEv
import Derived.Test.YtmpohhjfdnjcpaaDoorWMore
import Derived.Lib.QuietBelow
import Derived.Test.YtmpohhjfdnjcpaaDoorBuilder
import Derived.Test.YtmpohhjfdnjcpaaDoorShelf
namespace Go.Proofs.YtmpohhjfdnjcpaaDoor.G
open Go.RowKit Go.Proofs.YtmpohhjfdnjcpaaDoorW.PrintWords Go.Proofs.YtmpohhjfdnjcpaaDoorW.PrintLast Go.Proofs.YtmpohhjfdnjcpaaDoorW.PrintMore
attribute [local go_sem] max2_int min2_int max_two min_two max_three min_three max_four min_four   -- for this text's walks alone
set_option linter.unusedVariables false
set_option linter.unusedSimpArgs false



def errW : Option Int → Value
  | none => .nilIface
  | some c => .iface 0 (.int .i64 c)
theorem errW_none : errW none = .nilIface := rfl
theorem errW_some (c : Int) : errW (some c) = .iface 0 (.int .i64 c) := rfl

theorem info5 : (Tryd.prog.info? 5).map (fun i => (i.zero, i.size, i.bytes)) = some (some (.int .u8 0), 1, 1) := by kernel_rfl
-- the values' own types

end Go.Proofs.YtmpohhjfdnjcpaaDoor.G
