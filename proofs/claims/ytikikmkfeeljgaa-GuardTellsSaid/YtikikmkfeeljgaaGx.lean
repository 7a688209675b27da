-- Written by a program for this claim (my own print over the kit's words).
import Derived.Test.YtikikmkfeeljgaaGx0
import Derived.Test.YtikikmkfeeljgaaGx1
import Derived.Test.YtikikmkfeeljgaaGx2
import Derived.Test.YtikikmkfeeljgaaGx3
import Derived.Test.YtikikmkfeeljgaaGx4
import Derived.Test.YtikikmkfeeljgaaGx5
import Derived.Test.YtikikmkfeeljgaaGx6
import Derived.Test.YtikikmkfeeljgaaGx7
import Derived.Test.YtikikmkfeeljgaaGx8
import Derived.Test.YtikikmkfeeljgaaGx9
import Derived.Test.YtikikmkfeeljgaaGx10
import Derived.Test.YtikikmkfeeljgaaGx11
import Derived.Test.YtikikmkfeeljgaaGx12
import Derived.Test.YtikikmkfeeljgaaGx13
import Derived.Test.YtikikmkfeeljgaaGx14
import Derived.Test.YtikikmkfeeljgaaGx15
import Derived.Test.YtikikmkfeeljgaaGx16
import Derived.Test.YtikikmkfeeljgaaGx17
import Derived.Test.YtikikmkfeeljgaaGx18
import Derived.Test.YtikikmkfeeljgaaGx19
namespace Go.Proofs.Ytikikmkfeeljgaa.G
open Go.RowKit Go.Proofs.YtikikmkfeeljgaaW.PrintWords Go.Proofs.YtikikmkfeeljgaaW.PrintLast Go.Proofs.YtikikmkfeeljgaaW.PrintMore
attribute [local go_sem] max2_int min2_int max_two min_two max_three min_three max_four min_four   -- for this text's walks alone
set_option linter.unusedVariables false
set_option linter.unusedSimpArgs false
end Go.Proofs.Ytikikmkfeeljgaa.G
