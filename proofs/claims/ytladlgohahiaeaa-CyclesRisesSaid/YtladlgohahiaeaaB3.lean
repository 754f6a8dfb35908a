/- CyclesRises holds, for all numbers. -/
import Derived.Test.YtladlgohahiaeaaB2
import Derived.Test.YtladlgohahiaeaaL10
set_option linter.unusedSimpArgs false
set_option linter.unusedVariables false
namespace Go.Proofs.Ytladlgohahiaeaa
open Go.Absm Go.Absm.D
theorem CyclesRises_holds : Rows.CyclesRisesSaid :=
  CyclesRises_of fun a b w => two_ints (exec_ok mixed tR_ok 301) (run6 a b) w
end Go.Proofs.Ytladlgohahiaeaa
