/- CyclesAfter holds, for all numbers. -/
import Derived.Test.YtladlgohahiaeaaE4
import Derived.Test.YtladlgohahiaeaaRW10
set_option linter.unusedSimpArgs false
set_option linter.unusedVariables false
namespace Go.Proofs.Ytladlgohahiaeaa
open Go.Absm Go.Absm.D
theorem CyclesAfter_holds : Rows.CyclesAfterSaid :=
  CyclesAfter_of fun a b w => two_ints (exec_ok mixed t10_ok 201) (run10 a b) w
end Go.Proofs.Ytladlgohahiaeaa
