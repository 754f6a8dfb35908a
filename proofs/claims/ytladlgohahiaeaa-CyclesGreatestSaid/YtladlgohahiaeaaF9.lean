/- CyclesGreatest holds, for all numbers. -/
import Derived.Test.YtladlgohahiaeaaF8
import Derived.Test.YtladlgohahiaeaaRW3
set_option linter.unusedSimpArgs false
set_option linter.unusedVariables false
namespace Go.Proofs.Ytladlgohahiaeaa
open Go.Absm Go.Absm.D
theorem CyclesGreatest_holds : Rows.CyclesGreatestSaid :=
  CyclesGreatest_of fun a w => one_int (exec_ok mixed t3_ok 7001) (run3 a) w
end Go.Proofs.Ytladlgohahiaeaa
