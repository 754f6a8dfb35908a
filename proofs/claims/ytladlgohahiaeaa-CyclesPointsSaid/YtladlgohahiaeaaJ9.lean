/- CyclesPoints holds, for all lists and fractions. -/
import Derived.Test.YtladlgohahiaeaaJ8
import Derived.Test.YtladlgohahiaeaaRW7
set_option linter.unusedSimpArgs false
set_option linter.unusedVariables false
namespace Go.Proofs.Ytladlgohahiaeaa
open Go.Absm Go.Absm.D
theorem CyclesPoints_holds : Rows.CyclesPointsSaid :=
  CyclesPoints_of (CyclesPoints_call (exec_ok mixed tA_ok 7001) fun _ _ _ _ a b hl hB => run7 a b hl hB)
end Go.Proofs.Ytladlgohahiaeaa
