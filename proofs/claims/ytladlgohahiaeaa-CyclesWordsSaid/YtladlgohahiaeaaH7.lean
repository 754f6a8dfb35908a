/- CyclesWords holds, for all texts. -/
import Derived.Test.YtladlgohahiaeaaH6
import Derived.Test.YtladlgohahiaeaaRW9
set_option linter.unusedSimpArgs false
set_option linter.unusedVariables false
namespace Go.Proofs.Ytladlgohahiaeaa
open Go.Absm Go.Absm.D
theorem bytesN_by {s : ByteArray} : By (bytesN s) := fun c hc => by
  obtain ⟨u, _, rfl⟩ := List.mem_map.1 hc
  exact u.toNat_lt
theorem CyclesWords_holds : Rows.CyclesWordsSaid :=
  CyclesWords_of fun a b w ha hb => two_strs (exec_ok mixed t9_ok 7001) (run9 _ _ bytesN_by bytesN_by (by simpa [bytesN, maxLen] using ha) (by simpa [bytesN, maxLen] using hb)) w
end Go.Proofs.Ytladlgohahiaeaa
