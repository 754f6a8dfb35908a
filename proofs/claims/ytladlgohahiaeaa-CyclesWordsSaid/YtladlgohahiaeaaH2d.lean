/- The cycles of the greatest words: runs, part 3. -/
import Derived.Test.YtladlgohahiaeaaH2
set_option linter.unusedSimpArgs false
set_option linter.unusedVariables false
namespace Go.Absm.D
open Go Go.Absm Go.Proofs
set_option maxRecDepth 1000000
theorem r33_3_0 : run33 ([82, 76, 76, 82, 82, 76, 82], [1, 4, 5, 7, 6, 3, 2, 0]) = true := by kernel_rfl
theorem r50_3_0 : run50 ([82, 76, 76, 82, 82, 76, 82], [1, 4, 5, 7, 6, 3, 2, 0]) = true := by kernel_rfl
theorem r33_3_1 : run33 ([82, 76, 76, 82, 82, 82, 76], [2, 3, 5, 7, 6, 4, 1, 0]) = true := by kernel_rfl
theorem r50_3_1 : run50 ([82, 76, 76, 82, 82, 82, 76], [2, 3, 5, 7, 6, 4, 1, 0]) = true := by kernel_rfl
theorem r33_3_2 : run33 ([82, 76, 76, 82, 82, 82, 82], [1, 4, 7, 6, 5, 3, 2, 0]) = true := by kernel_rfl
theorem r50_3_2 : run50 ([82, 76, 76, 82, 82, 82, 82], [1, 4, 7, 6, 5, 3, 2, 0]) = true := by kernel_rfl
theorem r33_3_3 : run33 ([82, 76, 82, 82, 76, 82, 82], [3, 4, 7, 6, 5, 2, 1, 0]) = true := by kernel_rfl
theorem r50_3_3 : run50 ([82, 76, 82, 82, 76, 82, 82], [3, 4, 7, 6, 5, 2, 1, 0]) = true := by kernel_rfl
theorem r33_3_4 : run33 ([82, 76, 82, 82, 82, 76, 82], [4, 5, 7, 6, 3, 2, 1, 0]) = true := by kernel_rfl
theorem r50_3_4 : run50 ([82, 76, 82, 82, 82, 76, 82], [4, 5, 7, 6, 3, 2, 1, 0]) = true := by kernel_rfl
theorem r33_3_5 : run33 ([82, 76, 82, 82, 82, 82, 82], [4, 7, 6, 5, 3, 2, 1, 0]) = true := by kernel_rfl
theorem r50_3_5 : run50 ([82, 76, 82, 82, 82, 82, 82], [4, 7, 6, 5, 3, 2, 1, 0]) = true := by kernel_rfl
theorem all33_3 : ∀ p ∈ ofTab3, run33 p = true := (fc r33_3_0 (fc r33_3_1 (fc r33_3_2 (fc r33_3_3 (fc r33_3_4 (fc r33_3_5 (fun x hx => by cases hx)))))))
theorem all50_3 : ∀ p ∈ ofTab3, run50 p = true := (fc r50_3_0 (fc r50_3_1 (fc r50_3_2 (fc r50_3_3 (fc r50_3_4 (fc r50_3_5 (fun x hx => by cases hx)))))))
end Go.Absm.D
