/- The cycles of the greatest words: runs, part 2. -/
import Derived.Test.YtladlgohahiaeaaH2
set_option linter.unusedSimpArgs false
set_option linter.unusedVariables false
namespace Go.Absm.D
open Go Go.Absm Go.Proofs
set_option maxRecDepth 1000000
theorem r33_2_0 : run33 ([82, 76, 76, 76, 76, 82, 82], [1, 2, 3, 5, 7, 6, 4, 0]) = true := by kernel_rfl
theorem r50_2_0 : run50 ([82, 76, 76, 76, 76, 82, 82], [1, 2, 3, 5, 7, 6, 4, 0]) = true := by kernel_rfl
theorem r33_2_1 : run33 ([82, 76, 76, 76, 82, 76, 76], [2, 3, 4, 5, 6, 7, 1, 0]) = true := by kernel_rfl
theorem r50_2_1 : run50 ([82, 76, 76, 76, 82, 76, 76], [2, 3, 4, 5, 6, 7, 1, 0]) = true := by kernel_rfl
theorem r33_2_2 : run33 ([82, 76, 76, 76, 82, 76, 82], [1, 3, 5, 6, 7, 4, 2, 0]) = true := by kernel_rfl
theorem r50_2_2 : run50 ([82, 76, 76, 76, 82, 76, 82], [1, 3, 5, 6, 7, 4, 2, 0]) = true := by kernel_rfl
theorem r33_2_3 : run33 ([82, 76, 76, 76, 82, 82, 76], [1, 3, 4, 5, 7, 6, 2, 0]) = true := by kernel_rfl
theorem r50_2_3 : run50 ([82, 76, 76, 76, 82, 82, 76], [1, 3, 4, 5, 7, 6, 2, 0]) = true := by kernel_rfl
theorem r33_2_4 : run33 ([82, 76, 76, 76, 82, 82, 82], [1, 2, 5, 7, 6, 4, 3, 0]) = true := by kernel_rfl
theorem r50_2_4 : run50 ([82, 76, 76, 76, 82, 82, 82], [1, 2, 5, 7, 6, 4, 3, 0]) = true := by kernel_rfl
theorem r33_2_5 : run33 ([82, 76, 76, 82, 76, 82, 76], [2, 4, 5, 6, 7, 3, 1, 0]) = true := by kernel_rfl
theorem r50_2_5 : run50 ([82, 76, 76, 82, 76, 82, 76], [2, 4, 5, 6, 7, 3, 1, 0]) = true := by kernel_rfl
theorem r33_2_6 : run33 ([82, 76, 76, 82, 76, 82, 82], [2, 4, 6, 7, 5, 3, 1, 0]) = true := by kernel_rfl
theorem r50_2_6 : run50 ([82, 76, 76, 82, 76, 82, 82], [2, 4, 6, 7, 5, 3, 1, 0]) = true := by kernel_rfl
theorem all33_2 : ∀ p ∈ ofTab2, run33 p = true := (fc r33_2_0 (fc r33_2_1 (fc r33_2_2 (fc r33_2_3 (fc r33_2_4 (fc r33_2_5 (fc r33_2_6 (fun x hx => by cases hx))))))))
theorem all50_2 : ∀ p ∈ ofTab2, run50 p = true := (fc r50_2_0 (fc r50_2_1 (fc r50_2_2 (fc r50_2_3 (fc r50_2_4 (fc r50_2_5 (fc r50_2_6 (fun x hx => by cases hx))))))))
end Go.Absm.D
