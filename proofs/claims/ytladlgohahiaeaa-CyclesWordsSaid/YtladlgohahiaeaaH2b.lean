/- The cycles of the greatest words: runs, part 1. -/
import Derived.Test.YtladlgohahiaeaaH2
set_option linter.unusedSimpArgs false
set_option linter.unusedVariables false
namespace Go.Absm.D
open Go Go.Absm Go.Proofs
set_option maxRecDepth 1000000
theorem r33_1_0 : run33 ([82, 76, 76, 76, 76, 76], [1, 2, 3, 4, 5, 6, 0]) = true := by kernel_rfl
theorem r50_1_0 : run50 ([82, 76, 76, 76, 76, 76], [1, 2, 3, 4, 5, 6, 0]) = true := by kernel_rfl
theorem r33_1_1 : run33 ([82, 76, 76, 76, 76, 82], [1, 2, 3, 5, 6, 4, 0]) = true := by kernel_rfl
theorem r50_1_1 : run50 ([82, 76, 76, 76, 76, 82], [1, 2, 3, 5, 6, 4, 0]) = true := by kernel_rfl
theorem r33_1_2 : run33 ([82, 76, 76, 76, 82, 76], [1, 3, 4, 5, 6, 2, 0]) = true := by kernel_rfl
theorem r50_1_2 : run50 ([82, 76, 76, 76, 82, 76], [1, 3, 4, 5, 6, 2, 0]) = true := by kernel_rfl
theorem r33_1_3 : run33 ([82, 76, 76, 76, 82, 82], [1, 2, 4, 6, 5, 3, 0]) = true := by kernel_rfl
theorem r50_1_3 : run50 ([82, 76, 76, 76, 82, 82], [1, 2, 4, 6, 5, 3, 0]) = true := by kernel_rfl
theorem r33_1_4 : run33 ([82, 76, 76, 82, 76, 82], [2, 4, 5, 6, 3, 1, 0]) = true := by kernel_rfl
theorem r50_1_4 : run50 ([82, 76, 76, 82, 76, 82], [2, 4, 5, 6, 3, 1, 0]) = true := by kernel_rfl
theorem r33_1_5 : run33 ([82, 76, 76, 82, 82, 76], [2, 3, 4, 6, 5, 1, 0]) = true := by kernel_rfl
theorem r50_1_5 : run50 ([82, 76, 76, 82, 82, 76], [2, 3, 4, 6, 5, 1, 0]) = true := by kernel_rfl
theorem r33_1_6 : run33 ([82, 76, 76, 82, 82, 82], [1, 4, 6, 5, 3, 2, 0]) = true := by kernel_rfl
theorem r50_1_6 : run50 ([82, 76, 76, 82, 82, 82], [1, 4, 6, 5, 3, 2, 0]) = true := by kernel_rfl
theorem r33_1_7 : run33 ([82, 76, 82, 82, 76, 82], [3, 4, 6, 5, 2, 1, 0]) = true := by kernel_rfl
theorem r50_1_7 : run50 ([82, 76, 82, 82, 76, 82], [3, 4, 6, 5, 2, 1, 0]) = true := by kernel_rfl
theorem r33_1_8 : run33 ([82, 76, 82, 82, 82, 82], [3, 6, 5, 4, 2, 1, 0]) = true := by kernel_rfl
theorem r50_1_8 : run50 ([82, 76, 82, 82, 82, 82], [3, 6, 5, 4, 2, 1, 0]) = true := by kernel_rfl
theorem r33_1_9 : run33 ([82, 76, 76, 76, 76, 76, 76], [1, 2, 3, 4, 5, 6, 7, 0]) = true := by kernel_rfl
theorem r50_1_9 : run50 ([82, 76, 76, 76, 76, 76, 76], [1, 2, 3, 4, 5, 6, 7, 0]) = true := by kernel_rfl
theorem r33_1_10 : run33 ([82, 76, 76, 76, 76, 76, 82], [1, 2, 3, 4, 6, 7, 5, 0]) = true := by kernel_rfl
theorem r50_1_10 : run50 ([82, 76, 76, 76, 76, 76, 82], [1, 2, 3, 4, 6, 7, 5, 0]) = true := by kernel_rfl
theorem r33_1_11 : run33 ([82, 76, 76, 76, 76, 82, 76], [1, 2, 4, 5, 6, 7, 3, 0]) = true := by kernel_rfl
theorem r50_1_11 : run50 ([82, 76, 76, 76, 76, 82, 76], [1, 2, 4, 5, 6, 7, 3, 0]) = true := by kernel_rfl
theorem all33_1 : ∀ p ∈ ofTab1, run33 p = true := (fc r33_1_0 (fc r33_1_1 (fc r33_1_2 (fc r33_1_3 (fc r33_1_4 (fc r33_1_5 (fc r33_1_6 (fc r33_1_7 (fc r33_1_8 (fc r33_1_9 (fc r33_1_10 (fc r33_1_11 (fun x hx => by cases hx)))))))))))))
theorem all50_1 : ∀ p ∈ ofTab1, run50 p = true := (fc r50_1_0 (fc r50_1_1 (fc r50_1_2 (fc r50_1_3 (fc r50_1_4 (fc r50_1_5 (fc r50_1_6 (fc r50_1_7 (fc r50_1_8 (fc r50_1_9 (fc r50_1_10 (fc r50_1_11 (fun x hx => by cases hx)))))))))))))
end Go.Absm.D
