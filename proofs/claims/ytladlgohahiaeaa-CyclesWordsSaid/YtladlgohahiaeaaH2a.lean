/- The cycles of the greatest words: runs, part 0. -/
import Derived.Test.YtladlgohahiaeaaH2
set_option linter.unusedSimpArgs false
set_option linter.unusedVariables false
namespace Go.Absm.D
open Go Go.Absm Go.Proofs
set_option maxRecDepth 1000000
theorem r33_0_0 : run33 ([82], [1, 0]) = true := by kernel_rfl
theorem r50_0_0 : run50 ([82], [1, 0]) = true := by kernel_rfl
theorem r33_0_1 : run33 ([82, 76], [1, 2, 0]) = true := by kernel_rfl
theorem r50_0_1 : run50 ([82, 76], [1, 2, 0]) = true := by kernel_rfl
theorem r33_0_2 : run33 ([82, 76, 76], [1, 2, 3, 0]) = true := by kernel_rfl
theorem r50_0_2 : run50 ([82, 76, 76], [1, 2, 3, 0]) = true := by kernel_rfl
theorem r33_0_3 : run33 ([82, 76, 82], [2, 3, 1, 0]) = true := by kernel_rfl
theorem r50_0_3 : run50 ([82, 76, 82], [2, 3, 1, 0]) = true := by kernel_rfl
theorem r33_0_4 : run33 ([82, 76, 76, 76], [1, 2, 3, 4, 0]) = true := by kernel_rfl
theorem r50_0_4 : run50 ([82, 76, 76, 76], [1, 2, 3, 4, 0]) = true := by kernel_rfl
theorem r33_0_5 : run33 ([82, 76, 76, 82], [1, 3, 4, 2, 0]) = true := by kernel_rfl
theorem r50_0_5 : run50 ([82, 76, 76, 82], [1, 3, 4, 2, 0]) = true := by kernel_rfl
theorem r33_0_6 : run33 ([82, 76, 82, 82], [2, 4, 3, 1, 0]) = true := by kernel_rfl
theorem r50_0_6 : run50 ([82, 76, 82, 82], [2, 4, 3, 1, 0]) = true := by kernel_rfl
theorem r33_0_7 : run33 ([82, 76, 76, 76, 76], [1, 2, 3, 4, 5, 0]) = true := by kernel_rfl
theorem r50_0_7 : run50 ([82, 76, 76, 76, 76], [1, 2, 3, 4, 5, 0]) = true := by kernel_rfl
theorem r33_0_8 : run33 ([82, 76, 76, 76, 82], [1, 2, 4, 5, 3, 0]) = true := by kernel_rfl
theorem r50_0_8 : run50 ([82, 76, 76, 76, 82], [1, 2, 4, 5, 3, 0]) = true := by kernel_rfl
theorem r33_0_9 : run33 ([82, 76, 76, 82, 76], [2, 3, 4, 5, 1, 0]) = true := by kernel_rfl
theorem r50_0_9 : run50 ([82, 76, 76, 82, 76], [2, 3, 4, 5, 1, 0]) = true := by kernel_rfl
theorem r33_0_10 : run33 ([82, 76, 76, 82, 82], [1, 3, 5, 4, 2, 0]) = true := by kernel_rfl
theorem r50_0_10 : run50 ([82, 76, 76, 82, 82], [1, 3, 5, 4, 2, 0]) = true := by kernel_rfl
theorem r33_0_11 : run33 ([82, 76, 82, 82, 82], [3, 5, 4, 2, 1, 0]) = true := by kernel_rfl
theorem r50_0_11 : run50 ([82, 76, 82, 82, 82], [3, 5, 4, 2, 1, 0]) = true := by kernel_rfl
theorem all33_0 : ∀ p ∈ ofTab0, run33 p = true := (fc r33_0_0 (fc r33_0_1 (fc r33_0_2 (fc r33_0_3 (fc r33_0_4 (fc r33_0_5 (fc r33_0_6 (fc r33_0_7 (fc r33_0_8 (fc r33_0_9 (fc r33_0_10 (fc r33_0_11 (fun x hx => by cases hx)))))))))))))
theorem all50_0 : ∀ p ∈ ofTab0, run50 p = true := (fc r50_0_0 (fc r50_0_1 (fc r50_0_2 (fc r50_0_3 (fc r50_0_4 (fc r50_0_5 (fc r50_0_6 (fc r50_0_7 (fc r50_0_8 (fc r50_0_9 (fc r50_0_10 (fc r50_0_11 (fun x hx => by cases hx)))))))))))))
end Go.Absm.D
