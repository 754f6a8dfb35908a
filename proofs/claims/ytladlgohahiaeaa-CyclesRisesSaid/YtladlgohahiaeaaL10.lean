/- Part of the proof by the abstract machine. -/
import Derived.Test.YtladlgohahiaeaaL9
set_option linter.unusedSimpArgs false
set_option linter.unusedVariables false
namespace Go.Absm.D
open Go Go.Absm Go.Proofs
theorem w6_0 (y a b : Int) : ph1 0 y a b (den (exec tR 300) 300 R4 (den (exec tR 300) 300 T5 ret6 bad6 ret6) bad6 ret6) = some (.bool true, [], 0) := by
  obtain ⟨y2, j, hj, g1, g2⟩ := remU b 1 (by omega)
  refine (ph6_0 y a b _).trans ?_
  refine (den4 (v6_0 a b) h6_0 7 0).trans ?_
  refine (region4 (v6_0 a b) h6_0 7 0 6 0 1 b y2 (.ofNat j) _ rfl rfl g1 rfl g2).trans ?_
  have hc : j = 0 := by omega
  subst hc
  exact q6_0_0 a b y2
theorem w6_1 (y a b : Int) : ph1 1 y a b (den (exec tR 300) 300 R4 (den (exec tR 300) 300 T5 ret6 bad6 ret6) bad6 ret6) = some (.bool true, [], 0) := by
  obtain ⟨y2, j, hj, g1, g2⟩ := remU b 1 (by omega)
  refine (ph6_1 y a b _).trans ?_
  refine (den4 (v6_1 a b) h6_1 8 0).trans ?_
  refine (region4 (v6_1 a b) h6_1 8 0 7 0 1 b y2 (.ofNat j) _ rfl rfl g1 rfl g2).trans ?_
  have hc : j = 0 := by omega
  subst hc
  exact q6_1_0 a b y2
theorem w6_2 (y a b : Int) : ph1 2 y a b (den (exec tR 300) 300 R4 (den (exec tR 300) 300 T5 ret6 bad6 ret6) bad6 ret6) = some (.bool true, [], 0) := by
  obtain ⟨y2, j, hj, g1, g2⟩ := remU b 2 (by omega)
  refine (ph6_2 y a b _).trans ?_
  refine (den4 (v6_2 a b) h6_2 11 0).trans ?_
  refine (region4 (v6_2 a b) h6_2 11 0 10 0 2 b y2 (.ofNat j) _ rfl rfl g1 rfl g2).trans ?_
  have hc : j = 0 ∨ j = 1 := by omega
  rcases hc with rfl | rfl
  · exact q6_2_0 a b y2
  · exact q6_2_1 a b y2
theorem w6_3 (y a b : Int) : ph1 3 y a b (den (exec tR 300) 300 R4 (den (exec tR 300) 300 T5 ret6 bad6 ret6) bad6 ret6) = some (.bool true, [], 0) := by
  obtain ⟨y2, j, hj, g1, g2⟩ := remU b 3 (by omega)
  refine (ph6_3 y a b _).trans ?_
  refine (den4 (v6_3 a b) h6_3 15 0).trans ?_
  refine (region4 (v6_3 a b) h6_3 15 0 14 0 3 b y2 (.ofNat j) _ rfl rfl g1 rfl g2).trans ?_
  have hc : j = 0 ∨ j = 1 ∨ j = 2 := by omega
  rcases hc with rfl | rfl | rfl
  · exact q6_3_0 a b y2
  · exact q6_3_1 a b y2
  · exact q6_3_2 a b y2
theorem w6_4 (y a b : Int) : ph1 4 y a b (den (exec tR 300) 300 R4 (den (exec tR 300) 300 T5 ret6 bad6 ret6) bad6 ret6) = some (.bool true, [], 0) := by
  obtain ⟨y2, j, hj, g1, g2⟩ := remU b 5 (by omega)
  refine (ph6_4 y a b _).trans ?_
  refine (den4 (v6_4 a b) h6_4 22 0).trans ?_
  refine (region4 (v6_4 a b) h6_4 22 0 21 0 5 b y2 (.ofNat j) _ rfl rfl g1 rfl g2).trans ?_
  have hc : j = 0 ∨ j = 1 ∨ j = 2 ∨ j = 3 ∨ j = 4 := by omega
  rcases hc with rfl | rfl | rfl | rfl | rfl
  · exact q6_4_0 a b y2
  · exact q6_4_1 a b y2
  · exact q6_4_2 a b y2
  · exact q6_4_3 a b y2
  · exact q6_4_4 a b y2
theorem w6_5 (y a b : Int) : ph1 5 y a b (den (exec tR 300) 300 R4 (den (exec tR 300) 300 T5 ret6 bad6 ret6) bad6 ret6) = some (.bool true, [], 0) := by
  obtain ⟨y2, j, hj, g1, g2⟩ := remU b 9 (by omega)
  refine (ph6_5 y a b _).trans ?_
  refine (den4 (v6_5 a b) h6_5 36 0).trans ?_
  refine (region4 (v6_5 a b) h6_5 36 0 35 0 9 b y2 (.ofNat j) _ rfl rfl g1 rfl g2).trans ?_
  have hc : j = 0 ∨ j = 1 ∨ j = 2 ∨ j = 3 ∨ j = 4 ∨ j = 5 ∨ j = 6 ∨ j = 7 ∨ j = 8 := by omega
  rcases hc with rfl | rfl | rfl | rfl | rfl | rfl | rfl | rfl | rfl
  · exact q6_5_0 a b y2
  · exact q6_5_1 a b y2
  · exact q6_5_2 a b y2
  · exact q6_5_3 a b y2
  · exact q6_5_4 a b y2
  · exact q6_5_5 a b y2
  · exact q6_5_6 a b y2
  · exact q6_5_7 a b y2
  · exact q6_5_8 a b y2
theorem w6_6 (y a b : Int) : ph1 6 y a b (den (exec tR 300) 300 R4 (den (exec tR 300) 300 T5 ret6 bad6 ret6) bad6 ret6) = some (.bool true, [], 0) := by
  obtain ⟨y2, j, hj, g1, g2⟩ := remU b 16 (by omega)
  refine (ph6_6 y a b _).trans ?_
  refine (den4 (v6_6 a b) h6_6 60 0).trans ?_
  refine (region4 (v6_6 a b) h6_6 60 0 59 0 16 b y2 (.ofNat j) _ rfl rfl g1 rfl g2).trans ?_
  have hc : j = 0 ∨ j = 1 ∨ j = 2 ∨ j = 3 ∨ j = 4 ∨ j = 5 ∨ j = 6 ∨ j = 7 ∨ j = 8 ∨ j = 9 ∨ j = 10 ∨ j = 11 ∨ j = 12 ∨ j = 13 ∨ j = 14 ∨ j = 15 := by omega
  rcases hc with rfl | rfl | rfl | rfl | rfl | rfl | rfl | rfl | rfl | rfl | rfl | rfl | rfl | rfl | rfl | rfl
  · exact q6_6_0 a b y2
  · exact q6_6_1 a b y2
  · exact q6_6_2 a b y2
  · exact q6_6_3 a b y2
  · exact q6_6_4 a b y2
  · exact q6_6_5 a b y2
  · exact q6_6_6 a b y2
  · exact q6_6_7 a b y2
  · exact q6_6_8 a b y2
  · exact q6_6_9 a b y2
  · exact q6_6_10 a b y2
  · exact q6_6_11 a b y2
  · exact q6_6_12 a b y2
  · exact q6_6_13 a b y2
  · exact q6_6_14 a b y2
  · exact q6_6_15 a b y2
theorem run6 (a b : Int) : exec tR 301 6 [.int .i64 a, .int .i64 b] [] 0 kq0 ke0 = some (.bool true, [], 0) := by
  obtain ⟨y, z, hz, h1, h2⟩ := remU a 7 (by omega)
  refine (start6 a b).trans ?_
  refine (region1 (vars1 a b) (.int .i64 a) rfl y (.ofNat z) _ h1 h2).trans ?_
  refine (next6 (.ofNat z) y a b).trans ?_
  have hc : z = 0 ∨ z = 1 ∨ z = 2 ∨ z = 3 ∨ z = 4 ∨ z = 5 ∨ z = 6 := by omega
  rcases hc with rfl | rfl | rfl | rfl | rfl | rfl | rfl
  · exact w6_0 y a b
  · exact w6_1 y a b
  · exact w6_2 y a b
  · exact w6_3 y a b
  · exact w6_4 y a b
  · exact w6_5 y a b
  · exact w6_6 y a b
end Go.Absm.D
