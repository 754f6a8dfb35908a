/- Part of the proof by the abstract machine. -/
import Derived.Test.YtladlgohahiaeaaL6
set_option linter.unusedSimpArgs false
set_option linter.unusedVariables false
namespace Go.Absm.D
open Go Go.Absm Go.Proofs
theorem region4 (vars : List AVal) (h : Heap) (n low s o len : Nat) (b y j : Int) (k : KL) (h3 : nthD vars 3 = .slice s o len 1) (h1 : nthD vars 1 = .int .i64 b) (hy : fConvInt .u64 [.int .i64 b] = .pure (.int .u64 y))
    (hl : fConvInt .u64 [.int .i64 (.ofNat len)] = .pure (.int .u64 (.ofNat len))) (hj : fBin .rem [.int .u64 y, .int .u64 (.ofNat len)] = .pure (.int .u64 j)) :
    runOps (exec tR 300) vars k (opsC R4) [] h n low = runOps (exec tR 300) vars k (dropO 7 (opsC R4)) [.int .u64 j, .int .u64 (.ofNat len), .int .i64 (.ofNat len), .slice s o len 1, .int .u64 y, .int .i64 b, .slice s o len 1] h n low := by
  have e : opsC R4 = ⟨[.var 3],fMove,none,0⟩ :: ⟨[.var 1],fMove,none,0⟩ :: ⟨[.loc 0],fConvInt .u64,none,2⟩ :: ⟨[.var 3],fMove,none,0⟩ :: ⟨[.loc 0],fLenSl,none,8⟩ :: ⟨[.loc 0],fConvInt .u64,none,24⟩ ::
      ⟨[.loc 3,.loc 0],fBin .rem,none,62⟩ :: dropO 7 (opsC R4) := by kernel_rfl
  generalize hd : dropO 7 (opsC R4) = D at *
  rw [e]
  simp only [runOps, stepOp, wanted, evals, AOpd.eval, h3, h1, fMove, doEff, nthD, hy, hj, fLenSl, hl]
def ph2 (vars : List AVal) (h : Heap) (n low s o len : Nat) (j y b : Int) : Ans :=
  runOps (exec tR 300) vars (regionK (upsC R4) vars (den (exec tR 300) 300 T5 ret6 bad6 ret6)) (dropO 7 (opsC R4)) [.int .u64 j, .int .u64 (.ofNat len), .int .i64 (.ofNat len), .slice s o len 1, .int .u64 y, .int .i64 b, .slice s o len 1] h n low
theorem den4 (vars : List AVal) (h : Heap) (n low : Nat) : den (exec tR 300) 300 R4 (den (exec tR 300) 300 T5 ret6 bad6 ret6) bad6 ret6 vars h n low =
    runOps (exec tR 300) vars (regionK (upsC R4) vars (den (exec tR 300) 300 T5 ret6 bad6 ret6)) (opsC R4) [] h n low := by rfl
end Go.Absm.D
