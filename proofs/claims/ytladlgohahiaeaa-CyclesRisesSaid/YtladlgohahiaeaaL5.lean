/- Part of the proof by the abstract machine. -/
import Derived.Test.YtladlgohahiaeaaL2
import Derived.Test.YtladlgohahiaeaaW3
set_option linter.unusedSimpArgs false
set_option linter.unusedVariables false
namespace Go.Absm.D
open Go Go.Absm Go.Proofs
def tR : Nat → Option Entry := hooked 18 (hookOf awakeS) (hooked 75 (hookOf greatS) (hooked 133 (hookOf letterS) tb0))
theorem tR_ok : TableOk Try.prog tR := hooked_ok hook18 (hooked_ok hook75 (hooked_ok hook133 tb0_ok))
def fstC : ACode → ACode
  | .seq a _ => a
  | c => c
def sndC : ACode → ACode
  | .seq _ b => b
  | c => c
def opsC : ACode → List AOper
  | .region l _ _ => l
  | _ => []
def upsC : ACode → List (Nat × Nat)
  | .region _ l _ => l
  | _ => []
def dropO : Nat → List AOper → List AOper
  | 0, l => l
  | _ + 1, [] => []
  | n + 1, _ :: l => dropO n l
def R2 : ACode := fstC (sndC c6.body)
def T3 : ACode := sndC (sndC c6.body)
def ret6 : KV := retK c6.results 0 kq0 ke0
def bad6 : Nat → KV := fun _ _ _ _ _ => none
def vars1 (a b : Int) : List AVal := .int .i64 a :: .int .i64 b :: .bool false :: rep 16 [.undef]
def u1 (a : Int) : Int := wrapN .u64 a
def r1 (a : Int) : Int := match remI .u64 (u1 a) (.ofNat 7) with
  | some (.int _ x) => x
  | _ => 0
def Q1 (x a b : Int) (locs : List AVal) : Ans := runOps (exec tR 300) (vars1 a b) (regionK (upsC R2) (vars1 a b) (den (exec tR 300) 300 T3 ret6 bad6 ret6)) (dropO 3 (opsC R2)) (.int .u64 x :: locs) [] 0 0
set_option maxRecDepth 1000000
theorem region1 (vars : List AVal) (x : AVal) (h : nthD vars 0 = x) (y z : Int) (k : KL) (hy : fConvInt .u64 [x] = .pure (.int .u64 y)) (hz : fBin .rem [.int .u64 y, .int .u64 (.ofNat 7)] = .pure (.int .u64 z)) :
    runOps (exec tR 300) vars k (opsC R2) [] [] 0 0 = runOps (exec tR 300) vars k (dropO 3 (opsC R2)) [.int .u64 z, .int .u64 y, x] [] 0 0 := by
  have e : opsC R2 = ⟨[.var 0],fMove,none,0⟩ :: ⟨[.loc 0],fConvInt .u64,none,1⟩ :: ⟨[.loc 0,.const (.int .u64 (.ofNat 7))],fBin .rem,none,3⟩ :: dropO 3 (opsC R2) := by kernel_rfl
  generalize hd : dropO 3 (opsC R2) = D at *
  rw [e]
  simp only [runOps, stepOp, wanted, evals, AOpd.eval, h, fMove, doEff, nthD, hy, hz]
theorem start6 (a b : Int) : exec tR 301 6 [.int .i64 a, .int .i64 b] [] 0 kq0 ke0 = runOps (exec tR 300) (vars1 a b) (regionK (upsC R2) (vars1 a b) (den (exec tR 300) 300 T3 ret6 bad6 ret6)) (opsC R2) [] [] 0 0 := by rfl
def cond3 : ACode := fstC T3
def R4 : ACode := fstC (sndC T3)
def T5 : ACode := sndC (sndC T3)
def ph1 (z y a b : Int) (K : KV) : Ans := runOps (exec tR 300) (vars1 a b) (regionK (upsC R2) (vars1 a b) (den (exec tR 300) 300 cond3 K bad6 ret6)) (dropO 3 (opsC R2)) [.int .u64 z, .int .u64 y, .int .i64 a] [] 0 0
theorem next6 (z y a b : Int) : runOps (exec tR 300) (vars1 a b) (regionK (upsC R2) (vars1 a b) (den (exec tR 300) 300 T3 ret6 bad6 ret6)) (dropO 3 (opsC R2)) [.int .u64 z, .int .u64 y, .int .i64 a] [] 0 0 =
    ph1 z y a b (den (exec tR 300) 300 R4 (den (exec tR 300) 300 T5 ret6 bad6 ret6) bad6 ret6) := by rfl
end Go.Absm.D
