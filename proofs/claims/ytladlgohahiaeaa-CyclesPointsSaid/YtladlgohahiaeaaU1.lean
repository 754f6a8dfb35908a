/- Unsigned remainders. -/
import Derived.Test.YtladlgohahiaeaaM4
set_option linter.unusedSimpArgs false
set_option linter.unusedVariables false
namespace Go.Absm.D
open Go Go.Absm
theorem wrapU_of (a : Int) : ∃ m : Nat, wrapN .u64 a = .ofNat m := by
  have h : ∀ x : Int, ∃ m : Nat, IntKind.u64.wrap x = .ofNat m := fun x => by
    refine ⟨(x % (2 ^ 64 : Int)).toNat, ?_⟩
    have : (0 : Int) ≤ x % (2 ^ 64 : Int) := Int.emod_nonneg _ (by decide)
    show IntKind.u64.wrap x = ((x % (2 ^ 64 : Int)).toNat : Int)
    rw [Int.toNat_of_nonneg this]
    rfl
  cases a with
  | ofNat m =>
    simp only [wrapN]
    split
    · exact ⟨m, rfl⟩
    · exact h _
  | negSucc m => exact h _
theorem remU_of (a : Int) (L : Nat) (hL : 0 < L) : ∃ (y : Int) (j : Nat), j < L ∧ fConvInt .u64 [.int .i64 a] = .pure (.int .u64 y) ∧ fBin .rem [.int .u64 y, .int .u64 (.ofNat L)] = .pure (.int .u64 (.ofNat j)) := by
  obtain ⟨m, hm⟩ := wrapU_of a
  refine ⟨.ofNat m, m % L, Nat.mod_lt _ hL, by simp only [fConvInt, hm], ?_⟩
  cases L with
  | zero => omega
  | succ L => rfl
end Go.Absm.D
