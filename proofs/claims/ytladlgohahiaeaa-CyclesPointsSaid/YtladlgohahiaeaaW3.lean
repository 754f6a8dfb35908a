/- awake. -/
import Derived.Test.YtladlgohahiaeaaW2
set_option linter.unusedSimpArgs false
set_option linter.unusedVariables false
namespace Go.Absm.D
open Go Go.Absm Go.Proofs
set_option maxRecDepth 1000000
def tW : Nat → Option Entry := freshed 104 (hookOf loopS) tP
theorem tW_ok : TableOk Try.prog tW := freshed_ok hook104 tP_ok
theorem run18 : gives (exec tW 300 18 [] [] 0 kq0 ke0) (.bool true) = true := by kernel_rfl
def awakeS : Hook := fun a h => match a with
  | [] => match h with
    | [] => some (.bool true)
    | _ => none
  | _ => none
theorem hook18 : HookOk Try.prog 18 (hookOf awakeS) := by
  refine hook_ok Try.func18 rfl (by kernel_rfl) ?_
  intro a h v _ hS
  unfold awakeS at hS
  split at hS
  · split at hS
    · cases hS
      have := gives_eq run18
      exact ⟨this.2, _, 0, exec_ok mixed tW_ok 300, by simp, this.1⟩
    · cases hS
  · cases hS
end Go.Absm.D
