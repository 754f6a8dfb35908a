/- Part of the proof by the abstract machine. -/
import Derived.Test.YtladlgohahiaeaaM3
import Derived.Test.YtladlgohahiaeaaTB
set_option linter.unusedSimpArgs false
set_option linter.unusedVariables false
namespace Go.Absm.D
open Go Go.Absm Go.Proofs
/-- letter -/
def letterA (c : Nat) : Nat := match Nat.beq c 67 with
  | true => 1
  | false => match Nat.beq c 82 with
    | true => 2
    | false => 0
def letterS : Hook := fun a h => match a with
  | [.int .u8 (.ofNat c)] => match h with
    | [] => match Nat.blt c 256 with
      | true => some (.int .i64 (.ofNat (letterA c)))
      | false => none
    | _ => none
  | _ => none
def t133 : Nat → Option Entry := fun n => (Tree.leaf 133 c133).look n
theorem ok133 : TableOk Try.prog t133 := Tree.ok e133
set_option maxRecDepth 100000 in
theorem run133 : allBelow 256 (fun c => gives (exec t133 20 133 [.int .u8 (.ofNat c)] [] 1 kq0 ke0) (.int .i64 (.ofNat (letterA c)))) = true := by kernel_rfl
theorem hook133 : HookOk Try.prog 133 (hookOf letterS) := by
  refine hook_ok Try.func133 rfl (by kernel_rfl) ?_
  intro a h v _ hS
  unfold letterS at hS
  split at hS
  · rename_i c
    split at hS
    · split at hS
      · rename_i hc
        cases hS
        have hc : c < 256 := Nat.lt_of_lt_of_le (Nat.lt_succ_self _) (Nat.le_of_ble_eq_true hc)
        have := gives_eq (allBelow_ok run133 c hc)
        exact ⟨this.2, _, 1, exec_ok mixed ok133 20, by simp, this.1⟩
      · cases hS
    · cases hS
  · cases hS
end Go.Absm.D
