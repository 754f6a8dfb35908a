/- The cycles of the greatest words: the hooks. -/
import Derived.Test.YtladlgohahiaeaaH2a
import Derived.Test.YtladlgohahiaeaaH2b
import Derived.Test.YtladlgohahiaeaaH2c
import Derived.Test.YtladlgohahiaeaaH2d
set_option linter.unusedSimpArgs false
set_option linter.unusedVariables false
namespace Go.Absm.D
open Go Go.Absm Go.Proofs
set_option maxRecDepth 1000000
theorem all33 : ∀ p ∈ ofTab, run33 p = true := fun p hp => by
  rcases List.mem_append.1 hp with h | h
  · exact all33_0 p h
  · rcases List.mem_append.1 h with h | h
    · exact all33_1 p h
    · rcases List.mem_append.1 h with h | h
      · exact all33_2 p h
      · exact all33_3 p h
theorem all50 : ∀ p ∈ ofTab, run50 p = true := fun p hp => by
  rcases List.mem_append.1 hp with h | h
  · exact all50_0 p h
  · rcases List.mem_append.1 h with h | h
    · exact all50_1 p h
    · rcases List.mem_append.1 h with h | h
      · exact all50_2 p h
      · exact all50_3 p h
def ofS : FHook := fun a h => match a with
  | [.str w] => match h with
    | [] => match ofA w with
      | some c => some (ofR c)
      | none => none
    | _ => none
  | _ => none
theorem hook33 : FreshOk Try.prog 33 (hookOf ofS) := by
  refine fresh_ok Try.func33 rfl (by kernel_rfl) ?_
  intro a h rs hro hS
  unfold ofS at hS
  split at hS
  · rename_i w
    split at hS
    · split at hS
      · rename_i c hc
        cases hS
        obtain ⟨us, h', n', e1, e2⟩ := chk_ok (all33 _ (lookW_mem hc))
        exact ⟨_, 1, us, h', n', exec_ok mixed tO_ok 400, by simp, e1, e2⟩
      · cases hS
    · cases hS
  · cases hS
def rofS : FHook := fun a h => match a with
  | [.str w] => match h with
    | [] => match ofA w with
      | some c => some (rofR c)
      | none => none
    | _ => none
  | _ => none
theorem hook50 : FreshOk Try.prog 50 (hookOf rofS) := by
  refine fresh_ok Try.func50 rfl (by kernel_rfl) ?_
  intro a h rs hro hS
  unfold rofS at hS
  split at hS
  · rename_i w
    split at hS
    · split at hS
      · rename_i c hc
        cases hS
        obtain ⟨us, h', n', e1, e2⟩ := chk_ok (all50 _ (lookW_mem hc))
        exact ⟨_, 1, us, h', n', exec_ok mixed tO_ok 400, by simp, e1, e2⟩
      · cases hS
    · cases hS
  · cases hS
end Go.Absm.D
