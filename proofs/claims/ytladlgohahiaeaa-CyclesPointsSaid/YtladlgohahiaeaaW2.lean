/- The loops that awake asks for. -/
import Derived.Test.YtladlgohahiaeaaM7
import Derived.Test.YtladlgohahiaeaaM3
import Derived.KernelRfl
set_option linter.unusedSimpArgs false
set_option linter.unusedVariables false
namespace Go.Absm.D
open Go Go.Absm Go.Proofs
set_option maxRecDepth 1000000
def tP : Nat → Option Entry := hooked 136 (hookOf plainS) tb0
theorem tP_ok : TableOk Try.prog tP := hooked_ok hook136 tb0_ok
def loopA (m : Nat) : List RV := match m with
  | 1 => [.sl 1 1 (nats [1])]
  | 2 => [.sl 2 1 (nats [0, 2])]
  | _ => [.val .nilslice]
def runA (m : Nat) : Bool := chk 2 (loopA m) (exec tP 300 104 [.slice 0 0 4 1, .int .i64 (.ofNat m)] [(0, .cells true (nats [2, 3, 1, 0]))] 2 kq1 ke1)
theorem runA_1 : runA 1 = true := by kernel_rfl
theorem runA_2 : runA 2 = true := by kernel_rfl
theorem runA_3 : runA 3 = true := by kernel_rfl
theorem runA_4 : runA 4 = true := by kernel_rfl
theorem runA_5 : runA 5 = true := by kernel_rfl
theorem runA_6 : runA 6 = true := by kernel_rfl
theorem runA_7 : runA 7 = true := by kernel_rfl
theorem runA_8 : runA 8 = true := by kernel_rfl
theorem runA_9 : runA 9 = true := by kernel_rfl
theorem runA_10 : runA 10 = true := by kernel_rfl
theorem runA_11 : runA 11 = true := by kernel_rfl
theorem runA_12 : runA 12 = true := by kernel_rfl
theorem runB : chk 2 [.sl 2 1 (nats [0, 1])] (exec tP 300 104 [.slice 0 0 3 1, .int .i64 (.ofNat 2)] [(0, .cells true (nats [1, 2, 0]))] 2 kq1 ke1) = true := by kernel_rfl
theorem runA_all {m : Nat} (h1 : 1 ≤ m) (h2 : m ≤ 12) : runA m = true := by
  have : m = 1 ∨ m = 2 ∨ m = 3 ∨ m = 4 ∨ m = 5 ∨ m = 6 ∨ m = 7 ∨ m = 8 ∨ m = 9 ∨ m = 10 ∨ m = 11 ∨ m = 12 := by omega
  rcases this with rfl | rfl | rfl | rfl | rfl | rfl | rfl | rfl | rfl | rfl | rfl | rfl
  · exact runA_1
  · exact runA_2
  · exact runA_3
  · exact runA_4
  · exact runA_5
  · exact runA_6
  · exact runA_7
  · exact runA_8
  · exact runA_9
  · exact runA_10
  · exact runA_11
  · exact runA_12
def loopS : FHook := fun a h => match a with
  | [.slice 0 0 n 1, .int .i64 (.ofNat m)] => match h with
    | [(0, .cells true cs)] => match sameVs cs (nats [2, 3, 1, 0]) with
      | true => match Nat.beq n 4 with
        | true => match Nat.ble 1 m with
          | true => match Nat.ble m 12 with
            | true => some (loopA m)
            | false => none
          | false => none
        | false => none
      | false => match sameVs cs (nats [1, 2, 0]) with
        | true => match Nat.beq n 3 with
          | true => match Nat.beq m 2 with
            | true => some [.sl 2 1 (nats [0, 1])]
            | false => none
          | false => none
        | false => none
    | _ => none
  | _ => none
theorem hook104 : FreshOk Try.prog 104 (hookOf loopS) := by
  refine fresh_ok Try.func104 rfl (by kernel_rfl) ?_
  intro a h rs hro hS
  unfold loopS at hS
  split at hS
  · rename_i n m
    split at hS
    · rename_i cs
      split at hS
      · rename_i hc
        split at hS
        · rename_i hn
          split at hS
          · rename_i h1
            split at hS
            · rename_i h2
              cases hS
              rw [(sameVs_eq _ _ hc).1, Nat.eq_of_beq_eq_true hn]
              obtain ⟨us, h', n', e1, e2⟩ := chk_ok (runA_all (Nat.le_of_ble_eq_true h1) (Nat.le_of_ble_eq_true h2))
              exact ⟨_, 2, us, h', n', exec_ok mixed tP_ok 300, by simp, e1, e2⟩
            · cases hS
          · cases hS
        · cases hS
      · split at hS
        · rename_i hc
          split at hS
          · rename_i hn
            split at hS
            · rename_i hm
              cases hS
              rw [(sameVs_eq _ _ hc).1, Nat.eq_of_beq_eq_true hn, Nat.eq_of_beq_eq_true hm]
              obtain ⟨us, h', n', e1, e2⟩ := chk_ok runB
              exact ⟨_, 2, us, h', n', exec_ok mixed tP_ok 300, by simp, e1, e2⟩
            · cases hS
          · cases hS
        · cases hS
    · cases hS
  · cases hS
end Go.Absm.D
