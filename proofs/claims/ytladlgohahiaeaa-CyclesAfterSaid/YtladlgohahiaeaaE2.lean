/- Stefan's cycles. -/
import Derived.Test.YtladlgohahiaeaaE1
import Derived.Test.YtladlgohahiaeaaM4
import Derived.Test.YtladlgohahiaeaaM3
import Derived.Test.YtladlgohahiaeaaU1
import Derived.KernelRfl
set_option linter.unusedSimpArgs false
set_option linter.unusedVariables false
namespace Go.Absm.D
open Go Go.Absm Go.Proofs
set_option maxRecDepth 1000000
def stefanL (n : Nat) : List Nat := match n with
  | 3 => [1, 2, 0]
  | 5 => [2, 4, 3, 1, 0]
  | _ => [3, 6, 5, 4, 2, 1, 0]
def is357 (n : Nat) : Bool := match Nat.beq n 3 with
  | true => true
  | false => match Nat.beq n 5 with
    | true => true
    | false => Nat.beq n 7
theorem is357_ok {n : Nat} (h : is357 n = true) : n = 3 ∨ n = 5 ∨ n = 7 := by
  unfold is357 at h
  split at h
  · rename_i e; exact .inl (Nat.eq_of_beq_eq_true e)
  · split at h
    · rename_i e; exact .inr (.inl (Nat.eq_of_beq_eq_true e))
    · exact .inr (.inr (Nat.eq_of_beq_eq_true h))
def stefanR (n : Nat) : List RV := [.sl n 1 (nats (stefanL n)), .val (.int .i64 (.ofNat 0))]
def run53 (n : Nat) : Bool := chk 1 (stefanR n) (exec tb0 60 53 [.int .i64 (.ofNat n)] [] 1 kq1 ke1)
theorem run53_3 : run53 3 = true := by kernel_rfl
theorem run53_5 : run53 5 = true := by kernel_rfl
theorem run53_7 : run53 7 = true := by kernel_rfl
def stefanS : FHook := fun a h => match a with
  | [.int .i64 (.ofNat n)] => match h with
    | [] => match is357 n with
      | true => some (stefanR n)
      | false => none
    | _ => none
  | _ => none
theorem hook53 : FreshOk Try.prog 53 (hookOf stefanS) := by
  refine fresh_ok Try.func53 rfl (by kernel_rfl) ?_
  intro a h rs hro hS
  unfold stefanS at hS
  split at hS
  · rename_i n
    split at hS
    · split at hS
      · rename_i hn
        cases hS
        have : run53 n = true := by
          rcases is357_ok hn with rfl | rfl | rfl
          · exact run53_3
          · exact run53_5
          · exact run53_7
        obtain ⟨us, h', n', e1, e2⟩ := chk_ok this
        exact ⟨_, 1, us, h', n', exec_ok mixed tb0_ok 60, by simp, e1, e2⟩
      · cases hS
    · cases hS
  · cases hS
/-- the hooks of Check and of Plains, at Stefan's cycles -/
def run34 (n : Nat) : Bool := gives (exec tb0 60 34 [.slice 0 0 n 1] [(0, .cells true (nats (stefanL n)))] 1 kq0 ke0) (.bool true)
theorem run34_3 : run34 3 = true := by kernel_rfl
theorem run34_5 : run34 5 = true := by kernel_rfl
theorem run34_7 : run34 7 = true := by kernel_rfl
def check3S : Hook := fun a h => match a with
  | [.slice 0 0 n 1] => match h with
    | [(0, .cells true cs)] => match is357 n with
      | true => match sameVs cs (nats (stefanL n)) with
        | true => some (.bool true)
        | false => none
      | false => none
    | _ => none
  | _ => none
theorem hook34 : HookOk Try.prog 34 (hookOf check3S) := by
  refine hook_ok Try.func34 rfl (by kernel_rfl) ?_
  intro a h v _ hS
  unfold check3S at hS
  split at hS
  · rename_i n
    split at hS
    · rename_i cs
      split at hS
      · rename_i hn
        split at hS
        · rename_i hc
          cases hS
          rw [(sameVs_eq _ _ hc).1]
          have : run34 n = true := by
            rcases is357_ok hn with rfl | rfl | rfl
            · exact run34_3
            · exact run34_5
            · exact run34_7
          have := gives_eq this
          exact ⟨this.2, _, 1, exec_ok mixed tb0_ok 60, by simp, this.1⟩
        · cases hS
      · cases hS
    · cases hS
  · cases hS
def run54 (n k : Nat) : Bool := gives (exec tb0 60 54 [.slice 0 0 n 1, .int .i64 (.ofNat k)] [(0, .cells true (nats (stefanL n)))] 2 kq0 ke0) (.int .i64 (.ofNat 0))
theorem run54_53 : run54 5 3 = true := by kernel_rfl
theorem run54_73 : run54 7 3 = true := by kernel_rfl
theorem run54_75 : run54 7 5 = true := by kernel_rfl
def plains3S : Hook := fun a h => match a with
  | [.slice 0 0 n 1, .int .i64 (.ofNat k)] => match h with
    | [(0, .cells true cs)] => match is357 n with
      | true => match sameVs cs (nats (stefanL n)) with
        | true => match Nat.blt k n with
          | true => match Nat.beq k 3 with
            | true => some (.int .i64 (.ofNat 0))
            | false => match Nat.beq k 5 with
              | true => some (.int .i64 (.ofNat 0))
              | false => none
          | false => none
        | false => none
      | false => none
    | _ => none
  | _ => none
theorem hook54 : HookOk Try.prog 54 (hookOf plains3S) := by
  refine hook_ok Try.func54 rfl (by kernel_rfl) ?_
  intro a h v _ hS
  unfold plains3S at hS
  split at hS
  · rename_i n k
    split at hS
    · rename_i cs
      split at hS
      · rename_i hn
        split at hS
        · rename_i hc
          rw [(sameVs_eq _ _ hc).1]
          split at hS
          · rename_i hk
            have hk : k < n := Nat.lt_of_lt_of_le (Nat.lt_succ_self _) (Nat.le_of_ble_eq_true hk)
            have key : ∀ {k n : Nat} {v : AVal}, run54 n k = true → (some (AVal.int .i64 (.ofNat 0)) = some v) → noref v = true ∧ ∃ cf n', CallOk Try.prog cf ∧ [AVal.slice 0 0 n 1, .int .i64 (.ofNat k)].length ≤ n' ∧ cf 54 [.slice 0 0 n 1, .int .i64 (.ofNat k)] [(0, .cells true (nats (stefanL n)))] n' kq0 ke0 = some (v, [], 0) := fun hr hv => by
              cases hv
              have := gives_eq hr
              exact ⟨this.2, _, 2, exec_ok mixed tb0_ok 60, by simp, this.1⟩
            split at hS
            · rename_i h3
              have := Nat.eq_of_beq_eq_true h3
              subst this
              rcases is357_ok hn with rfl | rfl | rfl
              · omega
              · exact key run54_53 hS
              · exact key run54_73 hS
            · split at hS
              · rename_i h5
                have := Nat.eq_of_beq_eq_true h5
                subst this
                rcases is357_ok hn with rfl | rfl | rfl
                · omega
                · omega
                · exact key run54_75 hS
              · cases hS
          · cases hS
        · cases hS
      · cases hS
    · cases hS
  · cases hS
end Go.Absm.D
