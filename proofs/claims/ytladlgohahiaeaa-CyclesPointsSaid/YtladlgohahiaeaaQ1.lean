/- The iterator of divisors. -/
import Derived.Test.YtladlgohahiaeaaChecked
import Derived.RangeFuncFrom
import Derived.RangeFuncCalls
import Derived.RangeFuncLeaves
import Derived.WalkKit
import Derived.TacticsIn
import Derived.RegionIn
import Derived.TacticsInMore
import Derived.LoopNIn
import Derived.LoopIn
set_option linter.unusedSimpArgs false
set_option linter.unusedVariables false
namespace Go.Proofs
open Go.RowKit

/-- the divisors of m below i -/
def divsB (m i : Nat) : List Nat := (List.range i).filter fun d => decide (0 < d) && decide (m % d = 0)
theorem divsB_yes {m i : Nat} (h0 : 0 < i) (h : m % i = 0) : divsB m (i + 1) = divsB m i ++ [i] := by
  simp [divsB, List.range_succ, h0, h]
theorem divsB_no {m i : Nat} (h : ¬ m % i = 0) : divsB m (i + 1) = divsB m i := by
  simp [divsB, List.range_succ, h]
theorem divsB_one {m : Nat} : divsB m 1 = [] := by simp [divsB, List.range_succ]
theorem divsB_len (m i : Nat) : (divsB m i).length ≤ i := by
  have := List.length_filter_le (fun d => decide (0 < d) && decide (m % d = 0)) (List.range i)
  simpa [divsB] using this

/-- a divisor of m that is less than it -/
abbrev Div (m : Nat) : Type := {d : Nat // 0 < d ∧ d < m ∧ m % d = 0}
theorem Try.divisors_in (F : Fence) (n : Nat) (h155 : F.fn 155) (hro : F.round = none) (x : Int) (w : World) :
    CallsIn F n Try.prog 155 #[.int .i64 x] w fun e w' => e = .returned (.func (.func 172) #[] #[.pointer (some ⟨w.heap.size, 0, none⟩)]) ∧ w' = w.alloc (.cells #[.int .i64 x] 3) := by
  refine callsIn_of_wp Try.func155 rfl h155 ?_ hro
  simp only [Try.ntmps155, List.size_toArray, List.length_cons, List.length_nil, Nat.reduceAdd, Nat.reduceSub, Array.replicate_succ, Array.replicate_zero, List.push_toArray, List.append_toArray, List.nil_append, List.cons_append]
  gi_wp2
  go_ret
  exact ⟨rfl, rfl⟩

set_option maxRecDepth 100000 in
set_option maxHeartbeats 2000000 in
theorem Try.divisors_stops (F : Fence) (n : Nat) (h172 : F.fn 172) (hro : F.round = none) (hn : 1 ≤ n) (M m : Nat) (w : World) (hM : M < w.heap.size) (hm1 : 1 ≤ m) (hm : m ≤ 1000) (hc : w.cell? ⟨M, 0, none⟩ = some (.int .i64 m)) :
    SeqStopsK F n Try.prog 172 #[.pointer (some ⟨M, 0, none⟩)] (fun d : Div m => #[.int .i64 (d.1 : Nat)]) (fun A C => C.heap[M]? = A.heap[M]?) (fun xs => xs.map (·.1) = divsB m m) (fun _ => True) m w := fun l J Jx W hW hJ _ hY h0 => by
  refine callsIn_of_wp Try.func172 rfl h172 ?_ hro
  simp only [Try.ntmps172, List.size_toArray, List.length_cons, List.length_nil, Nat.reduceAdd, Nat.reduceSub, Array.replicate_succ, Array.replicate_zero, List.push_toArray, List.append_toArray, List.nil_append, List.cons_append]
  have hcW : W.cell? ⟨M, 0, none⟩ = some (.int .i64 m) := (hW.cell (p := ⟨M, 0, none⟩) (by show M < w.heap.size; exact hM)).trans hc
  gi_wp2
  gi_loopw [3] (fun t wr => ∃ (i : Nat) (pre : List (Div m)), 1 ≤ i ∧ i ≤ m ∧ t = .int .i64 i ∧ pre.map (·.1) = divsB m i ∧ J pre wr ∧ wr.cell? ⟨M, 0, none⟩ = some (.int .i64 m))
    (fun t _ => m - (intOf t).toNat)
  case atStart => exact ⟨1, [], by omega, hm1, rfl, by rw [divsB_one]; rfl, h0, hcW⟩
  case round =>
    obtain ⟨i, pre, h1, h2, rfl, hpre, hj, hcr⟩ := hrel
    have hpl : pre.length ≤ i := by
      have e1 := divsB_len m i
      have e2 := congrArg List.length hpre
      rw [List.length_map] at e2
      omega
    by_cases hlt : i < m
    · by_cases hd : m % i = 0
      · have hd' : ((m : Int) % (i : Int)) = 0 := by omega
        obtain ⟨fn, tmps, assign, body, hy, hR⟩ := hY pre ⟨i, by omega, hlt, hd⟩ _ hj (by omega)
        dsimp only at hy
        gi_wp2
        refine hR.mono ?_
        rintro e W3 (⟨rfl, hJ3, hk3⟩ | ⟨rfl, hJx3⟩)
        · have hc3 : W3.cell? ⟨M, 0, none⟩ = some (.int .i64 m) := (World.cell?_of_block (a := ⟨M, 0, none⟩) hk3).trans hcr
          gi_wp2
          go_roundw
          case rel => exact ⟨i + 1, pre ++ [⟨i, by omega, hlt, hd⟩], by omega, by omega, by go_num, by rw [divsB_yes (by omega) hd, ← hpre]; simp, hJ3, hc3⟩
          case measure => simp [intOf]; omega
        · gi_wp2
          refine bodyPost_ret (results_none rfl _ _ _) rfl ?_
          exact ⟨⟨_, rfl⟩, .inr ⟨_, hJx3⟩⟩
      · have hd' : ¬ ((m : Int) % (i : Int)) = 0 := by omega
        have hd2 : (((m : Int) % (i : Int)) == 0) = false := by simpa using hd'
        gi_wp2
        refine ⟨(fun f h => by cases h), ?_⟩
        gi_wp2
        go_roundw
        case rel => exact ⟨i + 1, pre, by omega, by omega, by go_num, by rw [divsB_no hd]; exact hpre, hj, hcr⟩
        case measure => simp [intOf]; omega
    · obtain rfl : i = m := by omega
      gi_wp2
      go_end0
      exact ⟨⟨_, rfl⟩, .inl ⟨pre, hpre, hj⟩⟩
end Go.Proofs
