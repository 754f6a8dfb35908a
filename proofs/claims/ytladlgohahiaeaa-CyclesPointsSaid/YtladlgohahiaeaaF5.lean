/- Greatest. -/
import Derived.Test.YtladlgohahiaeaaM8
import Derived.Test.YtladlgohahiaeaaF4
set_option linter.unusedSimpArgs false
set_option linter.unusedVariables false
namespace Go.Absm.D
open Go Go.Absm
set_option maxRecDepth 100000
set_option linter.unusedSimpArgs false
set_option maxHeartbeats 2000000
section
variable {t : Nat → Option Entry} (T : Tab t) (T133 : t 133 = some (.both (hookOf letterS) c133)) (T75 : t 75 = some (.code c75)) {m n : Nat} {h : Heap} {kq : AVal → Ans} {ke : AVal → Heap → Nat → Nat → Ans} {R : Ans}
include T in
theorem great_bad {x : Int} (hm : 10 ≤ m) (hx : x < 0 ∨ 11 < x) : exec t m 15 [.int .i64 x] h n kq ke = kq (.tuple [.nilslice, .int .i64 (.ofNat 1)]) := by
  obtain ⟨m, rfl⟩ : ∃ q, m = q + 1 := ⟨m - 1, by omega⟩
  rw [exec_code T.h15, c15, callCode_eq (by simp)]
  by_cases h0 : x < 0
  · have e0 : ltI x (.ofNat 0) = true := by rw [ltI_eq]; exact decide_eq_true h0
    simp (disch := omega) only [O15, U15, SS0, SS1, SS2, SS3, tag_eq, List.nil_append, List.append_nil, List.cons_append, Nat.reduceAdd, Nat.reduceSub, Nat.reduceMul, Nat.reduceAnd, Nat.reduceOr, Nat.reducePow, Nat.reduceEqDiff, decide_true, decide_false, e0]
  · have e0 : ltI x (.ofNat 0) = false := by rw [ltI_eq]; exact decide_eq_false h0
    have e1 : ltI (.ofNat 11) x = true := by rw [ltI_eq]; exact decide_eq_true (by show (11 : Int) < x; omega)
    simp (disch := omega) only [O15, U15, SS0, SS1, SS2, SS3, tag_eq, List.nil_append, List.append_nil, List.cons_append, Nat.reduceAdd, Nat.reduceSub, Nat.reduceMul, Nat.reduceAnd, Nat.reduceOr, Nat.reducePow, Nat.reduceEqDiff, decide_true, decide_false, e0, e1]
include T T133 T75 in
theorem great_run {x : Nat} (hm : 600 ≤ m) (hx : x ≤ 11)
    (hke : ∀ h' n' b, n ≤ b → b < n' → n ≤ n' → hget h' b = some (.cells false (strs (allW x []))) → (∀ c, c < n → hget h' c = hget h c) → ke (.tuple [.slice b 0 (allW x []).length 1, .int .i64 (.ofNat 0)]) h' n' n = R) :
    exec t m 15 [.int .i64 (.ofNat x)] h n kq ke = R := by
  obtain ⟨m, rfl⟩ : ∃ q, m = q + 1 := ⟨m - 1, by omega⟩
  rw [exec_code T.h15, c15, callCode_eq (by simp)]
  simp (disch := omega) only [O15, U15, SS0, SS1, SS2, SS3, tag_eq, List.nil_append, List.append_nil, List.cons_append, Nat.reduceAdd, Nat.reduceSub, Nat.reduceMul, Nat.reduceAnd, Nat.reduceOr, Nat.reducePow, Nat.reduceEqDiff, decide_true, decide_false]
  have hi : GI x n (n + 1 + 1) (n + 1 + 1 + 1) ((n + 1 + 1 + 1, AObj.cells false [.func (.func 74) [] [.ptr n 0, .ptr (n + 1 + 1) 0, .ptr (n + 1 + 1 + 1) 0]]) :: (n + 1 + 1, .cells false [.slice (n + 1) 0 0 1]) :: (n + 1, .cells false []) :: (n, .cells false [.int .i64 (.ofNat x)]) :: h) (n + 1 + 1 + 1 + 1) (n + 1) [] := by
    refine ⟨?_, ?_, ?_, ?_, by omega, by omega, by omega, by omega, by omega, by omega, by omega, by omega, by omega, by omega⟩
    · rw [hget_ne (by omega), hget_ne (by omega), hget_ne (by omega), hget_same]
    · rw [hget_ne (by omega), hget_same]; rfl
    · rw [hget_same]
    · rw [hget_ne (by omega), hget_ne (by omega), hget_same]; rfl
  have hp : 2 ^ x ≤ 2 ^ 11 := Nat.pow_le_pow_right (by omega) hx
  have hlen := allW_len x []
  refine grow_all T T133 T75 hx x [] m _ _ _ [] _ _ R (fun c hc => by cases hc) (by simp) (by omega) hi (by simp; omega) (fun w1 => ?_) (fun h' n' b' low' k1 k2 k3 k4 k5 k6 => ?_)
  · simp (disch := omega) only [O15, U15, SS0, SS1, SS2, SS3, tag_eq, List.nil_append, List.append_nil, List.cons_append, Nat.reduceAdd, Nat.reduceSub, Nat.reduceMul, Nat.reduceAnd, Nat.reduceOr, Nat.reducePow, Nat.reduceEqDiff, decide_true, decide_false]
    have := hke _ (n + 1 + 1 + 1 + 1) (n + 1) (by omega) (by omega) (by omega) (by rw [w1]; exact hi.hb) (fun c hc => by rw [hget_ne (by omega), hget_ne (by omega), hget_ne (by omega), hget_ne (by omega)])
    rw [w1] at this
    exact this
  · have hlow : minN low' n = n := by rw [minN_eq]; omega
    rw [List.nil_append] at k4
    have g1 := k4.ho
    simp (disch := omega) only [O15, U15, SS0, SS1, SS2, SS3, tag_eq, List.nil_append, List.append_nil, List.cons_append, Nat.reduceAdd, Nat.reduceSub, Nat.reduceMul, Nat.reduceAnd, Nat.reduceOr, Nat.reducePow, Nat.reduceEqDiff, decide_true, decide_false, g1, hlow]
    refine hke _ _ _ ?_ k4.lb (by omega) k4.hb (fun c hc => ?_)
    · rcases k5 with k5 | k5 <;> omega
    · rw [k6 c (by omega) (by omega) (by omega), hget_ne (by omega), hget_ne (by omega), hget_ne (by omega), hget_ne (by omega)]
end
end Go.Absm.D
