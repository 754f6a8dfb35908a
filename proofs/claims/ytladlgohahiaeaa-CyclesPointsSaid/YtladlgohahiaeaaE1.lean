/- least, rank, After. -/
import Derived.Test.YtladlgohahiaeaaM8
import Derived.Test.YtladlgohahiaeaaM4
import Derived.Test.YtladlgohahiaeaaTB
set_option linter.unusedSimpArgs false
set_option linter.unusedVariables false
namespace Go.Absm.D
open Go Go.Absm
set_option maxRecDepth 100000
set_option linter.unusedSimpArgs false
/-- how often 2 divides a number, and the rest -/
def rk : Nat → Nat → Nat → Nat × Nat
  | 0, t, n => (t, n)
  | f + 1, t, n => if n % 2 = 0 then rk f (t + 1) (n / 2) else (t, n)
theorem c106_go {cf : CallF} {F : Nat} {ke : Nat → KV} {kr : KV} {h : Heap} {nn low : Nat} {x : AVal} : ∀ (f m n t : Nat) (y : AVal), n < 2 ^ f → 0 < n → n ≤ 9223372036854775807 → t + f ≤ 9223372036854775807 → f < m →
    loopN (fun k => den cf F c106_5 k ke kr) m [.int .i64 (.ofNat n), .int .i64 (.ofNat t), x, y] h nn low = ke 0 [.int .i64 (.ofNat (rk f t n).2), .int .i64 (.ofNat (rk f t n).1), x, .bool false] h nn low := by
  intro f
  induction f with
  | zero => intro m n t y h1 h2; omega
  | succ f ih =>
    intro m n t y h1 h2 h3 h4 h5
    obtain ⟨m, rfl⟩ : ∃ q, m = q + 1 := ⟨m - 1, by omega⟩
    rw [loopN_succ]
    by_cases e : n % 2 = 0
    · simp (disch := omega) only [O106, U106, SS0, SS1, SS2, SS3, tag_eq, List.nil_append, List.append_nil, List.cons_append, Nat.reduceAdd, Nat.reduceSub, Nat.reduceMul, Nat.reduceAnd, Nat.reduceOr, Nat.reducePow, Nat.reduceEqDiff, decide_true, decide_false]
      rw [ih _ _ _ _ (by rw [Nat.pow_succ] at h1; omega) (by omega) (by omega) (by omega) (by omega)]
      simp only [rk, if_pos e]
    · simp (disch := omega) only [O106, U106, SS0, SS1, SS2, SS3, tag_eq, List.nil_append, List.append_nil, List.cons_append, Nat.reduceAdd, Nat.reduceSub, Nat.reduceMul, Nat.reduceAnd, Nat.reduceOr, Nat.reducePow, Nat.reduceEqDiff, decide_true, decide_false]
      simp only [rk, if_neg e]
theorem c108_go {cf : CallF} {F : Nat} {ke : Nat → KV} {kr : KV} {h : Heap} {nn low : Nat} {u1 u2 : AVal} : ∀ (f m n t : Nat) (y : AVal), n < 2 ^ f → 0 < n → n ≤ 9223372036854775807 → t + f ≤ 9223372036854775807 → f < m →
    loopN (fun k => den cf F c108_7 k ke kr) m [.int .i64 (.ofNat n), u1, u2, .int .i64 (.ofNat t), y] h nn low = ke 0 [.int .i64 (.ofNat (rk f t n).2), u1, u2, .int .i64 (.ofNat (rk f t n).1), .bool false] h nn low := by
  intro f
  induction f with
  | zero => intro m n t y h1 h2; omega
  | succ f ih =>
    intro m n t y h1 h2 h3 h4 h5
    obtain ⟨m, rfl⟩ : ∃ q, m = q + 1 := ⟨m - 1, by omega⟩
    rw [loopN_succ]
    by_cases e : n % 2 = 0
    · simp (disch := omega) only [O108, U108, SS0, SS1, SS2, SS3, tag_eq, List.nil_append, List.append_nil, List.cons_append, Nat.reduceAdd, Nat.reduceSub, Nat.reduceMul, Nat.reduceAnd, Nat.reduceOr, Nat.reducePow, Nat.reduceEqDiff, decide_true, decide_false]
      rw [ih _ _ _ _ (by rw [Nat.pow_succ] at h1; omega) (by omega) (by omega) (by omega) (by omega)]
      simp only [rk, if_pos e]
    · simp (disch := omega) only [O108, U108, SS0, SS1, SS2, SS3, tag_eq, List.nil_append, List.append_nil, List.cons_append, Nat.reduceAdd, Nat.reduceSub, Nat.reduceMul, Nat.reduceAnd, Nat.reduceOr, Nat.reducePow, Nat.reduceEqDiff, decide_true, decide_false]
      simp only [rk, if_neg e]
def twos (n : Nat) : Nat := (rk 31 0 n).1
def odd (n : Nat) : Nat := (rk 31 0 n).2
/-- m comes after n -/
def afterN (n m : Nat) : Bool :=
  if odd n = 1 ∧ odd m = 1 then decide (twos m < twos n) else if odd n = 1 then false else if odd m = 1 then true else if twos n ≠ twos m then decide (twos n < twos m) else decide (odd n < odd m)
section
variable {t : Nat → Option Entry} (T : Tab t) {m n : Nat} {h : Heap} {kq : AVal → Ans} {ke : AVal → Heap → Nat → Nat → Ans}
include T
theorem min2_run {b : Nat} {ro : Bool} {x y : Int} (hm : 5 ≤ m) (hb : hget h b = some (.cells ro [.int .i64 x, .int .i64 y])) :
    exec t m 138 [.slice b 0 2 1] h n kq ke = kq (.int .i64 (min x y)) := by
  obtain ⟨m, rfl⟩ : ∃ q, m = q + 5 := ⟨m - 5, by omega⟩
  rw [exec_code T.h138, c138, callCode_eq (by simp)]
  simp (disch := omega) only [O138, U138, SS0, SS1, SS2, SS3, tag_eq, List.nil_append, List.append_nil, List.cons_append, Nat.reduceAdd, Nat.reduceSub, Nat.reduceMul, Nat.reduceAnd, Nat.reduceOr, Nat.reducePow, Nat.reduceEqDiff, decide_true, decide_false, loopN_succ, hb]
theorem least2_run {b : Nat} {ro : Bool} {x y : Int} (hm : 6 ≤ m) (hb : hget h b = some (.cells ro [.int .i64 x, .int .i64 y])) :
    exec t m 105 [.slice b 0 2 1] h n kq ke = kq (.int .i64 (min x y)) := by
  obtain ⟨m, rfl⟩ : ∃ q, m = q + 1 := ⟨m - 1, by omega⟩
  rw [exec_code T.h105, c105, callCode_eq (by simp)]
  simp (disch := omega) only [O105, U105, SS0, SS1, SS2, SS3, tag_eq, List.nil_append, List.append_nil, List.cons_append, Nat.reduceAdd, Nat.reduceSub, Nat.reduceMul, Nat.reduceAnd, Nat.reduceOr, Nat.reducePow, Nat.reduceEqDiff, decide_true, decide_false, min2_run T (m := m) (by omega) hb]
theorem rank_run {x : Nat} (hm : 40 ≤ m) (h1 : 0 < x) (h2 : x ≤ 1000000000) : exec t m 106 [.int .i64 (.ofNat x)] h n kq ke = kq (.tuple [.int .i64 (.ofNat (twos x)), .int .i64 (.ofNat (odd x))]) := by
  obtain ⟨m, rfl⟩ : ∃ q, m = q + 1 := ⟨m - 1, by omega⟩
  rw [exec_code T.h106, c106, callCode_eq (by simp)]
  simp (disch := omega) only [O106, U106, SS0, SS1, SS2, SS3, tag_eq, List.nil_append, List.append_nil, List.cons_append, Nat.reduceAdd, Nat.reduceSub, Nat.reduceMul, Nat.reduceAnd, Nat.reduceOr, Nat.reducePow, Nat.reduceEqDiff, decide_true, decide_false]
  rw [c106_go 31 _ _ _ _ (by omega) h1 (by omega) (by omega) (by omega)]
  simp (disch := omega) only [O106, U106, SS0, SS1, SS2, SS3, tag_eq, List.nil_append, List.append_nil, List.cons_append, Nat.reduceAdd, Nat.reduceSub, Nat.reduceMul, Nat.reduceAnd, Nat.reduceOr, Nat.reducePow, Nat.reduceEqDiff, decide_true, decide_false, twos, odd]
theorem split_run {x : Nat} (hm : 40 ≤ m) (h1 : 0 < x) (h2 : x ≤ 1000000000) : exec t m 108 [.int .i64 (.ofNat x)] h n kq ke = kq (.tuple [.int .i64 (.ofNat (twos x)), .int .i64 (.ofNat (odd x))]) := by
  obtain ⟨m, rfl⟩ : ∃ q, m = q + 1 := ⟨m - 1, by omega⟩
  rw [exec_code T.h108, c108, callCode_eq (by simp)]
  simp (disch := omega) only [O108, U108, SS0, SS1, SS2, SS3, tag_eq, List.nil_append, List.append_nil, List.cons_append, Nat.reduceAdd, Nat.reduceSub, Nat.reduceMul, Nat.reduceAnd, Nat.reduceOr, Nat.reducePow, Nat.reduceEqDiff, decide_true, decide_false]
  rw [c108_go 31 _ _ _ _ (by omega) h1 (by omega) (by omega) (by omega)]
  simp (disch := omega) only [O108, U108, SS0, SS1, SS2, SS3, tag_eq, List.nil_append, List.append_nil, List.cons_append, Nat.reduceAdd, Nat.reduceSub, Nat.reduceMul, Nat.reduceAnd, Nat.reduceOr, Nat.reducePow, Nat.reduceEqDiff, decide_true, decide_false, twos, odd]
theorem rafter_run {x y : Nat} (hm : 50 ≤ m) (h1 : 0 < x) (h2 : x ≤ 1000000000) (h3 : 0 < y) (h4 : y ≤ 1000000000) : exec t m 52 [.int .i64 (.ofNat x), .int .i64 (.ofNat y)] h n kq ke = kq (.bool (afterN x y)) := by
  obtain ⟨m, rfl⟩ : ∃ q, m = q + 1 := ⟨m - 1, by omega⟩
  rw [exec_code T.h52, c52, callCode_eq (by simp)]
  by_cases e1 : odd x = 1 <;> by_cases e2 : odd y = 1 <;> by_cases e3 : twos x = twos y
  all_goals
    simp (disch := omega) only [O52, U52, SS0, SS1, SS2, SS3, tag_eq, List.nil_append, List.append_nil, List.cons_append, Nat.reduceAdd, Nat.reduceSub, Nat.reduceMul, Nat.reduceAnd, Nat.reduceOr, Nat.reducePow, Nat.reduceEqDiff, decide_true, decide_false, split_run T]
    simp [afterN, e1, e2, e3]
theorem after_run {x y : Nat} (hm : 50 ≤ m) (h1 : 0 < x) (h2 : x ≤ 1000000000) (h3 : 0 < y) (h4 : y ≤ 1000000000) : exec t m 44 [.int .i64 (.ofNat x), .int .i64 (.ofNat y)] h n kq ke = kq (.tuple [.bool (afterN x y), .int .i64 (.ofNat 0)]) := by
  obtain ⟨m, rfl⟩ : ∃ q, m = q + 1 := ⟨m - 1, by omega⟩
  rw [exec_code T.h44, c44, callCode_eq (by simp)]
  have L := fun (kq : AVal → Ans) (kx : AVal → Heap → Nat → Nat → Ans) => least2_run T (m := m) (b := n) (n := n + 1) (h := (n, .cells false [.int .i64 (.ofNat x), .int .i64 (.ofNat y)]) :: h) (ro := false) (x := .ofNat x) (y := .ofNat y) (kq := kq) (ke := kx) (by omega) hget_same
  by_cases e1 : odd x = 1 <;> by_cases e2 : odd y = 1 <;> by_cases e3 : twos x = twos y
  all_goals
    simp (disch := omega) only [O44, U44, SS0, SS1, SS2, SS3, tag_eq, List.nil_append, List.append_nil, List.cons_append, Nat.reduceAdd, Nat.reduceSub, Nat.reduceMul, Nat.reduceAnd, Nat.reduceOr, Nat.reducePow, Nat.reduceEqDiff, decide_true, decide_false, rank_run T, L]
    simp [afterN, e1, e2, e3]
theorem after_bad {x y : Int} (hm : 50 ≤ m) (h1 : x < 1 ∨ y < 1 ∨ 1000000000 < x ∨ 1000000000 < y) : exec t m 44 [.int .i64 x, .int .i64 y] h n kq ke = kq (.tuple [.bool false, .int .i64 (.ofNat 1)]) := by
  obtain ⟨m, rfl⟩ : ∃ q, m = q + 1 := ⟨m - 1, by omega⟩
  rw [exec_code T.h44, c44, callCode_eq (by simp)]
  have L := fun (kq : AVal → Ans) (kx : AVal → Heap → Nat → Nat → Ans) => least2_run T (m := m) (b := n) (n := n + 1) (h := (n, .cells false [.int .i64 x, .int .i64 y]) :: h) (ro := false) (x := x) (y := y) (kq := kq) (ke := kx) (by omega) hget_same
  by_cases e1 : min x y < 1
  · have e1' : ltI (min x y) (.ofNat 1) = true := by rw [ltI_eq]; exact decide_eq_true e1
    simp (disch := omega) only [O44, U44, SS0, SS1, SS2, SS3, tag_eq, List.nil_append, List.append_nil, List.cons_append, Nat.reduceAdd, Nat.reduceSub, Nat.reduceMul, Nat.reduceAnd, Nat.reduceOr, Nat.reducePow, Nat.reduceEqDiff, decide_true, decide_false, L, e1']
  · have e1' : ltI (min x y) (.ofNat 1) = false := by rw [ltI_eq]; exact decide_eq_false e1
    have e2' : ltI (.ofNat 1000000000) (max x y) = true := by
      rw [ltI_eq]
      refine decide_eq_true ?_
      show (1000000000 : Int) < max x y
      omega
    simp (disch := omega) only [O44, U44, SS0, SS1, SS2, SS3, tag_eq, List.nil_append, List.append_nil, List.cons_append, Nat.reduceAdd, Nat.reduceSub, Nat.reduceMul, Nat.reduceAnd, Nat.reduceOr, Nat.reducePow, Nat.reduceEqDiff, decide_true, decide_false, L, e1', e2']
end
end Go.Absm.D
