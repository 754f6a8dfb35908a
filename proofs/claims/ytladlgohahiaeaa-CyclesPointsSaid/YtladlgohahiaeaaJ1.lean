/- Cycles: open, covers. -/
import Derived.Test.YtladlgohahiaeaaM8
import Derived.Test.YtladlgohahiaeaaH0
set_option linter.unusedSimpArgs false
set_option linter.unusedVariables false
namespace Go.Absm.D
open Go Go.Absm
set_option maxRecDepth 100000
set_option linter.unusedSimpArgs false
set_option maxHeartbeats 1000000
/-- where 0 goes in k steps -/
def itA (p : List Nat) : Nat → Nat
  | 0 => 0
  | k + 1 => p.getD (itA p k) 0
/-- a cycle of 2 to 8 elements -/
structure Cyc (p : List Nat) : Prop where
  two : 2 ≤ p.length
  eight : p.length ≤ 8
  lt : ∀ i, i < p.length → p.getD i 0 < p.length
  orb : ∀ k, 1 ≤ k → k < p.length → itA p k ≠ 0
  back : itA p p.length = 0
theorem Cyc.it_lt {p : List Nat} (c : Cyc p) : ∀ k, itA p k < p.length
  | 0 => by have := c.two; show 0 < _; omega
  | k + 1 => c.lt _ (c.it_lt k)
/-- an interval covers another one -/
def covA (p : List Nat) (i k : Nat) : Bool := decide (min (p.getD i 0) (p.getD (i + 1) 0) ≤ k) && decide (k < max (p.getD i 0) (p.getD (i + 1) 0))
section
variable {t : Nat → Option Entry} (T : Tab t) {m n low b : Nat} {ro : Bool} {p : List Nat} {h : Heap} {kq : AVal → Ans} {ke : AVal → Heap → Nat → Nat → Ans}
theorem c91_go {F : Nat} {kE : Nat → KV} {kr : KV} {R : Ans} (c : Cyc p) (hb : hget h b = some (.cells ro (nats p))) (hbn : b < n)
    (hk : ∀ u5 u6 u7 u8, kE 0 [.slice b 0 p.length 1, .nilslice, .int .i64 (.ofNat 0), .int .i64 (.ofNat 0), .int .i64 (.ofNat p.length), u5, u6, u7, u8] h n low = R) :
    ∀ (d q k : Nat) (u5 u6 u7 u8 : AVal), p.length - k = d → k < p.length → d ≤ q →
    loopN (fun k => den (exec t m) F c91_13 k kE kr) q [.slice b 0 p.length 1, .nilslice, .int .i64 (.ofNat 0), .int .i64 (.ofNat (itA p k)), .int .i64 (.ofNat k), u5, u6, u7, u8] h n low = R := by
  have two := c.two
  have eight := c.eight
  intro d
  induction d with
  | zero => intro q k u5 u6 u7 u8 hd hi hq; omega
  | succ d ih =>
    intro q k u5 u6 u7 u8 hd hi hq
    obtain ⟨q, rfl⟩ : ∃ x, q = x + 1 := ⟨q - 1, by omega⟩
    rw [loopN_succ]
    have h1 := c.it_lt k
    have h2 := c.lt _ h1
    have e : p.getD (itA p k) 0 = itA p (k + 1) := rfl
    by_cases hl : k + 1 = p.length
    · have h0 : itA p (k + 1) = 0 := by rw [hl]; exact c.back
      rw [e] at h2
      simp (disch := omega) only [O91, U91, SS0, SS1, SS2, SS3, tag_eq, List.nil_append, List.append_nil, List.cons_append, Nat.reduceAdd, Nat.reduceSub, Nat.reduceMul, Nat.reduceAnd, Nat.reduceOr, Nat.reducePow, Nat.reduceEqDiff, decide_true, decide_false, hb, e, h0]
      rw [hl]
      exact hk _ _ _ _
    · have h0 := c.orb (k + 1) (by omega) (by omega)
      rw [e] at h2
      simp (disch := omega) only [O91, U91, SS0, SS1, SS2, SS3, tag_eq, List.nil_append, List.append_nil, List.cons_append, Nat.reduceAdd, Nat.reduceSub, Nat.reduceMul, Nat.reduceAnd, Nat.reduceOr, Nat.reducePow, Nat.reduceEqDiff, decide_true, decide_false, hb, e]
      exact ih q (k + 1) _ _ _ _ (by omega) (by omega) (by omega)
include T in
theorem open_run (hm : 20 ≤ m) (c : Cyc p) (hb : hget h b = some (.cells ro (nats p))) (hbn : b < n) : exec t m 91 [.slice b 0 p.length 1] h n kq ke = ke (.tuple [.slice b 0 p.length 1, .int .i64 (.ofNat 0)]) h n n := by
  obtain ⟨m, rfl⟩ : ∃ q, m = q + 1 := ⟨m - 1, by omega⟩
  have two := c.two
  have eight := c.eight
  rw [exec_code T.h91, c91, callCode_eq (by simp)]
  simp (disch := omega) only [O91, U91, SS0, SS1, SS2, SS3, tag_eq, List.nil_append, List.append_nil, List.cons_append, Nat.reduceAdd, Nat.reduceSub, Nat.reduceMul, Nat.reduceAnd, Nat.reduceOr, Nat.reducePow, Nat.reduceEqDiff, decide_true, decide_false]
  refine c91_go c hb hbn ?_ p.length _ 0 _ _ _ _ (by omega) (by omega) (by omega)
  intro u5 u6 u7 u8
  simp (disch := omega) only [O91, U91, SS0, SS1, SS2, SS3, tag_eq, List.nil_append, List.append_nil, List.cons_append, Nat.reduceAdd, Nat.reduceSub, Nat.reduceMul, Nat.reduceAnd, Nat.reduceOr, Nat.reducePow, Nat.reduceEqDiff, decide_true, decide_false]
include T in
theorem covers_run {i k : Nat} (hm : 40 ≤ m) (c : Cyc p) (hb : hget h b = some (.cells ro (nats p))) (hbn : b < n) (hi : i + 1 < p.length) (hkk : k ≤ 1000) : exec t m 117 [.slice b 0 p.length 1, .int .i64 (.ofNat i), .int .i64 (.ofNat k)] h n kq ke = kq (.bool (covA p i k)) := by
  obtain ⟨m, rfl⟩ : ∃ q, m = q + 1 := ⟨m - 1, by omega⟩
  have two := c.two
  have eight := c.eight
  have h1 := c.lt i (by omega)
  have h2 := c.lt (i + 1) hi
  rw [exec_code T.h117, c117, callCode_eq (by simp)]
  have L := fun (kq : AVal → Ans) (kx : AVal → Heap → Nat → Nat → Ans) => least2_run T (m := m) (b := n) (n := n + 1) (h := (n, .cells false [.int .i64 (.ofNat (p.getD i 0)), .int .i64 (.ofNat (p.getD (i + 1) 0))]) :: h) (ro := false) (x := .ofNat (p.getD i 0)) (y := .ofNat (p.getD (i + 1) 0)) (kq := kq) (ke := kx) (by omega) hget_same
  by_cases g : min (p.getD i 0) (p.getD (i + 1) 0) ≤ k
  · simp (disch := omega) only [O117, U117, SS0, SS1, SS2, SS3, tag_eq, List.nil_append, List.append_nil, List.cons_append, Nat.reduceAdd, Nat.reduceSub, Nat.reduceMul, Nat.reduceAnd, Nat.reduceOr, Nat.reducePow, Nat.reduceEqDiff, decide_true, decide_false, hb, L]
    simp only [covA, dec_t g, Bool.true_and]
  · simp (disch := omega) only [O117, U117, SS0, SS1, SS2, SS3, tag_eq, List.nil_append, List.append_nil, List.cons_append, Nat.reduceAdd, Nat.reduceSub, Nat.reduceMul, Nat.reduceAnd, Nat.reduceOr, Nat.reducePow, Nat.reduceEqDiff, decide_true, decide_false, hb, L]
    simp only [covA, dec_f g, Bool.false_and]
include T in
theorem rcovers_run {i k : Nat} (hm : 40 ≤ m) (c : Cyc p) (hb : hget h b = some (.cells ro (nats p))) (hbn : b < n) (hi : i + 1 < p.length) (hkk : k ≤ 1000) : exec t m 67 [.slice b 0 p.length 1, .int .i64 (.ofNat i), .int .i64 (.ofNat k)] h n kq ke = kq (.bool (covA p i k)) := by
  obtain ⟨m, rfl⟩ : ∃ q, m = q + 1 := ⟨m - 1, by omega⟩
  have two := c.two
  have eight := c.eight
  have h1 := c.lt i (by omega)
  have h2 := c.lt (i + 1) hi
  rw [exec_code T.h67, c67, callCode_eq (by simp)]
  by_cases g : min (p.getD i 0) (p.getD (i + 1) 0) ≤ k
  · simp (disch := omega) only [O67, U67, SS0, SS1, SS2, SS3, tag_eq, List.nil_append, List.append_nil, List.cons_append, Nat.reduceAdd, Nat.reduceSub, Nat.reduceMul, Nat.reduceAnd, Nat.reduceOr, Nat.reducePow, Nat.reduceEqDiff, decide_true, decide_false, hb]
    simp only [covA, dec_t g, Bool.true_and]
  · simp (disch := omega) only [O67, U67, SS0, SS1, SS2, SS3, tag_eq, List.nil_append, List.append_nil, List.cons_append, Nat.reduceAdd, Nat.reduceSub, Nat.reduceMul, Nat.reduceAnd, Nat.reduceOr, Nat.reducePow, Nat.reduceEqDiff, decide_true, decide_false, hb]
    simp only [covA, dec_f g, Bool.false_and]
end
end Go.Absm.D
