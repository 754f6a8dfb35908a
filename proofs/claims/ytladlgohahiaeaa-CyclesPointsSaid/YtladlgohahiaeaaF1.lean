/- Words: compare, greatest. -/
import Derived.Test.YtladlgohahiaeaaM8
import Derived.Test.YtladlgohahiaeaaE1
import Derived.Test.YtladlgohahiaeaaM4
import Derived.Test.YtladlgohahiaeaaL1
set_option linter.unusedSimpArgs false
set_option linter.unusedVariables false
namespace Go.Absm.D
open Go Go.Absm
set_option maxRecDepth 100000
set_option linter.unusedSimpArgs false
set_option maxHeartbeats 1000000
/-- words of L, C and R -/
def LCR (a : List Nat) : Prop := ∀ c ∈ a, c = 76 ∨ c = 67 ∨ c = 82
theorem LCR.drop {a : List Nat} (h : LCR a) (i : Nat) : LCR (a.drop i) := fun c hc => h c (List.mem_of_mem_drop hc)
theorem LCR.ended {a : List Nat} (h : LCR a) : LCR (a ++ [67]) := fun c hc => by
  rcases List.mem_append.1 hc with h' | h'
  · exact h c h'
  · simp at h'; exact .inr (.inl h')
theorem LCR.getD {a : List Nat} (h : LCR a) {i : Nat} (hi : i < a.length) : a.getD i 0 = 76 ∨ a.getD i 0 = 67 ∨ a.getD i 0 = 82 := by
  rw [List.getD_eq_getElem?_getD, List.getElem?_eq_getElem hi]
  exact h _ (List.getElem_mem hi)
theorem drop_getD {a : List Nat} {i : Nat} (hi : i < a.length) : a.drop i = a.getD i 0 :: a.drop (i + 1) := by
  rw [List.drop_eq_getElem_cons hi, List.getD_eq_getElem?_getD, List.getElem?_eq_getElem hi]; rfl
theorem byteAt_eq : ∀ {s : List Nat} {i : Nat}, i < s.length → byteAt s i = .pure (.int .u8 (.ofNat (s.getD i 0)))
  | [], i, h => by simp at h
  | c :: s, 0, _ => rfl
  | c :: s, i + 1, h => by simp only [byteAt]; rw [byteAt_eq (s := s) (i := i) (by simpa using h)]; rfl
theorem f_indexStr {s : List Nat} {i : Nat} {k : IntKind} (h : i < s.length) : fIndexStr [.str s, .int k (.ofNat i)] = .pure (.int .u8 (.ofNat (s.getD i 0))) := byteAt_eq h
def sgn : Bool → Int
  | true => .ofNat 1
  | false => .negSucc 0
theorem f_neg {s : Bool} : fUn .neg [.int .i64 (sgn s)] = .pure (.int .i64 (sgn (!s))) := by cases s <;> rfl
/-- lower, equal or higher -/
def cmpA : List Nat → List Nat → Bool → Int
  | x :: a, y :: b, s => if letterA x = letterA y then cmpA a b (if letterA x = 2 then !s else s) else if letterA x < letterA y then sgn (!s) else sgn s
  | _, _, _ => .ofNat 0
section
variable {t : Nat → Option Entry} (T : Tab t) (T133 : t 133 = some (.both (hookOf letterS) c133)) {m n low : Nat} {h : Heap} {kq : AVal → Ans} {ke : AVal → Heap → Nat → Nat → Ans}
include T133 in
theorem letter_run {c : Nat} (hm : 1 ≤ m) (hc : c = 76 ∨ c = 67 ∨ c = 82) : exec t m 133 [.int .u8 (.ofNat c)] h n kq ke = kq (.int .i64 (.ofNat (letterA c))) := by
  obtain ⟨m, rfl⟩ : ∃ q, m = q + 1 := ⟨m - 1, by omega⟩
  refine exec_both T133 ?_
  rw [hook_canon (canon_int canon_nil)]
  have : Nat.blt c 256 = true := Nat.ble_eq_true_of_le (by omega)
  simp only [letterS, this]
include T133 in
theorem c99_go {F : Nat} {kE : Nat → KV} {kr : KV} {a b : List Nat} {C : Int} {R : Ans} (hm : 1 ≤ m) (ha : LCR a) (hb : LCR b) (hB : a.length ≤ 1000)
    (hk : ∀ u3 u4 u5 u6 u7 u8 u9 u10 u11 u12, C = .ofNat 0 → kE 0 [.str a, .str b, .int .i64 (.ofNat 0), u3, u4, u5, u6, u7, u8, u9, u10, u11, u12] h n low = R)
    (hr : ∀ u3 u4 u5 u6 u7 u8 u9 u10 u11 u12, kr [.str a, .str b, .int .i64 C, u3, u4, u5, u6, u7, u8, u9, u10, u11, u12] h n low = R) :
    ∀ (d q i : Nat) (s : Bool) (u4 u5 u6 u9 u10 u11 u12 : AVal), min a.length b.length - i = d → i ≤ min a.length b.length → cmpA (a.drop i) (b.drop i) s = C → d < q →
    loopN (fun k => den (exec t m) F c99_9 k kE kr) q [.str a, .str b, .int .i64 (.ofNat 0), .int .i64 (sgn s), u4, u5, u6, .int .i64 (.ofNat (min a.length b.length)), .int .i64 (.ofNat i), u9, u10, u11, u12] h n low = R := by
  intro d
  induction d with
  | zero =>
    intro q i s u4 u5 u6 u9 u10 u11 u12 hd hi hc hq
    obtain ⟨q, rfl⟩ : ∃ x, q = x + 1 := ⟨q - 1, by omega⟩
    rw [loopN_succ]
    have e : C = .ofNat 0 := by
      rw [← hc]
      rcases Nat.le_total a.length b.length with h1 | h1
      · rw [show a.drop i = [] from List.drop_eq_nil_of_le (by omega)]; simp [cmpA]
      · rw [show b.drop i = [] from List.drop_eq_nil_of_le (by omega)]; cases a.drop i <;> simp [cmpA]
    simp (disch := omega) only [O99, U99, SS0, SS1, SS2, SS3, tag_eq, List.nil_append, List.append_nil, List.cons_append, Nat.reduceAdd, Nat.reduceSub, Nat.reduceMul, Nat.reduceAnd, Nat.reduceOr, Nat.reducePow, Nat.reduceEqDiff, decide_true, decide_false]
    exact hk _ _ _ _ _ _ _ _ _ _ e
  | succ d ih =>
    intro q i s u4 u5 u6 u9 u10 u11 u12 hd hi hc hq
    obtain ⟨q, rfl⟩ : ∃ x, q = x + 1 := ⟨q - 1, by omega⟩
    rw [loopN_succ]
    have hia : i < a.length := by omega
    have hib : i < b.length := by omega
    have A := fun (kq : AVal → Ans) (kx : AVal → Heap → Nat → Nat → Ans) => letter_run T133 (m := m) (h := h) (n := n) (kq := kq) (ke := kx) hm (ha.getD hia)
    have B := fun (kq : AVal → Ans) (kx : AVal → Heap → Nat → Nat → Ans) => letter_run T133 (m := m) (h := h) (n := n) (kq := kq) (ke := kx) hm (hb.getD hib)
    rw [drop_getD hia, drop_getD hib, cmpA] at hc
    by_cases e1 : letterA (a.getD i 0) = letterA (b.getD i 0)
    · rw [if_pos e1] at hc
      by_cases e2 : letterA (a.getD i 0) = 2
      · rw [if_pos e2] at hc
        simp (disch := omega) only [O99, U99, SS0, SS1, SS2, SS3, tag_eq, List.nil_append, List.append_nil, List.cons_append, Nat.reduceAdd, Nat.reduceSub, Nat.reduceMul, Nat.reduceAnd, Nat.reduceOr, Nat.reducePow, Nat.reduceEqDiff, decide_true, decide_false, f_indexStr, f_neg, A, B]
        exact ih q (i + 1) (!s) _ _ _ _ _ _ _ (by omega) (by omega) hc (by omega)
      · rw [if_neg e2] at hc
        simp (disch := omega) only [O99, U99, SS0, SS1, SS2, SS3, tag_eq, List.nil_append, List.append_nil, List.cons_append, Nat.reduceAdd, Nat.reduceSub, Nat.reduceMul, Nat.reduceAnd, Nat.reduceOr, Nat.reducePow, Nat.reduceEqDiff, decide_true, decide_false, f_indexStr, f_neg, A, B]
        exact ih q (i + 1) s _ _ _ _ _ _ _ (by omega) (by omega) hc (by omega)
    · rw [if_neg e1] at hc
      by_cases e2 : letterA (a.getD i 0) < letterA (b.getD i 0)
      · rw [if_pos e2] at hc
        subst hc
        simp (disch := omega) only [O99, U99, SS0, SS1, SS2, SS3, tag_eq, List.nil_append, List.append_nil, List.cons_append, Nat.reduceAdd, Nat.reduceSub, Nat.reduceMul, Nat.reduceAnd, Nat.reduceOr, Nat.reducePow, Nat.reduceEqDiff, decide_true, decide_false, f_indexStr, f_neg, A, B]
        exact hr _ _ _ _ _ _ _ _ _ _
      · rw [if_neg e2] at hc
        subst hc
        simp (disch := omega) only [O99, U99, SS0, SS1, SS2, SS3, tag_eq, List.nil_append, List.append_nil, List.cons_append, Nat.reduceAdd, Nat.reduceSub, Nat.reduceMul, Nat.reduceAnd, Nat.reduceOr, Nat.reducePow, Nat.reduceEqDiff, decide_true, decide_false, f_indexStr, f_neg, A, B]
        exact hr _ _ _ _ _ _ _ _ _ _
include T T133 in
theorem compare_run {a b : List Nat} (hm : a.length + 20 ≤ m) (ha : LCR a) (hb : LCR b) (hB : a.length ≤ 1000) (hB2 : b.length ≤ 1000) : exec t m 99 [.str a, .str b] h n kq ke = kq (.int .i64 (cmpA a b true)) := by
  obtain ⟨m, rfl⟩ : ∃ q, m = q + 1 := ⟨m - 1, by omega⟩
  rw [exec_code T.h99, c99, callCode_eq (by simp)]
  have L := fun (kq : AVal → Ans) (kx : AVal → Heap → Nat → Nat → Ans) => least2_run T (m := m) (b := n) (n := n + 1) (h := (n, .cells false [.int .i64 (.ofNat a.length), .int .i64 (.ofNat b.length)]) :: h) (ro := false) (x := .ofNat a.length) (y := .ofNat b.length) (kq := kq) (ke := kx) (by omega) hget_same
  simp (disch := omega) only [O99, U99, SS0, SS1, SS2, SS3, tag_eq, List.nil_append, List.append_nil, List.cons_append, Nat.reduceAdd, Nat.reduceSub, Nat.reduceMul, Nat.reduceAnd, Nat.reduceOr, Nat.reducePow, Nat.reduceEqDiff, decide_true, decide_false, L]
  refine c99_go (s := true) T133 (by omega) ha hb hB ?_ ?_ (min a.length b.length) _ 0 _ _ _ _ _ _ _ (by omega) (by omega) rfl (by omega)
  · intro u3 u4 u5 u6 u7 u8 u9 u10 u11 u12 e
    rw [List.drop_zero, List.drop_zero] at e
    simp (disch := omega) only [O99, U99, SS0, SS1, SS2, SS3, tag_eq, List.nil_append, List.append_nil, List.cons_append, Nat.reduceAdd, Nat.reduceSub, Nat.reduceMul, Nat.reduceAnd, Nat.reduceOr, Nat.reducePow, Nat.reduceEqDiff, decide_true, decide_false, e]
  · intro u3 u4 u5 u6 u7 u8 u9 u10 u11 u12
    simp (disch := omega) only [O99, U99, SS0, SS1, SS2, SS3, tag_eq, List.nil_append, List.append_nil, List.cons_append, Nat.reduceAdd, Nat.reduceSub, Nat.reduceMul, Nat.reduceAnd, Nat.reduceOr, Nat.reducePow, Nat.reduceEqDiff, decide_true, decide_false, List.drop_zero]
end
end Go.Absm.D
