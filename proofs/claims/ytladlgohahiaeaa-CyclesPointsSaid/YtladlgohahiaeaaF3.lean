/- Words: the reference's Lower and Greatest. -/
import Derived.Test.YtladlgohahiaeaaM8
import Derived.Test.YtladlgohahiaeaaF2
set_option linter.unusedSimpArgs false
set_option linter.unusedVariables false
namespace Go.Absm.D
open Go Go.Absm
set_option maxRecDepth 100000
set_option linter.unusedSimpArgs false
set_option maxHeartbeats 1000000
theorem eqB {u v : Bool} : fEqD false .b [.bool u, .bool v] = .pure (.bool (u == v)) := by cases u <;> cases v <;> rfl
theorem letterA_inj {x y : Nat} (hx : x = 76 ∨ x = 67 ∨ x = 82) (hy : y = 76 ∨ y = 67 ∨ y = 82) : letterA x = letterA y ↔ x = y := by
  rcases hx with rfl | rfl | rfl <;> rcases hy with rfl | rfl | rfl <;> simp [letterA]
theorem letterA_two {x : Nat} (hx : x = 76 ∨ x = 67 ∨ x = 82) : letterA x = 2 ↔ x = 82 := by
  rcases hx with rfl | rfl | rfl <;> simp [letterA]
section
variable {t : Nat → Option Entry} (T : Tab t) {m n low : Nat} {h : Heap} {kq : AVal → Ans} {ke : AVal → Heap → Nat → Nat → Ans}
include T in
theorem rrank_run {c : Nat} (hm : 5 ≤ m) (hc : c = 76 ∨ c = 67 ∨ c = 82) : exec t m 107 [.int .u8 (.ofNat c)] h n kq ke = kq (.int .i64 (.ofNat (letterA c))) := by
  obtain ⟨m, rfl⟩ : ∃ q, m = q + 1 := ⟨m - 1, by omega⟩
  rw [exec_code T.h107, c107, callCode_eq (by simp)]
  rcases hc with rfl | rfl | rfl
  · simp (disch := omega) only [O107, U107, SS0, SS1, SS2, SS3, tag_eq, List.nil_append, List.append_nil, List.cons_append, Nat.reduceAdd, Nat.reduceSub, Nat.reduceMul, Nat.reduceAnd, Nat.reduceOr, Nat.reducePow, Nat.reduceEqDiff, decide_true, decide_false]; rfl
  · simp (disch := omega) only [O107, U107, SS0, SS1, SS2, SS3, tag_eq, List.nil_append, List.append_nil, List.cons_append, Nat.reduceAdd, Nat.reduceSub, Nat.reduceMul, Nat.reduceAnd, Nat.reduceOr, Nat.reducePow, Nat.reduceEqDiff, decide_true, decide_false]; rfl
  · simp (disch := omega) only [O107, U107, SS0, SS1, SS2, SS3, tag_eq, List.nil_append, List.append_nil, List.cons_append, Nat.reduceAdd, Nat.reduceSub, Nat.reduceMul, Nat.reduceAnd, Nat.reduceOr, Nat.reducePow, Nat.reduceEqDiff, decide_true, decide_false]; rfl
include T in
theorem c46_go {F : Nat} {kE : Nat → KV} {kr : KV} {a b : List Nat} {C : Int} {R : Ans} (hm : 10 ≤ m) (ha : LCR a) (hb : LCR b) (hB : a.length ≤ 1000) (hB2 : b.length ≤ 1000)
    (hk : ∀ u3 u4 u5 u6 u7, C = .ofNat 0 → kE 0 [.str a, .str b, .bool false, u3, u4, u5, u6, u7] h n low = R)
    (hr : ∀ u3 u4 u5 u6 u7, kr [.str a, .str b, .bool (decide (C < 0)), u3, u4, u5, u6, u7] h n low = R) :
    ∀ (d q i : Nat) (s : Bool) (u5 u6 u7 : AVal), min a.length b.length - i = d → i ≤ min a.length b.length → cmpA (a.drop i) (b.drop i) s = C → d < q →
    loopN (fun k => den (exec t m) F c46_9 k kE kr) q [.str a, .str b, .bool false, .bool s, .int .i64 (.ofNat i), u5, u6, u7] h n low = R := by
  intro d
  induction d with
  | zero =>
    intro q i s u5 u6 u7 hd hi hc hq
    obtain ⟨q, rfl⟩ : ∃ x, q = x + 1 := ⟨q - 1, by omega⟩
    rw [loopN_succ]
    have e : C = .ofNat 0 := by
      rw [← hc]
      rcases Nat.le_total a.length b.length with h1 | h1
      · rw [show a.drop i = [] from List.drop_eq_nil_of_le (by omega)]; simp [cmpA]
      · rw [show b.drop i = [] from List.drop_eq_nil_of_le (by omega)]; cases a.drop i <;> simp [cmpA]
    by_cases hia : i < a.length
    · simp (disch := omega) only [O46, U46, SS0, SS1, SS2, SS3, tag_eq, List.nil_append, List.append_nil, List.cons_append, Nat.reduceAdd, Nat.reduceSub, Nat.reduceMul, Nat.reduceAnd, Nat.reduceOr, Nat.reducePow, Nat.reduceEqDiff, decide_true, decide_false]
      exact hk _ _ _ _ _ e
    · simp (disch := omega) only [O46, U46, SS0, SS1, SS2, SS3, tag_eq, List.nil_append, List.append_nil, List.cons_append, Nat.reduceAdd, Nat.reduceSub, Nat.reduceMul, Nat.reduceAnd, Nat.reduceOr, Nat.reducePow, Nat.reduceEqDiff, decide_true, decide_false]
      exact hk _ _ _ _ _ e
  | succ d ih =>
    intro q i s u5 u6 u7 hd hi hc hq
    obtain ⟨q, rfl⟩ : ∃ x, q = x + 1 := ⟨q - 1, by omega⟩
    rw [loopN_succ]
    have hia : i < a.length := by omega
    have hib : i < b.length := by omega
    have la := ha.getD hia
    have lb := hb.getD hib
    have A := fun (kq : AVal → Ans) (kx : AVal → Heap → Nat → Nat → Ans) => rrank_run T (m := m) (h := h) (n := n) (kq := kq) (ke := kx) (by omega) la
    have B := fun (kq : AVal → Ans) (kx : AVal → Heap → Nat → Nat → Ans) => rrank_run T (m := m) (h := h) (n := n) (kq := kq) (ke := kx) (by omega) lb
    rw [drop_getD hia, drop_getD hib, cmpA] at hc
    by_cases e1 : a.getD i 0 = b.getD i 0
    · rw [if_pos ((letterA_inj la lb).2 e1)] at hc
      by_cases e2 : a.getD i 0 = 82
      · rw [if_pos ((letterA_two la).2 e2)] at hc
        simp (disch := omega) only [O46, U46, SS0, SS1, SS2, SS3, tag_eq, List.nil_append, List.append_nil, List.cons_append, Nat.reduceAdd, Nat.reduceSub, Nat.reduceMul, Nat.reduceAnd, Nat.reduceOr, Nat.reducePow, Nat.reduceEqDiff, decide_true, decide_false, f_indexStr]
        rw [notB_eq]
        exact ih q (i + 1) (!s) _ _ _ (by omega) (by omega) hc (by omega)
      · rw [if_neg (fun h => e2 ((letterA_two la).1 h))] at hc
        simp (disch := omega) only [O46, U46, SS0, SS1, SS2, SS3, tag_eq, List.nil_append, List.append_nil, List.cons_append, Nat.reduceAdd, Nat.reduceSub, Nat.reduceMul, Nat.reduceAnd, Nat.reduceOr, Nat.reducePow, Nat.reduceEqDiff, decide_true, decide_false, f_indexStr]
        exact ih q (i + 1) s _ _ _ (by omega) (by omega) hc (by omega)
    · rw [if_neg (fun h => e1 ((letterA_inj la lb).1 h))] at hc
      have e3 : (decide (letterA (a.getD i 0) < letterA (b.getD i 0)) == s) = decide (C < 0) := by
        rw [← hc]
        by_cases e2 : letterA (a.getD i 0) < letterA (b.getD i 0)
        · rw [if_pos e2, decide_eq_true e2]; cases s <;> rfl
        · rw [if_neg e2, decide_eq_false e2]; cases s <;> rfl
      have hr' := hr
      rw [← e3] at hr'
      simp (disch := omega) only [o46_1, den_unf c46_1.eq_1, o46_3, den_unf c46_3.eq_1, o46_6, den_unf c46_6.eq_1, o46_11, den_unf c46_11.eq_1, den_unf c46_12.eq_1, den_unf c46_10.eq_1, o46_17, den_unf c46_17.eq_1, o46_20, den_unf c46_19.eq_1, den_unf c46_18.eq_1, den_unf c46_16.eq_1, o46_22, den_unf c46_22.eq_1, o46_24, den_unf c46_24.eq_1, den_unf c46_23.eq_1, den_unf c46_21.eq_1, den_unf c46_15.eq_1, den_unf c46_14.eq_1, o46_25, den_unf c46_25.eq_1, den_unf c46_13.eq_1, den_unf c46_9.eq_1, den_unf c46_8.eq_1, den_unf c46_7.eq_1, den_unf c46_5.eq_1, o46_27, den_unf c46_27.eq_1, den_unf c46_26.eq_1, den_unf c46_4.eq_1, den_unf c46_2.eq_1, den_unf c46_0.eq_1, SS0, SS1, SS2, SS3, tag_eq, List.nil_append, List.append_nil, List.cons_append, Nat.reduceAdd, Nat.reduceSub, Nat.reduceMul, Nat.reduceAnd, Nat.reduceOr, Nat.reducePow, Nat.reduceEqDiff, decide_true, decide_false, f_indexStr]
      rw [den_unf c46_20.eq_1]
      cases e2 : decide (letterA (a.getD i 0) < letterA (b.getD i 0)) with
      | true =>
        rw [e2] at hr'
        have e2' := of_decide_eq_true e2
        simp (disch := omega) only [O46, U46, SS0, SS1, SS2, SS3, tag_eq, List.nil_append, List.append_nil, List.cons_append, Nat.reduceAdd, Nat.reduceSub, Nat.reduceMul, Nat.reduceAnd, Nat.reduceOr, Nat.reducePow, Nat.reduceEqDiff, decide_true, decide_false, f_indexStr, A, B, eqB]
        exact hr' _ _ _ _ _
      | false =>
        rw [e2] at hr'
        have e2' := of_decide_eq_false e2
        simp (disch := omega) only [O46, U46, SS0, SS1, SS2, SS3, tag_eq, List.nil_append, List.append_nil, List.cons_append, Nat.reduceAdd, Nat.reduceSub, Nat.reduceMul, Nat.reduceAnd, Nat.reduceOr, Nat.reducePow, Nat.reduceEqDiff, decide_true, decide_false, f_indexStr, A, B, eqB]
        exact hr' _ _ _ _ _
include T in
theorem rlower_run {a b : List Nat} (hm : a.length + 20 ≤ m) (ha : LCR a) (hb : LCR b) (hB : a.length ≤ 1000) (hB2 : b.length ≤ 1000) : exec t m 46 [.str a, .str b] h n kq ke = kq (.bool (decide (cmpA a b true < 0))) := by
  obtain ⟨m, rfl⟩ : ∃ q, m = q + 1 := ⟨m - 1, by omega⟩
  rw [exec_code T.h46, c46, callCode_eq (by simp)]
  simp (disch := omega) only [O46, U46, SS0, SS1, SS2, SS3, tag_eq, List.nil_append, List.append_nil, List.cons_append, Nat.reduceAdd, Nat.reduceSub, Nat.reduceMul, Nat.reduceAnd, Nat.reduceOr, Nat.reducePow, Nat.reduceEqDiff, decide_true, decide_false]
  refine c46_go (s := true) T (by omega) ha hb hB hB2 ?_ ?_ (min a.length b.length) _ 0 _ _ _ (by omega) (by omega) rfl (by omega)
  · intro u3 u4 u5 u6 u7 e
    rw [List.drop_zero, List.drop_zero] at e
    rw [e]
    simp (disch := omega) only [O46, U46, SS0, SS1, SS2, SS3, tag_eq, List.nil_append, List.append_nil, List.cons_append, Nat.reduceAdd, Nat.reduceSub, Nat.reduceMul, Nat.reduceAnd, Nat.reduceOr, Nat.reducePow, Nat.reduceEqDiff, decide_true, decide_false]
    rfl
  · intro u3 u4 u5 u6 u7
    simp (disch := omega) only [O46, U46, SS0, SS1, SS2, SS3, tag_eq, List.nil_append, List.append_nil, List.cons_append, Nat.reduceAdd, Nat.reduceSub, Nat.reduceMul, Nat.reduceAnd, Nat.reduceOr, Nat.reducePow, Nat.reduceEqDiff, decide_true, decide_false, List.drop_zero]
include T in
theorem c49_go {F : Nat} {kE : Nat → KV} {kr : KV} {w : List Nat} {R : Ans} (hm : w.length + 30 ≤ m) (hw : LCR w) (hB : w.length ≤ 900)
    (hk : ∀ u2 u3 u4, grA w = true → kE 0 [.str w, .bool false, u2, u3, u4] h n low = R)
    (hr : ∀ u2 u3 u4, grA w = false → kr [.str w, .bool false, u2, u3, u4] h n low = R) :
    ∀ (d q i : Nat) (u3 u4 : AVal), w.length - i = d → i ≤ w.length → (∀ j, j < i → notLow w j = false) → d < q →
    loopN (fun k => den (exec t m) F c49_7 k kE kr) q [.str w, .bool false, .int .i64 (.ofNat (i + 1)), u3, u4] h n low = R := by
  intro d
  induction d with
  | zero =>
    intro q i u3 u4 hd hi hj hq
    obtain ⟨q, rfl⟩ : ∃ x, q = x + 1 := ⟨q - 1, by omega⟩
    rw [loopN_succ]
    obtain rfl : i = w.length := by omega
    simp (disch := omega) only [O49, U49, SS0, SS1, SS2, SS3, tag_eq, List.nil_append, List.append_nil, List.cons_append, Nat.reduceAdd, Nat.reduceSub, Nat.reduceMul, Nat.reduceAnd, Nat.reduceOr, Nat.reducePow, Nat.reduceEqDiff, decide_true, decide_false]
    exact hk _ _ _ (grA_true hj)
  | succ d ih =>
    intro q i u3 u4 hd hi hj hq
    obtain ⟨q, rfl⟩ : ∃ x, q = x + 1 := ⟨q - 1, by omega⟩
    rw [loopN_succ]
    have D := fun (kq : AVal → Ans) (kx : AVal → Heap → Nat → Nat → Ans) => rlower_run T (m := m) (h := h) (n := n) (kq := kq) (ke := kx) (a := w.drop (i + 1) ++ [67]) (b := w ++ [67]) (by simp; omega) (hw.drop _).ended hw.ended (by simp; omega) (by simp; omega)
    have l1 : w.length + [67].length ≤ 9223372036854775807 := by simp; omega
    have l2 : (w.drop (i + 1)).length + [67].length ≤ 9223372036854775807 := by simp; omega
    cases e : notLow w i with
    | false =>
      have e' : decide (cmpA (w.drop (i + 1) ++ [67]) (w ++ [67]) true < 0) = true := by simpa [notLow] using e
      simp (disch := omega) only [O49, U49, SS0, SS1, SS2, SS3, tag_eq, List.nil_append, List.append_nil, List.cons_append, Nat.reduceAdd, Nat.reduceSub, Nat.reduceMul, Nat.reduceAnd, Nat.reduceOr, Nat.reducePow, Nat.reduceEqDiff, decide_true, decide_false, f_sliceStr_lo, b_addS l1, b_addS l2, D, e']
      exact ih q (i + 1) _ _ (by omega) (by omega) (fun j hj' => by
        by_cases h' : j = i
        · subst h'; exact e
        · exact hj j (by omega)) (by omega)
    | true =>
      have e' : decide (cmpA (w.drop (i + 1) ++ [67]) (w ++ [67]) true < 0) = false := by simpa [notLow] using e
      simp (disch := omega) only [O49, U49, SS0, SS1, SS2, SS3, tag_eq, List.nil_append, List.append_nil, List.cons_append, Nat.reduceAdd, Nat.reduceSub, Nat.reduceMul, Nat.reduceAnd, Nat.reduceOr, Nat.reducePow, Nat.reduceEqDiff, decide_true, decide_false, f_sliceStr_lo, b_addS l1, b_addS l2, D, e']
      exact hr _ _ _ (grA_false (by omega) e)
include T in
theorem rgreatest_run {w : List Nat} (hm : w.length + 40 ≤ m) (hw : LCR w) (hB : w.length ≤ 900) : exec t m 49 [.str w] h n kq ke = kq (.bool (grA w)) := by
  obtain ⟨m, rfl⟩ : ∃ q, m = q + 1 := ⟨m - 1, by omega⟩
  rw [exec_code T.h49, c49, callCode_eq (by simp)]
  simp (disch := omega) only [O49, U49, SS0, SS1, SS2, SS3, tag_eq, List.nil_append, List.append_nil, List.cons_append, Nat.reduceAdd, Nat.reduceSub, Nat.reduceMul, Nat.reduceAnd, Nat.reduceOr, Nat.reducePow, Nat.reduceEqDiff, decide_true, decide_false]
  refine c49_go T (by omega) hw hB ?_ ?_ w.length _ 0 _ _ rfl (by omega) (by omega) (by omega)
  · intro u2 u3 u4 e
    simp (disch := omega) only [O49, U49, SS0, SS1, SS2, SS3, tag_eq, List.nil_append, List.append_nil, List.cons_append, Nat.reduceAdd, Nat.reduceSub, Nat.reduceMul, Nat.reduceAnd, Nat.reduceOr, Nat.reducePow, Nat.reduceEqDiff, decide_true, decide_false, e]
  · intro u2 u3 u4 e
    simp (disch := omega) only [O49, U49, SS0, SS1, SS2, SS3, tag_eq, List.nil_append, List.append_nil, List.cons_append, Nat.reduceAdd, Nat.reduceSub, Nat.reduceMul, Nat.reduceAnd, Nat.reduceOr, Nat.reducePow, Nat.reduceEqDiff, decide_true, decide_false, e]
end
end Go.Absm.D
