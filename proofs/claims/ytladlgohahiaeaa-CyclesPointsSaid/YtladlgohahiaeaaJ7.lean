/- Periods of points. -/
import Derived.Test.YtladlgohahiaeaaM8
import Derived.Test.YtladlgohahiaeaaJ6
set_option linter.unusedSimpArgs false
set_option linter.unusedVariables false
namespace Go.Absm.D
open Go Go.Absm
set_option maxRecDepth 100000
set_option linter.unusedSimpArgs false
set_option maxHeartbeats 2000000
/-- the first of d more values that is x, as a number from k on; 0 if none is -/
def perGo (p : List Nat) (x : Nat × Nat) : Nat → Nat → Nat × Nat → Nat
  | 0, _, _ => 0
  | d + 1, k, y => if valA p y = x then k else perGo p x d (k + 1) (valA p y)
def perA (p : List Nat) (x : Nat × Nat) : Nat := perGo p x 24 1 x
theorem pr_dec {x y : Nat × Nat} : (decide (Int.ofNat x.1 = Int.ofNat y.1) && decide (Int.ofNat x.2 = Int.ofNat y.2)) = decide (x = y) := by
  obtain ⟨a, b⟩ := x
  obtain ⟨c, d⟩ := y
  by_cases e : a = c <;> by_cases e2 : b = d <;> simp [e, e2] <;> omega
section
variable {t : Nat → Option Entry} (T : Tab t) {m n low b0 : Nat} {ro : Bool} {p : List Nat} {h : Heap} {kq : AVal → Ans} {ke : AVal → Heap → Nat → Nat → Ans}
include T in
theorem c37_go {F b8 b9 : Nat} {kE : Nat → KV} {kr : KV} {v1 v2 v7 v11 v12 : AVal} {x : Nat × Nat} {R : Ans} {P : Nat} (hm : 500 ≤ m) (c : Cyc p) (hb : hget h b0 = some (.cells ro (nats p))) (hbn : b0 < n) (h8 : hget h b8 = some (.cells false [.int .i64 (.ofNat x.1), .int .i64 (.ofNat x.2)]))
    (n8 : b8 < n) (n9 : b9 < n) (ne0 : b9 ≠ b0) (ne8 : b9 ≠ b8) (hlow : low ≤ b9)
    (hk : ∀ (y : Nat × Nat) u10 u13 u14, P = 0 → kE 0 [.slice b0 0 p.length 1, v1, v2, .int .i64 (.ofNat 0), .bool false, .int .i64 (.ofNat 0), .slice b0 0 p.length 1, v7, .ptr b8 0, .ptr b9 0, u10, v11, v12, u13, u14] ((b9, .cells false [.int .i64 (.ofNat y.1), .int .i64 (.ofNat y.2)]) :: h) n low = R)
    (hr : ∀ (y : Nat × Nat) u10 u13 u14, 0 < P → kr [.slice b0 0 p.length 1, v1, v2, .int .i64 (.ofNat P), .bool true, .int .i64 (.ofNat 0), .slice b0 0 p.length 1, v7, .ptr b8 0, .ptr b9 0, u10, v11, v12, u13, u14] ((b9, .cells false [.int .i64 (.ofNat y.1), .int .i64 (.ofNat y.2)]) :: h) n low = R) :
    ∀ (d q k : Nat) (y : Nat × Nat) (u13 u14 : AVal), d + k = 25 → 1 ≤ k → Pt p y → perGo p x d k y = P → d < q →
    loopN (fun k => den (exec t m) F c37_25 k kE kr) q [.slice b0 0 p.length 1, v1, v2, .int .i64 (.ofNat 0), .bool false, .int .i64 (.ofNat 0), .slice b0 0 p.length 1, v7, .ptr b8 0, .ptr b9 0, .int .i64 (.ofNat k), v11, v12, u13, u14] ((b9, .cells false [.int .i64 (.ofNat y.1), .int .i64 (.ofNat y.2)]) :: h) n low = R := by
  have hmin : minN b9 low = low := by rw [minN_eq]; omega
  intro d
  induction d with
  | zero =>
    intro q k y u13 u14 hd hk1 hy hP hq
    obtain ⟨q, rfl⟩ : ∃ x, q = x + 1 := ⟨q - 1, by omega⟩
    rw [loopN_succ]
    obtain rfl : k = 25 := by omega
    simp (disch := omega) only [O37, U37, SS0, SS1, SS2, SS3, tag_eq, List.nil_append, List.append_nil, List.cons_append, Nat.reduceAdd, Nat.reduceSub, Nat.reduceMul, Nat.reduceAnd, Nat.reduceOr, Nat.reducePow, Nat.reduceEqDiff, decide_true, decide_false]
    exact hk _ _ _ _ hP.symm
  | succ d ih =>
    intro q k y u13 u14 hd hk1 hy hP hq
    obtain ⟨q, rfl⟩ : ∃ x, q = x + 1 := ⟨q - 1, by omega⟩
    rw [loopN_succ]
    have V := fun (kq : AVal → Ans) (kx : AVal → Heap → Nat → Nat → Ans) => value_run T (b0 := b0) (m := m) (n := n) (h := (b9, .cells false [.int .i64 (.ofNat y.1), .int .i64 (.ofNat y.2)]) :: h) (kq := kq) (ke := kx) (a := y.1) (b := y.2) (by omega) c (by simp (disch := omega) only [hget_ne]; exact hb) (by omega) hy
    have hv := hy.val c
    rw [perGo] at hP
    have E := pr_dec (x := valA p y) (y := x)
    by_cases e : valA p y = x
    · rw [if_pos e] at hP
      subst hP
      rw [decide_eq_true e] at E
      simp (disch := omega) only [O37, U37, SS0, SS1, SS2, SS3, tag_eq, List.nil_append, List.append_nil, List.cons_append, Nat.reduceAdd, Nat.reduceSub, Nat.reduceMul, Nat.reduceAnd, Nat.reduceOr, Nat.reducePow, Nat.reduceEqDiff, decide_true, decide_false, k_store2, k_loadN2, f_loadN, V, hmin, h8, f_eqP, E]
      exact hr (valA p y) _ _ _ (by omega)
    · rw [if_neg e] at hP
      rw [decide_eq_false e] at E
      simp (disch := omega) only [O37, U37, SS0, SS1, SS2, SS3, tag_eq, List.nil_append, List.append_nil, List.cons_append, Nat.reduceAdd, Nat.reduceSub, Nat.reduceMul, Nat.reduceAnd, Nat.reduceOr, Nat.reducePow, Nat.reduceEqDiff, decide_true, decide_false, k_store2, k_loadN2, f_loadN, V, hmin, h8, f_eqP, E]
      exact ih q (k + 1) (valA p y) _ _ (by omega) (by omega) hv hP (by omega)
/-- what Period gives -/
def perT (k : Nat) : AVal := .tuple [.int .i64 (.ofNat k), .bool (decide (0 < k)), .int .i64 (.ofNat 0)]
include T in
theorem Period_run {a b : Nat} (hm : 600 ≤ m) (c : Cyc p) (hb : hget h b0 = some (.cells ro (nats p))) (hbn : b0 < n) (hx : ptB p (.ofNat a) (.ofNat b) = true) :
    exec t m 37 [.slice b0 0 p.length 1, .agg [.int .i64 (.ofNat a), .int .i64 (.ofNat b)]] h n kq ke = kq (perT (perA p (a, b))) := by
  obtain ⟨m, rfl⟩ : ∃ q, m = q + 1 := ⟨m - 1, by omega⟩
  rw [exec_code T.h37, c37, callCode_eq (by simp)]
  have O := fun (h' : Heap) (n' : Nat) (hb : hget h' b0 = some (.cells ro (nats p))) (hbn : b0 < n') (kq : AVal → Ans) (kx : AVal → Heap → Nat → Nat → Ans) => open_run T (m := m) (h := h') (n := n') (kq := kq) (ke := kx) (by omega) c hb hbn
  have H := fun (h : Heap) (n : Nat) (kq : AVal → Ans) (kx : AVal → Heap → Nat → Nat → Ans) => has_run T (b0 := b0) (m := m) (h := h) (n := n) (kq := kq) (ke := kx) (a := .ofNat a) (b := .ofNat b) (by omega) c
  rw [hx] at H
  obtain ⟨x, y, e1, e2, hp⟩ := ptB_pt hx
  obtain rfl := Int.ofNat.inj e1
  obtain rfl := Int.ofNat.inj e2
  simp (disch := omega) only [O37, U37, SS0, SS1, SS2, SS3, tag_eq, List.nil_append, List.append_nil, List.cons_append, Nat.reduceAdd, Nat.reduceSub, Nat.reduceMul, Nat.reduceAnd, Nat.reduceOr, Nat.reducePow, Nat.reduceEqDiff, decide_true, decide_false, agg_cells, k_store2, k_loadN2, f_loadN]
  rw [O _ _ (by simp (disch := omega) only [hget_ne]; exact hb) (by omega)]
  have hm2 : minN (n + 1) n = n := by rw [minN_eq]; omega
  have hm3 : minN (n + 1 + 1) n = n := by rw [minN_eq]; omega
  simp (disch := omega) only [O37, U37, SS0, SS1, SS2, SS3, tag_eq, List.nil_append, List.append_nil, List.cons_append, Nat.reduceAdd, Nat.reduceSub, Nat.reduceMul, Nat.reduceAnd, Nat.reduceOr, Nat.reducePow, Nat.reduceEqDiff, decide_true, decide_false, agg_cells, k_store2, k_loadN2, f_loadN, H, hm2, hm3]
  refine c37_go T (x := (a, b)) (P := perA p (a, b)) (by omega) c (by simp (disch := omega) only [hget_ne]; exact hb) (by omega) (by simp (disch := omega) only [hget_same]) (by omega) (by omega) (by omega) (by omega) (by omega)
    (fun y u10 u13 u14 hP => ?_) (fun y u10 u13 u14 hP => ?_) 24 _ 1 (a, b) _ _ (by omega) (by omega) hp rfl (by omega)
  · simp (disch := omega) only [O37, U37, SS0, SS1, SS2, SS3, tag_eq, List.nil_append, List.append_nil, List.cons_append, Nat.reduceAdd, Nat.reduceSub, Nat.reduceMul, Nat.reduceAnd, Nat.reduceOr, Nat.reducePow, Nat.reduceEqDiff, decide_true, decide_false]
    rw [hP]; rfl
  · simp (disch := omega) only [O37, U37, SS0, SS1, SS2, SS3, tag_eq, List.nil_append, List.append_nil, List.cons_append, Nat.reduceAdd, Nat.reduceSub, Nat.reduceMul, Nat.reduceAnd, Nat.reduceOr, Nat.reducePow, Nat.reduceEqDiff, decide_true, decide_false]
    rw [perT, decide_eq_true hP]
include T in
theorem Period_bad {a b : Int} (hm : 600 ≤ m) (c : Cyc p) (hb : hget h b0 = some (.cells ro (nats p))) (hbn : b0 < n) (hx : ptB p a b = false) :
    exec t m 37 [.slice b0 0 p.length 1, .agg [.int .i64 a, .int .i64 b]] h n kq ke = kq (.tuple [.int .i64 (.ofNat 0), .bool false, .int .i64 (.ofNat 1)]) := by
  obtain ⟨m, rfl⟩ : ∃ q, m = q + 1 := ⟨m - 1, by omega⟩
  rw [exec_code T.h37, c37, callCode_eq (by simp)]
  have O := fun (h' : Heap) (n' : Nat) (hb : hget h' b0 = some (.cells ro (nats p))) (hbn : b0 < n') (kq : AVal → Ans) (kx : AVal → Heap → Nat → Nat → Ans) => open_run T (m := m) (h := h') (n := n') (kq := kq) (ke := kx) (by omega) c hb hbn
  have H := fun (h : Heap) (n : Nat) (kq : AVal → Ans) (kx : AVal → Heap → Nat → Nat → Ans) => has_run T (b0 := b0) (m := m) (h := h) (n := n) (kq := kq) (ke := kx) (a := a) (b := b) (by omega) c
  rw [hx] at H
  simp (disch := omega) only [O37, U37, SS0, SS1, SS2, SS3, tag_eq, List.nil_append, List.append_nil, List.cons_append, Nat.reduceAdd, Nat.reduceSub, Nat.reduceMul, Nat.reduceAnd, Nat.reduceOr, Nat.reducePow, Nat.reduceEqDiff, decide_true, decide_false, agg_cells, k_store2, k_loadN2, f_loadN]
  rw [O _ _ (by simp (disch := omega) only [hget_ne]; exact hb) (by omega)]
  have hm2 : minN (n + 1) n = n := by rw [minN_eq]; omega
  have hm3 : minN (n + 1 + 1) n = n := by rw [minN_eq]; omega
  simp (disch := omega) only [O37, U37, SS0, SS1, SS2, SS3, tag_eq, List.nil_append, List.append_nil, List.cons_append, Nat.reduceAdd, Nat.reduceSub, Nat.reduceMul, Nat.reduceAnd, Nat.reduceOr, Nat.reducePow, Nat.reduceEqDiff, decide_true, decide_false, agg_cells, k_store2, k_loadN2, f_loadN, H, hm2, hm3]
include T in
theorem c38_go {F b2 b4 : Nat} {kE : Nat → KV} {kr : KV} {v1 : AVal} {x : Nat × Nat} {R : Ans} {P : Nat} (hm : 500 ≤ m) (c : Cyc p) (hb : hget h b0 = some (.cells ro (nats p))) (hbn : b0 < n) (h2 : hget h b2 = some (.cells false [.int .i64 (.ofNat x.1), .int .i64 (.ofNat x.2)]))
    (n2 : b2 < n) (n4 : b4 < n) (ne0 : b4 ≠ b0) (ne2 : b4 ≠ b2) (hlow : low ≤ b4)
    (hk : ∀ (y : Nat × Nat) u5 u6 u7, P = 0 → kE 0 [.slice b0 0 p.length 1, v1, .ptr b2 0, .int .i64 (.ofNat 0), .ptr b4 0, u5, u6, u7] ((b4, .cells false [.int .i64 (.ofNat y.1), .int .i64 (.ofNat y.2)]) :: h) n low = R)
    (hr : ∀ (y : Nat × Nat) u5 u6 u7, 0 < P → kr [.slice b0 0 p.length 1, v1, .ptr b2 0, .int .i64 (.ofNat P), .ptr b4 0, u5, u6, u7] ((b4, .cells false [.int .i64 (.ofNat y.1), .int .i64 (.ofNat y.2)]) :: h) n low = R) :
    ∀ (d q k : Nat) (y : Nat × Nat) (u6 u7 : AVal), d + k = 25 → 1 ≤ k → Pt p y → perGo p x d k y = P → d < q →
    loopN (fun k => den (exec t m) F c38_9 k kE kr) q [.slice b0 0 p.length 1, v1, .ptr b2 0, .int .i64 (.ofNat 0), .ptr b4 0, .int .i64 (.ofNat k), u6, u7] ((b4, .cells false [.int .i64 (.ofNat y.1), .int .i64 (.ofNat y.2)]) :: h) n low = R := by
  have hmin : minN b4 low = low := by rw [minN_eq]; omega
  intro d
  induction d with
  | zero =>
    intro q k y u13 u14 hd hk1 hy hP hq
    obtain ⟨q, rfl⟩ : ∃ x, q = x + 1 := ⟨q - 1, by omega⟩
    rw [loopN_succ]
    obtain rfl : k = 25 := by omega
    simp (disch := omega) only [O38, U38, SS0, SS1, SS2, SS3, tag_eq, List.nil_append, List.append_nil, List.cons_append, Nat.reduceAdd, Nat.reduceSub, Nat.reduceMul, Nat.reduceAnd, Nat.reduceOr, Nat.reducePow, Nat.reduceEqDiff, decide_true, decide_false]
    exact hk _ _ _ _ hP.symm
  | succ d ih =>
    intro q k y u13 u14 hd hk1 hy hP hq
    obtain ⟨q, rfl⟩ : ∃ x, q = x + 1 := ⟨q - 1, by omega⟩
    rw [loopN_succ]
    have V := fun (kq : AVal → Ans) (kx : AVal → Heap → Nat → Nat → Ans) => rvalue_run T (b0 := b0) (m := m) (n := n) (h := (b4, .cells false [.int .i64 (.ofNat y.1), .int .i64 (.ofNat y.2)]) :: h) (kq := kq) (ke := kx) (a := y.1) (b := y.2) (by omega) c (by simp (disch := omega) only [hget_ne]; exact hb) (by omega) hy
    have hv := hy.val c
    rw [perGo] at hP
    have E := pr_dec (x := valA p y) (y := x)
    by_cases e : valA p y = x
    · rw [if_pos e] at hP
      subst hP
      rw [decide_eq_true e] at E
      simp (disch := omega) only [O38, U38, SS0, SS1, SS2, SS3, tag_eq, List.nil_append, List.append_nil, List.cons_append, Nat.reduceAdd, Nat.reduceSub, Nat.reduceMul, Nat.reduceAnd, Nat.reduceOr, Nat.reducePow, Nat.reduceEqDiff, decide_true, decide_false, k_store2, k_loadN2, f_loadN, V, hmin, h2, f_eqP, E]
      exact hr (valA p y) _ _ _ (by omega)
    · rw [if_neg e] at hP
      rw [decide_eq_false e] at E
      simp (disch := omega) only [O38, U38, SS0, SS1, SS2, SS3, tag_eq, List.nil_append, List.append_nil, List.cons_append, Nat.reduceAdd, Nat.reduceSub, Nat.reduceMul, Nat.reduceAnd, Nat.reduceOr, Nat.reducePow, Nat.reduceEqDiff, decide_true, decide_false, k_store2, k_loadN2, f_loadN, V, hmin, h2, f_eqP, E]
      exact ih q (k + 1) (valA p y) _ _ (by omega) (by omega) hv hP (by omega)
include T in
theorem rperiod_run {a b : Nat} (hm : 600 ≤ m) (c : Cyc p) (hb : hget h b0 = some (.cells ro (nats p))) (hbn : b0 < n) (hp : Pt p (a, b)) :
    exec t m 38 [.slice b0 0 p.length 1, .agg [.int .i64 (.ofNat a), .int .i64 (.ofNat b)]] h n kq ke = kq (.int .i64 (.ofNat (perA p (a, b)))) := by
  obtain ⟨m, rfl⟩ : ∃ q, m = q + 1 := ⟨m - 1, by omega⟩
  rw [exec_code T.h38, c38, callCode_eq (by simp)]
  have hm2 : minN (n + 1) n = n := by rw [minN_eq]; omega
  simp (disch := omega) only [O38, U38, SS0, SS1, SS2, SS3, tag_eq, List.nil_append, List.append_nil, List.cons_append, Nat.reduceAdd, Nat.reduceSub, Nat.reduceMul, Nat.reduceAnd, Nat.reduceOr, Nat.reducePow, Nat.reduceEqDiff, decide_true, decide_false, agg_cells, k_store2, k_loadN2, f_loadN, hm2]
  refine c38_go T (x := (a, b)) (P := perA p (a, b)) (by omega) c (by simp (disch := omega) only [hget_ne]; exact hb) (by omega) (by simp (disch := omega) only [hget_same]) (by omega) (by omega) (by omega) (by omega) (by omega)
    (fun y u10 u13 u14 hP => ?_) (fun y u10 u13 u14 hP => ?_) 24 _ 1 (a, b) _ _ (by omega) (by omega) hp rfl (by omega)
  · simp (disch := omega) only [O38, U38, SS0, SS1, SS2, SS3, tag_eq, List.nil_append, List.append_nil, List.cons_append, Nat.reduceAdd, Nat.reduceSub, Nat.reduceMul, Nat.reduceAnd, Nat.reduceOr, Nat.reducePow, Nat.reduceEqDiff, decide_true, decide_false, hP]
  · simp (disch := omega) only [O38, U38, SS0, SS1, SS2, SS3, tag_eq, List.nil_append, List.append_nil, List.cons_append, Nat.reduceAdd, Nat.reduceSub, Nat.reduceMul, Nat.reduceAnd, Nat.reduceOr, Nat.reducePow, Nat.reduceEqDiff, decide_true, decide_false]
end
end Go.Absm.D
