/- Pairs of numbers, and the greatest common divisor. -/
import Derived.Test.YtladlgohahiaeaaM8
import Derived.Test.YtladlgohahiaeaaJ3
set_option linter.unusedSimpArgs false
set_option linter.unusedVariables false
namespace Go.Absm.D
open Go Go.Absm
set_option maxRecDepth 100000
set_option linter.unusedSimpArgs false
set_option maxHeartbeats 2000000
theorem f_negI {k : IntKind} {x : Int} : fUn .neg [.int k x] = .pure (.int k (subI k (.ofNat 0) x)) := rfl
theorem neg_nat {x : Nat} (h : x ≤ 9223372036854775807) : subI .i64 (.ofNat 0) (.ofNat x) = -(.ofNat x) := by
  rw [subI_eq, ← wrapN_eq, wrap_int (by simp only [Int.ofNat_eq_natCast]; omega) (by simp only [Int.ofNat_eq_natCast]; omega)]
  simp only [Int.ofNat_eq_natCast]; omega
theorem max_neg {x : Nat} : max (Int.ofNat x) (-(Int.ofNat x)) = .ofNat x := by simp only [Int.ofNat_eq_natCast]; omega
theorem f_max3 {k : IntKind} {x y z : Int} : fMax [.int k x, .int k y, .int k z] = .pure (.int k (max (max x y) z)) := by
  have e : ∀ (x y : Int), fMax [.int k x, .int k y] = ofO (max2 (.int k x) (.int k y)) := fun x y => by simp only [fMax, fold1]; cases max2 (.int k x) (.int k y) <;> rfl
  have m2 : ∀ (x y : Int), max2 (.int k x) (.int k y) = some (.int k (max x y)) := fun x y => by
    have h := (e x y).symm.trans (f_max (k := k) (x := x) (y := y))
    cases hm : max2 (.int k x) (.int k y) with
    | none => rw [hm] at h; cases h
    | some v => rw [hm] at h; simp only [ofO] at h; rw [Eff.pure.inj h]
  simp only [fMax, fold1, m2, ofO]
theorem agg_cells {x y : Int} : AVal.cells (.agg [.int .i64 x, .int .i64 y]) = [.int .i64 x, .int .i64 y] := (rfl)
theorem k_loadN2 {ro : Bool} {x y : AVal} : kLoadN 2 0 (.cells ro [x, y]) = some (.agg [x, y]) := (rfl)
theorem k_store2 {u v : AVal} {x y : Int} : kStore 2 0 (.agg [.int .i64 x, .int .i64 y]) (.cells false [u, v]) = some (.undef, .cells false [.int .i64 x, .int .i64 y]) := (rfl)
theorem eqDs2 {x y x' y' : Int} : eqD (.agg [(0, none, .i), (1, none, .i)]) (.agg [.int .i64 x, .int .i64 y]) (.agg [.int .i64 x', .int .i64 y']) = some (decide (x = x') && decide (y = y')) := by
  have h : ∀ a b : Int, eqInt (.int .i64 a) (.int .i64 b) = some (decide (a = b)) := fun a b => by
    rw [← eq_int]; rfl
  simp only [eqD, eqDs, partV, nth, h]
  by_cases e : x = x' <;> by_cases e2 : y = y' <;> simp [e, e2]
theorem f_eqP {x y x' y' : Int} : fEqD false (.agg [(0, none, .i), (1, none, .i)]) [.agg [.int .i64 x, .int .i64 y], .agg [.int .i64 x', .int .i64 y']] = .pure (.bool (decide (x = x') && decide (y = y'))) := by
  simp only [fEqD, eqDs2, eqEff]
theorem f_neP {x y x' y' : Int} : fEqD true (.agg [(0, none, .i), (1, none, .i)]) [.agg [.int .i64 x, .int .i64 y], .agg [.int .i64 x', .int .i64 y']] = .pure (.bool (notB (decide (x = x') && decide (y = y')))) := by
  simp only [fEqD, eqDs2, eqEff]
/-- the result that a pair's cells are -/
def resG (o : Option AObj) (off m : Nat) : Option AVal := match o with
  | some (.cells _ cs) => match takeN m (dropN off cs) with
    | some l => some (.agg l)
    | none => none
  | _ => none
def resC (v : AVal) (h : Heap) (m : Nat) : Option AVal := match v with
  | .ptr b off => resG (hget h b) off m
  | _ => none
theorem resOf_cell {vars : List AVal} {h : Heap} {i m : Nat} : resOf vars h (.cell i (some m)) = resC (nthD vars i) h m := (rfl)
theorem resC_ptr {h : Heap} {b off m : Nat} : resC (.ptr b off) h m = resG (hget h b) off m := (rfl)
theorem resG_two {ro : Bool} {x y : AVal} : resG (some (.cells ro [x, y])) 0 2 = some (.agg [x, y]) := (rfl)
theorem mod_half {a b d : Nat} (hb : b < 2 ^ (d + 1)) (ha : 0 < a) (hab : a < b) : b % a < 2 ^ d := by
  have h1 : b % a < a := Nat.mod_lt _ ha
  have h2 : b % a ≤ b - a := by
    rw [Nat.mod_eq_sub_mod (Nat.le_of_lt hab)]; exact Nat.mod_le _ _
  rw [Nat.pow_succ] at hb
  omega
theorem lt_pow63 {b : Nat} (h : b ≤ 9223372036854775807) : b < 2 ^ 63 := Nat.lt_of_le_of_lt h (by decide)
section
variable {t : Nat → Option Entry} (T : Tab t) {m n low : Nat} {h : Heap} {kq : AVal → Ans} {ke : AVal → Heap → Nat → Nat → Ans}
theorem c130_go {F : Nat} {kE : Nat → KV} {kr : KV} {v2 : AVal} {R : Ans} {g : Nat}
    (hk : ∀ u, kE 0 [.int .i64 (.ofNat g), .int .i64 (.ofNat 0), v2, u] h n low = R) :
    ∀ (d q a b : Nat) (u : AVal), b < 2 ^ d → 2 * d + 2 ≤ q → Nat.gcd a b = g → loopN (fun k => den (exec t m) F c130_5 k kE kr) q [.int .i64 (.ofNat a), .int .i64 (.ofNat b), v2, u] h n low = R := by
  intro d
  have stop : ∀ (q a : Nat) (u : AVal), 1 ≤ q → a = g → loopN (fun k => den (exec t m) F c130_5 k kE kr) q [.int .i64 (.ofNat a), .int .i64 (.ofNat 0), v2, u] h n low = R := by
    intro q a u hq ha
    obtain ⟨q, rfl⟩ : ∃ x, q = x + 1 := ⟨q - 1, by omega⟩
    subst ha
    rw [loopN_succ]
    simp (disch := omega) only [O130, U130, SS0, SS1, SS2, SS3, tag_eq, List.nil_append, List.append_nil, List.cons_append, Nat.reduceAdd, Nat.reduceSub, Nat.reduceMul, Nat.reduceAnd, Nat.reduceOr, Nat.reducePow, Nat.reduceEqDiff, decide_true, decide_false]
    exact hk _
  induction d with
  | zero =>
    intro q a b u hb hq hg
    obtain rfl : b = 0 := by simpa using hb
    exact stop q a u (by omega) (by simpa using hg)
  | succ d ih =>
    intro q a b u hb hq hg
    by_cases h0 : b = 0
    · subst h0
      exact stop q a u (by omega) (by simpa using hg)
    · obtain ⟨q, rfl⟩ : ∃ x, q = x + 2 := ⟨q - 2, by omega⟩
      have hb0 : 0 < b := by omega
      have hlt := Nat.mod_lt a hb0
      rw [show q + 2 = q + 1 + 1 from rfl, loopN_succ]
      simp (disch := omega) only [O130, U130, SS0, SS1, SS2, SS3, tag_eq, List.nil_append, List.append_nil, List.cons_append, Nat.reduceAdd, Nat.reduceSub, Nat.reduceMul, Nat.reduceAnd, Nat.reduceOr, Nat.reducePow, Nat.reduceEqDiff, decide_true, decide_false]
      have hg1 : Nat.gcd b (a % b) = g := by rw [← hg, Nat.gcd_comm a b, Nat.gcd_rec b a, Nat.gcd_comm]
      by_cases h1 : a % b = 0
      · rw [h1] at hg1 ⊢
        exact stop (q + 1) b _ (by omega) (by simpa using hg1)
      · have h2 := mod_half hb (Nat.pos_of_ne_zero h1) hlt
        have hg2 : Nat.gcd (a % b) (b % (a % b)) = g := by rw [← hg1, Nat.gcd_comm b, Nat.gcd_rec (a % b) b, Nat.gcd_comm]
        generalize a % b = r at *
        have hr0 : 0 < r := by omega
        rw [loopN_succ]
        simp (disch := omega) only [O130, U130, SS0, SS1, SS2, SS3, tag_eq, List.nil_append, List.append_nil, List.cons_append, Nat.reduceAdd, Nat.reduceSub, Nat.reduceMul, Nat.reduceAnd, Nat.reduceOr, Nat.reducePow, Nat.reduceEqDiff, decide_true, decide_false]
        exact ih q r (b % r) _ h2 (by omega) hg2
theorem c94_go {F : Nat} {kE : Nat → KV} {kr : KV} {v2 : AVal} {R : Ans} {g : Nat}
    (hk : ∀ u, kE 0 [.int .i64 (.ofNat g), .int .i64 (.ofNat 0), v2, u] h n low = R) :
    ∀ (d q a b : Nat) (u : AVal), b < 2 ^ d → 2 * d + 2 ≤ q → Nat.gcd a b = g → loopN (fun k => den (exec t m) F c94_5 k kE kr) q [.int .i64 (.ofNat a), .int .i64 (.ofNat b), v2, u] h n low = R := by
  intro d
  have stop : ∀ (q a : Nat) (u : AVal), 1 ≤ q → a = g → loopN (fun k => den (exec t m) F c94_5 k kE kr) q [.int .i64 (.ofNat a), .int .i64 (.ofNat 0), v2, u] h n low = R := by
    intro q a u hq ha
    obtain ⟨q, rfl⟩ : ∃ x, q = x + 1 := ⟨q - 1, by omega⟩
    subst ha
    rw [loopN_succ]
    simp (disch := omega) only [O94, U94, SS0, SS1, SS2, SS3, tag_eq, List.nil_append, List.append_nil, List.cons_append, Nat.reduceAdd, Nat.reduceSub, Nat.reduceMul, Nat.reduceAnd, Nat.reduceOr, Nat.reducePow, Nat.reduceEqDiff, decide_true, decide_false]
    exact hk _
  induction d with
  | zero =>
    intro q a b u hb hq hg
    obtain rfl : b = 0 := by simpa using hb
    exact stop q a u (by omega) (by simpa using hg)
  | succ d ih =>
    intro q a b u hb hq hg
    by_cases h0 : b = 0
    · subst h0
      exact stop q a u (by omega) (by simpa using hg)
    · obtain ⟨q, rfl⟩ : ∃ x, q = x + 2 := ⟨q - 2, by omega⟩
      have hb0 : 0 < b := by omega
      have hlt := Nat.mod_lt a hb0
      rw [show q + 2 = q + 1 + 1 from rfl, loopN_succ]
      simp (disch := omega) only [O94, U94, SS0, SS1, SS2, SS3, tag_eq, List.nil_append, List.append_nil, List.cons_append, Nat.reduceAdd, Nat.reduceSub, Nat.reduceMul, Nat.reduceAnd, Nat.reduceOr, Nat.reducePow, Nat.reduceEqDiff, decide_true, decide_false]
      have hg1 : Nat.gcd b (a % b) = g := by rw [← hg, Nat.gcd_comm a b, Nat.gcd_rec b a, Nat.gcd_comm]
      by_cases h1 : a % b = 0
      · rw [h1] at hg1 ⊢
        exact stop (q + 1) b _ (by omega) (by simpa using hg1)
      · have h2 := mod_half hb (Nat.pos_of_ne_zero h1) hlt
        have hg2 : Nat.gcd (a % b) (b % (a % b)) = g := by rw [← hg1, Nat.gcd_comm b, Nat.gcd_rec (a % b) b, Nat.gcd_comm]
        generalize a % b = r at *
        have hr0 : 0 < r := by omega
        rw [loopN_succ]
        simp (disch := omega) only [O94, U94, SS0, SS1, SS2, SS3, tag_eq, List.nil_append, List.append_nil, List.cons_append, Nat.reduceAdd, Nat.reduceSub, Nat.reduceMul, Nat.reduceAnd, Nat.reduceOr, Nat.reducePow, Nat.reduceEqDiff, decide_true, decide_false]
        exact ih q r (b % r) _ h2 (by omega) hg2
theorem c40_go {F : Nat} {kE : Nat → KV} {kr : KV} {v0 v1 v2 : AVal} {R : Ans} {g : Nat}
    (hk : ∀ u, kE 0 [v0, v1, v2, .int .i64 (.ofNat g), .int .i64 (.ofNat 0), u] h n low = R) :
    ∀ (d q a b : Nat) (u : AVal), b < 2 ^ d → 2 * d + 2 ≤ q → Nat.gcd a b = g → loopN (fun k => den (exec t m) F c40_7 k kE kr) q [v0, v1, v2, .int .i64 (.ofNat a), .int .i64 (.ofNat b), u] h n low = R := by
  intro d
  have stop : ∀ (q a : Nat) (u : AVal), 1 ≤ q → a = g → loopN (fun k => den (exec t m) F c40_7 k kE kr) q [v0, v1, v2, .int .i64 (.ofNat a), .int .i64 (.ofNat 0), u] h n low = R := by
    intro q a u hq ha
    obtain ⟨q, rfl⟩ : ∃ x, q = x + 1 := ⟨q - 1, by omega⟩
    subst ha
    rw [loopN_succ]
    simp (disch := omega) only [O40, U40, SS0, SS1, SS2, SS3, tag_eq, List.nil_append, List.append_nil, List.cons_append, Nat.reduceAdd, Nat.reduceSub, Nat.reduceMul, Nat.reduceAnd, Nat.reduceOr, Nat.reducePow, Nat.reduceEqDiff, decide_true, decide_false]
    exact hk _
  induction d with
  | zero =>
    intro q a b u hb hq hg
    obtain rfl : b = 0 := by simpa using hb
    exact stop q a u (by omega) (by simpa using hg)
  | succ d ih =>
    intro q a b u hb hq hg
    by_cases h0 : b = 0
    · subst h0
      exact stop q a u (by omega) (by simpa using hg)
    · obtain ⟨q, rfl⟩ : ∃ x, q = x + 2 := ⟨q - 2, by omega⟩
      have hb0 : 0 < b := by omega
      have hlt := Nat.mod_lt a hb0
      rw [show q + 2 = q + 1 + 1 from rfl, loopN_succ]
      simp (disch := omega) only [O40, U40, SS0, SS1, SS2, SS3, tag_eq, List.nil_append, List.append_nil, List.cons_append, Nat.reduceAdd, Nat.reduceSub, Nat.reduceMul, Nat.reduceAnd, Nat.reduceOr, Nat.reducePow, Nat.reduceEqDiff, decide_true, decide_false]
      have hg1 : Nat.gcd b (a % b) = g := by rw [← hg, Nat.gcd_comm a b, Nat.gcd_rec b a, Nat.gcd_comm]
      by_cases h1 : a % b = 0
      · rw [h1] at hg1 ⊢
        exact stop (q + 1) b _ (by omega) (by simpa using hg1)
      · have h2 := mod_half hb (Nat.pos_of_ne_zero h1) hlt
        have hg2 : Nat.gcd (a % b) (b % (a % b)) = g := by rw [← hg1, Nat.gcd_comm b, Nat.gcd_rec (a % b) b, Nat.gcd_comm]
        generalize a % b = r at *
        have hr0 : 0 < r := by omega
        rw [loopN_succ]
        simp (disch := omega) only [O40, U40, SS0, SS1, SS2, SS3, tag_eq, List.nil_append, List.append_nil, List.cons_append, Nat.reduceAdd, Nat.reduceSub, Nat.reduceMul, Nat.reduceAnd, Nat.reduceOr, Nat.reducePow, Nat.reduceEqDiff, decide_true, decide_false]
        exact ih q r (b % r) _ h2 (by omega) hg2
include T in
theorem divisor_run {a b : Nat} (hm : 200 ≤ m) (ha : a ≤ 9223372036854775807) (hb : b ≤ 9223372036854775807) : exec t m 130 [.int .i64 (.ofNat a), .int .i64 (.ofNat b)] h n kq ke = kq (.int .i64 (.ofNat (Nat.gcd a b))) := by
  obtain ⟨m, rfl⟩ : ∃ q, m = q + 1 := ⟨m - 1, by omega⟩
  rw [exec_code T.h130, c130, callCode_eq (by simp)]
  have hg : Nat.gcd a b ≤ 9223372036854775807 := by
    by_cases h0 : b = 0
    · subst h0; simpa using ha
    · exact Nat.le_trans (Nat.le_of_dvd (Nat.pos_of_ne_zero h0) (Nat.gcd_dvd_right a b)) hb
  simp (disch := omega) only [O130, U130, SS0, SS1, SS2, SS3, tag_eq, List.nil_append, List.append_nil, List.cons_append, Nat.reduceAdd, Nat.reduceSub, Nat.reduceMul, Nat.reduceAnd, Nat.reduceOr, Nat.reducePow, Nat.reduceEqDiff, decide_true, decide_false]
  refine c130_go (g := Nat.gcd a b) (fun u => ?_) 63 _ a b _ (lt_pow63 hb) (by omega) rfl
  generalize Nat.gcd a b = g at hg ⊢
  simp (disch := omega) only [O130, U130, SS0, SS1, SS2, SS3, tag_eq, List.nil_append, List.append_nil, List.cons_append, Nat.reduceAdd, Nat.reduceSub, Nat.reduceMul, Nat.reduceAnd, Nat.reduceOr, Nat.reducePow, Nat.reduceEqDiff, decide_true, decide_false, f_negI, neg_nat, max_neg]
include T in
theorem rgcd_run {a b : Nat} (hm : 200 ≤ m) (ha : a ≤ 9223372036854775807) (hb : b ≤ 9223372036854775807) (h0 : 0 < b) : exec t m 94 [.int .i64 (.ofNat a), .int .i64 (.ofNat b)] h n kq ke = kq (.int .i64 (.ofNat (Nat.gcd a b))) := by
  obtain ⟨m, rfl⟩ : ∃ q, m = q + 1 := ⟨m - 1, by omega⟩
  rw [exec_code T.h94, c94, callCode_eq (by simp)]
  have hg : Nat.gcd a b ≤ 9223372036854775807 := Nat.le_trans (Nat.le_of_dvd h0 (Nat.gcd_dvd_right a b)) hb
  have hg0 : 0 < Nat.gcd a b := Nat.gcd_pos_of_pos_right a h0
  simp (disch := omega) only [O94, U94, SS0, SS1, SS2, SS3, tag_eq, List.nil_append, List.append_nil, List.cons_append, Nat.reduceAdd, Nat.reduceSub, Nat.reduceMul, Nat.reduceAnd, Nat.reduceOr, Nat.reducePow, Nat.reduceEqDiff, decide_true, decide_false]
  refine c94_go (g := Nat.gcd a b) (fun u => ?_) 63 _ a b _ (lt_pow63 hb) (by omega) rfl
  generalize Nat.gcd a b = g at hg hg0 ⊢
  have e : max g 1 = g := by omega
  simp (disch := omega) only [O94, U94, SS0, SS1, SS2, SS3, tag_eq, List.nil_append, List.append_nil, List.cons_append, Nat.reduceAdd, Nat.reduceSub, Nat.reduceMul, Nat.reduceAnd, Nat.reduceOr, Nat.reducePow, Nat.reduceEqDiff, decide_true, decide_false, f_negI, neg_nat, max_neg, f_max3, max_nat, e]
include T in
theorem lowest_run {a b : Nat} (hm : 300 ≤ m) (ha : a ≤ 9223372036854775807) (hb : b ≤ 9223372036854775807) (h0 : 0 < b) : exec t m 93 [.int .i64 (.ofNat a), .int .i64 (.ofNat b)] h n kq ke = kq (.agg [.int .i64 (.ofNat (a / Nat.gcd a b)), .int .i64 (.ofNat (b / Nat.gcd a b))]) := by
  obtain ⟨m, rfl⟩ : ∃ q, m = q + 1 := ⟨m - 1, by omega⟩
  rw [exec_code T.h93, c93, callCode_eq (by simp)]
  have hg0 : 0 < Nat.gcd a b := Nat.gcd_pos_of_pos_right a h0
  have A := fun (h : Heap) (n : Nat) (kq : AVal → Ans) (kx : AVal → Heap → Nat → Nat → Ans) => divisor_run T (m := m) (h := h) (n := n) (kq := kq) (ke := kx) (a := a) (b := b) (by omega) ha hb
  generalize Nat.gcd a b = g at hg0 A ⊢
  simp (disch := omega) only [O93, U93, SS0, SS1, SS2, SS3, tag_eq, List.nil_append, List.append_nil, List.cons_append, Nat.reduceAdd, Nat.reduceSub, Nat.reduceMul, Nat.reduceAnd, Nat.reduceOr, Nat.reducePow, Nat.reduceEqDiff, decide_true, decide_false, A, k_store2, k_loadN2, f_loadN, resOf_cell, resC_ptr, resG_two]
include T in
theorem lowest2_run {a b : Nat} (hm : 300 ≤ m) (ha : a ≤ 9223372036854775807) (hb : b ≤ 9223372036854775807) (h0 : 0 < b) : exec t m 40 [.int .i64 (.ofNat a), .int .i64 (.ofNat b)] h n kq ke = kq (.agg [.int .i64 (.ofNat (a / Nat.gcd a b)), .int .i64 (.ofNat (b / Nat.gcd a b))]) := by
  obtain ⟨m, rfl⟩ : ∃ q, m = q + 1 := ⟨m - 1, by omega⟩
  rw [exec_code T.h40, c40, callCode_eq (by simp)]
  have hg0 : 0 < Nat.gcd a b := Nat.gcd_pos_of_pos_right a h0
  simp (disch := omega) only [O40, U40, SS0, SS1, SS2, SS3, tag_eq, List.nil_append, List.append_nil, List.cons_append, Nat.reduceAdd, Nat.reduceSub, Nat.reduceMul, Nat.reduceAnd, Nat.reduceOr, Nat.reducePow, Nat.reduceEqDiff, decide_true, decide_false]
  refine c40_go (g := Nat.gcd a b) (fun u => ?_) 63 _ a b _ (lt_pow63 hb) (by omega) rfl
  generalize Nat.gcd a b = g at hg0 ⊢
  simp (disch := omega) only [O40, U40, SS0, SS1, SS2, SS3, tag_eq, List.nil_append, List.append_nil, List.cons_append, Nat.reduceAdd, Nat.reduceSub, Nat.reduceMul, Nat.reduceAnd, Nat.reduceOr, Nat.reducePow, Nat.reduceEqDiff, decide_true, decide_false, k_store2, k_loadN2, f_loadN, resOf_cell, resC_ptr, resG_two]
end
end Go.Absm.D
