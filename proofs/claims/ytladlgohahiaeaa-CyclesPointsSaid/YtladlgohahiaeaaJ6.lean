/- Points of a cycle's map, and their periods. -/
import Derived.Test.YtladlgohahiaeaaM8
import Derived.Test.YtladlgohahiaeaaJ5
set_option linter.unusedSimpArgs false
set_option linter.unusedVariables false
namespace Go.Absm.D
open Go Go.Absm
set_option maxRecDepth 100000
set_option linter.unusedSimpArgs false
set_option maxHeartbeats 2000000
/-- whether a fraction is one of the map, within its limits, in lowest terms -/
def ptB (p : List Nat) (a b : Int) : Bool := decide (1 ≤ b) && (decide (b ≤ 1000000) && (decide (0 ≤ a) && (decide (a ≤ (((p.length - 1) * b.toNat : Nat) : Int)) && Nat.beq (Nat.gcd a.toNat b.toNat) 1)))
theorem ptB_pt {p : List Nat} {a b : Int} (h : ptB p a b = true) : ∃ x y : Nat, a = .ofNat x ∧ b = .ofNat y ∧ Pt p (x, y) := by
  simp only [ptB, Bool.and_eq_true, decide_eq_true_eq] at h
  obtain ⟨h1, h2, h3, h4, h5⟩ := h
  refine ⟨a.toNat, b.toNat, by simp only [Int.ofNat_eq_natCast]; omega, by simp only [Int.ofNat_eq_natCast]; omega, ?_, ?_, ?_⟩
  · show 1 ≤ b.toNat; omega
  · show b.toNat ≤ 1000000; omega
  · show a.toNat ≤ (p.length - 1) * b.toNat; omega
theorem beq_dec {g k : Nat} : decide (g = k) = Nat.beq g k := by
  by_cases e : g = k
  · subst e; rw [decide_eq_true rfl, Nat.beq_refl]
  · rw [decide_eq_false e, beq_no e]
theorem low_iff {a b g : Nat} (h0 : 0 < b) (hg : 0 < g) (hd : g ∣ b) : (decide (Int.ofNat (a / g) = Int.ofNat a) && decide (Int.ofNat (b / g) = Int.ofNat b)) = Nat.beq g 1 := by
  rw [← beq_dec]
  by_cases e : g = 1
  · subst e; simp
  · rw [decide_eq_false e, Bool.and_eq_false_iff]
    right
    refine decide_eq_false fun h => e ?_
    have h : b / g = b := Int.ofNat.inj h
    obtain ⟨k, hk⟩ := hd
    rw [hk, Nat.mul_div_cancel_left _ hg] at h
    have hk0 : 0 < k := by
      rcases Nat.eq_zero_or_pos k with h | h
      · subst h; omega
      · exact h
    exact Nat.eq_of_mul_eq_mul_right hk0 (by omega : g * k = 1 * k)
section
variable {t : Nat → Option Entry} (T : Tab t) {m n low b0 : Nat} {ro : Bool} {p : List Nat} {h : Heap} {kq : AVal → Ans} {ke : AVal → Heap → Nat → Nat → Ans}
theorem f_fieldA {o b q : Nat} : fFieldAddr o [.ptr b q] = .pure (.ptr b (q + o)) := f_field
include T in
theorem has_run {a b : Int} (hm : 400 ≤ m) (c : Cyc p) : exec t m 102 [.slice b0 0 p.length 1, .agg [.int .i64 a, .int .i64 b]] h n kq ke = kq (.bool (ptB p a b)) := by
  obtain ⟨m, rfl⟩ : ∃ q, m = q + 1 := ⟨m - 1, by omega⟩
  rw [exec_code T.h102, c102, callCode_eq (by simp)]
  have two := c.two
  have eight := c.eight
  by_cases h1 : 1 ≤ b
  · have l1 : ltI b (.ofNat 1) = false := by rw [ltI_eq]; exact decide_eq_false (by simp only [Int.ofNat_eq_natCast]; omega)
    by_cases h2 : b ≤ 1000000
    · have l2 : ltI (.ofNat 1000000) b = false := by rw [ltI_eq]; exact decide_eq_false (by simp only [Int.ofNat_eq_natCast]; omega)
      by_cases h3 : 0 ≤ a
      · have l3 : ltI a (.ofNat 0) = false := by rw [ltI_eq]; exact decide_eq_false (by simp only [Int.ofNat_eq_natCast]; omega)
        obtain ⟨x, rfl⟩ : ∃ x : Nat, a = .ofNat x := ⟨a.toNat, by simp only [Int.ofNat_eq_natCast]; omega⟩
        obtain ⟨y, rfl⟩ : ∃ y : Nat, b = .ofNat y := ⟨b.toNat, by simp only [Int.ofNat_eq_natCast]; omega⟩
        have hy1 : 1 ≤ y := by simp only [Int.ofNat_eq_natCast] at h1; omega
        have hy2 : y ≤ 1000000 := by simp only [Int.ofNat_eq_natCast] at h2; omega
        have hM : (p.length - 1) * y ≤ 7000000 := mul_le7 (by omega) hy2
        have M : mulI .i64 (.ofNat (p.length - 1)) (.ofNat y) = .ofNat ((p.length - 1) * y) := mul_nat (by omega)
        have e : ptB p (.ofNat x) (.ofNat y) = (decide (x ≤ (p.length - 1) * y) && Nat.beq (Nat.gcd x y) 1) := by
          have d1 : decide ((1 : Int) ≤ Int.ofNat y) = true := decide_eq_true (by simp only [Int.ofNat_eq_natCast]; omega)
          have d2 : decide (Int.ofNat y ≤ (1000000 : Int)) = true := decide_eq_true (by simp only [Int.ofNat_eq_natCast]; omega)
          have d3 : decide ((0 : Int) ≤ Int.ofNat x) = true := decide_eq_true (by simp only [Int.ofNat_eq_natCast]; omega)
          have d4 : decide (Int.ofNat x ≤ (((p.length - 1) * y : Nat) : Int)) = decide (x ≤ (p.length - 1) * y) := by
            simp only [Int.ofNat_eq_natCast, Int.ofNat_le]
          simp only [ptB, d1, d2, d3, Bool.true_and]
          show (decide (Int.ofNat x ≤ (((p.length - 1) * y : Nat) : Int)) && Nat.beq (Nat.gcd x y) 1) = _
          rw [d4]
        rw [e]
        by_cases h4 : x ≤ (p.length - 1) * y
        · have L := fun (h : Heap) (n : Nat) (kq : AVal → Ans) (kx : AVal → Heap → Nat → Nat → Ans) => lowest_run T (m := m) (h := h) (n := n) (kq := kq) (ke := kx) (a := x) (b := y) (by omega) (by omega) (by omega) (by omega)
          simp (disch := omega) only [O102, U102, SS0, SS1, SS2, SS3, tag_eq, List.nil_append, List.append_nil, List.cons_append, Nat.reduceAdd, Nat.reduceSub, Nat.reduceMul, Nat.reduceAnd, Nat.reduceOr, Nat.reducePow, Nat.reduceEqDiff, decide_true, decide_false, agg_cells, k_loadN2, f_loadN, l1, l2, l3, M, L, f_eqP]
          rw [low_iff hy1 (Nat.gcd_pos_of_pos_right x hy1) (Nat.gcd_dvd_right x y)]
        · simp (disch := omega) only [O102, U102, SS0, SS1, SS2, SS3, tag_eq, List.nil_append, List.append_nil, List.cons_append, Nat.reduceAdd, Nat.reduceSub, Nat.reduceMul, Nat.reduceAnd, Nat.reduceOr, Nat.reducePow, Nat.reduceEqDiff, decide_true, decide_false, agg_cells, k_loadN2, f_loadN, l1, l2, l3, M]
      · have l3 : ltI a (.ofNat 0) = true := by rw [ltI_eq]; exact decide_eq_true (by simp only [Int.ofNat_eq_natCast]; omega)
        simp (disch := omega) only [O102, U102, SS0, SS1, SS2, SS3, tag_eq, List.nil_append, List.append_nil, List.cons_append, Nat.reduceAdd, Nat.reduceSub, Nat.reduceMul, Nat.reduceAnd, Nat.reduceOr, Nat.reducePow, Nat.reduceEqDiff, decide_true, decide_false, agg_cells, k_loadN2, f_loadN, l1, l2, l3]
        rw [show ptB p a b = false from by simp [ptB, h1, h2, h3]]
    · have l2 : ltI (.ofNat 1000000) b = true := by rw [ltI_eq]; exact decide_eq_true (by simp only [Int.ofNat_eq_natCast]; omega)
      simp (disch := omega) only [O102, U102, SS0, SS1, SS2, SS3, tag_eq, List.nil_append, List.append_nil, List.cons_append, Nat.reduceAdd, Nat.reduceSub, Nat.reduceMul, Nat.reduceAnd, Nat.reduceOr, Nat.reducePow, Nat.reduceEqDiff, decide_true, decide_false, agg_cells, k_loadN2, f_loadN, l1, l2]
      rw [show ptB p a b = false from by simp [ptB, h1, h2]]
  · have l1 : ltI b (.ofNat 1) = true := by rw [ltI_eq]; exact decide_eq_true (by simp only [Int.ofNat_eq_natCast]; omega)
    simp (disch := omega) only [O102, U102, SS0, SS1, SS2, SS3, tag_eq, List.nil_append, List.append_nil, List.cons_append, Nat.reduceAdd, Nat.reduceSub, Nat.reduceMul, Nat.reduceAnd, Nat.reduceOr, Nat.reducePow, Nat.reduceEqDiff, decide_true, decide_false, agg_cells, k_loadN2, f_loadN, l1]
    rw [show ptB p a b = false from by simp [ptB, h1]]
include T in
theorem rpoint_run {a b : Int} (hm : 400 ≤ m) (c : Cyc p) : exec t m 30 [.slice b0 0 p.length 1, .agg [.int .i64 a, .int .i64 b]] h n kq ke = kq (.bool (ptB p a b)) := by
  obtain ⟨m, rfl⟩ : ∃ q, m = q + 1 := ⟨m - 1, by omega⟩
  rw [exec_code T.h30, c30, callCode_eq (by simp)]
  have two := c.two
  have eight := c.eight
  by_cases h1 : 1 ≤ b
  · have l1 : ltI b (.ofNat 1) = false := by rw [ltI_eq]; exact decide_eq_false (by simp only [Int.ofNat_eq_natCast]; omega)
    by_cases h2 : b ≤ 1000000
    · have l2 : ltI (.ofNat 1000000) b = false := by rw [ltI_eq]; exact decide_eq_false (by simp only [Int.ofNat_eq_natCast]; omega)
      by_cases h3 : 0 ≤ a
      · have l3 : ltI a (.ofNat 0) = false := by rw [ltI_eq]; exact decide_eq_false (by simp only [Int.ofNat_eq_natCast]; omega)
        obtain ⟨x, rfl⟩ : ∃ x : Nat, a = .ofNat x := ⟨a.toNat, by simp only [Int.ofNat_eq_natCast]; omega⟩
        obtain ⟨y, rfl⟩ : ∃ y : Nat, b = .ofNat y := ⟨b.toNat, by simp only [Int.ofNat_eq_natCast]; omega⟩
        have hy1 : 1 ≤ y := by simp only [Int.ofNat_eq_natCast] at h1; omega
        have hy2 : y ≤ 1000000 := by simp only [Int.ofNat_eq_natCast] at h2; omega
        have hM : (p.length - 1) * y ≤ 7000000 := mul_le7 (by omega) hy2
        have M : mulI .i64 (.ofNat (p.length - 1)) (.ofNat y) = .ofNat ((p.length - 1) * y) := mul_nat (by omega)
        have e : ptB p (.ofNat x) (.ofNat y) = (decide (x ≤ (p.length - 1) * y) && Nat.beq (Nat.gcd x y) 1) := by
          have d1 : decide ((1 : Int) ≤ Int.ofNat y) = true := decide_eq_true (by simp only [Int.ofNat_eq_natCast]; omega)
          have d2 : decide (Int.ofNat y ≤ (1000000 : Int)) = true := decide_eq_true (by simp only [Int.ofNat_eq_natCast]; omega)
          have d3 : decide ((0 : Int) ≤ Int.ofNat x) = true := decide_eq_true (by simp only [Int.ofNat_eq_natCast]; omega)
          have d4 : decide (Int.ofNat x ≤ (((p.length - 1) * y : Nat) : Int)) = decide (x ≤ (p.length - 1) * y) := by
            simp only [Int.ofNat_eq_natCast, Int.ofNat_le]
          simp only [ptB, d1, d2, d3, Bool.true_and]
          show (decide (Int.ofNat x ≤ (((p.length - 1) * y : Nat) : Int)) && Nat.beq (Nat.gcd x y) 1) = _
          rw [d4]
        rw [e]
        by_cases h4 : x ≤ (p.length - 1) * y
        · have L := fun (h : Heap) (n : Nat) (kq : AVal → Ans) (kx : AVal → Heap → Nat → Nat → Ans) => rgcd_run T (m := m) (h := h) (n := n) (kq := kq) (ke := kx) (a := x) (b := y) (by omega) (by omega) (by omega) (by omega)
          simp (disch := omega) only [O30, U30, SS0, SS1, SS2, SS3, tag_eq, List.nil_append, List.append_nil, List.cons_append, Nat.reduceAdd, Nat.reduceSub, Nat.reduceMul, Nat.reduceAnd, Nat.reduceOr, Nat.reducePow, Nat.reduceEqDiff, decide_true, decide_false, agg_cells, k_loadN2, f_loadN, l1, l2, l3, M, L, f_eqP]
          rw [beq_dec]
        · simp (disch := omega) only [O30, U30, SS0, SS1, SS2, SS3, tag_eq, List.nil_append, List.append_nil, List.cons_append, Nat.reduceAdd, Nat.reduceSub, Nat.reduceMul, Nat.reduceAnd, Nat.reduceOr, Nat.reducePow, Nat.reduceEqDiff, decide_true, decide_false, agg_cells, k_loadN2, f_loadN, l1, l2, l3, M]
      · have l3 : ltI a (.ofNat 0) = true := by rw [ltI_eq]; exact decide_eq_true (by simp only [Int.ofNat_eq_natCast]; omega)
        simp (disch := omega) only [O30, U30, SS0, SS1, SS2, SS3, tag_eq, List.nil_append, List.append_nil, List.cons_append, Nat.reduceAdd, Nat.reduceSub, Nat.reduceMul, Nat.reduceAnd, Nat.reduceOr, Nat.reducePow, Nat.reduceEqDiff, decide_true, decide_false, agg_cells, k_loadN2, f_loadN, l1, l2, l3]
        rw [show ptB p a b = false from by simp [ptB, h1, h2, h3]]
    · have l2 : ltI (.ofNat 1000000) b = true := by rw [ltI_eq]; exact decide_eq_true (by simp only [Int.ofNat_eq_natCast]; omega)
      simp (disch := omega) only [O30, U30, SS0, SS1, SS2, SS3, tag_eq, List.nil_append, List.append_nil, List.cons_append, Nat.reduceAdd, Nat.reduceSub, Nat.reduceMul, Nat.reduceAnd, Nat.reduceOr, Nat.reducePow, Nat.reduceEqDiff, decide_true, decide_false, agg_cells, k_loadN2, f_loadN, l1, l2]
      rw [show ptB p a b = false from by simp [ptB, h1, h2]]
  · have l1 : ltI b (.ofNat 1) = true := by rw [ltI_eq]; exact decide_eq_true (by simp only [Int.ofNat_eq_natCast]; omega)
    simp (disch := omega) only [O30, U30, SS0, SS1, SS2, SS3, tag_eq, List.nil_append, List.append_nil, List.cons_append, Nat.reduceAdd, Nat.reduceSub, Nat.reduceMul, Nat.reduceAnd, Nat.reduceOr, Nat.reducePow, Nat.reduceEqDiff, decide_true, decide_false, agg_cells, k_loadN2, f_loadN, l1]
    rw [show ptB p a b = false from by simp [ptB, h1]]
/-- the error's value -/
theorem prZ : fBuild [.int .i64 (.ofNat 0), .int .i64 (.ofNat 0)] [] [] = .pure (.agg [.int .i64 (.ofNat 0), .int .i64 (.ofNat 0)]) := (rfl)
include T in
theorem Value_bad {a b : Int} (hm : 500 ≤ m) (c : Cyc p) (hb : hget h b0 = some (.cells ro (nats p))) (hbn : b0 < n) (hx : ptB p a b = false) :
    exec t m 36 [.slice b0 0 p.length 1, .agg [.int .i64 a, .int .i64 b]] h n kq ke = kq (.tuple [.agg [.int .i64 (.ofNat 0), .int .i64 (.ofNat 0)], .int .i64 (.ofNat 1)]) := by
  obtain ⟨m, rfl⟩ : ∃ q, m = q + 1 := ⟨m - 1, by omega⟩
  rw [exec_code T.h36, c36, callCode_eq (by simp)]
  have O := fun (h' : Heap) (n' : Nat) (hb : hget h' b0 = some (.cells ro (nats p))) (hbn : b0 < n') (kq : AVal → Ans) (kx : AVal → Heap → Nat → Nat → Ans) => open_run T (m := m) (h := h') (n := n') (kq := kq) (ke := kx) (by omega) c hb hbn
  have H := fun (h : Heap) (n : Nat) (kq : AVal → Ans) (kx : AVal → Heap → Nat → Nat → Ans) => has_run T (b0 := b0) (m := m) (h := h) (n := n) (kq := kq) (ke := kx) (a := a) (b := b) (by omega) c
  rw [hx] at H
  simp (disch := omega) only [O36, U36, SS0, SS1, SS2, SS3, tag_eq, List.nil_append, List.append_nil, List.cons_append, Nat.reduceAdd, Nat.reduceSub, Nat.reduceMul, Nat.reduceAnd, Nat.reduceOr, Nat.reducePow, Nat.reduceEqDiff, decide_true, decide_false, agg_cells, k_store2, k_loadN2, f_loadN, resOf_cell, resC_ptr, resG_two, prZ]
  rw [O _ _ (by simp (disch := omega) only [hget_ne]; exact hb) (by omega)]
  have hm2 : minN (n + 1 + 1) n = n := by rw [minN_eq]; omega
  simp (disch := omega) only [O36, U36, SS0, SS1, SS2, SS3, tag_eq, List.nil_append, List.append_nil, List.cons_append, Nat.reduceAdd, Nat.reduceSub, Nat.reduceMul, Nat.reduceAnd, Nat.reduceOr, Nat.reducePow, Nat.reduceEqDiff, decide_true, decide_false, agg_cells, k_store2, k_loadN2, f_loadN, resOf_cell, resC_ptr, resG_two, prZ, H, hm2]
include T in
theorem Value_run {a b : Nat} (hm : 500 ≤ m) (c : Cyc p) (hb : hget h b0 = some (.cells ro (nats p))) (hbn : b0 < n) (hx : ptB p (.ofNat a) (.ofNat b) = true) :
    exec t m 36 [.slice b0 0 p.length 1, .agg [.int .i64 (.ofNat a), .int .i64 (.ofNat b)]] h n kq ke = kq (.tuple [.agg [.int .i64 (.ofNat (valA p (a, b)).1), .int .i64 (.ofNat (valA p (a, b)).2)], .int .i64 (.ofNat 0)]) := by
  obtain ⟨m, rfl⟩ : ∃ q, m = q + 1 := ⟨m - 1, by omega⟩
  rw [exec_code T.h36, c36, callCode_eq (by simp)]
  have O := fun (h' : Heap) (n' : Nat) (hb : hget h' b0 = some (.cells ro (nats p))) (hbn : b0 < n') (kq : AVal → Ans) (kx : AVal → Heap → Nat → Nat → Ans) => open_run T (m := m) (h := h') (n := n') (kq := kq) (ke := kx) (by omega) c hb hbn
  have H := fun (h : Heap) (n : Nat) (kq : AVal → Ans) (kx : AVal → Heap → Nat → Nat → Ans) => has_run T (b0 := b0) (m := m) (h := h) (n := n) (kq := kq) (ke := kx) (a := .ofNat a) (b := .ofNat b) (by omega) c
  rw [hx] at H
  obtain ⟨x, y, e1, e2, hp⟩ := ptB_pt hx
  obtain rfl := Int.ofNat.inj e1
  obtain rfl := Int.ofNat.inj e2
  simp (disch := omega) only [O36, U36, SS0, SS1, SS2, SS3, tag_eq, List.nil_append, List.append_nil, List.cons_append, Nat.reduceAdd, Nat.reduceSub, Nat.reduceMul, Nat.reduceAnd, Nat.reduceOr, Nat.reducePow, Nat.reduceEqDiff, decide_true, decide_false, agg_cells, k_store2, k_loadN2, f_loadN, resOf_cell, resC_ptr, resG_two, prZ]
  rw [O _ _ (by simp (disch := omega) only [hget_ne]; exact hb) (by omega)]
  have hm2 : minN (n + 1 + 1) n = n := by rw [minN_eq]; omega
  have V := fun (kq : AVal → Ans) (kx : AVal → Heap → Nat → Nat → Ans) => value_run T (b0 := b0) (m := m) (n := n + 1 + 1) (h := (n + 1, .cells false [.int .i64 (.ofNat 0), .int .i64 (.ofNat 0)]) :: (n, .cells false [.int .i64 (.ofNat a), .int .i64 (.ofNat b)]) :: h) (kq := kq) (ke := kx) (by omega) c (by simp (disch := omega) only [hget_ne]; exact hb) (by omega) hp
  simp (disch := omega) only [O36, U36, SS0, SS1, SS2, SS3, tag_eq, List.nil_append, List.append_nil, List.cons_append, Nat.reduceAdd, Nat.reduceSub, Nat.reduceMul, Nat.reduceAnd, Nat.reduceOr, Nat.reducePow, Nat.reduceEqDiff, decide_true, decide_false, agg_cells, k_store2, k_loadN2, f_loadN, resOf_cell, resC_ptr, resG_two, prZ, H, hm2, V]
end
end Go.Absm.D
