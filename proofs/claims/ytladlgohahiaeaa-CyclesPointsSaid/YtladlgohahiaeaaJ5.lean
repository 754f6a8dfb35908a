/- The value of a cycle's map at a fraction. -/
import Derived.Test.YtladlgohahiaeaaM8
import Derived.Test.YtladlgohahiaeaaJ4
set_option linter.unusedSimpArgs false
set_option linter.unusedVariables false
namespace Go.Absm.D
open Go Go.Absm
set_option maxRecDepth 100000
set_option linter.unusedSimpArgs false
set_option maxHeartbeats 2000000
/-- a fraction of the map, not over the limit -/
structure Pt (p : List Nat) (x : Nat × Nat) : Prop where
  pos : 1 ≤ x.2
  den : x.2 ≤ 1000000
  le : x.1 ≤ (p.length - 1) * x.2
/-- the value's numerator -/
def numA (p : List Nat) (a b : Nat) : Nat := p.getD (a / b) 0 * (b - a % b) + p.getD (a / b + 1) 0 * (a % b)
/-- the value -/
def valA (p : List Nat) (x : Nat × Nat) : Nat × Nat :=
  if x.1 / x.2 = p.length - 1 then (p.getD (x.1 / x.2) 0, 1)
  else (numA p x.1 x.2 / Nat.gcd (numA p x.1 x.2) x.2, x.2 / Nat.gcd (numA p x.1 x.2) x.2)
theorem mul_le7 {x b : Nat} (hx : x ≤ 7) (hb : b ≤ 1000000) : x * b ≤ 7000000 := Nat.mul_le_mul hx hb
theorem num_le {p : List Nat} {a b : Nat} (c : Cyc p) (hi : a / b + 1 < p.length) (hb1 : 1 ≤ b) : numA p a b ≤ (p.length - 1) * b := by
  have h1 := c.lt _ (Nat.lt_of_succ_lt hi)
  have h2 := c.lt _ hi
  have hr := Nat.mod_lt a hb1
  unfold numA
  have e1 : p.getD (a / b) 0 * (b - a % b) ≤ (p.length - 1) * (b - a % b) := Nat.mul_le_mul_right _ (by omega)
  have e2 : p.getD (a / b + 1) 0 * (a % b) ≤ (p.length - 1) * (a % b) := Nat.mul_le_mul_right _ (by omega)
  have e3 : (p.length - 1) * (b - a % b) + (p.length - 1) * (a % b) = (p.length - 1) * b := by rw [← Nat.mul_add]; congr 1; omega
  omega
theorem div_le {p : List Nat} {x : Nat × Nat} (h : Pt p x) : x.1 / x.2 ≤ p.length - 1 := by
  have := Nat.div_le_div_right (c := x.2) h.le
  rwa [Nat.mul_div_cancel _ h.pos] at this
theorem Pt.val {p : List Nat} {x : Nat × Nat} (c : Cyc p) (h : Pt p x) : Pt p (valA p x) := by
  have two := c.two
  have hd := div_le h
  unfold valA
  split
  · rename_i e
    have := c.lt (x.1 / x.2) (by omega)
    exact ⟨Nat.le_refl _, by show 1 ≤ 1000000; omega, by show _ ≤ (p.length - 1) * 1; omega⟩
  · rename_i e
    have hn := num_le c (a := x.1) (b := x.2) (by omega) h.pos
    generalize numA p x.1 x.2 = y at *
    have hg := Nat.gcd_pos_of_pos_right y h.pos
    have d1 := Nat.gcd_dvd_right y x.2
    refine ⟨?_, ?_, ?_⟩
    · exact Nat.div_pos (Nat.le_of_dvd h.pos d1) hg
    · exact Nat.le_trans (Nat.div_le_self _ _) h.den
    · show y / _ ≤ (p.length - 1) * (x.2 / _)
      rw [← Nat.mul_div_assoc _ d1]
      exact Nat.div_le_div_right hn
theorem val_facts {p : List Nat} {a b : Nat} (c : Cyc p) (hb1 : 1 ≤ b) (hb : b ≤ 1000000) (hi : a / b + 1 < p.length) :
    ∃ sl tt : Int, mulI .i64 (.ofNat (p.getD (a / b) 0)) (.ofNat b) = .ofNat (p.getD (a / b) 0 * b) ∧ mulI .i64 (.ofNat (a / b)) (.ofNat b) = .ofNat (a / b * b) ∧
      subI .i64 (.ofNat a) (.ofNat (a / b * b)) = .ofNat (a % b) ∧ subI .i64 (.ofNat (p.getD (a / b + 1) 0)) (.ofNat (p.getD (a / b) 0)) = sl ∧
      mulI .i64 (.ofNat (a % b)) sl = tt ∧ mulI .i64 sl (.ofNat (a % b)) = tt ∧ addI .i64 (.ofNat (p.getD (a / b) 0 * b)) tt = .ofNat (numA p a b) := by
  have h1 := c.lt _ (Nat.lt_of_succ_lt hi)
  have h2 := c.lt _ hi
  have h8 := c.eight
  have hr := Nat.mod_lt a hb1
  have hda := Nat.div_add_mod a b
  unfold numA
  generalize hx : p.getD (a / b) 0 = x at *
  generalize hy : p.getD (a / b + 1) 0 = y at *
  have hab : a / b * b ≤ 7000000 := mul_le7 (by omega) hb
  have e1 : x * b ≤ 7000000 := mul_le7 (by omega) hb
  have e2 : b * (a / b) = a / b * b := Nat.mul_comm _ _
  have e3 : y * (a % b) ≤ 7000000 := mul_le7 (by omega) (by omega)
  have e4 : x * (a % b) ≤ 7000000 := mul_le7 (by omega) (by omega)
  have e5 : x * (b - a % b) + x * (a % b) = x * b := by rw [← Nat.mul_add]; congr 1; omega
  have hP : ((y : Int) - x) * ((a % b : Nat) : Int) = ((y * (a % b) : Nat) : Int) - ((x * (a % b) : Nat) : Int) := by
    rw [Int.sub_mul]; simp only [Int.natCast_mul]
  refine ⟨(y : Int) - x, ((y : Int) - x) * ((a % b : Nat) : Int), mul_nat (by omega), mul_nat (by omega), ?_, ?_, ?_, ?_, ?_⟩
  · rw [sub_nat (by omega) (by omega)]; congr 1; omega
  · rw [subI_eq, ← wrapN_eq, wrap_int (by simp only [Int.ofNat_eq_natCast]; omega) (by simp only [Int.ofNat_eq_natCast]; omega)]; rfl
  · rw [mulI_eq, ← wrapN_eq, Int.mul_comm]
    have : ((y : Int) - x) * Int.ofNat (a % b) = ((y * (a % b) : Nat) : Int) - ((x * (a % b) : Nat) : Int) := hP
    rw [this, hP]
    rw [wrap_int (by omega) (by omega)]
  · rw [mulI_eq, ← wrapN_eq]
    have : ((y : Int) - x) * Int.ofNat (a % b) = ((y * (a % b) : Nat) : Int) - ((x * (a % b) : Nat) : Int) := hP
    rw [this, hP]
    rw [wrap_int (by omega) (by omega)]
  · rw [addI_eq, ← wrapN_eq, hP, wrap_int (by simp only [Int.ofNat_eq_natCast]; omega) (by simp only [Int.ofNat_eq_natCast]; omega)]
    simp only [Int.ofNat_eq_natCast]
    omega
section
variable {t : Nat → Option Entry} (T : Tab t) {m n low b0 : Nat} {ro : Bool} {p : List Nat} {h : Heap} {kq : AVal → Ans} {ke : AVal → Heap → Nat → Nat → Ans}
include T in
theorem value_run {a b : Nat} (hm : 400 ≤ m) (c : Cyc p) (hb : hget h b0 = some (.cells ro (nats p))) (hbn : b0 < n) (hx : Pt p (a, b)) :
    exec t m 103 [.slice b0 0 p.length 1, .agg [.int .i64 (.ofNat a), .int .i64 (.ofNat b)]] h n kq ke = kq (.agg [.int .i64 (.ofNat (valA p (a, b)).1), .int .i64 (.ofNat (valA p (a, b)).2)]) := by
  obtain ⟨m, rfl⟩ : ∃ q, m = q + 1 := ⟨m - 1, by omega⟩
  rw [exec_code T.h103, c103, callCode_eq (by simp)]
  have two := c.two
  have eight := c.eight
  have hd : a / b ≤ p.length - 1 := div_le hx
  have hpos : 1 ≤ b := hx.pos
  have hden : b ≤ 1000000 := hx.den
  have hle : a ≤ (p.length - 1) * b := hx.le
  have hab : (p.length - 1) * b ≤ 7000000 := mul_le7 (by omega) hden
  by_cases hi : a / b = p.length - 1
  · have e : valA p (a, b) = (p.getD (a / b) 0, 1) := by unfold valA; exact if_pos hi
    rw [e]
    simp (disch := omega) only [O103, U103, SS0, SS1, SS2, SS3, tag_eq, List.nil_append, List.append_nil, List.cons_append, Nat.reduceAdd, Nat.reduceSub, Nat.reduceMul, Nat.reduceAnd, Nat.reduceOr, Nat.reducePow, Nat.reduceEqDiff, decide_true, decide_false, agg_cells, k_store2, k_loadN2, f_loadN, resOf_cell, resC_ptr, resG_two, hb]
  · obtain ⟨sl, tt, M1, M2, S1, S2, M3, M4, A⟩ := val_facts c hpos hden (a := a) (b := b) (by omega)
    have hn := num_le c (a := a) (b := b) (by omega) hpos
    have L := fun (h : Heap) (n : Nat) (kq : AVal → Ans) (kx : AVal → Heap → Nat → Nat → Ans) => lowest_run T (m := m) (h := h) (n := n) (kq := kq) (ke := kx) (a := numA p a b) (b := b) (by omega) (by omega) (by omega) (by omega)
    have e : valA p (a, b) = (numA p a b / Nat.gcd (numA p a b) b, b / Nat.gcd (numA p a b) b) := by unfold valA; exact if_neg hi
    rw [e]
    simp (disch := omega) only [O103, U103, SS0, SS1, SS2, SS3, tag_eq, List.nil_append, List.append_nil, List.cons_append, Nat.reduceAdd, Nat.reduceSub, Nat.reduceMul, Nat.reduceAnd, Nat.reduceOr, Nat.reducePow, Nat.reduceEqDiff, decide_true, decide_false, agg_cells, k_store2, k_loadN2, f_loadN, resOf_cell, resC_ptr, resG_two, hb, M1, M2, S1, S2, M3, M4, A, L]
include T in
theorem rvalue_run {a b : Nat} (hm : 400 ≤ m) (c : Cyc p) (hb : hget h b0 = some (.cells ro (nats p))) (hbn : b0 < n) (hx : Pt p (a, b)) :
    exec t m 39 [.slice b0 0 p.length 1, .agg [.int .i64 (.ofNat a), .int .i64 (.ofNat b)]] h n kq ke = kq (.agg [.int .i64 (.ofNat (valA p (a, b)).1), .int .i64 (.ofNat (valA p (a, b)).2)]) := by
  obtain ⟨m, rfl⟩ : ∃ q, m = q + 1 := ⟨m - 1, by omega⟩
  rw [exec_code T.h39, c39, callCode_eq (by simp)]
  have two := c.two
  have eight := c.eight
  have hd : a / b ≤ p.length - 1 := div_le hx
  have hpos : 1 ≤ b := hx.pos
  have hden : b ≤ 1000000 := hx.den
  have hle : a ≤ (p.length - 1) * b := hx.le
  have hab : (p.length - 1) * b ≤ 7000000 := mul_le7 (by omega) hden
  by_cases hi : a / b = p.length - 1
  · have e : valA p (a, b) = (p.getD (a / b) 0, 1) := by unfold valA; exact if_pos hi
    rw [e]
    simp (disch := omega) only [O39, U39, SS0, SS1, SS2, SS3, tag_eq, List.nil_append, List.append_nil, List.cons_append, Nat.reduceAdd, Nat.reduceSub, Nat.reduceMul, Nat.reduceAnd, Nat.reduceOr, Nat.reducePow, Nat.reduceEqDiff, decide_true, decide_false, agg_cells, k_store2, k_loadN2, f_loadN, resOf_cell, resC_ptr, resG_two, hb]
  · obtain ⟨sl, tt, M1, M2, S1, S2, M3, M4, A⟩ := val_facts c hpos hden (a := a) (b := b) (by omega)
    have hn := num_le c (a := a) (b := b) (by omega) hpos
    have L := fun (h : Heap) (n : Nat) (kq : AVal → Ans) (kx : AVal → Heap → Nat → Nat → Ans) => rgcd_run T (m := m) (h := h) (n := n) (kq := kq) (ke := kx) (a := numA p a b) (b := b) (by omega) (by omega) (by omega) (by omega)
    have hg0 := Nat.gcd_pos_of_pos_right (numA p a b) hpos
    have e : valA p (a, b) = (numA p a b / Nat.gcd (numA p a b) b, b / Nat.gcd (numA p a b) b) := by unfold valA; exact if_neg hi
    rw [e]
    simp (disch := omega) only [O39, U39, SS0, SS1, SS2, SS3, tag_eq, List.nil_append, List.append_nil, List.cons_append, Nat.reduceAdd, Nat.reduceSub, Nat.reduceMul, Nat.reduceAnd, Nat.reduceOr, Nat.reducePow, Nat.reduceEqDiff, decide_true, decide_false, agg_cells, k_store2, k_loadN2, f_loadN, resOf_cell, resC_ptr, resG_two, hb, M1, M2, S1, S2, M3, M4, A, L]
end
end Go.Absm.D
