/- Words: greatest. -/
import Derived.Test.YtladlgohahiaeaaM8
import Derived.Test.YtladlgohahiaeaaF1
set_option linter.unusedSimpArgs false
set_option linter.unusedVariables false
namespace Go.Absm.D
open Go Go.Absm
set_option maxRecDepth 100000
set_option linter.unusedSimpArgs false
set_option maxHeartbeats 1000000
theorem f_rangeStr {s : List Nat} : fRangeStr [.str s] = .new (.striter s 0) fun n => .ptr n 0 := (rfl)
theorem f_next {b : Nat} : fNextStr [.ptr b 0] = .write b kNext := (rfl)
theorem k_next_some {s : List Nat} {i : Nat} (h : i < s.length) (hc : s.getD i 0 < 128) : kNext (.striter s i) = some (.tuple [.bool true, .int .i64 (.ofNat i), .int .i32 (.ofNat (s.getD i 0))], .striter s (i + 1)) := by
  have : Nat.blt (s.getD i 0) 128 = true := Nat.ble_eq_true_of_le hc
  simp only [kNext, drop_getD h, this]
theorem k_next_none {s : List Nat} {i : Nat} (h : s.length ≤ i) : kNext (.striter s i) = some (.tuple [.bool false], .striter s i) := by
  simp only [kNext, List.drop_eq_nil_of_le h]
theorem f_sliceStr_lo {s : List Nat} {i : Nat} {k : IntKind} (h : i ≤ s.length) : fSliceStr true false [.str s, .int k (.ofNat i)] = .pure (.str (s.drop i)) := by
  simp only [fSliceStr, bounds2, boundOf, cutStr, Nat.ble_eq_true_of_le h, Nat.ble_eq_true_of_le (Nat.le_refl s.length)]
  rw [show Nat.sub s.length i = (s.drop i).length by simp, List.take_length]
theorem f_sliceStr_hi {s : List Nat} {i : Nat} {k : IntKind} (h : i ≤ s.length) : fSliceStr false true [.str s, .int k (.ofNat i)] = .pure (.str (s.take i)) := by
  simp only [fSliceStr, bounds2, boundOf, cutStr, Nat.ble_eq_true_of_le h, Nat.ble_eq_true_of_le (Nat.zero_le i)]
  simp
theorem b_addS {x y : List Nat} (h : x.length + y.length ≤ 9223372036854775807) : fBin .add [.str x, .str y] = .pure (.str (x ++ y)) := by
  have : Nat.ble (Nat.add x.length y.length) 9223372036854775807 = true := Nat.ble_eq_true_of_le h
  simp only [fBin, binS, this, ofO]
/-- a tail with C that is not lower -/
def notLow (w : List Nat) (j : Nat) : Bool := !decide (cmpA (w.drop (j + 1) ++ [67]) (w ++ [67]) true < 0)
def grA (w : List Nat) : Bool := (List.range w.length).all fun j => !(notLow w j)
theorem grA_true {w : List Nat} (h : ∀ j, j < w.length → notLow w j = false) : grA w = true := by
  unfold grA
  rw [List.all_eq_true]
  intro j hj
  rw [h j (List.mem_range.1 hj)]; rfl
theorem grA_false {w : List Nat} {j : Nat} (hj : j < w.length) (h : notLow w j = true) : grA w = false := by
  cases e : grA w with
  | false => rfl
  | true =>
    unfold grA at e
    rw [List.all_eq_true] at e
    have := e j (List.mem_range.2 hj)
    rw [h] at this; cases this
section
variable {t : Nat → Option Entry} (T : Tab t) (T133 : t 133 = some (.both (hookOf letterS) c133)) (T75 : t 75 = some (.code c75)) {m n low : Nat} {h : Heap} {kq : AVal → Ans} {ke : AVal → Heap → Nat → Nat → Ans}
include T in
theorem ended_run {w : List Nat} (hm : 5 ≤ m) (hB : w.length ≤ 1000) : exec t m 96 [.str w] h n kq ke = kq (.str (w ++ [67])) := by
  obtain ⟨m, rfl⟩ : ∃ q, m = q + 1 := ⟨m - 1, by omega⟩
  rw [exec_code T.h96, c96, callCode_eq (by simp)]
  have e : w.length + [67].length ≤ 9223372036854775807 := by simp; omega
  simp (disch := omega) only [O96, U96, SS0, SS1, SS2, SS3, tag_eq, List.nil_append, List.append_nil, List.cons_append, Nat.reduceAdd, Nat.reduceSub, Nat.reduceMul, Nat.reduceAnd, Nat.reduceOr, Nat.reducePow, Nat.reduceEqDiff, decide_true, decide_false, b_addS e]
include T T133 in
theorem c75_go {F c : Nat} {kE : Nat → KV} {kr : KV} {w : List Nat} {R : Ans} (hm : w.length + 30 ≤ m) (hw : LCR w) (hB : w.length ≤ 900)
    (hk : ∀ u2 u4 u5 u6, grA w = true → kE 0 [.str w, .bool false, u2, .ptr c 0, u4, u5, u6] ((c, .striter w w.length) :: h) n c = R)
    (hr : ∀ j u2 u4 u5 u6, grA w = false → kr [.str w, .bool false, u2, .ptr c 0, u4, u5, u6] ((c, .striter w j) :: h) n c = R) :
    ∀ (d q i : Nat) (u2 u4 u5 u6 : AVal), w.length - i = d → i ≤ w.length → (∀ j, j < i → notLow w j = false) → d < q →
    loopN (fun k => den (exec t m) F c75_7 k kE kr) q [.str w, .bool false, u2, .ptr c 0, u4, u5, u6] ((c, .striter w i) :: h) n c = R := by
  intro d
  induction d with
  | zero =>
    intro q i u2 u4 u5 u6 hd hi hj hq
    obtain ⟨q, rfl⟩ : ∃ x, q = x + 1 := ⟨q - 1, by omega⟩
    rw [loopN_succ]
    obtain rfl : i = w.length := by omega
    simp (disch := omega) only [O75, U75, SS0, SS1, SS2, SS3, tag_eq, List.nil_append, List.append_nil, List.cons_append, Nat.reduceAdd, Nat.reduceSub, Nat.reduceMul, Nat.reduceAnd, Nat.reduceOr, Nat.reducePow, Nat.reduceEqDiff, decide_true, decide_false, f_next, k_next_none]
    exact hk _ _ _ _ (grA_true hj)
  | succ d ih =>
    intro q i u2 u4 u5 u6 hd hi hj hq
    obtain ⟨q, rfl⟩ : ∃ x, q = x + 1 := ⟨q - 1, by omega⟩
    rw [loopN_succ]
    have hx := hw.getD (i := i) (by omega)
    have A := fun (kq : AVal → Ans) (kx : AVal → Heap → Nat → Nat → Ans) => ended_run T (m := m) (h := (c, .striter w (i + 1)) :: h) (n := n) (kq := kq) (ke := kx) (w := w) (by omega) (by omega)
    have B := fun (kq : AVal → Ans) (kx : AVal → Heap → Nat → Nat → Ans) => ended_run T (m := m) (h := (c, .striter w (i + 1)) :: h) (n := n) (kq := kq) (ke := kx) (w := w.drop (i + 1)) (by omega) (by simp; omega)
    have D := fun (kq : AVal → Ans) (kx : AVal → Heap → Nat → Nat → Ans) => compare_run T T133 (m := m) (h := (c, .striter w (i + 1)) :: h) (n := n) (kq := kq) (ke := kx) (a := w.drop (i + 1) ++ [67]) (b := w ++ [67]) (by simp; omega) (hw.drop _).ended hw.ended (by simp; omega) (by simp; omega)
    cases e : notLow w i with
    | false =>
      have e' : ltI (cmpA (w.drop (i + 1) ++ [67]) (w ++ [67]) true) (.ofNat 0) = true := by
        rw [ltI_eq]; simpa [notLow] using e
      simp (disch := omega) only [O75, U75, SS0, SS1, SS2, SS3, tag_eq, List.nil_append, List.append_nil, List.cons_append, Nat.reduceAdd, Nat.reduceSub, Nat.reduceMul, Nat.reduceAnd, Nat.reduceOr, Nat.reducePow, Nat.reduceEqDiff, decide_true, decide_false, f_next, k_next_some, f_sliceStr_lo, A, B, D, e']
      exact ih q (i + 1) _ _ _ _ (by omega) (by omega) (fun j hj' => by
        by_cases h' : j = i
        · subst h'; exact e
        · exact hj j (by omega)) (by omega)
    | true =>
      have e' : ltI (cmpA (w.drop (i + 1) ++ [67]) (w ++ [67]) true) (.ofNat 0) = false := by
        rw [ltI_eq]; simpa [notLow] using e
      simp (disch := omega) only [O75, U75, SS0, SS1, SS2, SS3, tag_eq, List.nil_append, List.append_nil, List.cons_append, Nat.reduceAdd, Nat.reduceSub, Nat.reduceMul, Nat.reduceAnd, Nat.reduceOr, Nat.reducePow, Nat.reduceEqDiff, decide_true, decide_false, f_next, k_next_some, f_sliceStr_lo, A, B, D, e']
      exact hr _ _ _ _ _ (grA_false (by omega) e)
include T T133 T75 in
theorem greatest_run {w : List Nat} (hm : w.length + 40 ≤ m) (hw : LCR w) (hB : w.length ≤ 900) : exec t m 75 [.str w] h n kq ke = kq (.bool (grA w)) := by
  obtain ⟨m, rfl⟩ : ∃ q, m = q + 1 := ⟨m - 1, by omega⟩
  rw [exec_code T75, c75, callCode_eq (by simp)]
  simp (disch := omega) only [O75, U75, SS0, SS1, SS2, SS3, tag_eq, List.nil_append, List.append_nil, List.cons_append, Nat.reduceAdd, Nat.reduceSub, Nat.reduceMul, Nat.reduceAnd, Nat.reduceOr, Nat.reducePow, Nat.reduceEqDiff, decide_true, decide_false, f_rangeStr]
  refine c75_go T T133 (by omega) hw hB ?_ ?_ w.length _ 0 _ _ _ _ rfl (by omega) (by omega) (by omega)
  · intro u2 u4 u5 u6 e
    simp (disch := omega) only [O75, U75, SS0, SS1, SS2, SS3, tag_eq, List.nil_append, List.append_nil, List.cons_append, Nat.reduceAdd, Nat.reduceSub, Nat.reduceMul, Nat.reduceAnd, Nat.reduceOr, Nat.reducePow, Nat.reduceEqDiff, decide_true, decide_false, e]
  · intro j u2 u4 u5 u6 e
    simp (disch := omega) only [O75, U75, SS0, SS1, SS2, SS3, tag_eq, List.nil_append, List.append_nil, List.cons_append, Nat.reduceAdd, Nat.reduceSub, Nat.reduceMul, Nat.reduceAnd, Nat.reduceOr, Nat.reducePow, Nat.reduceEqDiff, decide_true, decide_false, e]
end
end Go.Absm.D
