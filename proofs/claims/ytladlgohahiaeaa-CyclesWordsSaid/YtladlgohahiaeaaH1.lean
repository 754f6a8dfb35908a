/- Words: valid, isEnded, Lower, IsGreatest, and the reference's. -/
import Derived.Test.YtladlgohahiaeaaM8
import Derived.Test.YtladlgohahiaeaaF5
set_option linter.unusedSimpArgs false
set_option linter.unusedVariables false
namespace Go.Absm.D
open Go Go.Absm
set_option maxRecDepth 100000
set_option linter.unusedSimpArgs false
set_option maxHeartbeats 1000000
theorem decode_wide {y : ByteArray} {i : Nat} (h : 128 ≤ (y.get! i).toNat) : 128 ≤ (Utf8.decode y i).1 := by
  have h0 : ¬ (y.get! (i + 0)).toNat < 128 := by rw [Nat.add_zero]; omega
  unfold Utf8.decode
  simp only [h0, if_false]
  split
  · split
    · assumption
    · decide
  · split
    · split
      · rename_i h'; rw [Bool.and_eq_true, decide_eq_true_eq] at h'; exact Nat.le_trans (by decide) h'.1
      · decide
    · split
      · split
        · rename_i h'; rw [Bool.and_eq_true, decide_eq_true_eq] at h'; exact Nat.le_trans (by decide) h'.1
        · decide
      · decide
/-- bytes -/
def By (a : List Nat) : Prop := ∀ c ∈ a, c < 256
theorem By.take {a : List Nat} (h : By a) (i : Nat) : By (a.take i) := fun c hc => h c (List.mem_of_mem_take hc)
theorem By.getD {a : List Nat} (h : By a) {i : Nat} (hi : i < a.length) : a.getD i 0 < 256 := by
  rw [List.getD_eq_getElem?_getD, List.getElem?_eq_getElem hi]
  exact h _ (List.getElem_mem hi)
theorem LCR.by' {a : List Nat} (h : LCR a) : By a := fun c hc => by rcases h c hc with h | h | h <;> omega
theorem k_next_wide {s : List Nat} {i : Nat} (h : i < s.length) (h1 : 128 ≤ s.getD i 0) (h2 : By s) :
    ∃ c w, kNext (.striter s i) = some (.tuple [.bool true, .int .i64 (.ofNat i), .int .i32 (.ofNat c)], .striter s w) ∧ 128 ≤ c := by
  have hb : Nat.blt (s.getD i 0) 128 = false := by
    cases e : Nat.blt (s.getD i 0) 128 with
    | false => rfl
    | true => have := Nat.le_of_ble_eq_true e; omega
  refine ⟨_, _, by simp only [kNext, drop_getD h, hb, nextWide]; rfl, ?_⟩
  refine decode_wide ?_
  have e : ByteArray.get! ⟨(s.map UInt8.ofNat).toArray⟩ i = UInt8.ofNat (s.getD i 0) := by
    show (s.map UInt8.ofNat).toArray[i]! = _
    rw [getElem!_pos _ i (by simpa using h)]
    simp only [List.getElem_toArray, List.getElem_map]
    rw [List.getD_eq_getElem?_getD, List.getElem?_eq_getElem h]; rfl
  rw [e]
  have := h2.getD h
  simp only [UInt8.toNat_ofNat']
  omega
/-- the letters are L and R alone -/
def lrA (s : List Nat) : Bool := s.all fun c => c == 76 || c == 82
/-- a word -/
def wordA (s : List Nat) : Bool := lrA s && decide (s.length ≤ 11)
def wordCA (s : List Nat) : Bool := decide (0 < s.length) && (decide (s.getD (s.length - 1) 0 = 67) && wordA (s.take (s.length - 1)))
theorem lrA_true {s : List Nat} (h : ∀ j, j < s.length → s.getD j 0 = 76 ∨ s.getD j 0 = 82) : lrA s = true := by
  unfold lrA
  rw [List.all_eq_true]
  intro c hc
  obtain ⟨j, hj, rfl⟩ := List.getElem_of_mem hc
  have := h j hj
  rw [List.getD_eq_getElem?_getD, List.getElem?_eq_getElem hj] at this
  simpa using this
theorem lrA_LR {s : List Nat} (h : lrA s = true) : LR s := fun c hc => by
  unfold lrA at h
  rw [List.all_eq_true] at h
  simpa using h c hc
theorem lrA_false {s : List Nat} {j : Nat} (hj : j < s.length) (h : ¬ (s.getD j 0 = 76 ∨ s.getD j 0 = 82)) : lrA s = false := by
  cases e : lrA s with
  | false => rfl
  | true =>
    exfalso; apply h
    rw [List.getD_eq_getElem?_getD, List.getElem?_eq_getElem hj]
    exact lrA_LR e _ (List.getElem_mem hj)
section
variable {t : Nat → Option Entry} (T : Tab t) {m n low : Nat} {h : Heap} {kq : AVal → Ans} {ke : AVal → Heap → Nat → Nat → Ans}
theorem c95_go {F c : Nat} {kE : Nat → KV} {kr : KV} {w : List Nat} {R : Ans} (hw : By w) (hB : w.length ≤ 9000)
    (hk : ∀ u2 u4 u5 u6, lrA w = true → kE 0 [.str w, .bool false, u2, .ptr c 0, u4, u5, u6] ((c, .striter w w.length) :: h) n c = R)
    (hr : ∀ j u2 u4 u5 u6, lrA w = false → kr [.str w, .bool false, u2, .ptr c 0, u4, u5, u6] ((c, .striter w j) :: h) n c = R) :
    ∀ (d q i : Nat) (u2 u4 u5 u6 : AVal), w.length - i = d → i ≤ w.length → (∀ j, j < i → w.getD j 0 = 76 ∨ w.getD j 0 = 82) → d < q →
    loopN (fun k => den (exec t m) F c95_7 k kE kr) q [.str w, .bool false, u2, .ptr c 0, u4, u5, u6] ((c, .striter w i) :: h) n c = R := by
  intro d
  induction d with
  | zero =>
    intro q i u2 u4 u5 u6 hd hi hj hq
    obtain ⟨q, rfl⟩ : ∃ x, q = x + 1 := ⟨q - 1, by omega⟩
    rw [loopN_succ]
    obtain rfl : i = w.length := by omega
    simp (disch := omega) only [O95, U95, SS0, SS1, SS2, SS3, tag_eq, List.nil_append, List.append_nil, List.cons_append, Nat.reduceAdd, Nat.reduceSub, Nat.reduceMul, Nat.reduceAnd, Nat.reduceOr, Nat.reducePow, Nat.reduceEqDiff, decide_true, decide_false, f_next, k_next_none]
    exact hk _ _ _ _ (lrA_true hj)
  | succ d ih =>
    intro q i u2 u4 u5 u6 hd hi hj hq
    obtain ⟨q, rfl⟩ : ∃ x, q = x + 1 := ⟨q - 1, by omega⟩
    rw [loopN_succ]
    have hiw : i < w.length := by omega
    by_cases hx : w.getD i 0 = 76 ∨ w.getD i 0 = 82
    · have go := fun u2 u4 u5 u6 => ih q (i + 1) u2 u4 u5 u6 (by omega) (by omega) (fun j hj' => by
        by_cases h' : j = i
        · subst h'; exact hx
        · exact hj j (by omega)) (by omega)
      rcases hx with hx | hx
      · simp (disch := omega) only [O95, U95, SS0, SS1, SS2, SS3, tag_eq, List.nil_append, List.append_nil, List.cons_append, Nat.reduceAdd, Nat.reduceSub, Nat.reduceMul, Nat.reduceAnd, Nat.reduceOr, Nat.reducePow, Nat.reduceEqDiff, decide_true, decide_false, f_next, k_next_some, hx]
        exact go _ _ _ _
      · simp (disch := omega) only [O95, U95, SS0, SS1, SS2, SS3, tag_eq, List.nil_append, List.append_nil, List.cons_append, Nat.reduceAdd, Nat.reduceSub, Nat.reduceMul, Nat.reduceAnd, Nat.reduceOr, Nat.reducePow, Nat.reduceEqDiff, decide_true, decide_false, f_next, k_next_some, hx]
        exact go _ _ _ _
    · by_cases hc : w.getD i 0 < 128
      · simp (disch := omega) only [O95, U95, SS0, SS1, SS2, SS3, tag_eq, List.nil_append, List.append_nil, List.cons_append, Nat.reduceAdd, Nat.reduceSub, Nat.reduceMul, Nat.reduceAnd, Nat.reduceOr, Nat.reducePow, Nat.reduceEqDiff, decide_true, decide_false, f_next, k_next_some]
        exact hr _ _ _ _ _ (lrA_false hiw hx)
      · obtain ⟨c', j', e, h'⟩ := k_next_wide hiw (by omega) hw
        simp (disch := omega) only [O95, U95, SS0, SS1, SS2, SS3, tag_eq, List.nil_append, List.append_nil, List.cons_append, Nat.reduceAdd, Nat.reduceSub, Nat.reduceMul, Nat.reduceAnd, Nat.reduceOr, Nat.reducePow, Nat.reduceEqDiff, decide_true, decide_false, f_next, e]
        exact hr _ _ _ _ _ (lrA_false hiw hx)
include T in
theorem valid_run {w : List Nat} (hm : w.length + 20 ≤ m) (hw : By w) (hB : w.length ≤ 9000) : exec t m 95 [.str w] h n kq ke = kq (.bool (wordA w)) := by
  obtain ⟨m, rfl⟩ : ∃ q, m = q + 1 := ⟨m - 1, by omega⟩
  rw [exec_code T.h95, c95, callCode_eq (by simp)]
  simp (disch := omega) only [O95, U95, SS0, SS1, SS2, SS3, tag_eq, List.nil_append, List.append_nil, List.cons_append, Nat.reduceAdd, Nat.reduceSub, Nat.reduceMul, Nat.reduceAnd, Nat.reduceOr, Nat.reducePow, Nat.reduceEqDiff, decide_true, decide_false, f_rangeStr]
  refine c95_go hw hB ?_ ?_ w.length _ 0 _ _ _ _ rfl (by omega) (by omega) (by omega)
  · intro u2 u4 u5 u6 e
    by_cases hl : w.length ≤ 11
    · simp (disch := omega) only [O95, U95, SS0, SS1, SS2, SS3, tag_eq, List.nil_append, List.append_nil, List.cons_append, Nat.reduceAdd, Nat.reduceSub, Nat.reduceMul, Nat.reduceAnd, Nat.reduceOr, Nat.reducePow, Nat.reduceEqDiff, decide_true, decide_false]
      simp only [wordA, e, hl]; rfl
    · simp (disch := omega) only [O95, U95, SS0, SS1, SS2, SS3, tag_eq, List.nil_append, List.append_nil, List.cons_append, Nat.reduceAdd, Nat.reduceSub, Nat.reduceMul, Nat.reduceAnd, Nat.reduceOr, Nat.reducePow, Nat.reduceEqDiff, decide_true, decide_false]
      simp only [wordA, e, hl]; rfl
  · intro j u2 u4 u5 u6 e
    simp (disch := omega) only [O95, U95, SS0, SS1, SS2, SS3, tag_eq, List.nil_append, List.append_nil, List.cons_append, Nat.reduceAdd, Nat.reduceSub, Nat.reduceMul, Nat.reduceAnd, Nat.reduceOr, Nat.reducePow, Nat.reduceEqDiff, decide_true, decide_false]
    simp only [wordA, e]; rfl
theorem By.cut {w : List Nat} (h : By w) : By (w.take (w.length - 1)) := h.take _
include T in
theorem isEnded_run {w : List Nat} (hm : w.length + 30 ≤ m) (hw : By w) (hB : w.length ≤ 9000) : exec t m 101 [.str w] h n kq ke = kq (.bool (wordCA w)) := by
  obtain ⟨m, rfl⟩ : ∃ q, m = q + 1 := ⟨m - 1, by omega⟩
  rw [exec_code T.h101, c101, callCode_eq (by simp)]
  have A := fun (kq : AVal → Ans) (kx : AVal → Heap → Nat → Nat → Ans) => valid_run T (m := m) (h := h) (n := n) (kq := kq) (ke := kx) (w := w.take (w.length - 1)) (by simp; omega) hw.cut (by simp; omega)
  by_cases h0 : 0 < w.length
  · by_cases h1 : w.getD (w.length - 1) 0 = 67
    · simp (disch := omega) only [O101, U101, SS0, SS1, SS2, SS3, tag_eq, List.nil_append, List.append_nil, List.cons_append, Nat.reduceAdd, Nat.reduceSub, Nat.reduceMul, Nat.reduceAnd, Nat.reduceOr, Nat.reducePow, Nat.reduceEqDiff, decide_true, decide_false, f_indexStr, f_sliceStr_hi, A]
      simp only [wordCA, h0, h1, decide_true, Bool.true_and]
    · simp (disch := omega) only [O101, U101, SS0, SS1, SS2, SS3, tag_eq, List.nil_append, List.append_nil, List.cons_append, Nat.reduceAdd, Nat.reduceSub, Nat.reduceMul, Nat.reduceAnd, Nat.reduceOr, Nat.reducePow, Nat.reduceEqDiff, decide_true, decide_false, f_indexStr, f_sliceStr_hi, A]
      simp only [wordCA, h0, h1, decide_true, decide_false, Bool.true_and, Bool.false_and]
  · simp (disch := omega) only [O101, U101, SS0, SS1, SS2, SS3, tag_eq, List.nil_append, List.append_nil, List.cons_append, Nat.reduceAdd, Nat.reduceSub, Nat.reduceMul, Nat.reduceAnd, Nat.reduceOr, Nat.reducePow, Nat.reduceEqDiff, decide_true, decide_false, f_indexStr, f_sliceStr_hi, A]
    simp only [wordCA, h0, decide_false, Bool.false_and]
theorem wordCA_LCR {w : List Nat} (h : wordCA w = true) : LCR w ∧ w.length ≤ 12 := by
  simp only [wordCA, wordA, Bool.and_eq_true, decide_eq_true_eq] at h
  obtain ⟨h0, h1, h2, h3⟩ := h
  have h4 := lrA_LR h2
  refine ⟨fun c hc => ?_, by simp at h3; omega⟩
  have e : w = w.take (w.length - 1) ++ [67] := by
    rw [← h1, List.getD_eq_getElem?_getD, List.getElem?_eq_getElem (by omega : w.length - 1 < w.length)]
    simp only [Option.getD_some]
    have := List.take_add_one (l := w) (i := w.length - 1)
    rw [show w.length - 1 + 1 = w.length by omega, List.take_length, List.getElem?_eq_getElem (by omega : w.length - 1 < w.length)] at this
    exact this
  rw [e] at hc
  rcases List.mem_append.1 hc with h' | h'
  · rcases h4 c h' with h' | h' <;> simp [h']
  · simp at h'; exact .inr (.inl h')
theorem wordA_LR {w : List Nat} (h : wordA w = true) : LR w ∧ w.length ≤ 11 := by
  simp only [wordA, Bool.and_eq_true, decide_eq_true_eq] at h
  exact ⟨lrA_LR h.1, h.2⟩
variable (T133 : t 133 = some (.both (hookOf letterS) c133)) (T75 : t 75 = some (.code c75))
/-- what Lower gives -/
def lowA (a b : List Nat) : AVal := match wordCA a && wordCA b with
  | true => .tuple [.bool (decide (cmpA a b true < 0)), .int .i64 (.ofNat 0)]
  | false => .tuple [.bool false, .int .i64 (.ofNat 1)]
include T T133 in
theorem lower_run {a b : List Nat} (hm : a.length + b.length + 80 ≤ m) (ha : By a) (hb : By b) (hB : a.length ≤ 9000) (hB2 : b.length ≤ 9000) : exec t m 35 [.str a, .str b] h n kq ke = kq (lowA a b) := by
  obtain ⟨m, rfl⟩ : ∃ q, m = q + 1 := ⟨m - 1, by omega⟩
  rw [exec_code T.h35, c35, callCode_eq (by simp)]
  have A := fun (kq : AVal → Ans) (kx : AVal → Heap → Nat → Nat → Ans) => isEnded_run T (m := m) (h := h) (n := n) (kq := kq) (ke := kx) (w := a) (by omega) ha hB
  have B := fun (kq : AVal → Ans) (kx : AVal → Heap → Nat → Nat → Ans) => isEnded_run T (m := m) (h := h) (n := n) (kq := kq) (ke := kx) (w := b) (by omega) hb hB2
  cases ea : wordCA a with
  | false =>
    rw [ea] at A
    simp (disch := omega) only [O35, U35, SS0, SS1, SS2, SS3, tag_eq, List.nil_append, List.append_nil, List.cons_append, Nat.reduceAdd, Nat.reduceSub, Nat.reduceMul, Nat.reduceAnd, Nat.reduceOr, Nat.reducePow, Nat.reduceEqDiff, decide_true, decide_false, A, lowA, ea]
  | true =>
    rw [ea] at A
    cases eb : wordCA b with
    | false =>
      rw [eb] at B
      simp (disch := omega) only [O35, U35, SS0, SS1, SS2, SS3, tag_eq, List.nil_append, List.append_nil, List.cons_append, Nat.reduceAdd, Nat.reduceSub, Nat.reduceMul, Nat.reduceAnd, Nat.reduceOr, Nat.reducePow, Nat.reduceEqDiff, decide_true, decide_false, A, B, lowA, ea, eb]
    | true =>
      rw [eb] at B
      have ⟨a1, a2⟩ := wordCA_LCR ea
      have ⟨b1, b2⟩ := wordCA_LCR eb
      have D := fun (kq : AVal → Ans) (kx : AVal → Heap → Nat → Nat → Ans) => compare_run T T133 (m := m) (h := h) (n := n) (kq := kq) (ke := kx) (a := a) (b := b) (by omega) a1 b1 (by omega) (by omega)
      simp (disch := omega) only [O35, U35, SS0, SS1, SS2, SS3, tag_eq, List.nil_append, List.append_nil, List.cons_append, Nat.reduceAdd, Nat.reduceSub, Nat.reduceMul, Nat.reduceAnd, Nat.reduceOr, Nat.reducePow, Nat.reduceEqDiff, decide_true, decide_false, A, B, D, lowA, ea, eb, ltI_eq]
      rfl
def isGrA (w : List Nat) : AVal := match wordA w with
  | true => .tuple [.bool (grA w), .int .i64 (.ofNat 0)]
  | false => .tuple [.bool false, .int .i64 (.ofNat 1)]
include T T133 T75 in
theorem isGr_run {w : List Nat} (hm : w.length + 80 ≤ m) (hw : By w) (hB : w.length ≤ 9000) : exec t m 47 [.str w] h n kq ke = kq (isGrA w) := by
  obtain ⟨m, rfl⟩ : ∃ q, m = q + 1 := ⟨m - 1, by omega⟩
  rw [exec_code T.h47, c47, callCode_eq (by simp)]
  have A := fun (kq : AVal → Ans) (kx : AVal → Heap → Nat → Nat → Ans) => valid_run T (m := m) (h := h) (n := n) (kq := kq) (ke := kx) (w := w) (by omega) hw hB
  cases e : wordA w with
  | false =>
    rw [e] at A
    simp (disch := omega) only [O47, U47, SS0, SS1, SS2, SS3, tag_eq, List.nil_append, List.append_nil, List.cons_append, Nat.reduceAdd, Nat.reduceSub, Nat.reduceMul, Nat.reduceAnd, Nat.reduceOr, Nat.reducePow, Nat.reduceEqDiff, decide_true, decide_false, A, isGrA, e]
  | true =>
    rw [e] at A
    have ⟨a1, a2⟩ := wordA_LR e
    have D := fun (kq : AVal → Ans) (kx : AVal → Heap → Nat → Nat → Ans) => greatest_run T T133 T75 (m := m) (h := h) (n := n) (kq := kq) (ke := kx) (w := w) (by omega) a1.lcr (by omega)
    simp (disch := omega) only [O47, U47, SS0, SS1, SS2, SS3, tag_eq, List.nil_append, List.append_nil, List.cons_append, Nat.reduceAdd, Nat.reduceSub, Nat.reduceMul, Nat.reduceAnd, Nat.reduceOr, Nat.reducePow, Nat.reduceEqDiff, decide_true, decide_false, A, D, isGrA, e]
theorem c48_go {F : Nat} {kE : Nat → KV} {kr : KV} {w : List Nat} {R : Ans} (hB : w.length ≤ 9000)
    (hk : ∀ u2 u3 u4, lrA w = true → kE 0 [.str w, .bool false, u2, u3, u4] h n low = R)
    (hr : ∀ u2 u3 u4, lrA w = false → kr [.str w, .bool false, u2, u3, u4] h n low = R) :
    ∀ (d q i : Nat) (u3 u4 : AVal), w.length - i = d → i ≤ w.length → (∀ j, j < i → w.getD j 0 = 76 ∨ w.getD j 0 = 82) → d < q →
    loopN (fun k => den (exec t m) F c48_7 k kE kr) q [.str w, .bool false, .int .i64 (.ofNat i), u3, u4] h n low = R := by
  intro d
  induction d with
  | zero =>
    intro q i u3 u4 hd hi hj hq
    obtain ⟨q, rfl⟩ : ∃ x, q = x + 1 := ⟨q - 1, by omega⟩
    rw [loopN_succ]
    obtain rfl : i = w.length := by omega
    simp (disch := omega) only [O48, U48, SS0, SS1, SS2, SS3, tag_eq, List.nil_append, List.append_nil, List.cons_append, Nat.reduceAdd, Nat.reduceSub, Nat.reduceMul, Nat.reduceAnd, Nat.reduceOr, Nat.reducePow, Nat.reduceEqDiff, decide_true, decide_false]
    exact hk _ _ _ (lrA_true hj)
  | succ d ih =>
    intro q i u3 u4 hd hi hj hq
    obtain ⟨q, rfl⟩ : ∃ x, q = x + 1 := ⟨q - 1, by omega⟩
    rw [loopN_succ]
    have hiw : i < w.length := by omega
    by_cases hx : w.getD i 0 = 76 ∨ w.getD i 0 = 82
    · have go := fun u3 u4 => ih q (i + 1) u3 u4 (by omega) (by omega) (fun j hj' => by
        by_cases h' : j = i
        · subst h'; exact hx
        · exact hj j (by omega)) (by omega)
      rcases hx with hx | hx
      · simp (disch := omega) only [O48, U48, SS0, SS1, SS2, SS3, tag_eq, List.nil_append, List.append_nil, List.cons_append, Nat.reduceAdd, Nat.reduceSub, Nat.reduceMul, Nat.reduceAnd, Nat.reduceOr, Nat.reducePow, Nat.reduceEqDiff, decide_true, decide_false, f_indexStr, hx]
        exact go _ _
      · simp (disch := omega) only [O48, U48, SS0, SS1, SS2, SS3, tag_eq, List.nil_append, List.append_nil, List.cons_append, Nat.reduceAdd, Nat.reduceSub, Nat.reduceMul, Nat.reduceAnd, Nat.reduceOr, Nat.reducePow, Nat.reduceEqDiff, decide_true, decide_false, f_indexStr, hx]
        exact go _ _
    · simp (disch := omega) only [O48, U48, SS0, SS1, SS2, SS3, tag_eq, List.nil_append, List.append_nil, List.cons_append, Nat.reduceAdd, Nat.reduceSub, Nat.reduceMul, Nat.reduceAnd, Nat.reduceOr, Nat.reducePow, Nat.reduceEqDiff, decide_true, decide_false, f_indexStr]
      exact hr _ _ _ (lrA_false hiw hx)
include T in
theorem rword_run {w : List Nat} (hm : w.length + 20 ≤ m) (hB : w.length ≤ 9000) : exec t m 48 [.str w] h n kq ke = kq (.bool (wordA w)) := by
  obtain ⟨m, rfl⟩ : ∃ q, m = q + 1 := ⟨m - 1, by omega⟩
  rw [exec_code T.h48, c48, callCode_eq (by simp)]
  simp (disch := omega) only [O48, U48, SS0, SS1, SS2, SS3, tag_eq, List.nil_append, List.append_nil, List.cons_append, Nat.reduceAdd, Nat.reduceSub, Nat.reduceMul, Nat.reduceAnd, Nat.reduceOr, Nat.reducePow, Nat.reduceEqDiff, decide_true, decide_false]
  refine c48_go hB ?_ ?_ w.length _ 0 _ _ (by omega) (by omega) (by omega) (by omega)
  · intro u2 u3 u4 e
    by_cases hl : w.length ≤ 11
    · simp (disch := omega) only [O48, U48, SS0, SS1, SS2, SS3, tag_eq, List.nil_append, List.append_nil, List.cons_append, Nat.reduceAdd, Nat.reduceSub, Nat.reduceMul, Nat.reduceAnd, Nat.reduceOr, Nat.reducePow, Nat.reduceEqDiff, decide_true, decide_false]
      simp only [wordA, e, hl]; rfl
    · simp (disch := omega) only [O48, U48, SS0, SS1, SS2, SS3, tag_eq, List.nil_append, List.append_nil, List.cons_append, Nat.reduceAdd, Nat.reduceSub, Nat.reduceMul, Nat.reduceAnd, Nat.reduceOr, Nat.reducePow, Nat.reduceEqDiff, decide_true, decide_false]
      simp only [wordA, e, hl]; rfl
  · intro u2 u3 u4 e
    simp (disch := omega) only [O48, U48, SS0, SS1, SS2, SS3, tag_eq, List.nil_append, List.append_nil, List.cons_append, Nat.reduceAdd, Nat.reduceSub, Nat.reduceMul, Nat.reduceAnd, Nat.reduceOr, Nat.reducePow, Nat.reduceEqDiff, decide_true, decide_false]
    simp only [wordA, e]; rfl
include T in
theorem rwordC_run {w : List Nat} (hm : w.length + 30 ≤ m) (hB : w.length ≤ 9000) : exec t m 45 [.str w] h n kq ke = kq (.bool (wordCA w)) := by
  obtain ⟨m, rfl⟩ : ∃ q, m = q + 1 := ⟨m - 1, by omega⟩
  rw [exec_code T.h45, c45, callCode_eq (by simp)]
  have A := fun (kq : AVal → Ans) (kx : AVal → Heap → Nat → Nat → Ans) => rword_run T (m := m) (h := h) (n := n) (kq := kq) (ke := kx) (w := w.take (w.length - 1)) (by simp; omega) (by simp; omega)
  by_cases h0 : 0 < w.length
  · by_cases h1 : w.getD (w.length - 1) 0 = 67
    · simp (disch := omega) only [O45, U45, SS0, SS1, SS2, SS3, tag_eq, List.nil_append, List.append_nil, List.cons_append, Nat.reduceAdd, Nat.reduceSub, Nat.reduceMul, Nat.reduceAnd, Nat.reduceOr, Nat.reducePow, Nat.reduceEqDiff, decide_true, decide_false, f_indexStr, f_sliceStr_hi, A]
      simp only [wordCA, h0, h1, decide_true, Bool.true_and]
    · simp (disch := omega) only [O45, U45, SS0, SS1, SS2, SS3, tag_eq, List.nil_append, List.append_nil, List.cons_append, Nat.reduceAdd, Nat.reduceSub, Nat.reduceMul, Nat.reduceAnd, Nat.reduceOr, Nat.reducePow, Nat.reduceEqDiff, decide_true, decide_false, f_indexStr, f_sliceStr_hi, A]
      simp only [wordCA, h0, h1, decide_true, decide_false, Bool.true_and, Bool.false_and]
  · simp (disch := omega) only [O45, U45, SS0, SS1, SS2, SS3, tag_eq, List.nil_append, List.append_nil, List.cons_append, Nat.reduceAdd, Nat.reduceSub, Nat.reduceMul, Nat.reduceAnd, Nat.reduceOr, Nat.reducePow, Nat.reduceEqDiff, decide_true, decide_false, f_indexStr, f_sliceStr_hi, A]
    simp only [wordCA, h0, decide_false, Bool.false_and]
/-- letters: what it makes of a text -/
def letA (x : Nat) : Nat := if x % 2 = 0 then 76 else 82
def lettersA (s : List Nat) : List Nat := (s.take 11).map letA
def u8s (l : List Nat) : List AVal := l.map fun x => .int .u8 (.ofNat x)
theorem u8s_len {l : List Nat} : (u8s l).length = l.length := by simp [u8s]
theorem bytesOf_u8s : ∀ {l : List Nat}, LR l → bytesOf (u8s l) = some l := by
  intro l
  induction l with
  | nil => intro _; rfl
  | cons x l ih =>
    intro hl
    have ih := ih fun c hc => hl c (List.mem_cons_of_mem _ hc)
    have hx : Nat.blt x 256 = true := by
      rcases hl x (List.mem_cons_self ..) with h | h <;> subst h <;> rfl
    simp only [u8s, List.map_cons] at ih ⊢; simp only [bytesOf, ih, hx]
theorem f_bytes0 : fBytesToStr [.nilslice] = .pure (.str []) := rfl
theorem f_bytes {b l : Nat} : fBytesToStr [.slice b 0 l 1] = .read b (kBytes l 0) := rfl
theorem k_bytes {l : List Nat} {ro : Bool} (hl : LR l) : kBytes l.length 0 (.cells ro (u8s l)) = some (.str l) := by
  have : readCells (.cells ro (u8s l)) 0 l.length = some (u8s l) := by
    rw [readCells_eq, dropN_zero, takeN_take (by rw [u8s_len]; omega), ← u8s_len (l := l), List.take_length]
  simp only [kBytes, this, bytesOf_u8s hl]
theorem letIdx {x : Nat} : fIndexStr [.str [76, 82], .int .u8 (.ofNat (x % 2))] = .pure (.int .u8 (.ofNat (letA x))) := by
  rw [f_indexStr (by have := Nat.mod_lt x (by decide : 0 < 2); exact this)]
  unfold letA
  rcases Nat.mod_two_eq_zero_or_one x with e | e <;> rw [e] <;> rfl
/-- bytes made so far -/
def RepB (h : Heap) (lo n : Nat) (v : AVal) (l : List Nat) : Prop :=
  (l = [] ∧ v = .nilslice) ∨ ∃ b, v = .slice b 0 l.length 1 ∧ hget h b = some (.cells false (u8s l)) ∧ lo ≤ b ∧ b < n
theorem letters_snoc {s : List Nat} {i : Nat} (hi : i < s.length) : (s.take (i + 1)).map letA = (s.take i).map letA ++ [letA (s.getD i 0)] := by
  rw [List.take_add_one, List.getElem?_eq_getElem hi, List.map_append, List.getD_eq_getElem?_getD, List.getElem?_eq_getElem hi]; rfl
theorem c51_go {F lo : Nat} {kE : Nat → KV} {kr : KV} {s : List Nat} {R : Ans} {h0 : Heap} (hB : s.length ≤ 9223372036854775807)
    (hk : ∀ h n v2 v3 v4, RepB h lo n v2 (lettersA s) → lo ≤ n → (∀ c, c < lo → hget h c = hget h0 c) → kE 0 [.str s, .str [], v2, v3, v4] h n lo = R) :
    ∀ (d q i n : Nat) (h : Heap) (v2 u4 : AVal), min s.length 11 - i = d → i ≤ min s.length 11 → RepB h lo n v2 ((s.take i).map letA) → lo ≤ n → (∀ c, c < lo → hget h c = hget h0 c) → d < q →
    loopN (fun k => den (exec t m) F c51_9 k kE kr) q [.str s, .str [], v2, .int .i64 (.ofNat i), u4] h n lo = R := by
  intro d
  induction d with
  | zero =>
    intro q i n h v2 u4 hd hi hrep hn hf hq
    obtain ⟨q, rfl⟩ : ∃ x, q = x + 1 := ⟨q - 1, by omega⟩
    rw [loopN_succ]
    have hR : RepB h lo n v2 (lettersA s) := by
      rcases Nat.lt_or_ge i s.length with h1 | h1
      · rw [show i = 11 by omega] at hrep; exact hrep
      · rw [List.take_of_length_le (by omega)] at hrep
        rw [lettersA, List.take_of_length_le (by omega)]; exact hrep
    by_cases h1 : i < s.length
    · simp (disch := omega) only [O51, U51, SS0, SS1, SS2, SS3, tag_eq, List.nil_append, List.append_nil, List.cons_append, Nat.reduceAdd, Nat.reduceSub, Nat.reduceMul, Nat.reduceAnd, Nat.reduceOr, Nat.reducePow, Nat.reduceEqDiff, decide_true, decide_false]
      exact hk _ _ _ _ _ hR hn hf
    · simp (disch := omega) only [O51, U51, SS0, SS1, SS2, SS3, tag_eq, List.nil_append, List.append_nil, List.cons_append, Nat.reduceAdd, Nat.reduceSub, Nat.reduceMul, Nat.reduceAnd, Nat.reduceOr, Nat.reducePow, Nat.reduceEqDiff, decide_true, decide_false]
      exact hk _ _ _ _ _ hR hn hf
  | succ d ih =>
    intro q i n h v2 u4 hd hi hrep hn hf hq
    obtain ⟨q, rfl⟩ : ∃ x, q = x + 1 := ⟨q - 1, by omega⟩
    rw [loopN_succ]
    have hiw : i < s.length := by omega
    have ht := letters_snoc hiw
    rcases hrep with ⟨e1, rfl⟩ | ⟨nb, rfl, g1, g2, g3⟩
    · simp (disch := omega) only [O51, U51, SS0, SS1, SS2, SS3, tag_eq, List.nil_append, List.append_nil, List.cons_append, Nat.reduceAdd, Nat.reduceSub, Nat.reduceMul, Nat.reduceAnd, Nat.reduceOr, Nat.reducePow, Nat.reduceEqDiff, decide_true, decide_false, f_indexStr, letIdx]
      rw [app_nil (by omega) (new := [.int .u8 (.ofNat (letA (s.getD i 0)))]) (by rw [src_eq hget_same]; rfl) rfl]
      simp (disch := omega) only [O51, U51, SS0, SS1, SS2, SS3, tag_eq, List.nil_append, List.append_nil, List.cons_append, Nat.reduceAdd, Nat.reduceSub, Nat.reduceMul, Nat.reduceAnd, Nat.reduceOr, Nat.reducePow, Nat.reduceEqDiff, decide_true, decide_false]
      refine ih q (i + 1) _ _ _ _ (by omega) (by omega) (.inr ⟨_, by rw [ht, e1]; rfl, by rw [hget_same, ht, e1]; rfl, by omega, by omega⟩) (by omega) (fun c hc => ?_) (by omega)
      rw [hget_ne (by omega), hget_ne (by omega), hf c hc]
    · have hl : ((s.take i).map letA).length = i := by simp; omega
      simp (disch := omega) only [O51, U51, SS0, SS1, SS2, SS3, tag_eq, List.nil_append, List.append_nil, List.cons_append, Nat.reduceAdd, Nat.reduceSub, Nat.reduceMul, Nat.reduceAnd, Nat.reduceOr, Nat.reducePow, Nat.reduceEqDiff, decide_true, decide_false, f_indexStr, letIdx]
      rw [app_some (by omega) (new := [.int .u8 (.ofNat (letA (s.getD i 0)))]) (by rw [src_eq hget_same]; rfl) rfl (by rw [hget_ne (by omega)]; exact g1) (old := u8s ((s.take i).map letA)) (by rw [dropN_zero, Nat.mul_one, takeN_take (by rw [u8s_len]; omega), ← u8s_len, List.take_length])]
      have hmin : minN nb lo = lo := by rw [minN_eq]; omega
      simp (disch := omega) only [O51, U51, SS0, SS1, SS2, SS3, tag_eq, List.nil_append, List.append_nil, List.cons_append, Nat.reduceAdd, Nat.reduceSub, Nat.reduceMul, Nat.reduceAnd, Nat.reduceOr, Nat.reducePow, Nat.reduceEqDiff, decide_true, decide_false, hmin]
      refine ih q (i + 1) _ _ _ _ (by omega) (by omega) (.inr ⟨_, by rw [ht, List.length_append]; rfl, by rw [hget_same, ht]; simp [u8s], by omega, by omega⟩) (by omega) (fun c hc => ?_) (by omega)
      rw [hget_ne (by omega), hget_ne (by omega), hget_del_ne (by omega), hf c hc]
theorem lettersA_LR {s : List Nat} : LR (lettersA s) := fun c hc => by
  unfold lettersA at hc
  obtain ⟨x, _, rfl⟩ := List.mem_map.1 hc
  unfold letA
  split <;> simp
include T in
theorem letters_run {s : List Nat} (hm : 40 ≤ m) (hB : s.length ≤ 9223372036854775807) : exec t m 51 [.str s] h n kq ke = kq (.str (lettersA s)) := by
  obtain ⟨m, rfl⟩ : ∃ q, m = q + 1 := ⟨m - 1, by omega⟩
  rw [exec_code T.h51, c51, callCode_eq (by simp)]
  simp (disch := omega) only [O51, U51, SS0, SS1, SS2, SS3, tag_eq, List.nil_append, List.append_nil, List.cons_append, Nat.reduceAdd, Nat.reduceSub, Nat.reduceMul, Nat.reduceAnd, Nat.reduceOr, Nat.reducePow, Nat.reduceEqDiff, decide_true, decide_false]
  refine c51_go (h0 := h) hB ?_ (min s.length 11) _ 0 _ _ _ _ (by omega) (by omega) (.inl ⟨by simp, rfl⟩) (Nat.le_refl _) (fun _ _ => rfl) (by omega)
  intro h' n' v2 v3 v4 hrep hn hf
  rcases hrep with ⟨e1, rfl⟩ | ⟨nb, rfl, g1, g2, g3⟩
  · simp (disch := omega) only [O51, U51, SS0, SS1, SS2, SS3, tag_eq, List.nil_append, List.append_nil, List.cons_append, Nat.reduceAdd, Nat.reduceSub, Nat.reduceMul, Nat.reduceAnd, Nat.reduceOr, Nat.reducePow, Nat.reduceEqDiff, decide_true, decide_false, f_bytes0, e1]
  · simp (disch := omega) only [O51, U51, SS0, SS1, SS2, SS3, tag_eq, List.nil_append, List.append_nil, List.cons_append, Nat.reduceAdd, Nat.reduceSub, Nat.reduceMul, Nat.reduceAnd, Nat.reduceOr, Nat.reducePow, Nat.reduceEqDiff, decide_true, decide_false, f_bytes, g1, k_bytes lettersA_LR]
theorem lettersA_len {s : List Nat} : (lettersA s).length ≤ 11 := by simp [lettersA]; omega
end
end Go.Absm.D
