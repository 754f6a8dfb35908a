/- ints: whether two lists are the same. -/
import Derived.Test.YtladlgohahiaeaaM8
import Derived.Test.YtladlgohahiaeaaF5
set_option linter.unusedSimpArgs false
set_option linter.unusedVariables false
namespace Go.Absm.D
open Go Go.Absm
set_option maxRecDepth 100000
set_option linter.unusedSimpArgs false
set_option maxHeartbeats 1000000
/-- a list of numbers, nil where it may be empty -/
def SlN (h : Heap) (n : Nat) (v : AVal) (l : List Nat) : Prop := (l = [] ∧ v = .nilslice) ∨ ∃ b ro, v = .slice b 0 l.length 1 ∧ hget h b = some (.cells ro (nats l)) ∧ b < n
theorem SlN.len {h : Heap} {n : Nat} {v : AVal} {l : List Nat} (s : SlN h n v l) : fLenSl [v] = .pure (.int .i64 (.ofNat l.length)) := by
  rcases s with ⟨rfl, rfl⟩ | ⟨b, ro, rfl, _⟩ <;> rfl
section
variable {t : Nat → Option Entry} (T : Tab t) {m n low : Nat} {h : Heap} {kq : AVal → Ans} {ke : AVal → Heap → Nat → Nat → Ans}
theorem c43_go {F : Nat} {kE : Nat → KV} {kr : KV} {l l' : List Nat} {v v' : AVal} {R : Ans} (s : SlN h n v l) (s' : SlN h n v' l') (hB : l.length ≤ 9000) (he : l.length = l'.length)
    (hk : ∀ u3 u4 u5 u6, l = l' → kE 0 [v, v', .bool false, u3, u4, u5, u6] h n low = R)
    (hr : ∀ u3 u4 u5 u6, ¬ l = l' → kr [v, v', .bool false, u3, u4, u5, u6] h n low = R) :
    ∀ (d q i : Nat) (u4 u5 u6 : AVal), l.length - i = d → i ≤ l.length → (∀ j, j < i → l.getD j 0 = l'.getD j 0) → d < q →
    loopN (fun k => den (exec t m) F c43_13 k kE kr) q [v, v', .bool false, .int .i64 (.ofNat i), u4, u5, u6] h n low = R := by
  intro d
  induction d with
  | zero =>
    intro q i u4 u5 u6 hd hi hj hq
    obtain ⟨q, rfl⟩ : ∃ x, q = x + 1 := ⟨q - 1, by omega⟩
    rw [loopN_succ]
    obtain rfl : i = l.length := by omega
    simp (disch := omega) only [O43, U43, SS0, SS1, SS2, SS3, tag_eq, List.nil_append, List.append_nil, List.cons_append, Nat.reduceAdd, Nat.reduceSub, Nat.reduceMul, Nat.reduceAnd, Nat.reduceOr, Nat.reducePow, Nat.reduceEqDiff, decide_true, decide_false, s.len]
    refine hk _ _ _ _ (List.ext_getElem he fun j h1 h2 => ?_)
    have := hj j h1
    rw [List.getD_eq_getElem?_getD, List.getD_eq_getElem?_getD, List.getElem?_eq_getElem h1, List.getElem?_eq_getElem h2] at this
    exact this
  | succ d ih =>
    intro q i u4 u5 u6 hd hi hj hq
    obtain ⟨q, rfl⟩ : ∃ x, q = x + 1 := ⟨q - 1, by omega⟩
    rw [loopN_succ]
    have h1 : i < l.length := by omega
    have h2 : i < l'.length := by omega
    rcases s with ⟨rfl, rfl⟩ | ⟨b, ro, rfl, g, gn⟩
    · simp at h1
    rcases s' with ⟨rfl, rfl⟩ | ⟨b', ro', rfl, g', gn'⟩
    · simp at h2
    by_cases hx : l.getD i 0 = l'.getD i 0
    · simp (disch := omega) only [O43, U43, SS0, SS1, SS2, SS3, tag_eq, List.nil_append, List.append_nil, List.cons_append, Nat.reduceAdd, Nat.reduceSub, Nat.reduceMul, Nat.reduceAnd, Nat.reduceOr, Nat.reducePow, Nat.reduceEqDiff, decide_true, decide_false, g, g', hx]
      exact ih q (i + 1) _ _ _ (by omega) (by omega) (fun j hj' => by
        by_cases h' : j = i
        · subst h'; exact hx
        · exact hj j (by omega)) (by omega)
    · simp (disch := omega) only [O43, U43, SS0, SS1, SS2, SS3, tag_eq, List.nil_append, List.append_nil, List.cons_append, Nat.reduceAdd, Nat.reduceSub, Nat.reduceMul, Nat.reduceAnd, Nat.reduceOr, Nat.reducePow, Nat.reduceEqDiff, decide_true, decide_false, g, g']
      exact hr _ _ _ _ (fun e => hx (by rw [e]))
include T in
theorem ints_run {l l' : List Nat} {v v' : AVal} (hm : l.length + 20 ≤ m) (s : SlN h n v l) (s' : SlN h n v' l') (hB : l.length ≤ 9000) : exec t m 43 [v, v'] h n kq ke = kq (.bool (decide (l = l'))) := by
  obtain ⟨m, rfl⟩ : ∃ q, m = q + 1 := ⟨m - 1, by omega⟩
  rw [exec_code T.h43, c43, callCode_eq (by simp)]
  by_cases he : l.length = l'.length
  · simp (disch := omega) only [O43, U43, SS0, SS1, SS2, SS3, tag_eq, List.nil_append, List.append_nil, List.cons_append, Nat.reduceAdd, Nat.reduceSub, Nat.reduceMul, Nat.reduceAnd, Nat.reduceOr, Nat.reducePow, Nat.reduceEqDiff, decide_true, decide_false, s.len, s'.len]
    refine c43_go s s' hB he ?_ ?_ l.length _ 0 _ _ _ (by omega) (by omega) (by omega) (by omega)
    · intro u3 u4 u5 u6 e
      simp (disch := omega) only [O43, U43, SS0, SS1, SS2, SS3, tag_eq, List.nil_append, List.append_nil, List.cons_append, Nat.reduceAdd, Nat.reduceSub, Nat.reduceMul, Nat.reduceAnd, Nat.reduceOr, Nat.reducePow, Nat.reduceEqDiff, decide_true, decide_false, dec_t e]
    · intro u3 u4 u5 u6 e
      simp (disch := omega) only [O43, U43, SS0, SS1, SS2, SS3, tag_eq, List.nil_append, List.append_nil, List.cons_append, Nat.reduceAdd, Nat.reduceSub, Nat.reduceMul, Nat.reduceAnd, Nat.reduceOr, Nat.reducePow, Nat.reduceEqDiff, decide_true, decide_false, dec_f e]
  · simp (disch := omega) only [O43, U43, SS0, SS1, SS2, SS3, tag_eq, List.nil_append, List.append_nil, List.cons_append, Nat.reduceAdd, Nat.reduceSub, Nat.reduceMul, Nat.reduceAnd, Nat.reduceOr, Nat.reducePow, Nat.reduceEqDiff, decide_true, decide_false, s.len, s'.len, dec_f (fun e : l = l' => he (by rw [e]))]
end
end Go.Absm.D
