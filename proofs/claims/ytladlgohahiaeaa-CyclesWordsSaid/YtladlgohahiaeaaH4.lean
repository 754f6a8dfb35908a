/- CyclesWords: the round. -/
import Derived.Test.YtladlgohahiaeaaM8
import Derived.Test.YtladlgohahiaeaaH0
import Derived.Test.YtladlgohahiaeaaH3
import Derived.Test.YtladlgohahiaeaaW3
import Derived.Test.YtladlgohahiaeaaF6
import Derived.KernelRfl
set_option linter.unusedSimpArgs false
set_option linter.unusedVariables false
namespace Go.Absm.D
open Go Go.Absm Go.Proofs
set_option maxRecDepth 1000000
set_option linter.unusedSimpArgs false
set_option maxHeartbeats 4000000
def t9 : Nat → Option Entry := freshed 33 (hookOf ofS) (freshed 50 (hookOf rofS) (hooked 133 (hookOf letterS) (hooked 18 (hookOf awakeS) tb0)))
theorem t9_ok : TableOk Try.prog t9 := freshed_ok hook33 (freshed_ok hook50 (hooked_ok hook133 (hooked_ok hook18 tb0_ok)))
theorem t9_tab : Tab t9 := tab_f33 (tab_f50 (tab_h133 (tab_h18 tb0_tab _) _) _) _
theorem t9_133 : t9 133 = some (.both (hookOf letterS) c133) := rfl
theorem t9_75 : t9 75 = some (.code c75) := rfl
section
variable {m n low : Nat} {h : Heap} {kq : AVal → Ans} {kx : AVal → Heap → Nat → Nat → Ans}
theorem awake9 (hm : 1 ≤ m) : exec t9 m 18 [] h n kq kx = kq (.bool true) := by
  obtain ⟨m, rfl⟩ : ∃ q, m = q + 1 := ⟨m - 1, by omega⟩
  exact exec_both (S := hookOf awakeS) (fn := c18) rfl rfl
theorem ofS_eq {w : List Nat} : hookOf ofS [.str w] h = match ofA w with
      | some c => some (ofR c)
      | none => none := by rw [hook_canon (canon_str canon_nil)]; rfl
theorem rofS_eq {w : List Nat} : hookOf rofS [.str w] h = match ofA w with
      | some c => some (rofR c)
      | none => none := by rw [hook_canon (canon_str canon_nil)]; rfl
theorem of_good {w c : List Nat} (hm : 1 ≤ m) (hw : ofA w = some c) : exec t9 m 33 [.str w] h n kq kx = kx (.tuple [.slice n 0 c.length 1, .int .i64 (.ofNat 0)]) ((n, .cells false (nats c)) :: h) (n + 1) n := by
  obtain ⟨m, rfl⟩ : ∃ q, m = q + 1 := ⟨m - 1, by omega⟩
  exact exec_fresh (S := hookOf ofS) (fn := some c33) rfl (rs := ofR c) (by rw [ofS_eq, hw]) rfl
theorem rof_good {w c : List Nat} (hm : 1 ≤ m) (hw : ofA w = some c) : exec t9 m 50 [.str w] h n kq kx = kx (.slice n 0 c.length 1) ((n, .cells false (nats c)) :: h) (n + 1) n := by
  obtain ⟨m, rfl⟩ : ∃ q, m = q + 1 := ⟨m - 1, by omega⟩
  exact exec_fresh (S := hookOf rofS) (fn := some c50) rfl (rs := rofR c) (by rw [rofS_eq, hw]) rfl
/-- the words of the list are greatest words of 1 to 7 letters -/
theorem tab_good : ∀ p ∈ ofTab, (wordA p.1 && grA p.1 && decide (1 ≤ p.1.length) && decide (p.1.length ≤ 7)) = true := by
  have : (ofTab.all fun p => wordA p.1 && grA p.1 && decide (1 ≤ p.1.length) && decide (p.1.length ≤ 7)) = true := by kernel_rfl
  exact List.all_eq_true.1 this
theorem ofA_good {w c : List Nat} (hw : ofA w = some c) : wordA w = true ∧ grA w = true ∧ 1 ≤ w.length ∧ w.length ≤ 7 := by
  have := tab_good _ (lookW_mem hw)
  simp only [Bool.and_eq_true, decide_eq_true_eq] at this
  exact ⟨this.1.1.1, this.1.1.2, this.1.2, this.2⟩
theorem of_arg {w : List Nat} (hm : w.length + 80 ≤ m) (hw : By w) (hB : w.length ≤ 9000) (hx : ¬ (wordA w = true ∧ 1 ≤ w.length ∧ w.length ≤ 7)) : exec t9 m 33 [.str w] h n kq kx = kq (.tuple [.nilslice, .int .i64 (.ofNat 1)]) := by
  obtain ⟨m, rfl⟩ : ∃ q, m = q + 1 := ⟨m - 1, by omega⟩
  have hn : ofA w = none := by
    cases e : ofA w with
    | none => rfl
    | some c => have := ofA_good e; exact absurd ⟨this.1, this.2.2⟩ hx
  rw [exec_fresh_code (S := hookOf ofS) (fn := c33) rfl (by rw [ofS_eq, hn]), c33, callCode_eq (by simp)]
  have A := fun (kq : AVal → Ans) (kx : AVal → Heap → Nat → Nat → Ans) => valid_run t9_tab (m := m) (h := h) (n := n) (kq := kq) (ke := kx) (w := w) (by omega) hw hB
  cases e : wordA w with
  | false =>
    rw [e] at A
    simp (disch := omega) only [O33, U33, SS0, SS1, SS2, SS3, tag_eq, List.nil_append, List.append_nil, List.cons_append, Nat.reduceAdd, Nat.reduceSub, Nat.reduceMul, Nat.reduceAnd, Nat.reduceOr, Nat.reducePow, Nat.reduceEqDiff, decide_true, decide_false, A]
  | true =>
    rw [e] at A
    by_cases h1 : 1 ≤ w.length
    · have h7 : ¬ w.length ≤ 7 := fun h => hx ⟨e, h1, h⟩
      simp (disch := omega) only [O33, U33, SS0, SS1, SS2, SS3, tag_eq, List.nil_append, List.append_nil, List.cons_append, Nat.reduceAdd, Nat.reduceSub, Nat.reduceMul, Nat.reduceAnd, Nat.reduceOr, Nat.reducePow, Nat.reduceEqDiff, decide_true, decide_false, A]
    · simp (disch := omega) only [O33, U33, SS0, SS1, SS2, SS3, tag_eq, List.nil_append, List.append_nil, List.cons_append, Nat.reduceAdd, Nat.reduceSub, Nat.reduceMul, Nat.reduceAnd, Nat.reduceOr, Nat.reducePow, Nat.reduceEqDiff, decide_true, decide_false, A]
theorem of_none {w : List Nat} (hm : w.length + 80 ≤ m) (hw : wordA w = true) (h1 : 1 ≤ w.length) (h7 : w.length ≤ 7) (hg : grA w = false) : exec t9 m 33 [.str w] h n kq kx = kq (.tuple [.nilslice, .int .i64 (.ofNat 4)]) := by
  obtain ⟨m, rfl⟩ : ∃ q, m = q + 1 := ⟨m - 1, by omega⟩
  have hn : ofA w = none := by
    cases e : ofA w with
    | none => rfl
    | some c => have := (ofA_good e).2.1; rw [hg] at this; cases this
  rw [exec_fresh_code (S := hookOf ofS) (fn := c33) rfl (by rw [ofS_eq, hn]), c33, callCode_eq (by simp)]
  have hl := (wordA_LR hw).1
  have A := fun (kq : AVal → Ans) (kx : AVal → Heap → Nat → Nat → Ans) => valid_run t9_tab (m := m) (h := h) (n := n) (kq := kq) (ke := kx) (w := w) (by omega) hl.lcr.by' (by omega)
  rw [hw] at A
  have B := fun (kq : AVal → Ans) (kx : AVal → Heap → Nat → Nat → Ans) => greatest_run t9_tab t9_133 t9_75 (m := m) (h := h) (n := n) (kq := kq) (ke := kx) (w := w) (by omega) hl.lcr (by omega)
  rw [hg] at B
  simp (disch := omega) only [O33, U33, SS0, SS1, SS2, SS3, tag_eq, List.nil_append, List.append_nil, List.cons_append, Nat.reduceAdd, Nat.reduceSub, Nat.reduceMul, Nat.reduceAnd, Nat.reduceOr, Nat.reducePow, Nat.reduceEqDiff, decide_true, decide_false, A, B]
end
end Go.Absm.D
