/- Part of the proof by the abstract machine. -/
import Derived.Test.YtladlgohahiaeaaL1
set_option linter.unusedSimpArgs false
set_option linter.unusedVariables false
namespace Go.Absm.D
open Go Go.Absm Go.Proofs
/-! words -/
def notB' : Bool → Bool
  | true => false
  | false => true
def lessA : List Nat → List Nat → Bool → Bool
  | x :: a, y :: b, t => match Nat.beq x y with
    | true => lessA a b (match Nat.beq x 82 with
      | true => notB' t
      | false => t)
    | false => match Nat.blt (letterA x) (letterA y) with
      | true => notB' t
      | false => t
  | _, _, _ => false
def tailsLess (w : List Nat) : List Nat → Bool
  | [] => true
  | _ :: v => match lessA (v ++ [67]) w false with
    | true => tailsLess w v
    | false => false
def greatestA (w : List Nat) : Bool := tailsLess (w ++ [67]) w
def isLR : List Nat → Bool
  | [] => true
  | x :: r => match Nat.beq x 76 with
    | true => isLR r
    | false => match Nat.beq x 82 with
      | true => isLR r
      | false => false
def tG : Nat → Option Entry := hooked 133 (hookOf letterS) (fun n => (Tree.look n (.node 99 (.node 96 (.leaf 75 c75) (.leaf 96 c96)) (.node 105 (.leaf 99 c99) (.node 138 (.leaf 105 c105) (.leaf 138 c138))))))
theorem tG_ok : TableOk Try.prog tG := hooked_ok hook133 (Tree.ok (t := (.node 99 (.node 96 (.leaf 75 c75) (.leaf 96 c96)) (.node 105 (.leaf 99 c99) (.node 138 (.leaf 105 c105) (.leaf 138 c138))))) ⟨⟨e75, e96⟩, ⟨e99, ⟨e105, e138⟩⟩⟩)


set_option maxRecDepth 1000000
/-- all words of n letters behind a beginning -/
def allWords (f : List Nat → Bool) : Nat → List Nat → Bool
  | 0, w => f w
  | n + 1, w => match allWords f n (w ++ [76]) with
    | true => allWords f n (w ++ [82])
    | false => false
theorem allWords_ok {f : List Nat → Bool} : ∀ {n : Nat} {w s : List Nat}, allWords f n w = true → isLR s = true → s.length = n → f (w ++ s) = true
  | 0, w, s, h, _, hl => by
    have : s = [] := List.length_eq_zero_iff.1 hl
    subst this; simpa [allWords] using h
  | n + 1, w, [], h, _, hl => by simp at hl
  | n + 1, w, x :: s, h, hs, hl => by
    simp only [allWords] at h
    split at h
    · rename_i h1
      simp only [isLR] at hs
      split at hs
      · rename_i e
        have := Nat.eq_of_beq_eq_true e
        subst this
        have := allWords_ok h1 hs (by simpa using hl)
        simpa using this
      · split at hs
        · rename_i e
          have := Nat.eq_of_beq_eq_true e
          subst this
          have := allWords_ok h hs (by simpa using hl)
          simpa using this
        · cases hs
    · cases h
def okG (s : List Nat) : Bool := gives (exec tG 40 75 [.str s] [] 1 kq0 ke0) (.bool (greatestA s))
theorem runG0 : allWords okG 0 [] = true := by kernel_rfl
theorem runG1 : allWords okG 1 [] = true := by kernel_rfl
theorem runG2 : allWords okG 2 [] = true := by kernel_rfl
theorem runG3 : allWords okG 3 [] = true := by kernel_rfl
theorem runG4 : allWords okG 4 [] = true := by kernel_rfl
theorem runG5 : allWords okG 5 [] = true := by kernel_rfl
theorem runG6 : allWords okG 6 [] = true := by kernel_rfl
theorem runG7 : allWords okG 7 [] = true := by kernel_rfl
/-- greatest, for words of up to 7 letters -/
def greatS : Hook := fun a h => match a with
  | [.str s] => match h with
    | [] => match isLR s with
      | true => match Nat.ble s.length 7 with
        | true => some (.bool (greatestA s))
        | false => none
      | false => none
    | _ => none
  | _ => none
theorem okG_all {s : List Nat} (h : isLR s = true) (hl : s.length ≤ 7) : okG s = true := by
  have : s.length = 0 ∨ s.length = 1 ∨ s.length = 2 ∨ s.length = 3 ∨ s.length = 4 ∨ s.length = 5 ∨ s.length = 6 ∨ s.length = 7 := by omega
  rcases this with e | e | e | e | e | e | e | e
  · exact allWords_ok runG0 h e
  · exact allWords_ok runG1 h e
  · exact allWords_ok runG2 h e
  · exact allWords_ok runG3 h e
  · exact allWords_ok runG4 h e
  · exact allWords_ok runG5 h e
  · exact allWords_ok runG6 h e
  · exact allWords_ok runG7 h e
theorem hook75 : HookOk Try.prog 75 (hookOf greatS) := by
  refine hook_ok Try.func75 rfl (by kernel_rfl) ?_
  intro a h v _ hS
  unfold greatS at hS
  split at hS
  · rename_i s
    split at hS
    · split at hS
      · rename_i hs
        split at hS
        · rename_i hl
          cases hS
          have := gives_eq (okG_all hs (Nat.le_of_ble_eq_true hl))
          exact ⟨this.2, _, 1, exec_ok mixed tG_ok 40, by simp, this.1⟩
        · cases hS
      · cases hS
    · cases hS
  · cases hS
end Go.Absm.D
