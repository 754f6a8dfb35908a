/- The cycles of the greatest words: the list. -/
import Derived.Test.YtladlgohahiaeaaH1
import Derived.Test.YtladlgohahiaeaaF6
import Derived.Test.YtladlgohahiaeaaM3
import Derived.KernelRfl
set_option linter.unusedSimpArgs false
set_option linter.unusedVariables false
namespace Go.Absm.D
open Go Go.Absm Go.Proofs
set_option maxRecDepth 1000000
def ofTab0 : List (List Nat × List Nat) := [([82], [1, 0]), ([82, 76], [1, 2, 0]), ([82, 76, 76], [1, 2, 3, 0]), ([82, 76, 82], [2, 3, 1, 0]), ([82, 76, 76, 76], [1, 2, 3, 4, 0]), ([82, 76, 76, 82], [1, 3, 4, 2, 0]), ([82, 76, 82, 82], [2, 4, 3, 1, 0]), ([82, 76, 76, 76, 76], [1, 2, 3, 4, 5, 0]), ([82, 76, 76, 76, 82], [1, 2, 4, 5, 3, 0]), ([82, 76, 76, 82, 76], [2, 3, 4, 5, 1, 0]), ([82, 76, 76, 82, 82], [1, 3, 5, 4, 2, 0]), ([82, 76, 82, 82, 82], [3, 5, 4, 2, 1, 0])]
def ofTab1 : List (List Nat × List Nat) := [([82, 76, 76, 76, 76, 76], [1, 2, 3, 4, 5, 6, 0]), ([82, 76, 76, 76, 76, 82], [1, 2, 3, 5, 6, 4, 0]), ([82, 76, 76, 76, 82, 76], [1, 3, 4, 5, 6, 2, 0]), ([82, 76, 76, 76, 82, 82], [1, 2, 4, 6, 5, 3, 0]), ([82, 76, 76, 82, 76, 82], [2, 4, 5, 6, 3, 1, 0]), ([82, 76, 76, 82, 82, 76], [2, 3, 4, 6, 5, 1, 0]), ([82, 76, 76, 82, 82, 82], [1, 4, 6, 5, 3, 2, 0]), ([82, 76, 82, 82, 76, 82], [3, 4, 6, 5, 2, 1, 0]), ([82, 76, 82, 82, 82, 82], [3, 6, 5, 4, 2, 1, 0]), ([82, 76, 76, 76, 76, 76, 76], [1, 2, 3, 4, 5, 6, 7, 0]), ([82, 76, 76, 76, 76, 76, 82], [1, 2, 3, 4, 6, 7, 5, 0]), ([82, 76, 76, 76, 76, 82, 76], [1, 2, 4, 5, 6, 7, 3, 0])]
def ofTab2 : List (List Nat × List Nat) := [([82, 76, 76, 76, 76, 82, 82], [1, 2, 3, 5, 7, 6, 4, 0]), ([82, 76, 76, 76, 82, 76, 76], [2, 3, 4, 5, 6, 7, 1, 0]), ([82, 76, 76, 76, 82, 76, 82], [1, 3, 5, 6, 7, 4, 2, 0]), ([82, 76, 76, 76, 82, 82, 76], [1, 3, 4, 5, 7, 6, 2, 0]), ([82, 76, 76, 76, 82, 82, 82], [1, 2, 5, 7, 6, 4, 3, 0]), ([82, 76, 76, 82, 76, 82, 76], [2, 4, 5, 6, 7, 3, 1, 0]), ([82, 76, 76, 82, 76, 82, 82], [2, 4, 6, 7, 5, 3, 1, 0])]
def ofTab3 : List (List Nat × List Nat) := [([82, 76, 76, 82, 82, 76, 82], [1, 4, 5, 7, 6, 3, 2, 0]), ([82, 76, 76, 82, 82, 82, 76], [2, 3, 5, 7, 6, 4, 1, 0]), ([82, 76, 76, 82, 82, 82, 82], [1, 4, 7, 6, 5, 3, 2, 0]), ([82, 76, 82, 82, 76, 82, 82], [3, 4, 7, 6, 5, 2, 1, 0]), ([82, 76, 82, 82, 82, 76, 82], [4, 5, 7, 6, 3, 2, 1, 0]), ([82, 76, 82, 82, 82, 82, 82], [4, 7, 6, 5, 3, 2, 1, 0])]
def lookW (w : List Nat) : List (List Nat × List Nat) → Option (List Nat)
  | [] => none
  | p :: r => match eqL p.1 w with
    | true => some p.2
    | false => lookW w r
theorem lookW_mem {w c : List Nat} : ∀ {l : List (List Nat × List Nat)}, lookW w l = some c → (w, c) ∈ l
  | [], h => by cases h
  | p :: r, h => by
    simp only [lookW] at h
    split at h
    · rename_i e
      cases h
      have e := eq_of_beq ((eqL_eq _ _).symm.trans e)
      subst e
      exact List.mem_cons_self ..
    · exact List.mem_cons_of_mem _ (lookW_mem h)
theorem fc {α : Type} {p : α → Prop} {a : α} {l : List α} (h1 : p a) (h2 : ∀ x ∈ l, p x) : ∀ x ∈ a :: l, p x := fun x hx => by
  rcases List.mem_cons.1 hx with h | h
  · subst h; exact h1
  · exact h2 x h
def ofTab : List (List Nat × List Nat) := ofTab0 ++ (ofTab1 ++ (ofTab2 ++ ofTab3))
def ofA (w : List Nat) : Option (List Nat) := lookW w ofTab
def tO : Nat → Option Entry := hooked 133 (hookOf letterS) tb0
theorem tO_ok : TableOk Try.prog tO := hooked_ok hook133 tb0_ok
def ofR (c : List Nat) : List RV := [.sl c.length 1 (nats c), .val (.int .i64 (.ofNat 0))]
def rofR (c : List Nat) : List RV := [.sl c.length 1 (nats c)]
def run33 (p : List Nat × List Nat) : Bool := chk 1 (ofR p.2) (exec tO 400 33 [.str p.1] [] 1 kq1 ke1)
def run50 (p : List Nat × List Nat) : Bool := chk 1 (rofR p.2) (exec tO 400 50 [.str p.1] [] 1 kq1 ke1)
/-- every greatest word of 1 to 7 letters is in the list -/
def inTab (L : Nat) : Bool := (ext L []).all fun w => !(grA w) || (match ofA w with
  | some c => Nat.beq c.length (L + 1)
  | none => false)
theorem inTab1 : inTab 1 = true := by kernel_rfl
theorem inTab2 : inTab 2 = true := by kernel_rfl
theorem inTab3 : inTab 3 = true := by kernel_rfl
theorem inTab4 : inTab 4 = true := by kernel_rfl
theorem inTab5 : inTab 5 = true := by kernel_rfl
theorem inTab6 : inTab 6 = true := by kernel_rfl
theorem inTab7 : inTab 7 = true := by kernel_rfl
theorem mem_ext : ∀ {w u : List Nat}, LR u → u ++ w ∈ ext 0 (u ++ w) := fun _ => by simp [ext]
theorem ext_mem : ∀ (v u : List Nat), LR v → u ++ v ∈ ext v.length u
  | [], u, _ => by simp [ext]
  | x :: v, u, h => by
    have hv : LR v := fun c hc => h c (List.mem_cons_of_mem _ hc)
    rw [List.length_cons, ext, List.mem_append]
    have e : u ++ x :: v = (u ++ [x]) ++ v := by simp
    rcases h x (List.mem_cons_self ..) with rfl | rfl
    · left; rw [e]; exact ext_mem v _ hv
    · right; rw [e]; exact ext_mem v _ hv
theorem ofA_some {w : List Nat} (hw : LR w) (h1 : 1 ≤ w.length) (h7 : w.length ≤ 7) (hg : grA w = true) : ∃ c, ofA w = some c ∧ c.length = w.length + 1 := by
  have key : ∀ L, L = w.length → inTab L = true → ∃ c, ofA w = some c ∧ c.length = w.length + 1 := fun L e h => by
    subst e
    unfold inTab at h
    rw [List.all_eq_true] at h
    have := h w (by have := ext_mem w [] hw; simpa using this)
    rw [hg] at this
    simp only [Bool.not_true, Bool.false_or] at this
    split at this
    · rename_i c e; exact ⟨c, e, Nat.eq_of_beq_eq_true this⟩
    · cases this
  have : w.length = 1 ∨ w.length = 2 ∨ w.length = 3 ∨ w.length = 4 ∨ w.length = 5 ∨ w.length = 6 ∨ w.length = 7 := by omega
  rcases this with h | h | h | h | h | h | h
  · exact key 1 h.symm inTab1
  · exact key 2 h.symm inTab2
  · exact key 3 h.symm inTab3
  · exact key 4 h.symm inTab4
  · exact key 5 h.symm inTab5
  · exact key 6 h.symm inTab6
  · exact key 7 h.symm inTab7
end Go.Absm.D
