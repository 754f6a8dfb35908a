/- Cycles made of an order of all numbers: plain law. -/
import Derived.Test.YtladlgohahiaeaaJ1
set_option linter.unusedSimpArgs false
set_option linter.unusedVariables false
namespace Go.Absm.D
open Go Go.Absm
/-- an order of the numbers below v -/
def PermN (o : List Nat) (v : Nat) : Prop := o.Perm (List.range v)
theorem PermN.len {o : List Nat} {v : Nat} (h : PermN o v) : o.length = v := by rw [List.Perm.length_eq h, List.length_range]
theorem getD_mem {o : List Nat} {i : Nat} (hi : i < o.length) : o.getD i 0 ∈ o := by
  rw [List.getD_eq_getElem?_getD, List.getElem?_eq_getElem hi]; exact List.getElem_mem hi
theorem mem_getD {o : List Nat} {x : Nat} (h : x ∈ o) : ∃ i, i < o.length ∧ o.getD i 0 = x := by
  obtain ⟨i, hi, e⟩ := List.getElem_of_mem h
  exact ⟨i, hi, by rw [List.getD_eq_getElem?_getD, List.getElem?_eq_getElem hi]; exact e⟩
theorem PermN.lt {o : List Nat} {v i : Nat} (h : PermN o v) (hi : i < v) : o.getD i 0 < v := by
  have := (List.Perm.mem_iff h).1 (getD_mem (i := i) (by rw [h.len]; exact hi))
  exact List.mem_range.1 this
theorem PermN.inj {o : List Nat} {v i j : Nat} (h : PermN o v) (hi : i < v) (hj : j < v) (e : o.getD i 0 = o.getD j 0) : i = j := by
  have hn : o.Nodup := (List.Perm.nodup_iff h).2 List.nodup_range
  have h1 : i < o.length := by rw [h.len]; exact hi
  have h2 : j < o.length := by rw [h.len]; exact hj
  rw [List.getD_eq_getElem?_getD, List.getElem?_eq_getElem h1, List.getD_eq_getElem?_getD, List.getElem?_eq_getElem h2] at e
  exact (List.getElem_inj hn).1 e
theorem PermN.onto {o : List Nat} {v x : Nat} (h : PermN o v) (hx : x < v) : ∃ i, i < v ∧ o.getD i 0 = x := by
  obtain ⟨i, hi, e⟩ := mem_getD ((List.Perm.mem_iff h).2 (List.mem_range.2 hx))
  exact ⟨i, by rw [← h.len]; exact hi, e⟩
theorem PermN.ins {o : List Nat} {v : Nat} (h : PermN o v) (a : Nat) : PermN (o.take a ++ [v] ++ o.drop a) (v + 1) := by
  unfold PermN
  rw [List.range_succ, List.append_assoc, List.singleton_append]
  refine List.perm_middle.trans ?_
  rw [List.take_append_drop]
  exact (List.Perm.cons v h).trans (List.perm_append_comm (l₁ := [v]) (l₂ := List.range v))
theorem PermN.zero : PermN [] 0 := List.Perm.refl _
theorem mod_lt_or {j k n : Nat} (hj : j < n) (hk : k < n) : (j + k) % n = j + k ∧ j + k < n ∨ (j + k) % n = j + k - n ∧ n ≤ j + k := by
  rcases Nat.lt_or_ge (j + k) n with h | h
  · exact .inl ⟨Nat.mod_eq_of_lt h, h⟩
  · exact .inr ⟨by rw [Nat.mod_eq_sub_mod h, Nat.mod_eq_of_lt (by omega)], h⟩
theorem cyc_of {o p : List Nat} {n : Nat} (ho : PermN o n) (h2 : 2 ≤ n) (h8 : n ≤ 8) (hp : p.length = n) (h : ∀ j, j < n → p.getD (o.getD j 0) 0 = o.getD ((j + 1) % n) 0) : Cyc p := by
  obtain ⟨j0, hj0, e0⟩ := ho.onto (x := 0) (by omega)
  have hn : 0 < n := by omega
  have it : ∀ k, itA p k = o.getD ((j0 + k) % n) 0 := by
    intro k
    induction k with
    | zero => rw [Nat.add_zero, Nat.mod_eq_of_lt hj0, e0]; rfl
    | succ k ih =>
      show p.getD (itA p k) 0 = _
      rw [ih, h _ (Nat.mod_lt _ hn)]
      congr 1
      rw [Nat.mod_add_mod]; rfl
  refine ⟨by omega, by omega, ?_, ?_, ?_⟩
  · intro i hi
    obtain ⟨j, hj, e⟩ := ho.onto (x := i) (by omega)
    rw [← e, h j hj, hp]
    exact ho.lt (Nat.mod_lt _ hn)
  · intro k h1 hk hz
    rw [it k] at hz
    have := ho.inj (Nat.mod_lt _ hn) hj0 (hz.trans e0.symm)
    rcases mod_lt_or hj0 (k := k) (by omega) with ⟨h3, h4⟩ | ⟨h3, h4⟩ <;> omega
  · rw [it, hp, Nat.add_mod_right, Nat.mod_eq_of_lt hj0, e0]
end Go.Absm.D
