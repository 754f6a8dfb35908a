/- Arguments that are slices of numbers, or pairs of numbers: from the world to the machine. -/
import Derived.Test.YtladlgohahiaeaaB20
import Derived.Test.YtladlgohahiaeaaJ3
import Derived.ChangeSlices
import Derived.WideKeyPair
import Derived.WideKeyArgs
set_option linter.unusedSimpArgs false
set_option linter.unusedVariables false
namespace Go.Proofs.Ytladlgohahiaeaa
open Go.ChangeShapes Go.WideShapes Go.ChangeAt Go.RowKit Go.Absm Go.Absm.D

theorem cell?_has {w : World} {a : Addr} {v : Value} (h : w.cell? a = some v) : ∃ c el fz, w.heap[a.block]? = some (.cells c el fz) ∧ c[a.off]? = some v := by
  unfold World.cell? at h
  split at h
  · rename_i c el fz hh
    split at h
    · cases h
    · exact ⟨c, el, fz, hh, h⟩
  · cases h

/-- a slice of ints, as the machine may have it under the name b -/
structure ArgI (W : World) (v : Value) (b : Nat) (x : AVal) (l : List Int) (lo : Absm.Loc) (has : Bool) : Prop where
  rel : ∀ μ : Mu, μ b = some lo → VRel μ x v
  obj : has = true → ∀ μ : Mu, μ b = some lo → ORel μ W b (.cells true (ints l))
  sl : ∀ (h : Heap) (n : Nat), (has = true → hget h b = some (.cells true (ints l))) → b < n → SlI h n x l
  len : l.length ≤ 9223372036854775807

theorem arg_ints {H : Type} {enc : TypeId × Value → H} {P : Program} {W : World} {base : Nat} {t e : TypeId} {v : Value} {d : DataW H} {ps : List MemPlace} (ht : P.underlying t = some (.slice e)) (he : P.underlying e = some (.int .i64)) (hc : P.cellsOf e = 1)
    (hval : Value.okWide P W .any base t v) (h0 : DataW.Trod enc P W 0 (fun _ => true) true t v d ps) (b : Nat) : ∃ x l lo has, ArgI W v b x l lo has := by
  obtain ⟨fuel, hf⟩ := h0
  obtain ⟨a0, len, cap, rfl⟩ := okWide_slice ht hval
  have hcells : (Value.cells (.slice a0 len cap)).toList = [Value.slice a0 len cap] := rfl
  rw [hcells] at hf
  rcases open_ints ht he hc hf with ⟨e1, _⟩ | ⟨a, len', cap', zs, e1, _, hlc, hcm, hz, _, hcell, _⟩
  · have e1 := List.cons.inj e1 |>.1
    cases e1
    exact ⟨.nilslice, [], ⟨0, 0, 0⟩, false, ⟨fun μ _ => rfl, fun h => (by cases h), fun h n _ _ => .inl ⟨rfl, rfl⟩, by simp⟩⟩
  · have e1 := List.cons.inj e1 |>.1
    cases e1
    have hz : zs.length = cap := by simpa using hz
    have hspot : a.spot = none := by
      simp only [Value.okWide, ht, Cell.okWide, Cell.ok] at hval
      exact hval.2.2.2.1
    obtain ⟨blk, off, spot⟩ := a
    simp only at hspot
    subst hspot
    by_cases hcap : cap = 0
    · subst hcap
      obtain rfl : len = 0 := by omega
      refine ⟨.slice b 0 0 1, [], ⟨blk, off, off⟩, false, ⟨fun μ hμ => ⟨_, off, 0, hμ, rfl, Nat.le_refl _, by show off + 0 * 1 ≤ off; omega, .inr rfl⟩, fun h => (by cases h), fun h n _ hn => .inr ⟨b, true, rfl, fun h => (by simp at h), hn⟩, by simp⟩⟩
    · have hadd : ∀ i, i < cap → W.cell? ⟨blk, off + i, none⟩ = some (.int .i64 (zs.getD i 0)) := fun i hi => by
        have := hcell i (by omega)
        rw [show (⟨blk, off, none⟩ : Addr).add i = ⟨blk, off + i, none⟩ from by unfold Addr.add; split <;> simp_all] at this
        exact this
      obtain ⟨c, el, fz, hh, h00⟩ := cell?_has (hadd 0 (by omega))
      have hlast := hadd (cap - 1) (by omega)
      obtain ⟨c', el', fz', hh', h01⟩ := cell?_has hlast
      simp only at hh hh' h00 h01
      rw [hh] at hh'
      cases hh'
      have hsz := (Array.getElem?_eq_some_iff.1 h01).1
      have hll : (zs.take len).length = len := by simp; omega
      refine ⟨.slice b 0 len 1, zs.take len, ⟨blk, off, c.size⟩, true, ⟨fun μ hμ => ⟨_, off, cap, hμ, rfl, hlc, ?_, .inl rfl⟩, fun _ μ hμ => ?_, fun h n hg hn => .inr ⟨b, true, by rw [hll], fun _ => hg rfl, hn⟩, ?_⟩⟩
      · show off + cap * 1 ≤ c.size; omega
      · refine ⟨_, c, el, fz, hμ, hh, rfl, ?_, ?_, fun h => by cases h⟩
        · show off + (ints (zs.take len)).length ≤ c.size
          rw [ints_len, hll]; omega
        · intro i x hx
          have hi : i < len := by
            rw [nth_eq] at hx
            have := (List.getElem?_eq_some_iff.1 hx).1
            rw [ints_len, hll] at this; exact this
          rw [nth_ints (by rw [hll]; exact hi)] at hx
          cases hx
          obtain ⟨c2, el2, fz2, hh2, h02⟩ := cell?_has (hadd i (by omega))
          simp only at hh2 h02
          rw [hh] at hh2
          cases hh2
          refine ⟨_, h02, ?_⟩
          show Value.int .i64 (zs.getD i 0) = Value.int .i64 ((zs.take len).getD i 0)
          rw [List.getD_eq_getElem?_getD, List.getD_eq_getElem?_getD, List.getElem?_take_of_lt hi]
      · rw [hll]; show len ≤ 9223372036854775807; unfold maxLen at hcm; omega
def hp (has : Bool) (b : Nat) (l : List Int) (r : Heap) : Heap := match has with
  | true => (b, .cells true (ints l)) :: r
  | false => r
def mu1 (lo : Absm.Loc) : Mu := fun b => match b with
  | 0 => some lo
  | _ => none
def mu2 (lo lo' : Absm.Loc) : Mu := fun b => match b with
  | 0 => some lo
  | 1 => some lo'
  | _ => none
theorem pack1 {W : World} {v : Value} {x : AVal} {l : List Int} {lo : Absm.Loc} {has : Bool} (A : ArgI W v 0 x l lo has) :
    HRel (mu1 lo) (hp has 0 l []) W ∧ allRo (hp has 0 l []) = true ∧ Fr (mu1 lo) 1 ∧ SlI (hp has 0 l []) 1 x l ∧ VRel (mu1 lo) x v := by
  refine ⟨⟨fun b o hg => ?_, fun b b' o o' _ _ hg hg' hne => ?_⟩, ?_, fun b hb => ?_, A.sl _ _ (fun h => ?_) (by omega), A.rel _ rfl⟩
  · cases has with
    | false => simp [hp, hget] at hg
    | true =>
      simp only [hp, hget_cons] at hg
      split at hg
      · rename_i e; subst e; cases hg; exact A.obj rfl _ rfl
      · simp [hget] at hg
  · exfalso
    cases has with
    | false => simp [hp, hget] at hg
    | true =>
      simp only [hp, hget_cons] at hg hg'
      split at hg
      · split at hg'
        · omega
        · simp [hget] at hg'
      · simp [hget] at hg
  · cases has <;> rfl
  · match b, hb with
    | b + 1, _ => rfl
  · subst h; exact hget_same
theorem pack2 {W : World} {v v' : Value} {x x' : AVal} {l l' : List Int} {lo lo' : Absm.Loc} {has has' : Bool} (A : ArgI W v 0 x l lo has) (B : ArgI W v' 1 x' l' lo' has') :
    HRel (mu2 lo lo') (hp has 0 l (hp has' 1 l' [])) W ∧ allRo (hp has 0 l (hp has' 1 l' [])) = true ∧ Fr (mu2 lo lo') 2 ∧ SlI (hp has 0 l (hp has' 1 l' [])) 2 x l ∧ SlI (hp has 0 l (hp has' 1 l' [])) 2 x' l' ∧ VRel (mu2 lo lo') x v ∧ VRel (mu2 lo lo') x' v' := by
  have key : ∀ b o, hget (hp has 0 l (hp has' 1 l' [])) b = some o → (b = 0 ∧ has = true ∧ o = .cells true (ints l)) ∨ (b = 1 ∧ has' = true ∧ o = .cells true (ints l')) := by
    intro b o hg
    have k2 : ∀ b o, hget (hp has' 1 l' []) b = some o → (b = 1 ∧ has' = true ∧ o = .cells true (ints l')) := by
      intro b o hg
      cases has' with
      | false => simp [hp, hget] at hg
      | true =>
        simp only [hp, hget_cons] at hg
        split at hg
        · rename_i e; subst e; cases hg; exact ⟨rfl, rfl, rfl⟩
        · simp [hget] at hg
    cases has with
    | false => exact .inr (k2 b o hg)
    | true =>
      have hg : hget ((0, .cells true (ints l)) :: hp has' 1 l' []) b = some o := hg
      rw [hget_cons] at hg
      split at hg
      · rename_i e; subst e; cases hg; exact .inl ⟨rfl, rfl, rfl⟩
      · exact .inr (k2 b o hg)
  refine ⟨⟨fun b o hg => ?_, fun b b' o o' _ _ hg hg' _ _ _ _ => ?_⟩, ?_, fun b hb => ?_, A.sl _ _ (fun h => ?_) (by omega), B.sl _ _ (fun h => ?_) (by omega), A.rel _ rfl, B.rel _ rfl⟩
  · rcases key b o hg with ⟨rfl, e1, rfl⟩ | ⟨rfl, e1, rfl⟩
    · exact A.obj e1 _ rfl
    · exact B.obj e1 _ rfl
  · constructor
    · rcases key b o hg with ⟨_, _, rfl⟩ | ⟨_, _, rfl⟩ <;> rfl
    · rcases key b' o' hg' with ⟨_, _, rfl⟩ | ⟨_, _, rfl⟩ <;> rfl
  · cases has <;> cases has' <;> rfl
  · match b, hb with
    | b + 2, _ => rfl
  · subst h; exact hget_same
  · subst h
    cases has with
    | false => exact hget_same
    | true => show hget ((0, _) :: _) 1 = _; rw [hget_ne (by omega)]; exact hget_same
end Go.Proofs.Ytladlgohahiaeaa
