/- The row of CyclesPoints, from its run. -/
import Derived.Test.YtladlgohahiaeaaB21
set_option linter.unusedSimpArgs false
set_option linter.unusedVariables false
namespace Go.Proofs.Ytladlgohahiaeaa
open Go.ChangeShapes Go.WideShapes Go.ChangeAt Go.RowKit Go.Absm Go.Absm.D
theorem CyclesPoints_call {cf : CallF} (hc : CallOk Try.prog cf) (hr : ∀ (h : Heap) (n : Nat) (x0 : AVal) (l : List Int) (a1 b1 : Int), SlI h n x0 l → l.length ≤ 9223372036854775807 → cf 7 [x0, .agg [.int .i64 a1, .int .i64 b1]] h n kq0 ke0 = some (.bool true, [], 0)) :
    ∀ (v0 : Value) (a1 b1 : Int) (W : World), (∃ x l lo has, ArgI W v0 0 x l lo has) → Calls Try.prog 7 #[v0, .agg #[.int .i64 a1, .int .i64 b1]] W fun e w' => e = .returned (.bool true) ∧ Kept W w' := by
  intro v0 a1 b1 W ⟨x, l, lo, has, A⟩
  obtain ⟨p1, p2, p3, p4, p5⟩ := pack1 A
  refine (law_ok hc (hr _ _ _ _ a1 b1 p4 A.len) rfl p2 p1 p3 ⟨_, _, rfl, p5, _, _, rfl, ⟨_, rfl, _, _, rfl, rfl, _, _, rfl, rfl, rfl⟩, rfl⟩).mono fun e w' he => ?_
  obtain ⟨v', rfl, h1, h2⟩ := he
  cases h1
  exact ⟨rfl, h2⟩
set_option maxRecDepth 100000 in
theorem CyclesPoints_lifted (hcall : ∀ (v0 : Value) (a1 b1 : Int) (W : World), (∃ x l lo has, ArgI W v0 0 x l lo has) → Calls Try.prog 7 #[v0, .agg #[.int .i64 a1, .int .i64 b1]] W fun e w' => e = .returned (.bool true) ∧ Kept W w')
    (os : Os) (started : os.Started) (H : Type) (enc : TypeId × Value → H) :
    ReturnsInHanded {} Try.checked os 7 .any (Rows.cyclesPointsSpec.pre6 enc Try.prog Try.f7 Rows.cyclesPointsRow.domain false) (Rows.cyclesPointsSpec.post enc Try.prog Try.f7 false true false false) := by
  refine returnsInHanded_of_change (C := Try.checked) Try.own started (by kernel_rfl) Try.func7
    (ChangeSpec.witness6 (enc := enc) (C := Try.checked) false ⟨#[], #[.slice none 0 0, .agg #[.int .i64 0, .int .i64 0]], []⟩ 8 (by kernel_rfl) (by kernel_rfl) (by kernel_rfl) (by kernel_rfl)) ?_
  intro W base args ds gs before hval0 hW hcnd _
  have hval : ∀ (j : Nat) t v, Try.f7.params[j]? = some t → args[j]? = some v → Value.okWide Try.prog W .any base t v := hval0
  have hW' := hW
  obtain ⟨p, q, hA0, hV, rfl, hfz, hnd⟩ := hW
  have hA : DataW.TrodAll enc Try.prog W 0 (fun _ => true) true Try.f7.params.toList args.toList ds p := hA0
  rw [Try.params7] at hA hval
  obtain ⟨v0, v1, d0, d1, p0, p1, rfl, rfl, rfl, h0, h1⟩ := trodAll_two hA
  obtain ⟨rfl, rfl⟩ := trodVars_none hV
  have k0 := h0
  have k1 := h1
  have A0 := arg_ints Try.underlying41 Try.underlying3 (by kernel_rfl) (hval 0 41 v0 rfl rfl) h0 0
  obtain ⟨a1, b1, rfl, e1, e1', _, _⟩ := WideMaps.open_pair ⟨Try.underlying46, by kernel_rfl, by kernel_rfl, by kernel_rfl⟩ Try.underlying2 (hval 1 46 v1 rfl rfl) h1
  clear hA0 hval0
  simp only [List.append_nil] at hW'
  refine (hcall v0 a1 b1 W A0).mono fun e W' ⟨he, hw⟩ => ?_
  subst he
  have hb := hw.below
  have hlt := hW'.lt
  exact ⟨_, rfl, post_of_kept (pa := p0 ++ p1) (pv := []) hW' (fun _ _ _ => trodAll_mk1 (shut_bool Try.underlying4 _)) (fun sp hsp => trodAll_mk2 (WideElems.Trod_stays Try.laidOut (by kernel_rfl) (of_decide_eq_true (by kernel_rfl)) k0 (fun x hx => hb.same (hlt x (by simp [hx]))) (fun x hx => hsp x (by simp [hx]))) (WideElems.Trod_stays Try.laidOut (by kernel_rfl) (of_decide_eq_true (by kernel_rfl)) k1 (fun x hx => hb.same (hlt x (by simp [hx]))) (fun x hx => hsp x (by simp [hx])))) (fun _ _ => rfl) (by simp)
    hw (ok_one (by kernel_rfl) rfl (okWide_bool_mk Try.underlying4 _))⟩

theorem CyclesPoints_of (hcall : ∀ (v0 : Value) (a1 b1 : Int) (W : World), (∃ x l lo has, ArgI W v0 0 x l lo has) → Calls Try.prog 7 #[v0, .agg #[.int .i64 a1, .int .i64 b1]] W fun e w' => e = .returned (.bool true) ∧ Kept W w') : Rows.CyclesPointsSaid :=
  OpenClaim.holds_of_wide 7 Try.f7 rfl rfl rfl rfl rfl rfl rfl ⟨rfl, rfl, rfl, rfl, rfl⟩ rfl rfl rfl rfl rfl (by kernel_rfl) Try.func7 (by kernel_rfl)
    (of_decide_eq_true (by kernel_rfl)) (by unfold Func.isWrapper; first | (rw [if_pos (by decide +kernel)]; kernel_rfl) | (rw [if_neg (by decide +kernel)]; exact ⟨rfl, rfl⟩))
    (fun os started H enc _ => CyclesPoints_lifted hcall os started H enc)

end Go.Proofs.Ytladlgohahiaeaa
