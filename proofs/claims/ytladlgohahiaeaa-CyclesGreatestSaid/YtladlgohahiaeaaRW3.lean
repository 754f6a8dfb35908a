/- The row of CyclesGreatest, from its calls. -/
import Derived.Test.YtladlgohahiaeaaB20
set_option linter.unusedSimpArgs false
set_option linter.unusedVariables false
namespace Go.Proofs.Ytladlgohahiaeaa
open Go.ChangeShapes Go.WideShapes Go.ChangeAt Go.RowKit Go.Absm
/-- a run on a number is a call -/
theorem one_int {cf : CallF} (hc : CallOk Try.prog cf) {f : Nat} {a : Int} {n : Nat} (hr : cf f [.int .i64 a] [] n kq0 ke0 = some (.bool true, [], 0)) (w : World) :
    Calls Try.prog f #[.int .i64 a] w fun e w' => e = .returned (.bool true) ∧ Kept w w' := by
  refine (law_ok hc hr rfl rfl (μ := fun _ => none) (w := w) (args' := #[.int .i64 a]) ⟨fun b o hg => by simp [hget] at hg, fun b b' o o' l l' hg => by simp [hget] at hg⟩ (fun _ _ => rfl)
    ⟨_, _, rfl, rfl, rfl⟩).mono fun e w' he => ?_
  obtain ⟨v', rfl, h1, h2⟩ := he
  cases h1
  exact ⟨rfl, h2⟩
set_option maxRecDepth 100000 in
theorem CyclesGreatest_lifted (hcall : ∀ (a : Int) (w : World), Calls Try.prog 3 #[.int .i64 a] w fun e w' => e = .returned (.bool true) ∧ Kept w w')
    (os : Os) (started : os.Started) (H : Type) (enc : TypeId × Value → H) :
    ReturnsInHanded {} Try.checked os 3 .any (Rows.cyclesGreatestSpec.pre6 enc Try.prog Try.f3 Rows.cyclesGreatestRow.domain false) (Rows.cyclesGreatestSpec.post enc Try.prog Try.f3 false true false false) := by
  refine returnsInHanded_of_change (C := Try.checked) Try.own started (by kernel_rfl) Try.func3
    (ChangeSpec.witness6 (enc := enc) (C := Try.checked) false ⟨#[], #[.int .i64 0], []⟩ 8 (by kernel_rfl) (by kernel_rfl) (by kernel_rfl) (by kernel_rfl)) ?_
  intro W base args ds gs before hval0 hW hcnd _
  have hval : ∀ (j : Nat) t v, Try.f3.params[j]? = some t → args[j]? = some v → Value.okWide Try.prog W .any base t v := hval0
  have hW' := hW
  obtain ⟨p, q, hA0, hV, rfl, hfz, hnd⟩ := hW
  have hA : DataW.TrodAll enc Try.prog W 0 (fun _ => true) true Try.f3.params.toList args.toList ds p := hA0
  rw [Try.params3] at hA hval
  obtain ⟨v0, d0, rfl, rfl, h0⟩ := trodAll_one hA
  obtain ⟨rfl, rfl⟩ := trodVars_none hV
  obtain ⟨a, rfl, rfl, rfl, wa⟩ := open_int Try.underlying3 (hval 0 3 v0 rfl rfl) h0
  clear hA0 hval0
  simp only [List.append_nil] at hW'
  refine (hcall a W).mono fun e W' ⟨he, hw⟩ => ?_
  subst he
  exact ⟨_, rfl, post_of_kept (pa := []) (pv := []) hW' (fun _ _ _ => trodAll_mk1 (shut_bool Try.underlying4 _)) (fun sp _ => trodAll_mk1 (shut_int Try.underlying3 wa)) (fun _ _ => rfl) rfl
    hw (ok_one (by kernel_rfl) rfl (okWide_bool_mk Try.underlying4 _))⟩

theorem CyclesGreatest_of (hcall : ∀ (a : Int) (w : World), Calls Try.prog 3 #[.int .i64 a] w fun e w' => e = .returned (.bool true) ∧ Kept w w') : Rows.CyclesGreatestSaid :=
  OpenClaim.holds_of_wide 3 Try.f3 rfl rfl rfl rfl rfl rfl rfl ⟨rfl, rfl, rfl, rfl, rfl⟩ rfl rfl rfl rfl rfl (by kernel_rfl) Try.func3 (by kernel_rfl)
    (of_decide_eq_true (by kernel_rfl)) (by unfold Func.isWrapper; first | (rw [if_pos (by decide +kernel)]; kernel_rfl) | (rw [if_neg (by decide +kernel)]; exact ⟨rfl, rfl⟩))
    (fun os started H enc _ => CyclesGreatest_lifted hcall os started H enc)

end Go.Proofs.Ytladlgohahiaeaa
