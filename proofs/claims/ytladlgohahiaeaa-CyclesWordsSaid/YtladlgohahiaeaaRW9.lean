/- The row of CyclesWords, from its calls. -/
import Derived.Test.YtladlgohahiaeaaB20
import Derived.ChangeMaps5
set_option linter.unusedSimpArgs false
set_option linter.unusedVariables false
namespace Go.Proofs.Ytladlgohahiaeaa
open Go.ChangeShapes Go.WideShapes Go.ChangeAt Go.RowKit Go.Absm
/-- the bytes of a text -/
def bytesN (s : ByteArray) : List Nat := s.data.toList.map (·.toNat)
/-- a run on two texts is a call -/
theorem two_strs {cf : CallF} (hc : CallOk Try.prog cf) {f : Nat} {a b : ByteArray} {n : Nat} (hr : cf f [.str (bytesN a), .str (bytesN b)] [] n kq0 ke0 = some (.bool true, [], 0)) (w : World) :
    Calls Try.prog f #[.string a, .string b] w fun e w' => e = .returned (.bool true) ∧ Kept w w' := by
  refine (law_ok hc hr rfl rfl (μ := fun _ => none) (w := w) (args' := #[.string a, .string b]) ⟨fun b o hg => by simp [hget] at hg, fun b b' o o' l l' hg => by simp [hget] at hg⟩ (fun _ _ => rfl)
    ⟨_, _, rfl, ⟨_, rfl, rfl⟩, _, _, rfl, ⟨_, rfl, rfl⟩, rfl⟩).mono fun e w' he => ?_
  obtain ⟨v', rfl, h1, h2⟩ := he
  cases h1
  exact ⟨rfl, h2⟩
set_option maxRecDepth 100000 in
theorem CyclesWords_lifted (hcall : ∀ (a b : ByteArray) (w : World), a.size ≤ maxLen → b.size ≤ maxLen → Calls Try.prog 9 #[.string a, .string b] w fun e w' => e = .returned (.bool true) ∧ Kept w w')
    (os : Os) (started : os.Started) (H : Type) (enc : TypeId × Value → H) :
    ReturnsInHanded {} Try.checked os 9 .any (Rows.cyclesWordsSpec.pre6 enc Try.prog Try.f9 Rows.cyclesWordsRow.domain false) (Rows.cyclesWordsSpec.post enc Try.prog Try.f9 false true false false) := by
  refine returnsInHanded_of_change (C := Try.checked) Try.own started (by kernel_rfl) Try.func9
    (ChangeSpec.witness6 (enc := enc) (C := Try.checked) false ⟨#[], #[.string ⟨#[]⟩, .string ⟨#[]⟩], []⟩ 8 (by kernel_rfl) (by kernel_rfl) (by kernel_rfl) (by kernel_rfl)) ?_
  intro W base args ds gs before hval0 hW hcnd _
  have hval : ∀ (j : Nat) t v, Try.f9.params[j]? = some t → args[j]? = some v → Value.okWide Try.prog W .any base t v := hval0
  have hW' := hW
  obtain ⟨p, q, hA0, hV, rfl, hfz, hnd⟩ := hW
  have hA : DataW.TrodAll enc Try.prog W 0 (fun _ => true) true Try.f9.params.toList args.toList ds p := hA0
  rw [Try.params9] at hA hval
  obtain ⟨v0, v1, d0, d1, p0, p1, rfl, rfl, rfl, h0, h1⟩ := trodAll_two hA
  obtain ⟨rfl, rfl⟩ := trodVars_none hV
  obtain ⟨a, rfl, rfl, rfl, wa⟩ := ChangeMaps.open_string Try.underlying9 (hval 0 9 v0 rfl rfl) h0
  obtain ⟨b, rfl, rfl, rfl, wb⟩ := ChangeMaps.open_string Try.underlying9 (hval 1 9 v1 rfl rfl) h1
  clear hA0 hval0
  simp only [List.append_nil] at hW'
  refine (hcall a b W wa wb).mono fun e W' ⟨he, hw⟩ => ?_
  subst he
  exact ⟨_, rfl, post_of_kept (pa := []) (pv := []) hW' (fun _ _ _ => trodAll_mk1 (shut_bool Try.underlying4 _)) (fun sp _ => trodAll_mk2 (ChangeMaps.shut_string Try.underlying9 wa) (ChangeMaps.shut_string Try.underlying9 wb)) (fun _ _ => rfl) rfl
    hw (ok_one (by kernel_rfl) rfl (okWide_bool_mk Try.underlying4 _))⟩

theorem CyclesWords_of (hcall : ∀ (a b : ByteArray) (w : World), a.size ≤ maxLen → b.size ≤ maxLen → Calls Try.prog 9 #[.string a, .string b] w fun e w' => e = .returned (.bool true) ∧ Kept w w') : Rows.CyclesWordsSaid :=
  OpenClaim.holds_of_wide 9 Try.f9 rfl rfl rfl rfl rfl rfl rfl ⟨rfl, rfl, rfl, rfl, rfl⟩ rfl rfl rfl rfl rfl (by kernel_rfl) Try.func9 (by kernel_rfl)
    (of_decide_eq_true (by kernel_rfl)) (by unfold Func.isWrapper; first | (rw [if_pos (by decide +kernel)]; kernel_rfl) | (rw [if_neg (by decide +kernel)]; exact ⟨rfl, rfl⟩))
    (fun os started H enc _ => CyclesWords_lifted hcall os started H enc)

end Go.Proofs.Ytladlgohahiaeaa
