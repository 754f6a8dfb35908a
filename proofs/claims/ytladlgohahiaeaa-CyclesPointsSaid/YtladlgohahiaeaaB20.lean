/- What the rows of the laws share. -/
import Derived.Test.YtladlgohahiaeaaB1
import Derived.Test.YtladlgohahiaeaaK1
import Derived.Test.YtladlgohahiaeaaRows
set_option linter.unusedSimpArgs false
set_option linter.unusedVariables false
namespace Go.Proofs.Ytladlgohahiaeaa
open Go.ChangeShapes Go.WideShapes Go.ChangeAt Go.RowKit Go.Absm

theorem Try.own : ownKnob Try.prog.godebug = none := by kernel_rfl
theorem Try.laidOut : laidOutB Try.prog = true := by kernel_rfl

/-- a run on two numbers is a call -/
theorem two_ints {cf : CallF} (hc : CallOk Try.prog cf) {f : Nat} {a b : Int} {n : Nat} (hr : cf f [.int .i64 a, .int .i64 b] [] n kq0 ke0 = some (.bool true, [], 0)) (w : World) :
    Calls Try.prog f #[.int .i64 a, .int .i64 b] w fun e w' => e = .returned (.bool true) ∧ Kept w w' := by
  refine (law_ok hc hr rfl rfl (μ := fun _ => none) (w := w) (args' := #[.int .i64 a, .int .i64 b]) ⟨fun b o hg => by simp [hget] at hg, fun b b' o o' l l' hg => by simp [hget] at hg⟩ (fun _ _ => rfl)
    ⟨_, _, rfl, rfl, _, _, rfl, rfl, rfl⟩).mono fun e w' he => ?_
  obtain ⟨v', rfl, h1, h2⟩ := he
  cases h1
  exact ⟨rfl, h2⟩

end Go.Proofs.Ytladlgohahiaeaa
