/-
  No cell of these rows narrows 'for every input' (looked for: loops, veiled, ifaces, maps, wideKeys, modest, calm, conditions, laid).
  DERIVED. THE GIVEN ROWS OF THIS SEAT. 12 by the template 'for every input the law returns true; each argument reads behind the call as it read before'; 0 by the template 'total and deterministic' (their statements: YtladlgohahiaeaaTotals.lean).
  GIVEN WITH THE SEED: the statements are not yours to turn. If you find one false, say at which input.
  Laid BY PROGRAM, IN A SANDBOX (cutbox-rows.mjs): the forced cells as the released guide's own fill.sh prints them over the translation f5c2461554f638af… (all of the seat's roots in one cut). By AI agents, Wed Nov 11 2026. No macro, syntax, notation, axiom, sorry.
-/
import Derived.Test.YtladlgohahiaeaaChecked
import GoSem.Claim
import GoSem.ClaimJoined
import GoSem.ClaimMapViews
import Derived.JoinedTies
import Derived.KernelRfl
namespace Go.Proofs.Ytladlgohahiaeaa
/- THE CELL 'sum', in the pinned program and in every row, IS THE sha256 OF THE DUMP (.gsa) THAT YtladlgohahiaeaaProg.lean LOADS. Nothing in Lean hashes anything: it is a label: what it is worth is what the hold of that sum in a sandbox is worth. -/
noncomputable def Try.pinned : Pinned := { name := "ytladlgohahiaeaa", sum := "f5c2461554f638af17d17b0e20ab8bf47b40577e99197242a1565c5302e6d10b", checked := Try.checked }
namespace Rows
def none {H : Type} : Left H := { results := [], args := [] }

/-- 'girouettelaw05.CyclesGreatest': WHATEVER THE INPUT: true; the input reads as it did. -/
def cyclesGreatestSpec : ChangeSpec := { name := "cyclesGreatest", fn := fun _ => fun
  | [d] => { results := [.lit (.bool true)], args := [d] }
  | _ => none }
def cyclesGreatestRow : OpenClaim := { program := "ytladlgohahiaeaa", sum := "f5c2461554f638af17d17b0e20ab8bf47b40577e99197242a1565c5302e6d10b", func := "girouette/girouettelaw05.CyclesGreatest", spec := "cyclesGreatest", unfollowed := true, recurses := true, plainKeys := false, apart := false }
def CyclesGreatestSaid : Prop := cyclesGreatestRow.holds Try.pinned (OpenSpec.ofChange cyclesGreatestSpec)

/-- ITS FALSE NEIGHBOUR: 'it returns false'. Refute it at one input. -/
def cyclesGreatestWrong : ChangeSpec := { name := "cyclesGreatest", fn := fun _ => fun
  | [d] => { results := [.lit (.bool false)], args := [d] }
  | _ => none }
def CyclesGreatestWrongFalsely : Prop := cyclesGreatestRow.holds Try.pinned (OpenSpec.ofChange cyclesGreatestWrong)

/-- 'girouettelaw03.OrdersGallai': WHATEVER THE INPUT: true; the input reads as it did. -/
def ordersGallaiSpec : ChangeSpec := { name := "ordersGallai", fn := fun _ => fun
  | [d1, d2] => { results := [.lit (.bool true)], args := [d1, d2] }
  | _ => none }
def ordersGallaiRow : OpenClaim := { program := "ytladlgohahiaeaa", sum := "f5c2461554f638af17d17b0e20ab8bf47b40577e99197242a1565c5302e6d10b", func := "girouette/girouettelaw03.OrdersGallai", spec := "ordersGallai", unfollowed := true, recurses := true, plainKeys := false, apart := false }
def OrdersGallaiSaid : Prop := ordersGallaiRow.holds Try.pinned (OpenSpec.ofChange ordersGallaiSpec)

/-- ITS FALSE NEIGHBOUR: 'it returns false'. Refute it at one input. -/
def ordersGallaiWrong : ChangeSpec := { name := "ordersGallai", fn := fun _ => fun
  | [d1, d2] => { results := [.lit (.bool false)], args := [d1, d2] }
  | _ => none }
def OrdersGallaiWrongFalsely : Prop := ordersGallaiRow.holds Try.pinned (OpenSpec.ofChange ordersGallaiWrong)

/-- 'girouettelaw05.CyclesFollows': WHATEVER THE INPUT: true; the input reads as it did. -/
def cyclesFollowsSpec : ChangeSpec := { name := "cyclesFollows", fn := fun _ => fun
  | [d1, d2] => { results := [.lit (.bool true)], args := [d1, d2] }
  | _ => none }
def cyclesFollowsRow : OpenClaim := { program := "ytladlgohahiaeaa", sum := "f5c2461554f638af17d17b0e20ab8bf47b40577e99197242a1565c5302e6d10b", func := "girouette/girouettelaw05.CyclesFollows", spec := "cyclesFollows", unfollowed := true, recurses := true, plainKeys := false, apart := false }
def CyclesFollowsSaid : Prop := cyclesFollowsRow.holds Try.pinned (OpenSpec.ofChange cyclesFollowsSpec)

/-- ITS FALSE NEIGHBOUR: 'it returns false'. Refute it at one input. -/
def cyclesFollowsWrong : ChangeSpec := { name := "cyclesFollows", fn := fun _ => fun
  | [d1, d2] => { results := [.lit (.bool false)], args := [d1, d2] }
  | _ => none }
def CyclesFollowsWrongFalsely : Prop := cyclesFollowsRow.holds Try.pinned (OpenSpec.ofChange cyclesFollowsWrong)

/-- 'girouettelaw05.CyclesRises': WHATEVER THE INPUT: true; the input reads as it did. -/
def cyclesRisesSpec : ChangeSpec := { name := "cyclesRises", fn := fun _ => fun
  | [d1, d2] => { results := [.lit (.bool true)], args := [d1, d2] }
  | _ => none }
def cyclesRisesRow : OpenClaim := { program := "ytladlgohahiaeaa", sum := "f5c2461554f638af17d17b0e20ab8bf47b40577e99197242a1565c5302e6d10b", func := "girouette/girouettelaw05.CyclesRises", spec := "cyclesRises", unfollowed := true, recurses := true, plainKeys := false, apart := false }
def CyclesRisesSaid : Prop := cyclesRisesRow.holds Try.pinned (OpenSpec.ofChange cyclesRisesSpec)

/-- ITS FALSE NEIGHBOUR: 'it returns false'. Refute it at one input. -/
def cyclesRisesWrong : ChangeSpec := { name := "cyclesRises", fn := fun _ => fun
  | [d1, d2] => { results := [.lit (.bool false)], args := [d1, d2] }
  | _ => none }
def CyclesRisesWrongFalsely : Prop := cyclesRisesRow.holds Try.pinned (OpenSpec.ofChange cyclesRisesWrong)

/-- 'girouettelaw05.CyclesPoints': WHATEVER THE INPUT: true; the input reads as it did. -/
def cyclesPointsSpec : ChangeSpec := { name := "cyclesPoints", fn := fun _ => fun
  | [d1, d2] => { results := [.lit (.bool true)], args := [d1, d2] }
  | _ => none }
def cyclesPointsRow : OpenClaim := { program := "ytladlgohahiaeaa", sum := "f5c2461554f638af17d17b0e20ab8bf47b40577e99197242a1565c5302e6d10b", func := "girouette/girouettelaw05.CyclesPoints", spec := "cyclesPoints", unfollowed := true, recurses := true, plainKeys := false, apart := false }
def CyclesPointsSaid : Prop := cyclesPointsRow.holds Try.pinned (OpenSpec.ofChange cyclesPointsSpec)

/-- ITS FALSE NEIGHBOUR: 'it returns false'. Refute it at one input. -/
def cyclesPointsWrong : ChangeSpec := { name := "cyclesPoints", fn := fun _ => fun
  | [d1, d2] => { results := [.lit (.bool false)], args := [d1, d2] }
  | _ => none }
def CyclesPointsWrongFalsely : Prop := cyclesPointsRow.holds Try.pinned (OpenSpec.ofChange cyclesPointsWrong)

/-- 'girouettelaw05.CyclesSharkovsky': WHATEVER THE INPUT: true; the input reads as it did. -/
def cyclesSharkovskySpec : ChangeSpec := { name := "cyclesSharkovsky", fn := fun _ => fun
  | [d] => { results := [.lit (.bool true)], args := [d] }
  | _ => none }
def cyclesSharkovskyRow : OpenClaim := { program := "ytladlgohahiaeaa", sum := "f5c2461554f638af17d17b0e20ab8bf47b40577e99197242a1565c5302e6d10b", func := "girouette/girouettelaw05.CyclesSharkovsky", spec := "cyclesSharkovsky", unfollowed := true, recurses := true, plainKeys := false, apart := false }
def CyclesSharkovskySaid : Prop := cyclesSharkovskyRow.holds Try.pinned (OpenSpec.ofChange cyclesSharkovskySpec)

/-- ITS FALSE NEIGHBOUR: 'it returns false'. Refute it at one input. -/
def cyclesSharkovskyWrong : ChangeSpec := { name := "cyclesSharkovsky", fn := fun _ => fun
  | [d] => { results := [.lit (.bool false)], args := [d] }
  | _ => none }
def CyclesSharkovskyWrongFalsely : Prop := cyclesSharkovskyRow.holds Try.pinned (OpenSpec.ofChange cyclesSharkovskyWrong)

/-- 'girouettelaw05.CyclesWords': WHATEVER THE INPUT: true; the input reads as it did. -/
def cyclesWordsSpec : ChangeSpec := { name := "cyclesWords", fn := fun _ => fun
  | [d1, d2] => { results := [.lit (.bool true)], args := [d1, d2] }
  | _ => none }
def cyclesWordsRow : OpenClaim := { program := "ytladlgohahiaeaa", sum := "f5c2461554f638af17d17b0e20ab8bf47b40577e99197242a1565c5302e6d10b", func := "girouette/girouettelaw05.CyclesWords", spec := "cyclesWords", unfollowed := true, recurses := true, plainKeys := false, apart := false }
def CyclesWordsSaid : Prop := cyclesWordsRow.holds Try.pinned (OpenSpec.ofChange cyclesWordsSpec)

/-- ITS FALSE NEIGHBOUR: 'it returns false'. Refute it at one input. -/
def cyclesWordsWrong : ChangeSpec := { name := "cyclesWords", fn := fun _ => fun
  | [d1, d2] => { results := [.lit (.bool false)], args := [d1, d2] }
  | _ => none }
def CyclesWordsWrongFalsely : Prop := cyclesWordsRow.holds Try.pinned (OpenSpec.ofChange cyclesWordsWrong)

/-- 'girouettelaw05.CyclesAfter': WHATEVER THE INPUT: true; the input reads as it did. -/
def cyclesAfterSpec : ChangeSpec := { name := "cyclesAfter", fn := fun _ => fun
  | [d1, d2] => { results := [.lit (.bool true)], args := [d1, d2] }
  | _ => none }
def cyclesAfterRow : OpenClaim := { program := "ytladlgohahiaeaa", sum := "f5c2461554f638af17d17b0e20ab8bf47b40577e99197242a1565c5302e6d10b", func := "girouette/girouettelaw05.CyclesAfter", spec := "cyclesAfter", unfollowed := true, recurses := true, plainKeys := false, apart := false }
def CyclesAfterSaid : Prop := cyclesAfterRow.holds Try.pinned (OpenSpec.ofChange cyclesAfterSpec)

/-- ITS FALSE NEIGHBOUR: 'it returns false'. Refute it at one input. -/
def cyclesAfterWrong : ChangeSpec := { name := "cyclesAfter", fn := fun _ => fun
  | [d1, d2] => { results := [.lit (.bool false)], args := [d1, d2] }
  | _ => none }
def CyclesAfterWrongFalsely : Prop := cyclesAfterRow.holds Try.pinned (OpenSpec.ofChange cyclesAfterWrong)

/-- 'girouettelaw05.CyclesPlain': WHATEVER THE INPUT: true; the input reads as it did. -/
def cyclesPlainSpec : ChangeSpec := { name := "cyclesPlain", fn := fun _ => fun
  | [d1, d2] => { results := [.lit (.bool true)], args := [d1, d2] }
  | _ => none }
def cyclesPlainRow : OpenClaim := { program := "ytladlgohahiaeaa", sum := "f5c2461554f638af17d17b0e20ab8bf47b40577e99197242a1565c5302e6d10b", func := "girouette/girouettelaw05.CyclesPlain", spec := "cyclesPlain", unfollowed := true, recurses := true, plainKeys := false, apart := false }
def CyclesPlainSaid : Prop := cyclesPlainRow.holds Try.pinned (OpenSpec.ofChange cyclesPlainSpec)

/-- ITS FALSE NEIGHBOUR: 'it returns false'. Refute it at one input. -/
def cyclesPlainWrong : ChangeSpec := { name := "cyclesPlain", fn := fun _ => fun
  | [d1, d2] => { results := [.lit (.bool false)], args := [d1, d2] }
  | _ => none }
def CyclesPlainWrongFalsely : Prop := cyclesPlainRow.holds Try.pinned (OpenSpec.ofChange cyclesPlainWrong)

/-- 'girouettelaw03.OrdersForces': WHATEVER THE INPUT: true; the input reads as it did. -/
def ordersForcesSpec : ChangeSpec := { name := "ordersForces", fn := fun _ => fun
  | [d1, d2, d3] => { results := [.lit (.bool true)], args := [d1, d2, d3] }
  | _ => none }
def ordersForcesRow : OpenClaim := { program := "ytladlgohahiaeaa", sum := "f5c2461554f638af17d17b0e20ab8bf47b40577e99197242a1565c5302e6d10b", func := "girouette/girouettelaw03.OrdersForces", spec := "ordersForces", unfollowed := true, recurses := true, plainKeys := false, apart := false }
def OrdersForcesSaid : Prop := ordersForcesRow.holds Try.pinned (OpenSpec.ofChange ordersForcesSpec)

/-- ITS FALSE NEIGHBOUR: 'it returns false'. Refute it at one input. -/
def ordersForcesWrong : ChangeSpec := { name := "ordersForces", fn := fun _ => fun
  | [d1, d2, d3] => { results := [.lit (.bool false)], args := [d1, d2, d3] }
  | _ => none }
def OrdersForcesWrongFalsely : Prop := ordersForcesRow.holds Try.pinned (OpenSpec.ofChange ordersForcesWrong)

/-- 'girouettelaw05.CyclesLoops': WHATEVER THE INPUT: true; the input reads as it did. -/
def cyclesLoopsSpec : ChangeSpec := { name := "cyclesLoops", fn := fun _ => fun
  | [d1, d2] => { results := [.lit (.bool true)], args := [d1, d2] }
  | _ => none }
def cyclesLoopsRow : OpenClaim := { program := "ytladlgohahiaeaa", sum := "f5c2461554f638af17d17b0e20ab8bf47b40577e99197242a1565c5302e6d10b", func := "girouette/girouettelaw05.CyclesLoops", spec := "cyclesLoops", unfollowed := true, recurses := true, plainKeys := false, apart := false }
def CyclesLoopsSaid : Prop := cyclesLoopsRow.holds Try.pinned (OpenSpec.ofChange cyclesLoopsSpec)

/-- ITS FALSE NEIGHBOUR: 'it returns false'. Refute it at one input. -/
def cyclesLoopsWrong : ChangeSpec := { name := "cyclesLoops", fn := fun _ => fun
  | [d1, d2] => { results := [.lit (.bool false)], args := [d1, d2] }
  | _ => none }
def CyclesLoopsWrongFalsely : Prop := cyclesLoopsRow.holds Try.pinned (OpenSpec.ofChange cyclesLoopsWrong)

/-- 'girouettelaw05.CyclesChecks': WHATEVER THE INPUT: true; the input reads as it did. -/
def cyclesChecksSpec : ChangeSpec := { name := "cyclesChecks", fn := fun _ => fun
  | [d1, d2] => { results := [.lit (.bool true)], args := [d1, d2] }
  | _ => none }
def cyclesChecksRow : OpenClaim := { program := "ytladlgohahiaeaa", sum := "f5c2461554f638af17d17b0e20ab8bf47b40577e99197242a1565c5302e6d10b", func := "girouette/girouettelaw05.CyclesChecks", spec := "cyclesChecks", unfollowed := true, recurses := true, plainKeys := false, apart := false }
def CyclesChecksSaid : Prop := cyclesChecksRow.holds Try.pinned (OpenSpec.ofChange cyclesChecksSpec)

/-- ITS FALSE NEIGHBOUR: 'it returns false'. Refute it at one input. -/
def cyclesChecksWrong : ChangeSpec := { name := "cyclesChecks", fn := fun _ => fun
  | [d1, d2] => { results := [.lit (.bool false)], args := [d1, d2] }
  | _ => none }
def CyclesChecksWrongFalsely : Prop := cyclesChecksRow.holds Try.pinned (OpenSpec.ofChange cyclesChecksWrong)

/- THE SECOND FORM. 'bulk': how many values and letters a reading holds, each counted each time it is reached (what is shared counts as often as it is met; a slice's spare places count too). A statement '..UptoSaid' is the law's where the arguments, and the package variables that the reading takes, are together of bulk at most 1048576: NARROWER than '..Said'. Prove '..Said' where nothing that the law and all that it calls make is longer than what came in: it says more and counts as full. Else prove '..UptoSaid'. A law counts once. -/
mutual
def uptoBulk {H : Type} : DataW H → Nat
  | .lit (.string bytes) => bytes.length + 1
  | .lit _ => 1
  | .nil => 1
  | .ptr d => uptoBulk d + 1
  | .slice elems spare => uptoBulkAll elems + uptoBulkAll spare + 1
  | .agg parts => uptoBulkAll parts + 1
  | .iface _ d => uptoBulk d + 1
  | .map entries => uptoBulkEntries entries + 1
  | .held _ => 1
def uptoBulkAll {H : Type} : List (DataW H) → Nat
  | [] => 0
  | d :: r => uptoBulk d + uptoBulkAll r
def uptoBulkEntries {H : Type} : List (Lit × DataW H) → Nat
  | [] => 0
  | x :: r => uptoBulkEntry x + uptoBulkEntries r
def uptoBulkEntry {H : Type} : Lit × DataW H → Nat
  | (.string bytes, d) => bytes.length + uptoBulk d + 1
  | (_, d) => uptoBulk d + 1
 end
def uptoSmall : (H : Type) → List (DataW H) → Bool := fun _ ds => decide (uptoBulkAll ds ≤ 1048576)
def OpenSpec.upto (s : _root_.Go.ChangeSpec) : _root_.Go.OpenSpec := { _root_.Go.OpenSpec.ofChange s with cond := some uptoSmall }

/-- 'girouettelaw05.CyclesGreatest', WHERE WHAT IT READS IS OF BULK AT MOST 1048576: true; the input reads as it did. -/
def cyclesGreatestUptoRow : OpenClaim := { program := "ytladlgohahiaeaa", sum := "f5c2461554f638af17d17b0e20ab8bf47b40577e99197242a1565c5302e6d10b", func := "girouette/girouettelaw05.CyclesGreatest", spec := "cyclesGreatest", unfollowed := true, recurses := true, plainKeys := false, apart := false, narrowed := true }
def CyclesGreatestUptoSaid : Prop := cyclesGreatestUptoRow.holds Try.pinned (OpenSpec.upto cyclesGreatestSpec)

/-- 'girouettelaw03.OrdersGallai', WHERE WHAT IT READS IS OF BULK AT MOST 1048576: true; the input reads as it did. -/
def ordersGallaiUptoRow : OpenClaim := { program := "ytladlgohahiaeaa", sum := "f5c2461554f638af17d17b0e20ab8bf47b40577e99197242a1565c5302e6d10b", func := "girouette/girouettelaw03.OrdersGallai", spec := "ordersGallai", unfollowed := true, recurses := true, plainKeys := false, apart := false, narrowed := true }
def OrdersGallaiUptoSaid : Prop := ordersGallaiUptoRow.holds Try.pinned (OpenSpec.upto ordersGallaiSpec)

/-- 'girouettelaw05.CyclesFollows', WHERE WHAT IT READS IS OF BULK AT MOST 1048576: true; the input reads as it did. -/
def cyclesFollowsUptoRow : OpenClaim := { program := "ytladlgohahiaeaa", sum := "f5c2461554f638af17d17b0e20ab8bf47b40577e99197242a1565c5302e6d10b", func := "girouette/girouettelaw05.CyclesFollows", spec := "cyclesFollows", unfollowed := true, recurses := true, plainKeys := false, apart := false, narrowed := true }
def CyclesFollowsUptoSaid : Prop := cyclesFollowsUptoRow.holds Try.pinned (OpenSpec.upto cyclesFollowsSpec)

/-- 'girouettelaw05.CyclesRises', WHERE WHAT IT READS IS OF BULK AT MOST 1048576: true; the input reads as it did. -/
def cyclesRisesUptoRow : OpenClaim := { program := "ytladlgohahiaeaa", sum := "f5c2461554f638af17d17b0e20ab8bf47b40577e99197242a1565c5302e6d10b", func := "girouette/girouettelaw05.CyclesRises", spec := "cyclesRises", unfollowed := true, recurses := true, plainKeys := false, apart := false, narrowed := true }
def CyclesRisesUptoSaid : Prop := cyclesRisesUptoRow.holds Try.pinned (OpenSpec.upto cyclesRisesSpec)

/-- 'girouettelaw05.CyclesPoints', WHERE WHAT IT READS IS OF BULK AT MOST 1048576: true; the input reads as it did. -/
def cyclesPointsUptoRow : OpenClaim := { program := "ytladlgohahiaeaa", sum := "f5c2461554f638af17d17b0e20ab8bf47b40577e99197242a1565c5302e6d10b", func := "girouette/girouettelaw05.CyclesPoints", spec := "cyclesPoints", unfollowed := true, recurses := true, plainKeys := false, apart := false, narrowed := true }
def CyclesPointsUptoSaid : Prop := cyclesPointsUptoRow.holds Try.pinned (OpenSpec.upto cyclesPointsSpec)

/-- 'girouettelaw05.CyclesSharkovsky', WHERE WHAT IT READS IS OF BULK AT MOST 1048576: true; the input reads as it did. -/
def cyclesSharkovskyUptoRow : OpenClaim := { program := "ytladlgohahiaeaa", sum := "f5c2461554f638af17d17b0e20ab8bf47b40577e99197242a1565c5302e6d10b", func := "girouette/girouettelaw05.CyclesSharkovsky", spec := "cyclesSharkovsky", unfollowed := true, recurses := true, plainKeys := false, apart := false, narrowed := true }
def CyclesSharkovskyUptoSaid : Prop := cyclesSharkovskyUptoRow.holds Try.pinned (OpenSpec.upto cyclesSharkovskySpec)

/-- 'girouettelaw05.CyclesWords', WHERE WHAT IT READS IS OF BULK AT MOST 1048576: true; the input reads as it did. -/
def cyclesWordsUptoRow : OpenClaim := { program := "ytladlgohahiaeaa", sum := "f5c2461554f638af17d17b0e20ab8bf47b40577e99197242a1565c5302e6d10b", func := "girouette/girouettelaw05.CyclesWords", spec := "cyclesWords", unfollowed := true, recurses := true, plainKeys := false, apart := false, narrowed := true }
def CyclesWordsUptoSaid : Prop := cyclesWordsUptoRow.holds Try.pinned (OpenSpec.upto cyclesWordsSpec)

/-- 'girouettelaw05.CyclesAfter', WHERE WHAT IT READS IS OF BULK AT MOST 1048576: true; the input reads as it did. -/
def cyclesAfterUptoRow : OpenClaim := { program := "ytladlgohahiaeaa", sum := "f5c2461554f638af17d17b0e20ab8bf47b40577e99197242a1565c5302e6d10b", func := "girouette/girouettelaw05.CyclesAfter", spec := "cyclesAfter", unfollowed := true, recurses := true, plainKeys := false, apart := false, narrowed := true }
def CyclesAfterUptoSaid : Prop := cyclesAfterUptoRow.holds Try.pinned (OpenSpec.upto cyclesAfterSpec)

/-- 'girouettelaw05.CyclesPlain', WHERE WHAT IT READS IS OF BULK AT MOST 1048576: true; the input reads as it did. -/
def cyclesPlainUptoRow : OpenClaim := { program := "ytladlgohahiaeaa", sum := "f5c2461554f638af17d17b0e20ab8bf47b40577e99197242a1565c5302e6d10b", func := "girouette/girouettelaw05.CyclesPlain", spec := "cyclesPlain", unfollowed := true, recurses := true, plainKeys := false, apart := false, narrowed := true }
def CyclesPlainUptoSaid : Prop := cyclesPlainUptoRow.holds Try.pinned (OpenSpec.upto cyclesPlainSpec)

/-- 'girouettelaw03.OrdersForces', WHERE WHAT IT READS IS OF BULK AT MOST 1048576: true; the input reads as it did. -/
def ordersForcesUptoRow : OpenClaim := { program := "ytladlgohahiaeaa", sum := "f5c2461554f638af17d17b0e20ab8bf47b40577e99197242a1565c5302e6d10b", func := "girouette/girouettelaw03.OrdersForces", spec := "ordersForces", unfollowed := true, recurses := true, plainKeys := false, apart := false, narrowed := true }
def OrdersForcesUptoSaid : Prop := ordersForcesUptoRow.holds Try.pinned (OpenSpec.upto ordersForcesSpec)

/-- 'girouettelaw05.CyclesLoops', WHERE WHAT IT READS IS OF BULK AT MOST 1048576: true; the input reads as it did. -/
def cyclesLoopsUptoRow : OpenClaim := { program := "ytladlgohahiaeaa", sum := "f5c2461554f638af17d17b0e20ab8bf47b40577e99197242a1565c5302e6d10b", func := "girouette/girouettelaw05.CyclesLoops", spec := "cyclesLoops", unfollowed := true, recurses := true, plainKeys := false, apart := false, narrowed := true }
def CyclesLoopsUptoSaid : Prop := cyclesLoopsUptoRow.holds Try.pinned (OpenSpec.upto cyclesLoopsSpec)

/-- 'girouettelaw05.CyclesChecks', WHERE WHAT IT READS IS OF BULK AT MOST 1048576: true; the input reads as it did. -/
def cyclesChecksUptoRow : OpenClaim := { program := "ytladlgohahiaeaa", sum := "f5c2461554f638af17d17b0e20ab8bf47b40577e99197242a1565c5302e6d10b", func := "girouette/girouettelaw05.CyclesChecks", spec := "cyclesChecks", unfollowed := true, recurses := true, plainKeys := false, apart := false, narrowed := true }
def CyclesChecksUptoSaid : Prop := cyclesChecksUptoRow.holds Try.pinned (OpenSpec.upto cyclesChecksSpec)

end Rows
end Go.Proofs.Ytladlgohahiaeaa
