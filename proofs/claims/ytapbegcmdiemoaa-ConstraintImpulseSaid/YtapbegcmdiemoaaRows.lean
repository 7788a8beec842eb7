/-
  No cell of these rows narrows 'for every input' (looked for: loops, veiled, ifaces, maps, wideKeys, modest, calm, conditions, laid).
  DERIVED. THE GIVEN ROWS OF THIS SEAT. 12 by the template 'for every input the law returns true; each argument reads behind the call as it read before'; 0 by the template 'total and deterministic' (their statements: YtapbegcmdiemoaaTotals.lean).
  GIVEN WITH THE SEED: the statements are not yours to turn. If you find one false, say at which input.
  Laid BY PROGRAM, IN A SANDBOX (cutbox-rows.mjs): the forced cells as the released guide's own fill.sh prints them over the translation 75ef2e0033dbdf60… (all of the seat's roots in one cut). By AI agents, Wed Nov 11 2026. No macro, syntax, notation, axiom, sorry.
-/
import Derived.Test.YtapbegcmdiemoaaChecked
import GoSem.Claim
import GoSem.ClaimJoined
import GoSem.ClaimMapViews
import Derived.JoinedTies
import Derived.KernelRfl
namespace Go.Proofs.Ytapbegcmdiemoaa
/- THE CELL 'sum', in the pinned program and in every row, IS THE sha256 OF THE DUMP (.gsa) THAT YtapbegcmdiemoaaProg.lean LOADS. Nothing in Lean hashes anything: it is a label: what it is worth is what the hold of that sum in a sandbox is worth. -/
noncomputable def Try.pinned : Pinned := { name := "ytapbegcmdiemoaa", sum := "75ef2e0033dbdf60b69d16be16e779166ac8318b9e58fa25e81955808239ba6f", checked := Try.checked }
namespace Rows
def none {H : Type} : Left H := { results := [], args := [] }

/-- 'caromlaw28.ConstraintBounds': WHATEVER THE INPUT: true; the input reads as it did. -/
def constraintBoundsSpec : ChangeSpec := { name := "constraintBounds", fn := fun _ => fun
  | [d1, d2, d3] => { results := [.lit (.bool true)], args := [d1, d2, d3] }
  | _ => none }
def constraintBoundsRow : OpenClaim := { program := "ytapbegcmdiemoaa", sum := "75ef2e0033dbdf60b69d16be16e779166ac8318b9e58fa25e81955808239ba6f", func := "carom/caromlaw28.ConstraintBounds", spec := "constraintBounds", apart := false }
def ConstraintBoundsSaid : Prop := constraintBoundsRow.holds Try.pinned (OpenSpec.ofChange constraintBoundsSpec)

/-- ITS FALSE NEIGHBOUR: 'it returns false'. Refute it at one input. -/
def constraintBoundsWrong : ChangeSpec := { name := "constraintBounds", fn := fun _ => fun
  | [d1, d2, d3] => { results := [.lit (.bool false)], args := [d1, d2, d3] }
  | _ => none }
def ConstraintBoundsWrongFalsely : Prop := constraintBoundsRow.holds Try.pinned (OpenSpec.ofChange constraintBoundsWrong)

/-- 'caromlaw28.ConstraintSolve': WHATEVER THE INPUT: true; the input reads as it did. -/
def constraintSolveSpec : ChangeSpec := { name := "constraintSolve", fn := fun _ => fun
  | [d1, d2, d3] => { results := [.lit (.bool true)], args := [d1, d2, d3] }
  | _ => none }
def constraintSolveRow : OpenClaim := { program := "ytapbegcmdiemoaa", sum := "75ef2e0033dbdf60b69d16be16e779166ac8318b9e58fa25e81955808239ba6f", func := "carom/caromlaw28.ConstraintSolve", spec := "constraintSolve", apart := false }
def ConstraintSolveSaid : Prop := constraintSolveRow.holds Try.pinned (OpenSpec.ofChange constraintSolveSpec)

/-- ITS FALSE NEIGHBOUR: 'it returns false'. Refute it at one input. -/
def constraintSolveWrong : ChangeSpec := { name := "constraintSolve", fn := fun _ => fun
  | [d1, d2, d3] => { results := [.lit (.bool false)], args := [d1, d2, d3] }
  | _ => none }
def ConstraintSolveWrongFalsely : Prop := constraintSolveRow.holds Try.pinned (OpenSpec.ofChange constraintSolveWrong)

/-- 'caromlaw28.ConstraintImpulse': WHATEVER THE INPUT: true; the input reads as it did. -/
def constraintImpulseSpec : ChangeSpec := { name := "constraintImpulse", fn := fun _ => fun
  | [d1, d2, d3] => { results := [.lit (.bool true)], args := [d1, d2, d3] }
  | _ => none }
def constraintImpulseRow : OpenClaim := { program := "ytapbegcmdiemoaa", sum := "75ef2e0033dbdf60b69d16be16e779166ac8318b9e58fa25e81955808239ba6f", func := "carom/caromlaw28.ConstraintImpulse", spec := "constraintImpulse", apart := false }
def ConstraintImpulseSaid : Prop := constraintImpulseRow.holds Try.pinned (OpenSpec.ofChange constraintImpulseSpec)

/-- ITS FALSE NEIGHBOUR: 'it returns false'. Refute it at one input. -/
def constraintImpulseWrong : ChangeSpec := { name := "constraintImpulse", fn := fun _ => fun
  | [d1, d2, d3] => { results := [.lit (.bool false)], args := [d1, d2, d3] }
  | _ => none }
def ConstraintImpulseWrongFalsely : Prop := constraintImpulseRow.holds Try.pinned (OpenSpec.ofChange constraintImpulseWrong)

/-- 'caromlaw28.ConstraintZeroMass': WHATEVER THE INPUT: true; the input reads as it did. -/
def constraintZeroMassSpec : ChangeSpec := { name := "constraintZeroMass", fn := fun _ => fun
  | [d1, d2, d3] => { results := [.lit (.bool true)], args := [d1, d2, d3] }
  | _ => none }
def constraintZeroMassRow : OpenClaim := { program := "ytapbegcmdiemoaa", sum := "75ef2e0033dbdf60b69d16be16e779166ac8318b9e58fa25e81955808239ba6f", func := "carom/caromlaw28.ConstraintZeroMass", spec := "constraintZeroMass", apart := false }
def ConstraintZeroMassSaid : Prop := constraintZeroMassRow.holds Try.pinned (OpenSpec.ofChange constraintZeroMassSpec)

/-- ITS FALSE NEIGHBOUR: 'it returns false'. Refute it at one input. -/
def constraintZeroMassWrong : ChangeSpec := { name := "constraintZeroMass", fn := fun _ => fun
  | [d1, d2, d3] => { results := [.lit (.bool false)], args := [d1, d2, d3] }
  | _ => none }
def ConstraintZeroMassWrongFalsely : Prop := constraintZeroMassRow.holds Try.pinned (OpenSpec.ofChange constraintZeroMassWrong)

/-- 'caromlaw28.ConstraintReversible': WHATEVER THE INPUT: true; the input reads as it did. -/
def constraintReversibleSpec : ChangeSpec := { name := "constraintReversible", fn := fun _ => fun
  | [d1, d2, d3] => { results := [.lit (.bool true)], args := [d1, d2, d3] }
  | _ => none }
def constraintReversibleRow : OpenClaim := { program := "ytapbegcmdiemoaa", sum := "75ef2e0033dbdf60b69d16be16e779166ac8318b9e58fa25e81955808239ba6f", func := "carom/caromlaw28.ConstraintReversible", spec := "constraintReversible", apart := false }
def ConstraintReversibleSaid : Prop := constraintReversibleRow.holds Try.pinned (OpenSpec.ofChange constraintReversibleSpec)

/-- ITS FALSE NEIGHBOUR: 'it returns false'. Refute it at one input. -/
def constraintReversibleWrong : ChangeSpec := { name := "constraintReversible", fn := fun _ => fun
  | [d1, d2, d3] => { results := [.lit (.bool false)], args := [d1, d2, d3] }
  | _ => none }
def ConstraintReversibleWrongFalsely : Prop := constraintReversibleRow.holds Try.pinned (OpenSpec.ofChange constraintReversibleWrong)

/-- 'caromlaw28.ConstraintVelocityMass': WHATEVER THE INPUT: true; the input reads as it did. -/
def constraintVelocityMassSpec : ChangeSpec := { name := "constraintVelocityMass", fn := fun _ => fun
  | [d1, d2, d3, d4] => { results := [.lit (.bool true)], args := [d1, d2, d3, d4] }
  | _ => none }
def constraintVelocityMassRow : OpenClaim := { program := "ytapbegcmdiemoaa", sum := "75ef2e0033dbdf60b69d16be16e779166ac8318b9e58fa25e81955808239ba6f", func := "carom/caromlaw28.ConstraintVelocityMass", spec := "constraintVelocityMass", apart := false }
def ConstraintVelocityMassSaid : Prop := constraintVelocityMassRow.holds Try.pinned (OpenSpec.ofChange constraintVelocityMassSpec)

/-- ITS FALSE NEIGHBOUR: 'it returns false'. Refute it at one input. -/
def constraintVelocityMassWrong : ChangeSpec := { name := "constraintVelocityMass", fn := fun _ => fun
  | [d1, d2, d3, d4] => { results := [.lit (.bool false)], args := [d1, d2, d3, d4] }
  | _ => none }
def ConstraintVelocityMassWrongFalsely : Prop := constraintVelocityMassRow.holds Try.pinned (OpenSpec.ofChange constraintVelocityMassWrong)

/-- 'caromlaw35.SolverBounds': WHATEVER THE INPUT: true; the input reads as it did. -/
def solverBoundsSpec : ChangeSpec := { name := "solverBounds", fn := fun _ => fun
  | [d1, d2, d3] => { results := [.lit (.bool true)], args := [d1, d2, d3] }
  | _ => none }
def solverBoundsRow : OpenClaim := { program := "ytapbegcmdiemoaa", sum := "75ef2e0033dbdf60b69d16be16e779166ac8318b9e58fa25e81955808239ba6f", func := "carom/caromlaw35.SolverBounds", spec := "solverBounds", apart := false }
def SolverBoundsSaid : Prop := solverBoundsRow.holds Try.pinned (OpenSpec.ofChange solverBoundsSpec)

/-- ITS FALSE NEIGHBOUR: 'it returns false'. Refute it at one input. -/
def solverBoundsWrong : ChangeSpec := { name := "solverBounds", fn := fun _ => fun
  | [d1, d2, d3] => { results := [.lit (.bool false)], args := [d1, d2, d3] }
  | _ => none }
def SolverBoundsWrongFalsely : Prop := solverBoundsRow.holds Try.pinned (OpenSpec.ofChange solverBoundsWrong)

/-- 'caromlaw35.SolverPhases': WHATEVER THE INPUT: true; the input reads as it did. -/
def solverPhasesSpec : ChangeSpec := { name := "solverPhases", fn := fun _ => fun
  | [d1, d2] => { results := [.lit (.bool true)], args := [d1, d2] }
  | _ => none }
def solverPhasesRow : OpenClaim := { program := "ytapbegcmdiemoaa", sum := "75ef2e0033dbdf60b69d16be16e779166ac8318b9e58fa25e81955808239ba6f", func := "carom/caromlaw35.SolverPhases", spec := "solverPhases", apart := false }
def SolverPhasesSaid : Prop := solverPhasesRow.holds Try.pinned (OpenSpec.ofChange solverPhasesSpec)

/-- ITS FALSE NEIGHBOUR: 'it returns false'. Refute it at one input. -/
def solverPhasesWrong : ChangeSpec := { name := "solverPhases", fn := fun _ => fun
  | [d1, d2] => { results := [.lit (.bool false)], args := [d1, d2] }
  | _ => none }
def SolverPhasesWrongFalsely : Prop := solverPhasesRow.holds Try.pinned (OpenSpec.ofChange solverPhasesWrong)

/-- 'caromlaw35.SolverSolve': WHATEVER THE INPUT: true; the input reads as it did. -/
def solverSolveSpec : ChangeSpec := { name := "solverSolve", fn := fun _ => fun
  | [d1, d2, d3] => { results := [.lit (.bool true)], args := [d1, d2, d3] }
  | _ => none }
def solverSolveRow : OpenClaim := { program := "ytapbegcmdiemoaa", sum := "75ef2e0033dbdf60b69d16be16e779166ac8318b9e58fa25e81955808239ba6f", func := "carom/caromlaw35.SolverSolve", spec := "solverSolve", apart := false }
def SolverSolveSaid : Prop := solverSolveRow.holds Try.pinned (OpenSpec.ofChange solverSolveSpec)

/-- ITS FALSE NEIGHBOUR: 'it returns false'. Refute it at one input. -/
def solverSolveWrong : ChangeSpec := { name := "solverSolve", fn := fun _ => fun
  | [d1, d2, d3] => { results := [.lit (.bool false)], args := [d1, d2, d3] }
  | _ => none }
def SolverSolveWrongFalsely : Prop := solverSolveRow.holds Try.pinned (OpenSpec.ofChange solverSolveWrong)

/-- 'caromlaw35.SolverInertRow': WHATEVER THE INPUT: true; the input reads as it did. -/
def solverInertRowSpec : ChangeSpec := { name := "solverInertRow", fn := fun _ => fun
  | [d1, d2, d3, d4] => { results := [.lit (.bool true)], args := [d1, d2, d3, d4] }
  | _ => none }
def solverInertRowRow : OpenClaim := { program := "ytapbegcmdiemoaa", sum := "75ef2e0033dbdf60b69d16be16e779166ac8318b9e58fa25e81955808239ba6f", func := "carom/caromlaw35.SolverInertRow", spec := "solverInertRow", apart := false }
def SolverInertRowSaid : Prop := solverInertRowRow.holds Try.pinned (OpenSpec.ofChange solverInertRowSpec)

/-- ITS FALSE NEIGHBOUR: 'it returns false'. Refute it at one input. -/
def solverInertRowWrong : ChangeSpec := { name := "solverInertRow", fn := fun _ => fun
  | [d1, d2, d3, d4] => { results := [.lit (.bool false)], args := [d1, d2, d3, d4] }
  | _ => none }
def SolverInertRowWrongFalsely : Prop := solverInertRowRow.holds Try.pinned (OpenSpec.ofChange solverInertRowWrong)

/-- 'caromlaw35.SolverIterations': WHATEVER THE INPUT: true; the input reads as it did. -/
def solverIterationsSpec : ChangeSpec := { name := "solverIterations", fn := fun _ => fun
  | [d1, d2, d3, d4] => { results := [.lit (.bool true)], args := [d1, d2, d3, d4] }
  | _ => none }
def solverIterationsRow : OpenClaim := { program := "ytapbegcmdiemoaa", sum := "75ef2e0033dbdf60b69d16be16e779166ac8318b9e58fa25e81955808239ba6f", func := "carom/caromlaw35.SolverIterations", spec := "solverIterations", apart := false }
def SolverIterationsSaid : Prop := solverIterationsRow.holds Try.pinned (OpenSpec.ofChange solverIterationsSpec)

/-- ITS FALSE NEIGHBOUR: 'it returns false'. Refute it at one input. -/
def solverIterationsWrong : ChangeSpec := { name := "solverIterations", fn := fun _ => fun
  | [d1, d2, d3, d4] => { results := [.lit (.bool false)], args := [d1, d2, d3, d4] }
  | _ => none }
def SolverIterationsWrongFalsely : Prop := solverIterationsRow.holds Try.pinned (OpenSpec.ofChange solverIterationsWrong)

/-- 'caromlaw35.SolverClampImpulses': WHATEVER THE INPUT: true; the input reads as it did. -/
def solverClampImpulsesSpec : ChangeSpec := { name := "solverClampImpulses", fn := fun _ => fun
  | [d] => { results := [.lit (.bool true)], args := [d] }
  | _ => none }
def solverClampImpulsesRow : OpenClaim := { program := "ytapbegcmdiemoaa", sum := "75ef2e0033dbdf60b69d16be16e779166ac8318b9e58fa25e81955808239ba6f", func := "carom/caromlaw35.SolverClampImpulses", spec := "solverClampImpulses", apart := false }
def SolverClampImpulsesSaid : Prop := solverClampImpulsesRow.holds Try.pinned (OpenSpec.ofChange solverClampImpulsesSpec)

/-- ITS FALSE NEIGHBOUR: 'it returns false'. Refute it at one input. -/
def solverClampImpulsesWrong : ChangeSpec := { name := "solverClampImpulses", fn := fun _ => fun
  | [d] => { results := [.lit (.bool false)], args := [d] }
  | _ => none }
def SolverClampImpulsesWrongFalsely : Prop := solverClampImpulsesRow.holds Try.pinned (OpenSpec.ofChange solverClampImpulsesWrong)

/- THE SECOND FORM. 'bulk': how many values and letters a reading holds, each counted each time it is reached (what is shared counts as often as it is met; a slice's spare places count too). A statement '..UptoSaid' is the law's where the arguments, and the package variables that the reading takes, are together of bulk at most 1048576: NARROWER than '..Said'. Prove '..Said' where nothing that the law and all that it calls make is longer than what came in: it says more and counts as full. Else prove '..UptoSaid'. A law counts once. -/
mutual
def uptoBulk {H : Type} : DataW H → Nat
  | .lit (.string bytes) => bytes.length + 1
  | .lit _ => 1
  | .nil => 1
  | .ptr d => uptoBulk d + 1
  | .slice elems spare => uptoBulkAll elems + uptoBulkAll spare + 1
  | .agg parts => uptoBulkAll parts + 1
  | .iface _ d => uptoBulk d + 1
  | .map entries => uptoBulkEntries entries + 1
  | .held _ => 1
def uptoBulkAll {H : Type} : List (DataW H) → Nat
  | [] => 0
  | d :: r => uptoBulk d + uptoBulkAll r
def uptoBulkEntries {H : Type} : List (Lit × DataW H) → Nat
  | [] => 0
  | x :: r => uptoBulkEntry x + uptoBulkEntries r
def uptoBulkEntry {H : Type} : Lit × DataW H → Nat
  | (.string bytes, d) => bytes.length + uptoBulk d + 1
  | (_, d) => uptoBulk d + 1
 end
def uptoSmall : (H : Type) → List (DataW H) → Bool := fun _ ds => decide (uptoBulkAll ds ≤ 1048576)
def OpenSpec.upto (s : _root_.Go.ChangeSpec) : _root_.Go.OpenSpec := { _root_.Go.OpenSpec.ofChange s with cond := some uptoSmall }

/-- 'caromlaw28.ConstraintBounds', WHERE WHAT IT READS IS OF BULK AT MOST 1048576: true; the input reads as it did. -/
def constraintBoundsUptoRow : OpenClaim := { program := "ytapbegcmdiemoaa", sum := "75ef2e0033dbdf60b69d16be16e779166ac8318b9e58fa25e81955808239ba6f", func := "carom/caromlaw28.ConstraintBounds", spec := "constraintBounds", apart := false, narrowed := true }
def ConstraintBoundsUptoSaid : Prop := constraintBoundsUptoRow.holds Try.pinned (OpenSpec.upto constraintBoundsSpec)

/-- 'caromlaw28.ConstraintSolve', WHERE WHAT IT READS IS OF BULK AT MOST 1048576: true; the input reads as it did. -/
def constraintSolveUptoRow : OpenClaim := { program := "ytapbegcmdiemoaa", sum := "75ef2e0033dbdf60b69d16be16e779166ac8318b9e58fa25e81955808239ba6f", func := "carom/caromlaw28.ConstraintSolve", spec := "constraintSolve", apart := false, narrowed := true }
def ConstraintSolveUptoSaid : Prop := constraintSolveUptoRow.holds Try.pinned (OpenSpec.upto constraintSolveSpec)

/-- 'caromlaw28.ConstraintImpulse', WHERE WHAT IT READS IS OF BULK AT MOST 1048576: true; the input reads as it did. -/
def constraintImpulseUptoRow : OpenClaim := { program := "ytapbegcmdiemoaa", sum := "75ef2e0033dbdf60b69d16be16e779166ac8318b9e58fa25e81955808239ba6f", func := "carom/caromlaw28.ConstraintImpulse", spec := "constraintImpulse", apart := false, narrowed := true }
def ConstraintImpulseUptoSaid : Prop := constraintImpulseUptoRow.holds Try.pinned (OpenSpec.upto constraintImpulseSpec)

/-- 'caromlaw28.ConstraintZeroMass', WHERE WHAT IT READS IS OF BULK AT MOST 1048576: true; the input reads as it did. -/
def constraintZeroMassUptoRow : OpenClaim := { program := "ytapbegcmdiemoaa", sum := "75ef2e0033dbdf60b69d16be16e779166ac8318b9e58fa25e81955808239ba6f", func := "carom/caromlaw28.ConstraintZeroMass", spec := "constraintZeroMass", apart := false, narrowed := true }
def ConstraintZeroMassUptoSaid : Prop := constraintZeroMassUptoRow.holds Try.pinned (OpenSpec.upto constraintZeroMassSpec)

/-- 'caromlaw28.ConstraintReversible', WHERE WHAT IT READS IS OF BULK AT MOST 1048576: true; the input reads as it did. -/
def constraintReversibleUptoRow : OpenClaim := { program := "ytapbegcmdiemoaa", sum := "75ef2e0033dbdf60b69d16be16e779166ac8318b9e58fa25e81955808239ba6f", func := "carom/caromlaw28.ConstraintReversible", spec := "constraintReversible", apart := false, narrowed := true }
def ConstraintReversibleUptoSaid : Prop := constraintReversibleUptoRow.holds Try.pinned (OpenSpec.upto constraintReversibleSpec)

/-- 'caromlaw28.ConstraintVelocityMass', WHERE WHAT IT READS IS OF BULK AT MOST 1048576: true; the input reads as it did. -/
def constraintVelocityMassUptoRow : OpenClaim := { program := "ytapbegcmdiemoaa", sum := "75ef2e0033dbdf60b69d16be16e779166ac8318b9e58fa25e81955808239ba6f", func := "carom/caromlaw28.ConstraintVelocityMass", spec := "constraintVelocityMass", apart := false, narrowed := true }
def ConstraintVelocityMassUptoSaid : Prop := constraintVelocityMassUptoRow.holds Try.pinned (OpenSpec.upto constraintVelocityMassSpec)

/-- 'caromlaw35.SolverBounds', WHERE WHAT IT READS IS OF BULK AT MOST 1048576: true; the input reads as it did. -/
def solverBoundsUptoRow : OpenClaim := { program := "ytapbegcmdiemoaa", sum := "75ef2e0033dbdf60b69d16be16e779166ac8318b9e58fa25e81955808239ba6f", func := "carom/caromlaw35.SolverBounds", spec := "solverBounds", apart := false, narrowed := true }
def SolverBoundsUptoSaid : Prop := solverBoundsUptoRow.holds Try.pinned (OpenSpec.upto solverBoundsSpec)

/-- 'caromlaw35.SolverPhases', WHERE WHAT IT READS IS OF BULK AT MOST 1048576: true; the input reads as it did. -/
def solverPhasesUptoRow : OpenClaim := { program := "ytapbegcmdiemoaa", sum := "75ef2e0033dbdf60b69d16be16e779166ac8318b9e58fa25e81955808239ba6f", func := "carom/caromlaw35.SolverPhases", spec := "solverPhases", apart := false, narrowed := true }
def SolverPhasesUptoSaid : Prop := solverPhasesUptoRow.holds Try.pinned (OpenSpec.upto solverPhasesSpec)

/-- 'caromlaw35.SolverSolve', WHERE WHAT IT READS IS OF BULK AT MOST 1048576: true; the input reads as it did. -/
def solverSolveUptoRow : OpenClaim := { program := "ytapbegcmdiemoaa", sum := "75ef2e0033dbdf60b69d16be16e779166ac8318b9e58fa25e81955808239ba6f", func := "carom/caromlaw35.SolverSolve", spec := "solverSolve", apart := false, narrowed := true }
def SolverSolveUptoSaid : Prop := solverSolveUptoRow.holds Try.pinned (OpenSpec.upto solverSolveSpec)

/-- 'caromlaw35.SolverInertRow', WHERE WHAT IT READS IS OF BULK AT MOST 1048576: true; the input reads as it did. -/
def solverInertRowUptoRow : OpenClaim := { program := "ytapbegcmdiemoaa", sum := "75ef2e0033dbdf60b69d16be16e779166ac8318b9e58fa25e81955808239ba6f", func := "carom/caromlaw35.SolverInertRow", spec := "solverInertRow", apart := false, narrowed := true }
def SolverInertRowUptoSaid : Prop := solverInertRowUptoRow.holds Try.pinned (OpenSpec.upto solverInertRowSpec)

/-- 'caromlaw35.SolverIterations', WHERE WHAT IT READS IS OF BULK AT MOST 1048576: true; the input reads as it did. -/
def solverIterationsUptoRow : OpenClaim := { program := "ytapbegcmdiemoaa", sum := "75ef2e0033dbdf60b69d16be16e779166ac8318b9e58fa25e81955808239ba6f", func := "carom/caromlaw35.SolverIterations", spec := "solverIterations", apart := false, narrowed := true }
def SolverIterationsUptoSaid : Prop := solverIterationsUptoRow.holds Try.pinned (OpenSpec.upto solverIterationsSpec)

/-- 'caromlaw35.SolverClampImpulses', WHERE WHAT IT READS IS OF BULK AT MOST 1048576: true; the input reads as it did. -/
def solverClampImpulsesUptoRow : OpenClaim := { program := "ytapbegcmdiemoaa", sum := "75ef2e0033dbdf60b69d16be16e779166ac8318b9e58fa25e81955808239ba6f", func := "carom/caromlaw35.SolverClampImpulses", spec := "solverClampImpulses", apart := false, narrowed := true }
def SolverClampImpulsesUptoSaid : Prop := solverClampImpulsesUptoRow.holds Try.pinned (OpenSpec.upto solverClampImpulsesSpec)

end Rows
end Go.Proofs.Ytapbegcmdiemoaa
