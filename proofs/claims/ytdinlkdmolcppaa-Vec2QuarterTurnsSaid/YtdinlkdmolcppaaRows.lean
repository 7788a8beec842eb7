/-
  No cell of these rows narrows 'for every input' (looked for: loops, veiled, ifaces, maps, wideKeys, modest, calm, conditions, laid).
  DERIVED. THE GIVEN ROWS OF THIS SEAT. 12 by the template 'for every input the law returns true; each argument reads behind the call as it read before'; 0 by the template 'total and deterministic' (their statements: YtdinlkdmolcppaaTotals.lean).
  GIVEN WITH THE SEED: the statements are not yours to turn. If you find one false, say at which input.
  Laid BY PROGRAM, IN A SANDBOX (cutbox-rows.mjs): the forced cells as the released guide's own fill.sh prints them over the translation 22f1bb8322fe282e… (all of the seat's roots in one cut). By AI agents, Wed Nov 11 2026. No macro, syntax, notation, axiom, sorry.
-/
import Derived.Test.YtdinlkdmolcppaaChecked
import GoSem.Claim
import GoSem.ClaimJoined
import GoSem.ClaimMapViews
import Derived.JoinedTies
import Derived.KernelRfl
namespace Go.Proofs.Ytdinlkdmolcppaa
/- THE CELL 'sum', in the pinned program and in every row, IS THE sha256 OF THE DUMP (.gsa) THAT YtdinlkdmolcppaaProg.lean LOADS. Nothing in Lean hashes anything: it is a label: what it is worth is what the hold of that sum in a sandbox is worth. -/
noncomputable def Try.pinned : Pinned := { name := "ytdinlkdmolcppaa", sum := "22f1bb8322fe282ee3cd083693bfd7e74a1b3196da45972efc974cb2f8e029c0", checked := Try.checked }
namespace Rows
def none {H : Type} : Left H := { results := [], args := [] }

/-- 'caromlaw01.FixedArithmetic': WHATEVER THE INPUT: true; the input reads as it did. -/
def fixedArithmeticSpec : ChangeSpec := { name := "fixedArithmetic", fn := fun _ => fun
  | [d1, d2, d3] => { results := [.lit (.bool true)], args := [d1, d2, d3] }
  | _ => none }
def fixedArithmeticRow : OpenClaim := { program := "ytdinlkdmolcppaa", sum := "22f1bb8322fe282ee3cd083693bfd7e74a1b3196da45972efc974cb2f8e029c0", func := "carom/caromlaw01.FixedArithmetic", spec := "fixedArithmetic", apart := false }
def FixedArithmeticSaid : Prop := fixedArithmeticRow.holds Try.pinned (OpenSpec.ofChange fixedArithmeticSpec)

/-- ITS FALSE NEIGHBOUR: 'it returns false'. Refute it at one input. -/
def fixedArithmeticWrong : ChangeSpec := { name := "fixedArithmetic", fn := fun _ => fun
  | [d1, d2, d3] => { results := [.lit (.bool false)], args := [d1, d2, d3] }
  | _ => none }
def FixedArithmeticWrongFalsely : Prop := fixedArithmeticRow.holds Try.pinned (OpenSpec.ofChange fixedArithmeticWrong)

/-- 'caromlaw01.FixedRoundDivRatio': WHATEVER THE INPUT: true; the input reads as it did. -/
def fixedRoundDivRatioSpec : ChangeSpec := { name := "fixedRoundDivRatio", fn := fun _ => fun
  | [d1, d2] => { results := [.lit (.bool true)], args := [d1, d2] }
  | _ => none }
def fixedRoundDivRatioRow : OpenClaim := { program := "ytdinlkdmolcppaa", sum := "22f1bb8322fe282ee3cd083693bfd7e74a1b3196da45972efc974cb2f8e029c0", func := "carom/caromlaw01.FixedRoundDivRatio", spec := "fixedRoundDivRatio", apart := false }
def FixedRoundDivRatioSaid : Prop := fixedRoundDivRatioRow.holds Try.pinned (OpenSpec.ofChange fixedRoundDivRatioSpec)

/-- ITS FALSE NEIGHBOUR: 'it returns false'. Refute it at one input. -/
def fixedRoundDivRatioWrong : ChangeSpec := { name := "fixedRoundDivRatio", fn := fun _ => fun
  | [d1, d2] => { results := [.lit (.bool false)], args := [d1, d2] }
  | _ => none }
def FixedRoundDivRatioWrongFalsely : Prop := fixedRoundDivRatioRow.holds Try.pinned (OpenSpec.ofChange fixedRoundDivRatioWrong)

/-- 'caromlaw01.FixedRoundDivError': WHATEVER THE INPUT: true; the input reads as it did. -/
def fixedRoundDivErrorSpec : ChangeSpec := { name := "fixedRoundDivError", fn := fun _ => fun
  | [d1, d2] => { results := [.lit (.bool true)], args := [d1, d2] }
  | _ => none }
def fixedRoundDivErrorRow : OpenClaim := { program := "ytdinlkdmolcppaa", sum := "22f1bb8322fe282ee3cd083693bfd7e74a1b3196da45972efc974cb2f8e029c0", func := "carom/caromlaw01.FixedRoundDivError", spec := "fixedRoundDivError", apart := false }
def FixedRoundDivErrorSaid : Prop := fixedRoundDivErrorRow.holds Try.pinned (OpenSpec.ofChange fixedRoundDivErrorSpec)

/-- ITS FALSE NEIGHBOUR: 'it returns false'. Refute it at one input. -/
def fixedRoundDivErrorWrong : ChangeSpec := { name := "fixedRoundDivError", fn := fun _ => fun
  | [d1, d2] => { results := [.lit (.bool false)], args := [d1, d2] }
  | _ => none }
def FixedRoundDivErrorWrongFalsely : Prop := fixedRoundDivErrorRow.holds Try.pinned (OpenSpec.ofChange fixedRoundDivErrorWrong)

/-- 'caromlaw01.FixedSquareRoots': WHATEVER THE INPUT: true; the input reads as it did. -/
def fixedSquareRootsSpec : ChangeSpec := { name := "fixedSquareRoots", fn := fun _ => fun
  | [d1, d2] => { results := [.lit (.bool true)], args := [d1, d2] }
  | _ => none }
def fixedSquareRootsRow : OpenClaim := { program := "ytdinlkdmolcppaa", sum := "22f1bb8322fe282ee3cd083693bfd7e74a1b3196da45972efc974cb2f8e029c0", func := "carom/caromlaw01.FixedSquareRoots", spec := "fixedSquareRoots", apart := false }
def FixedSquareRootsSaid : Prop := fixedSquareRootsRow.holds Try.pinned (OpenSpec.ofChange fixedSquareRootsSpec)

/-- ITS FALSE NEIGHBOUR: 'it returns false'. Refute it at one input. -/
def fixedSquareRootsWrong : ChangeSpec := { name := "fixedSquareRoots", fn := fun _ => fun
  | [d1, d2] => { results := [.lit (.bool false)], args := [d1, d2] }
  | _ => none }
def FixedSquareRootsWrongFalsely : Prop := fixedSquareRootsRow.holds Try.pinned (OpenSpec.ofChange fixedSquareRootsWrong)

/-- 'caromlaw01.FixedIdentities': WHATEVER THE INPUT: true; the input reads as it did. -/
def fixedIdentitiesSpec : ChangeSpec := { name := "fixedIdentities", fn := fun _ => fun
  | [d1, d2] => { results := [.lit (.bool true)], args := [d1, d2] }
  | _ => none }
def fixedIdentitiesRow : OpenClaim := { program := "ytdinlkdmolcppaa", sum := "22f1bb8322fe282ee3cd083693bfd7e74a1b3196da45972efc974cb2f8e029c0", func := "carom/caromlaw01.FixedIdentities", spec := "fixedIdentities", apart := false }
def FixedIdentitiesSaid : Prop := fixedIdentitiesRow.holds Try.pinned (OpenSpec.ofChange fixedIdentitiesSpec)

/-- ITS FALSE NEIGHBOUR: 'it returns false'. Refute it at one input. -/
def fixedIdentitiesWrong : ChangeSpec := { name := "fixedIdentities", fn := fun _ => fun
  | [d1, d2] => { results := [.lit (.bool false)], args := [d1, d2] }
  | _ => none }
def FixedIdentitiesWrongFalsely : Prop := fixedIdentitiesRow.holds Try.pinned (OpenSpec.ofChange fixedIdentitiesWrong)

/-- 'caromlaw01.FixedRanges': WHATEVER THE INPUT: true; the input reads as it did. -/
def fixedRangesSpec : ChangeSpec := { name := "fixedRanges", fn := fun _ => fun
  | [d1, d2, d3] => { results := [.lit (.bool true)], args := [d1, d2, d3] }
  | _ => none }
def fixedRangesRow : OpenClaim := { program := "ytdinlkdmolcppaa", sum := "22f1bb8322fe282ee3cd083693bfd7e74a1b3196da45972efc974cb2f8e029c0", func := "carom/caromlaw01.FixedRanges", spec := "fixedRanges", apart := false }
def FixedRangesSaid : Prop := fixedRangesRow.holds Try.pinned (OpenSpec.ofChange fixedRangesSpec)

/-- ITS FALSE NEIGHBOUR: 'it returns false'. Refute it at one input. -/
def fixedRangesWrong : ChangeSpec := { name := "fixedRanges", fn := fun _ => fun
  | [d1, d2, d3] => { results := [.lit (.bool false)], args := [d1, d2, d3] }
  | _ => none }
def FixedRangesWrongFalsely : Prop := fixedRangesRow.holds Try.pinned (OpenSpec.ofChange fixedRangesWrong)

/-- 'caromlaw03.Vec2OrientationSign': WHATEVER THE INPUT: true; the input reads as it did. -/
def vec2OrientationSignSpec : ChangeSpec := { name := "vec2OrientationSign", fn := fun _ => fun
  | [d1, d2, d3] => { results := [.lit (.bool true)], args := [d1, d2, d3] }
  | _ => none }
def vec2OrientationSignRow : OpenClaim := { program := "ytdinlkdmolcppaa", sum := "22f1bb8322fe282ee3cd083693bfd7e74a1b3196da45972efc974cb2f8e029c0", func := "carom/caromlaw03.Vec2OrientationSign", spec := "vec2OrientationSign", apart := false }
def Vec2OrientationSignSaid : Prop := vec2OrientationSignRow.holds Try.pinned (OpenSpec.ofChange vec2OrientationSignSpec)

/-- ITS FALSE NEIGHBOUR: 'it returns false'. Refute it at one input. -/
def vec2OrientationSignWrong : ChangeSpec := { name := "vec2OrientationSign", fn := fun _ => fun
  | [d1, d2, d3] => { results := [.lit (.bool false)], args := [d1, d2, d3] }
  | _ => none }
def Vec2OrientationSignWrongFalsely : Prop := vec2OrientationSignRow.holds Try.pinned (OpenSpec.ofChange vec2OrientationSignWrong)

/-- 'caromlaw03.Vec2LengthBounds': WHATEVER THE INPUT: true; the input reads as it did. -/
def vec2LengthBoundsSpec : ChangeSpec := { name := "vec2LengthBounds", fn := fun _ => fun
  | [d] => { results := [.lit (.bool true)], args := [d] }
  | _ => none }
def vec2LengthBoundsRow : OpenClaim := { program := "ytdinlkdmolcppaa", sum := "22f1bb8322fe282ee3cd083693bfd7e74a1b3196da45972efc974cb2f8e029c0", func := "carom/caromlaw03.Vec2LengthBounds", spec := "vec2LengthBounds", apart := false }
def Vec2LengthBoundsSaid : Prop := vec2LengthBoundsRow.holds Try.pinned (OpenSpec.ofChange vec2LengthBoundsSpec)

/-- ITS FALSE NEIGHBOUR: 'it returns false'. Refute it at one input. -/
def vec2LengthBoundsWrong : ChangeSpec := { name := "vec2LengthBounds", fn := fun _ => fun
  | [d] => { results := [.lit (.bool false)], args := [d] }
  | _ => none }
def Vec2LengthBoundsWrongFalsely : Prop := vec2LengthBoundsRow.holds Try.pinned (OpenSpec.ofChange vec2LengthBoundsWrong)

/-- 'caromlaw03.Vec2Rotation': WHATEVER THE INPUT: true; the input reads as it did. -/
def vec2RotationSpec : ChangeSpec := { name := "vec2Rotation", fn := fun _ => fun
  | [d1, d2] => { results := [.lit (.bool true)], args := [d1, d2] }
  | _ => none }
def vec2RotationRow : OpenClaim := { program := "ytdinlkdmolcppaa", sum := "22f1bb8322fe282ee3cd083693bfd7e74a1b3196da45972efc974cb2f8e029c0", func := "carom/caromlaw03.Vec2Rotation", spec := "vec2Rotation", apart := false }
def Vec2RotationSaid : Prop := vec2RotationRow.holds Try.pinned (OpenSpec.ofChange vec2RotationSpec)

/-- ITS FALSE NEIGHBOUR: 'it returns false'. Refute it at one input. -/
def vec2RotationWrong : ChangeSpec := { name := "vec2Rotation", fn := fun _ => fun
  | [d1, d2] => { results := [.lit (.bool false)], args := [d1, d2] }
  | _ => none }
def Vec2RotationWrongFalsely : Prop := vec2RotationRow.holds Try.pinned (OpenSpec.ofChange vec2RotationWrong)

/-- 'caromlaw03.Vec2Products': WHATEVER THE INPUT: true; the input reads as it did. -/
def vec2ProductsSpec : ChangeSpec := { name := "vec2Products", fn := fun _ => fun
  | [d1, d2] => { results := [.lit (.bool true)], args := [d1, d2] }
  | _ => none }
def vec2ProductsRow : OpenClaim := { program := "ytdinlkdmolcppaa", sum := "22f1bb8322fe282ee3cd083693bfd7e74a1b3196da45972efc974cb2f8e029c0", func := "carom/caromlaw03.Vec2Products", spec := "vec2Products", apart := false }
def Vec2ProductsSaid : Prop := vec2ProductsRow.holds Try.pinned (OpenSpec.ofChange vec2ProductsSpec)

/-- ITS FALSE NEIGHBOUR: 'it returns false'. Refute it at one input. -/
def vec2ProductsWrong : ChangeSpec := { name := "vec2Products", fn := fun _ => fun
  | [d1, d2] => { results := [.lit (.bool false)], args := [d1, d2] }
  | _ => none }
def Vec2ProductsWrongFalsely : Prop := vec2ProductsRow.holds Try.pinned (OpenSpec.ofChange vec2ProductsWrong)

/-- 'caromlaw03.Vec2QuarterTurns': WHATEVER THE INPUT: true; the input reads as it did. -/
def vec2QuarterTurnsSpec : ChangeSpec := { name := "vec2QuarterTurns", fn := fun _ => fun
  | [d1, d2] => { results := [.lit (.bool true)], args := [d1, d2] }
  | _ => none }
def vec2QuarterTurnsRow : OpenClaim := { program := "ytdinlkdmolcppaa", sum := "22f1bb8322fe282ee3cd083693bfd7e74a1b3196da45972efc974cb2f8e029c0", func := "carom/caromlaw03.Vec2QuarterTurns", spec := "vec2QuarterTurns", apart := false }
def Vec2QuarterTurnsSaid : Prop := vec2QuarterTurnsRow.holds Try.pinned (OpenSpec.ofChange vec2QuarterTurnsSpec)

/-- ITS FALSE NEIGHBOUR: 'it returns false'. Refute it at one input. -/
def vec2QuarterTurnsWrong : ChangeSpec := { name := "vec2QuarterTurns", fn := fun _ => fun
  | [d1, d2] => { results := [.lit (.bool false)], args := [d1, d2] }
  | _ => none }
def Vec2QuarterTurnsWrongFalsely : Prop := vec2QuarterTurnsRow.holds Try.pinned (OpenSpec.ofChange vec2QuarterTurnsWrong)

/-- 'caromlaw03.Vec2Arithmetic': WHATEVER THE INPUT: true; the input reads as it did. -/
def vec2ArithmeticSpec : ChangeSpec := { name := "vec2Arithmetic", fn := fun _ => fun
  | [d1, d2, d3] => { results := [.lit (.bool true)], args := [d1, d2, d3] }
  | _ => none }
def vec2ArithmeticRow : OpenClaim := { program := "ytdinlkdmolcppaa", sum := "22f1bb8322fe282ee3cd083693bfd7e74a1b3196da45972efc974cb2f8e029c0", func := "carom/caromlaw03.Vec2Arithmetic", spec := "vec2Arithmetic", apart := false }
def Vec2ArithmeticSaid : Prop := vec2ArithmeticRow.holds Try.pinned (OpenSpec.ofChange vec2ArithmeticSpec)

/-- ITS FALSE NEIGHBOUR: 'it returns false'. Refute it at one input. -/
def vec2ArithmeticWrong : ChangeSpec := { name := "vec2Arithmetic", fn := fun _ => fun
  | [d1, d2, d3] => { results := [.lit (.bool false)], args := [d1, d2, d3] }
  | _ => none }
def Vec2ArithmeticWrongFalsely : Prop := vec2ArithmeticRow.holds Try.pinned (OpenSpec.ofChange vec2ArithmeticWrong)

/- THE SECOND FORM. 'bulk': how many values and letters a reading holds, each counted each time it is reached (what is shared counts as often as it is met; a slice's spare places count too). A statement '..UptoSaid' is the law's where the arguments, and the package variables that the reading takes, are together of bulk at most 1048576: NARROWER than '..Said'. Prove '..Said' where nothing that the law and all that it calls make is longer than what came in: it says more and counts as full. Else prove '..UptoSaid'. A law counts once. -/
mutual
def uptoBulk {H : Type} : DataW H → Nat
  | .lit (.string bytes) => bytes.length + 1
  | .lit _ => 1
  | .nil => 1
  | .ptr d => uptoBulk d + 1
  | .slice elems spare => uptoBulkAll elems + uptoBulkAll spare + 1
  | .agg parts => uptoBulkAll parts + 1
  | .iface _ d => uptoBulk d + 1
  | .map entries => uptoBulkEntries entries + 1
  | .held _ => 1
def uptoBulkAll {H : Type} : List (DataW H) → Nat
  | [] => 0
  | d :: r => uptoBulk d + uptoBulkAll r
def uptoBulkEntries {H : Type} : List (Lit × DataW H) → Nat
  | [] => 0
  | x :: r => uptoBulkEntry x + uptoBulkEntries r
def uptoBulkEntry {H : Type} : Lit × DataW H → Nat
  | (.string bytes, d) => bytes.length + uptoBulk d + 1
  | (_, d) => uptoBulk d + 1
 end
def uptoSmall : (H : Type) → List (DataW H) → Bool := fun _ ds => decide (uptoBulkAll ds ≤ 1048576)
def OpenSpec.upto (s : _root_.Go.ChangeSpec) : _root_.Go.OpenSpec := { _root_.Go.OpenSpec.ofChange s with cond := some uptoSmall }

/-- 'caromlaw01.FixedArithmetic', WHERE WHAT IT READS IS OF BULK AT MOST 1048576: true; the input reads as it did. -/
def fixedArithmeticUptoRow : OpenClaim := { program := "ytdinlkdmolcppaa", sum := "22f1bb8322fe282ee3cd083693bfd7e74a1b3196da45972efc974cb2f8e029c0", func := "carom/caromlaw01.FixedArithmetic", spec := "fixedArithmetic", apart := false, narrowed := true }
def FixedArithmeticUptoSaid : Prop := fixedArithmeticUptoRow.holds Try.pinned (OpenSpec.upto fixedArithmeticSpec)

/-- 'caromlaw01.FixedRoundDivRatio', WHERE WHAT IT READS IS OF BULK AT MOST 1048576: true; the input reads as it did. -/
def fixedRoundDivRatioUptoRow : OpenClaim := { program := "ytdinlkdmolcppaa", sum := "22f1bb8322fe282ee3cd083693bfd7e74a1b3196da45972efc974cb2f8e029c0", func := "carom/caromlaw01.FixedRoundDivRatio", spec := "fixedRoundDivRatio", apart := false, narrowed := true }
def FixedRoundDivRatioUptoSaid : Prop := fixedRoundDivRatioUptoRow.holds Try.pinned (OpenSpec.upto fixedRoundDivRatioSpec)

/-- 'caromlaw01.FixedRoundDivError', WHERE WHAT IT READS IS OF BULK AT MOST 1048576: true; the input reads as it did. -/
def fixedRoundDivErrorUptoRow : OpenClaim := { program := "ytdinlkdmolcppaa", sum := "22f1bb8322fe282ee3cd083693bfd7e74a1b3196da45972efc974cb2f8e029c0", func := "carom/caromlaw01.FixedRoundDivError", spec := "fixedRoundDivError", apart := false, narrowed := true }
def FixedRoundDivErrorUptoSaid : Prop := fixedRoundDivErrorUptoRow.holds Try.pinned (OpenSpec.upto fixedRoundDivErrorSpec)

/-- 'caromlaw01.FixedSquareRoots', WHERE WHAT IT READS IS OF BULK AT MOST 1048576: true; the input reads as it did. -/
def fixedSquareRootsUptoRow : OpenClaim := { program := "ytdinlkdmolcppaa", sum := "22f1bb8322fe282ee3cd083693bfd7e74a1b3196da45972efc974cb2f8e029c0", func := "carom/caromlaw01.FixedSquareRoots", spec := "fixedSquareRoots", apart := false, narrowed := true }
def FixedSquareRootsUptoSaid : Prop := fixedSquareRootsUptoRow.holds Try.pinned (OpenSpec.upto fixedSquareRootsSpec)

/-- 'caromlaw01.FixedIdentities', WHERE WHAT IT READS IS OF BULK AT MOST 1048576: true; the input reads as it did. -/
def fixedIdentitiesUptoRow : OpenClaim := { program := "ytdinlkdmolcppaa", sum := "22f1bb8322fe282ee3cd083693bfd7e74a1b3196da45972efc974cb2f8e029c0", func := "carom/caromlaw01.FixedIdentities", spec := "fixedIdentities", apart := false, narrowed := true }
def FixedIdentitiesUptoSaid : Prop := fixedIdentitiesUptoRow.holds Try.pinned (OpenSpec.upto fixedIdentitiesSpec)

/-- 'caromlaw01.FixedRanges', WHERE WHAT IT READS IS OF BULK AT MOST 1048576: true; the input reads as it did. -/
def fixedRangesUptoRow : OpenClaim := { program := "ytdinlkdmolcppaa", sum := "22f1bb8322fe282ee3cd083693bfd7e74a1b3196da45972efc974cb2f8e029c0", func := "carom/caromlaw01.FixedRanges", spec := "fixedRanges", apart := false, narrowed := true }
def FixedRangesUptoSaid : Prop := fixedRangesUptoRow.holds Try.pinned (OpenSpec.upto fixedRangesSpec)

/-- 'caromlaw03.Vec2OrientationSign', WHERE WHAT IT READS IS OF BULK AT MOST 1048576: true; the input reads as it did. -/
def vec2OrientationSignUptoRow : OpenClaim := { program := "ytdinlkdmolcppaa", sum := "22f1bb8322fe282ee3cd083693bfd7e74a1b3196da45972efc974cb2f8e029c0", func := "carom/caromlaw03.Vec2OrientationSign", spec := "vec2OrientationSign", apart := false, narrowed := true }
def Vec2OrientationSignUptoSaid : Prop := vec2OrientationSignUptoRow.holds Try.pinned (OpenSpec.upto vec2OrientationSignSpec)

/-- 'caromlaw03.Vec2LengthBounds', WHERE WHAT IT READS IS OF BULK AT MOST 1048576: true; the input reads as it did. -/
def vec2LengthBoundsUptoRow : OpenClaim := { program := "ytdinlkdmolcppaa", sum := "22f1bb8322fe282ee3cd083693bfd7e74a1b3196da45972efc974cb2f8e029c0", func := "carom/caromlaw03.Vec2LengthBounds", spec := "vec2LengthBounds", apart := false, narrowed := true }
def Vec2LengthBoundsUptoSaid : Prop := vec2LengthBoundsUptoRow.holds Try.pinned (OpenSpec.upto vec2LengthBoundsSpec)

/-- 'caromlaw03.Vec2Rotation', WHERE WHAT IT READS IS OF BULK AT MOST 1048576: true; the input reads as it did. -/
def vec2RotationUptoRow : OpenClaim := { program := "ytdinlkdmolcppaa", sum := "22f1bb8322fe282ee3cd083693bfd7e74a1b3196da45972efc974cb2f8e029c0", func := "carom/caromlaw03.Vec2Rotation", spec := "vec2Rotation", apart := false, narrowed := true }
def Vec2RotationUptoSaid : Prop := vec2RotationUptoRow.holds Try.pinned (OpenSpec.upto vec2RotationSpec)

/-- 'caromlaw03.Vec2Products', WHERE WHAT IT READS IS OF BULK AT MOST 1048576: true; the input reads as it did. -/
def vec2ProductsUptoRow : OpenClaim := { program := "ytdinlkdmolcppaa", sum := "22f1bb8322fe282ee3cd083693bfd7e74a1b3196da45972efc974cb2f8e029c0", func := "carom/caromlaw03.Vec2Products", spec := "vec2Products", apart := false, narrowed := true }
def Vec2ProductsUptoSaid : Prop := vec2ProductsUptoRow.holds Try.pinned (OpenSpec.upto vec2ProductsSpec)

/-- 'caromlaw03.Vec2QuarterTurns', WHERE WHAT IT READS IS OF BULK AT MOST 1048576: true; the input reads as it did. -/
def vec2QuarterTurnsUptoRow : OpenClaim := { program := "ytdinlkdmolcppaa", sum := "22f1bb8322fe282ee3cd083693bfd7e74a1b3196da45972efc974cb2f8e029c0", func := "carom/caromlaw03.Vec2QuarterTurns", spec := "vec2QuarterTurns", apart := false, narrowed := true }
def Vec2QuarterTurnsUptoSaid : Prop := vec2QuarterTurnsUptoRow.holds Try.pinned (OpenSpec.upto vec2QuarterTurnsSpec)

/-- 'caromlaw03.Vec2Arithmetic', WHERE WHAT IT READS IS OF BULK AT MOST 1048576: true; the input reads as it did. -/
def vec2ArithmeticUptoRow : OpenClaim := { program := "ytdinlkdmolcppaa", sum := "22f1bb8322fe282ee3cd083693bfd7e74a1b3196da45972efc974cb2f8e029c0", func := "carom/caromlaw03.Vec2Arithmetic", spec := "vec2Arithmetic", apart := false, narrowed := true }
def Vec2ArithmeticUptoSaid : Prop := vec2ArithmeticUptoRow.holds Try.pinned (OpenSpec.upto vec2ArithmeticSpec)

end Rows
end Go.Proofs.Ytdinlkdmolcppaa
