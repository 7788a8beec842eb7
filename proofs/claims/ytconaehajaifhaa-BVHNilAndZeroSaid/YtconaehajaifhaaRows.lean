/-
  No cell of these rows narrows 'for every input' (looked for: loops, veiled, ifaces, maps, wideKeys, modest, calm, conditions, laid).
  DERIVED. THE GIVEN ROWS OF THIS SEAT. 7 by the template 'for every input the law returns true; each argument reads behind the call as it read before'; 0 by the template 'total and deterministic' (their statements: YtconaehajaifhaaTotals.lean).
  GIVEN WITH THE SEED: the statements are not yours to turn. If you find one false, say at which input.
  Laid BY PROGRAM, IN A SANDBOX (cutbox-rows.mjs): the forced cells as the released guide's own fill.sh prints them over the translation b5d4e4753d408a1c… (all of the seat's roots in one cut). By AI agents, Wed Nov 11 2026. No macro, syntax, notation, axiom, sorry.
-/
import Derived.Test.YtconaehajaifhaaChecked
import GoSem.Claim
import GoSem.ClaimJoined
import GoSem.ClaimMapViews
import Derived.JoinedTies
import Derived.KernelRfl
namespace Go.Proofs.Ytconaehajaifhaa
/- THE CELL 'sum', in the pinned program and in every row, IS THE sha256 OF THE DUMP (.gsa) THAT YtconaehajaifhaaProg.lean LOADS. Nothing in Lean hashes anything: it is a label: what it is worth is what the hold of that sum in a sandbox is worth. -/
noncomputable def Try.pinned : Pinned := { name := "ytconaehajaifhaa", sum := "b5d4e4753d408a1c54ada2ca925a6de77cea832605932348c8204edd75ef9a91", checked := Try.checked }
namespace Rows
def none {H : Type} : Left H := { results := [], args := [] }

/-- 'caromlaw20.BVHHeight': WHATEVER THE INPUT: true; the input reads as it did. -/
def bVHHeightSpec : ChangeSpec := { name := "bVHHeight", fn := fun _ => fun
  | [d1, d2, d3] => { results := [.lit (.bool true)], args := [d1, d2, d3] }
  | _ => none }
def bVHHeightRow : OpenClaim := { program := "ytconaehajaifhaa", sum := "b5d4e4753d408a1c54ada2ca925a6de77cea832605932348c8204edd75ef9a91", func := "carom/caromlaw20.BVHHeight", spec := "bVHHeight", recurses := true, apart := false }
def BVHHeightSaid : Prop := bVHHeightRow.holds Try.pinned (OpenSpec.ofChange bVHHeightSpec)

/-- ITS FALSE NEIGHBOUR: 'it returns false'. Refute it at one input. -/
def bVHHeightWrong : ChangeSpec := { name := "bVHHeight", fn := fun _ => fun
  | [d1, d2, d3] => { results := [.lit (.bool false)], args := [d1, d2, d3] }
  | _ => none }
def BVHHeightWrongFalsely : Prop := bVHHeightRow.holds Try.pinned (OpenSpec.ofChange bVHHeightWrong)

/-- 'caromlaw20.BVHCapacity': WHATEVER THE INPUT: true; the input reads as it did. -/
def bVHCapacitySpec : ChangeSpec := { name := "bVHCapacity", fn := fun _ => fun
  | [d1, d2] => { results := [.lit (.bool true)], args := [d1, d2] }
  | _ => none }
def bVHCapacityRow : OpenClaim := { program := "ytconaehajaifhaa", sum := "b5d4e4753d408a1c54ada2ca925a6de77cea832605932348c8204edd75ef9a91", func := "carom/caromlaw20.BVHCapacity", spec := "bVHCapacity", recurses := true, apart := false }
def BVHCapacitySaid : Prop := bVHCapacityRow.holds Try.pinned (OpenSpec.ofChange bVHCapacitySpec)

/-- ITS FALSE NEIGHBOUR: 'it returns false'. Refute it at one input. -/
def bVHCapacityWrong : ChangeSpec := { name := "bVHCapacity", fn := fun _ => fun
  | [d1, d2] => { results := [.lit (.bool false)], args := [d1, d2] }
  | _ => none }
def BVHCapacityWrongFalsely : Prop := bVHCapacityRow.holds Try.pinned (OpenSpec.ofChange bVHCapacityWrong)

/-- 'caromlaw20.BVHClone': WHATEVER THE INPUT: true; the input reads as it did. -/
def bVHCloneSpec : ChangeSpec := { name := "bVHClone", fn := fun _ => fun
  | [d1, d2] => { results := [.lit (.bool true)], args := [d1, d2] }
  | _ => none }
def bVHCloneRow : OpenClaim := { program := "ytconaehajaifhaa", sum := "b5d4e4753d408a1c54ada2ca925a6de77cea832605932348c8204edd75ef9a91", func := "carom/caromlaw20.BVHClone", spec := "bVHClone", recurses := true, apart := false }
def BVHCloneSaid : Prop := bVHCloneRow.holds Try.pinned (OpenSpec.ofChange bVHCloneSpec)

/-- ITS FALSE NEIGHBOUR: 'it returns false'. Refute it at one input. -/
def bVHCloneWrong : ChangeSpec := { name := "bVHClone", fn := fun _ => fun
  | [d1, d2] => { results := [.lit (.bool false)], args := [d1, d2] }
  | _ => none }
def BVHCloneWrongFalsely : Prop := bVHCloneRow.holds Try.pinned (OpenSpec.ofChange bVHCloneWrong)

/-- 'caromlaw20.BVHQueries': WHATEVER THE INPUT: true; the input reads as it did. -/
def bVHQueriesSpec : ChangeSpec := { name := "bVHQueries", fn := fun _ => fun
  | [d1, d2, d3, d4] => { results := [.lit (.bool true)], args := [d1, d2, d3, d4] }
  | _ => none }
def bVHQueriesRow : OpenClaim := { program := "ytconaehajaifhaa", sum := "b5d4e4753d408a1c54ada2ca925a6de77cea832605932348c8204edd75ef9a91", func := "carom/caromlaw20.BVHQueries", spec := "bVHQueries", recurses := true, apart := false }
def BVHQueriesSaid : Prop := bVHQueriesRow.holds Try.pinned (OpenSpec.ofChange bVHQueriesSpec)

/-- ITS FALSE NEIGHBOUR: 'it returns false'. Refute it at one input. -/
def bVHQueriesWrong : ChangeSpec := { name := "bVHQueries", fn := fun _ => fun
  | [d1, d2, d3, d4] => { results := [.lit (.bool false)], args := [d1, d2, d3, d4] }
  | _ => none }
def BVHQueriesWrongFalsely : Prop := bVHQueriesRow.holds Try.pinned (OpenSpec.ofChange bVHQueriesWrong)

/-- 'caromlaw20.BVHOperations': WHATEVER THE INPUT: true; the input reads as it did. -/
def bVHOperationsSpec : ChangeSpec := { name := "bVHOperations", fn := fun _ => fun
  | [d] => { results := [.lit (.bool true)], args := [d] }
  | _ => none }
def bVHOperationsRow : OpenClaim := { program := "ytconaehajaifhaa", sum := "b5d4e4753d408a1c54ada2ca925a6de77cea832605932348c8204edd75ef9a91", func := "carom/caromlaw20.BVHOperations", spec := "bVHOperations", recurses := true, apart := false }
def BVHOperationsSaid : Prop := bVHOperationsRow.holds Try.pinned (OpenSpec.ofChange bVHOperationsSpec)

/-- ITS FALSE NEIGHBOUR: 'it returns false'. Refute it at one input. -/
def bVHOperationsWrong : ChangeSpec := { name := "bVHOperations", fn := fun _ => fun
  | [d] => { results := [.lit (.bool false)], args := [d] }
  | _ => none }
def BVHOperationsWrongFalsely : Prop := bVHOperationsRow.holds Try.pinned (OpenSpec.ofChange bVHOperationsWrong)

/-- 'caromlaw20.BVHOrderIndependent': WHATEVER THE INPUT: true; the input reads as it did. -/
def bVHOrderIndependentSpec : ChangeSpec := { name := "bVHOrderIndependent", fn := fun _ => fun
  | [d1, d2, d3] => { results := [.lit (.bool true)], args := [d1, d2, d3] }
  | _ => none }
def bVHOrderIndependentRow : OpenClaim := { program := "ytconaehajaifhaa", sum := "b5d4e4753d408a1c54ada2ca925a6de77cea832605932348c8204edd75ef9a91", func := "carom/caromlaw20.BVHOrderIndependent", spec := "bVHOrderIndependent", recurses := true, apart := false }
def BVHOrderIndependentSaid : Prop := bVHOrderIndependentRow.holds Try.pinned (OpenSpec.ofChange bVHOrderIndependentSpec)

/-- ITS FALSE NEIGHBOUR: 'it returns false'. Refute it at one input. -/
def bVHOrderIndependentWrong : ChangeSpec := { name := "bVHOrderIndependent", fn := fun _ => fun
  | [d1, d2, d3] => { results := [.lit (.bool false)], args := [d1, d2, d3] }
  | _ => none }
def BVHOrderIndependentWrongFalsely : Prop := bVHOrderIndependentRow.holds Try.pinned (OpenSpec.ofChange bVHOrderIndependentWrong)

/-- 'caromlaw20.BVHNilAndZero': WHATEVER THE INPUT: true; the input reads as it did. -/
def bVHNilAndZeroSpec : ChangeSpec := { name := "bVHNilAndZero", fn := fun _ => fun
  | [d] => { results := [.lit (.bool true)], args := [d] }
  | _ => none }
def bVHNilAndZeroRow : OpenClaim := { program := "ytconaehajaifhaa", sum := "b5d4e4753d408a1c54ada2ca925a6de77cea832605932348c8204edd75ef9a91", func := "carom/caromlaw20.BVHNilAndZero", spec := "bVHNilAndZero", recurses := true, apart := false }
def BVHNilAndZeroSaid : Prop := bVHNilAndZeroRow.holds Try.pinned (OpenSpec.ofChange bVHNilAndZeroSpec)

/-- ITS FALSE NEIGHBOUR: 'it returns false'. Refute it at one input. -/
def bVHNilAndZeroWrong : ChangeSpec := { name := "bVHNilAndZero", fn := fun _ => fun
  | [d] => { results := [.lit (.bool false)], args := [d] }
  | _ => none }
def BVHNilAndZeroWrongFalsely : Prop := bVHNilAndZeroRow.holds Try.pinned (OpenSpec.ofChange bVHNilAndZeroWrong)

/- THE SECOND FORM. 'bulk': how many values and letters a reading holds, each counted each time it is reached (what is shared counts as often as it is met; a slice's spare places count too). A statement '..UptoSaid' is the law's where the arguments, and the package variables that the reading takes, are together of bulk at most 1048576: NARROWER than '..Said'. Prove '..Said' where nothing that the law and all that it calls make is longer than what came in: it says more and counts as full. Else prove '..UptoSaid'. A law counts once. -/
mutual
def uptoBulk {H : Type} : DataW H → Nat
  | .lit (.string bytes) => bytes.length + 1
  | .lit _ => 1
  | .nil => 1
  | .ptr d => uptoBulk d + 1
  | .slice elems spare => uptoBulkAll elems + uptoBulkAll spare + 1
  | .agg parts => uptoBulkAll parts + 1
  | .iface _ d => uptoBulk d + 1
  | .map entries => uptoBulkEntries entries + 1
  | .held _ => 1
def uptoBulkAll {H : Type} : List (DataW H) → Nat
  | [] => 0
  | d :: r => uptoBulk d + uptoBulkAll r
def uptoBulkEntries {H : Type} : List (Lit × DataW H) → Nat
  | [] => 0
  | x :: r => uptoBulkEntry x + uptoBulkEntries r
def uptoBulkEntry {H : Type} : Lit × DataW H → Nat
  | (.string bytes, d) => bytes.length + uptoBulk d + 1
  | (_, d) => uptoBulk d + 1
 end
def uptoSmall : (H : Type) → List (DataW H) → Bool := fun _ ds => decide (uptoBulkAll ds ≤ 1048576)
def OpenSpec.upto (s : _root_.Go.ChangeSpec) : _root_.Go.OpenSpec := { _root_.Go.OpenSpec.ofChange s with cond := some uptoSmall }

/-- 'caromlaw20.BVHHeight', WHERE WHAT IT READS IS OF BULK AT MOST 1048576: true; the input reads as it did. -/
def bVHHeightUptoRow : OpenClaim := { program := "ytconaehajaifhaa", sum := "b5d4e4753d408a1c54ada2ca925a6de77cea832605932348c8204edd75ef9a91", func := "carom/caromlaw20.BVHHeight", spec := "bVHHeight", recurses := true, apart := false, narrowed := true }
def BVHHeightUptoSaid : Prop := bVHHeightUptoRow.holds Try.pinned (OpenSpec.upto bVHHeightSpec)

/-- 'caromlaw20.BVHCapacity', WHERE WHAT IT READS IS OF BULK AT MOST 1048576: true; the input reads as it did. -/
def bVHCapacityUptoRow : OpenClaim := { program := "ytconaehajaifhaa", sum := "b5d4e4753d408a1c54ada2ca925a6de77cea832605932348c8204edd75ef9a91", func := "carom/caromlaw20.BVHCapacity", spec := "bVHCapacity", recurses := true, apart := false, narrowed := true }
def BVHCapacityUptoSaid : Prop := bVHCapacityUptoRow.holds Try.pinned (OpenSpec.upto bVHCapacitySpec)

/-- 'caromlaw20.BVHClone', WHERE WHAT IT READS IS OF BULK AT MOST 1048576: true; the input reads as it did. -/
def bVHCloneUptoRow : OpenClaim := { program := "ytconaehajaifhaa", sum := "b5d4e4753d408a1c54ada2ca925a6de77cea832605932348c8204edd75ef9a91", func := "carom/caromlaw20.BVHClone", spec := "bVHClone", recurses := true, apart := false, narrowed := true }
def BVHCloneUptoSaid : Prop := bVHCloneUptoRow.holds Try.pinned (OpenSpec.upto bVHCloneSpec)

/-- 'caromlaw20.BVHQueries', WHERE WHAT IT READS IS OF BULK AT MOST 1048576: true; the input reads as it did. -/
def bVHQueriesUptoRow : OpenClaim := { program := "ytconaehajaifhaa", sum := "b5d4e4753d408a1c54ada2ca925a6de77cea832605932348c8204edd75ef9a91", func := "carom/caromlaw20.BVHQueries", spec := "bVHQueries", recurses := true, apart := false, narrowed := true }
def BVHQueriesUptoSaid : Prop := bVHQueriesUptoRow.holds Try.pinned (OpenSpec.upto bVHQueriesSpec)

/-- 'caromlaw20.BVHOperations', WHERE WHAT IT READS IS OF BULK AT MOST 1048576: true; the input reads as it did. -/
def bVHOperationsUptoRow : OpenClaim := { program := "ytconaehajaifhaa", sum := "b5d4e4753d408a1c54ada2ca925a6de77cea832605932348c8204edd75ef9a91", func := "carom/caromlaw20.BVHOperations", spec := "bVHOperations", recurses := true, apart := false, narrowed := true }
def BVHOperationsUptoSaid : Prop := bVHOperationsUptoRow.holds Try.pinned (OpenSpec.upto bVHOperationsSpec)

/-- 'caromlaw20.BVHOrderIndependent', WHERE WHAT IT READS IS OF BULK AT MOST 1048576: true; the input reads as it did. -/
def bVHOrderIndependentUptoRow : OpenClaim := { program := "ytconaehajaifhaa", sum := "b5d4e4753d408a1c54ada2ca925a6de77cea832605932348c8204edd75ef9a91", func := "carom/caromlaw20.BVHOrderIndependent", spec := "bVHOrderIndependent", recurses := true, apart := false, narrowed := true }
def BVHOrderIndependentUptoSaid : Prop := bVHOrderIndependentUptoRow.holds Try.pinned (OpenSpec.upto bVHOrderIndependentSpec)

/-- 'caromlaw20.BVHNilAndZero', WHERE WHAT IT READS IS OF BULK AT MOST 1048576: true; the input reads as it did. -/
def bVHNilAndZeroUptoRow : OpenClaim := { program := "ytconaehajaifhaa", sum := "b5d4e4753d408a1c54ada2ca925a6de77cea832605932348c8204edd75ef9a91", func := "carom/caromlaw20.BVHNilAndZero", spec := "bVHNilAndZero", recurses := true, apart := false, narrowed := true }
def BVHNilAndZeroUptoSaid : Prop := bVHNilAndZeroUptoRow.holds Try.pinned (OpenSpec.upto bVHNilAndZeroSpec)

end Rows
end Go.Proofs.Ytconaehajaifhaa
