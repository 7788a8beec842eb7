/-
  No cell of these rows narrows 'for every input' (looked for: loops, veiled, ifaces, maps, wideKeys, modest, calm, conditions, laid).
  DERIVED. THE GIVEN ROWS OF THIS SEAT. 11 by the template 'for every input the law returns true; each argument reads behind the call as it read before'; 0 by the template 'total and deterministic' (their statements: YthbighklfajmdaaTotals.lean).
  GIVEN WITH THE SEED: the statements are not yours to turn. If you find one false, say at which input.
  Laid BY PROGRAM, IN A SANDBOX (cutbox-rows.mjs): the forced cells as the released guide's own fill.sh prints them over the translation bf2f65978a2596ce… (all of the seat's roots in one cut). By AI agents, Wed Nov 11 2026. No macro, syntax, notation, axiom, sorry.
-/
import Derived.Test.YthbighklfajmdaaChecked
import GoSem.Claim
import GoSem.ClaimJoined
import GoSem.ClaimMapViews
import Derived.JoinedTies
import Derived.KernelRfl
namespace Go.Proofs.Ythbighklfajmdaa
/- THE CELL 'sum', in the pinned program and in every row, IS THE sha256 OF THE DUMP (.gsa) THAT YthbighklfajmdaaProg.lean LOADS. Nothing in Lean hashes anything: it is a label: what it is worth is what the hold of that sum in a sandbox is worth. -/
noncomputable def Try.pinned : Pinned := { name := "ythbighklfajmdaa", sum := "bf2f65978a2596ce0690b189cc8775f0dbb07df35a7d668344adae9e1a14e53f", checked := Try.checked }
namespace Rows
def none {H : Type} : Left H := { results := [], args := [] }

/-- 'caromlaw15.ClipHalfPlaneExact': WHATEVER THE INPUT: true; the input reads as it did. -/
def clipHalfPlaneExactSpec : ChangeSpec := { name := "clipHalfPlaneExact", fn := fun _ => fun
  | [d1, d2, d3] => { results := [.lit (.bool true)], args := [d1, d2, d3] }
  | _ => none }
def clipHalfPlaneExactRow : OpenClaim := { program := "ythbighklfajmdaa", sum := "bf2f65978a2596ce0690b189cc8775f0dbb07df35a7d668344adae9e1a14e53f", func := "carom/caromlaw15.ClipHalfPlaneExact", spec := "clipHalfPlaneExact", apart := false }
def ClipHalfPlaneExactSaid : Prop := clipHalfPlaneExactRow.holds Try.pinned (OpenSpec.ofChange clipHalfPlaneExactSpec)

/-- ITS FALSE NEIGHBOUR: 'it returns false'. Refute it at one input. -/
def clipHalfPlaneExactWrong : ChangeSpec := { name := "clipHalfPlaneExact", fn := fun _ => fun
  | [d1, d2, d3] => { results := [.lit (.bool false)], args := [d1, d2, d3] }
  | _ => none }
def ClipHalfPlaneExactWrongFalsely : Prop := clipHalfPlaneExactRow.holds Try.pinned (OpenSpec.ofChange clipHalfPlaneExactWrong)

/-- 'caromlaw15.ClipSymmetric': WHATEVER THE INPUT: true; the input reads as it did. -/
def clipSymmetricSpec : ChangeSpec := { name := "clipSymmetric", fn := fun _ => fun
  | [d1, d2, d3] => { results := [.lit (.bool true)], args := [d1, d2, d3] }
  | _ => none }
def clipSymmetricRow : OpenClaim := { program := "ythbighklfajmdaa", sum := "bf2f65978a2596ce0690b189cc8775f0dbb07df35a7d668344adae9e1a14e53f", func := "carom/caromlaw15.ClipSymmetric", spec := "clipSymmetric", apart := false }
def ClipSymmetricSaid : Prop := clipSymmetricRow.holds Try.pinned (OpenSpec.ofChange clipSymmetricSpec)

/-- ITS FALSE NEIGHBOUR: 'it returns false'. Refute it at one input. -/
def clipSymmetricWrong : ChangeSpec := { name := "clipSymmetric", fn := fun _ => fun
  | [d1, d2, d3] => { results := [.lit (.bool false)], args := [d1, d2, d3] }
  | _ => none }
def ClipSymmetricWrongFalsely : Prop := clipSymmetricRow.holds Try.pinned (OpenSpec.ofChange clipSymmetricWrong)

/-- 'caromlaw15.ClipOutside': WHATEVER THE INPUT: true; the input reads as it did. -/
def clipOutsideSpec : ChangeSpec := { name := "clipOutside", fn := fun _ => fun
  | [d1, d2, d3] => { results := [.lit (.bool true)], args := [d1, d2, d3] }
  | _ => none }
def clipOutsideRow : OpenClaim := { program := "ythbighklfajmdaa", sum := "bf2f65978a2596ce0690b189cc8775f0dbb07df35a7d668344adae9e1a14e53f", func := "carom/caromlaw15.ClipOutside", spec := "clipOutside", apart := false }
def ClipOutsideSaid : Prop := clipOutsideRow.holds Try.pinned (OpenSpec.ofChange clipOutsideSpec)

/-- ITS FALSE NEIGHBOUR: 'it returns false'. Refute it at one input. -/
def clipOutsideWrong : ChangeSpec := { name := "clipOutside", fn := fun _ => fun
  | [d1, d2, d3] => { results := [.lit (.bool false)], args := [d1, d2, d3] }
  | _ => none }
def ClipOutsideWrongFalsely : Prop := clipOutsideRow.holds Try.pinned (OpenSpec.ofChange clipOutsideWrong)

/-- 'caromlaw05.AABBIntersectsSegment': WHATEVER THE INPUT: true; the input reads as it did. -/
def aABBIntersectsSegmentSpec : ChangeSpec := { name := "aABBIntersectsSegment", fn := fun _ => fun
  | [d1, d2, d3] => { results := [.lit (.bool true)], args := [d1, d2, d3] }
  | _ => none }
def aABBIntersectsSegmentRow : OpenClaim := { program := "ythbighklfajmdaa", sum := "bf2f65978a2596ce0690b189cc8775f0dbb07df35a7d668344adae9e1a14e53f", func := "carom/caromlaw05.AABBIntersectsSegment", spec := "aABBIntersectsSegment", apart := false }
def AABBIntersectsSegmentSaid : Prop := aABBIntersectsSegmentRow.holds Try.pinned (OpenSpec.ofChange aABBIntersectsSegmentSpec)

/-- ITS FALSE NEIGHBOUR: 'it returns false'. Refute it at one input. -/
def aABBIntersectsSegmentWrong : ChangeSpec := { name := "aABBIntersectsSegment", fn := fun _ => fun
  | [d1, d2, d3] => { results := [.lit (.bool false)], args := [d1, d2, d3] }
  | _ => none }
def AABBIntersectsSegmentWrongFalsely : Prop := aABBIntersectsSegmentRow.holds Try.pinned (OpenSpec.ofChange aABBIntersectsSegmentWrong)

/-- 'caromlaw05.AABBOverlap': WHATEVER THE INPUT: true; the input reads as it did. -/
def aABBOverlapSpec : ChangeSpec := { name := "aABBOverlap", fn := fun _ => fun
  | [d1, d2] => { results := [.lit (.bool true)], args := [d1, d2] }
  | _ => none }
def aABBOverlapRow : OpenClaim := { program := "ythbighklfajmdaa", sum := "bf2f65978a2596ce0690b189cc8775f0dbb07df35a7d668344adae9e1a14e53f", func := "carom/caromlaw05.AABBOverlap", spec := "aABBOverlap", apart := false }
def AABBOverlapSaid : Prop := aABBOverlapRow.holds Try.pinned (OpenSpec.ofChange aABBOverlapSpec)

/-- ITS FALSE NEIGHBOUR: 'it returns false'. Refute it at one input. -/
def aABBOverlapWrong : ChangeSpec := { name := "aABBOverlap", fn := fun _ => fun
  | [d1, d2] => { results := [.lit (.bool false)], args := [d1, d2] }
  | _ => none }
def AABBOverlapWrongFalsely : Prop := aABBOverlapRow.holds Try.pinned (OpenSpec.ofChange aABBOverlapWrong)

/-- 'caromlaw05.AABBFromPoints': WHATEVER THE INPUT: true; the input reads as it did. -/
def aABBFromPointsSpec : ChangeSpec := { name := "aABBFromPoints", fn := fun _ => fun
  | [d1, d2] => { results := [.lit (.bool true)], args := [d1, d2] }
  | _ => none }
def aABBFromPointsRow : OpenClaim := { program := "ythbighklfajmdaa", sum := "bf2f65978a2596ce0690b189cc8775f0dbb07df35a7d668344adae9e1a14e53f", func := "carom/caromlaw05.AABBFromPoints", spec := "aABBFromPoints", apart := false }
def AABBFromPointsSaid : Prop := aABBFromPointsRow.holds Try.pinned (OpenSpec.ofChange aABBFromPointsSpec)

/-- ITS FALSE NEIGHBOUR: 'it returns false'. Refute it at one input. -/
def aABBFromPointsWrong : ChangeSpec := { name := "aABBFromPoints", fn := fun _ => fun
  | [d1, d2] => { results := [.lit (.bool false)], args := [d1, d2] }
  | _ => none }
def AABBFromPointsWrongFalsely : Prop := aABBFromPointsRow.holds Try.pinned (OpenSpec.ofChange aABBFromPointsWrong)

/-- 'caromlaw05.AABBExpandContains': WHATEVER THE INPUT: true; the input reads as it did. -/
def aABBExpandContainsSpec : ChangeSpec := { name := "aABBExpandContains", fn := fun _ => fun
  | [d1, d2] => { results := [.lit (.bool true)], args := [d1, d2] }
  | _ => none }
def aABBExpandContainsRow : OpenClaim := { program := "ythbighklfajmdaa", sum := "bf2f65978a2596ce0690b189cc8775f0dbb07df35a7d668344adae9e1a14e53f", func := "carom/caromlaw05.AABBExpandContains", spec := "aABBExpandContains", apart := false }
def AABBExpandContainsSaid : Prop := aABBExpandContainsRow.holds Try.pinned (OpenSpec.ofChange aABBExpandContainsSpec)

/-- ITS FALSE NEIGHBOUR: 'it returns false'. Refute it at one input. -/
def aABBExpandContainsWrong : ChangeSpec := { name := "aABBExpandContains", fn := fun _ => fun
  | [d1, d2] => { results := [.lit (.bool false)], args := [d1, d2] }
  | _ => none }
def AABBExpandContainsWrongFalsely : Prop := aABBExpandContainsRow.holds Try.pinned (OpenSpec.ofChange aABBExpandContainsWrong)

/-- 'caromlaw05.AABBContainment': WHATEVER THE INPUT: true; the input reads as it did. -/
def aABBContainmentSpec : ChangeSpec := { name := "aABBContainment", fn := fun _ => fun
  | [d1, d2, d3, d4] => { results := [.lit (.bool true)], args := [d1, d2, d3, d4] }
  | _ => none }
def aABBContainmentRow : OpenClaim := { program := "ythbighklfajmdaa", sum := "bf2f65978a2596ce0690b189cc8775f0dbb07df35a7d668344adae9e1a14e53f", func := "carom/caromlaw05.AABBContainment", spec := "aABBContainment", apart := false }
def AABBContainmentSaid : Prop := aABBContainmentRow.holds Try.pinned (OpenSpec.ofChange aABBContainmentSpec)

/-- ITS FALSE NEIGHBOUR: 'it returns false'. Refute it at one input. -/
def aABBContainmentWrong : ChangeSpec := { name := "aABBContainment", fn := fun _ => fun
  | [d1, d2, d3, d4] => { results := [.lit (.bool false)], args := [d1, d2, d3, d4] }
  | _ => none }
def AABBContainmentWrongFalsely : Prop := aABBContainmentRow.holds Try.pinned (OpenSpec.ofChange aABBContainmentWrong)

/-- 'caromlaw05.AABBMatchesReference': WHATEVER THE INPUT: true; the input reads as it did. -/
def aABBMatchesReferenceSpec : ChangeSpec := { name := "aABBMatchesReference", fn := fun _ => fun
  | [d1, d2, d3, d4] => { results := [.lit (.bool true)], args := [d1, d2, d3, d4] }
  | _ => none }
def aABBMatchesReferenceRow : OpenClaim := { program := "ythbighklfajmdaa", sum := "bf2f65978a2596ce0690b189cc8775f0dbb07df35a7d668344adae9e1a14e53f", func := "carom/caromlaw05.AABBMatchesReference", spec := "aABBMatchesReference", apart := false }
def AABBMatchesReferenceSaid : Prop := aABBMatchesReferenceRow.holds Try.pinned (OpenSpec.ofChange aABBMatchesReferenceSpec)

/-- ITS FALSE NEIGHBOUR: 'it returns false'. Refute it at one input. -/
def aABBMatchesReferenceWrong : ChangeSpec := { name := "aABBMatchesReference", fn := fun _ => fun
  | [d1, d2, d3, d4] => { results := [.lit (.bool false)], args := [d1, d2, d3, d4] }
  | _ => none }
def AABBMatchesReferenceWrongFalsely : Prop := aABBMatchesReferenceRow.holds Try.pinned (OpenSpec.ofChange aABBMatchesReferenceWrong)

/-- 'caromlaw15.ClipKeeps': WHATEVER THE INPUT: true; the input reads as it did. -/
def clipKeepsSpec : ChangeSpec := { name := "clipKeeps", fn := fun _ => fun
  | [d1, d2, d3] => { results := [.lit (.bool true)], args := [d1, d2, d3] }
  | _ => none }
def clipKeepsRow : OpenClaim := { program := "ythbighklfajmdaa", sum := "bf2f65978a2596ce0690b189cc8775f0dbb07df35a7d668344adae9e1a14e53f", func := "carom/caromlaw15.ClipKeeps", spec := "clipKeeps", apart := false }
def ClipKeepsSaid : Prop := clipKeepsRow.holds Try.pinned (OpenSpec.ofChange clipKeepsSpec)

/-- ITS FALSE NEIGHBOUR: 'it returns false'. Refute it at one input. -/
def clipKeepsWrong : ChangeSpec := { name := "clipKeeps", fn := fun _ => fun
  | [d1, d2, d3] => { results := [.lit (.bool false)], args := [d1, d2, d3] }
  | _ => none }
def ClipKeepsWrongFalsely : Prop := clipKeepsRow.holds Try.pinned (OpenSpec.ofChange clipKeepsWrong)

/-- 'caromlaw15.ClipVertexIDs': WHATEVER THE INPUT: true; the input reads as it did. -/
def clipVertexIDsSpec : ChangeSpec := { name := "clipVertexIDs", fn := fun _ => fun
  | [d1, d2, d3] => { results := [.lit (.bool true)], args := [d1, d2, d3] }
  | _ => none }
def clipVertexIDsRow : OpenClaim := { program := "ythbighklfajmdaa", sum := "bf2f65978a2596ce0690b189cc8775f0dbb07df35a7d668344adae9e1a14e53f", func := "carom/caromlaw15.ClipVertexIDs", spec := "clipVertexIDs", apart := false }
def ClipVertexIDsSaid : Prop := clipVertexIDsRow.holds Try.pinned (OpenSpec.ofChange clipVertexIDsSpec)

/-- ITS FALSE NEIGHBOUR: 'it returns false'. Refute it at one input. -/
def clipVertexIDsWrong : ChangeSpec := { name := "clipVertexIDs", fn := fun _ => fun
  | [d1, d2, d3] => { results := [.lit (.bool false)], args := [d1, d2, d3] }
  | _ => none }
def ClipVertexIDsWrongFalsely : Prop := clipVertexIDsRow.holds Try.pinned (OpenSpec.ofChange clipVertexIDsWrong)

/- THE SECOND FORM. 'bulk': how many values and letters a reading holds, each counted each time it is reached (what is shared counts as often as it is met; a slice's spare places count too). A statement '..UptoSaid' is the law's where the arguments, and the package variables that the reading takes, are together of bulk at most 1048576: NARROWER than '..Said'. Prove '..Said' where nothing that the law and all that it calls make is longer than what came in: it says more and counts as full. Else prove '..UptoSaid'. A law counts once. -/
mutual
def uptoBulk {H : Type} : DataW H → Nat
  | .lit (.string bytes) => bytes.length + 1
  | .lit _ => 1
  | .nil => 1
  | .ptr d => uptoBulk d + 1
  | .slice elems spare => uptoBulkAll elems + uptoBulkAll spare + 1
  | .agg parts => uptoBulkAll parts + 1
  | .iface _ d => uptoBulk d + 1
  | .map entries => uptoBulkEntries entries + 1
  | .held _ => 1
def uptoBulkAll {H : Type} : List (DataW H) → Nat
  | [] => 0
  | d :: r => uptoBulk d + uptoBulkAll r
def uptoBulkEntries {H : Type} : List (Lit × DataW H) → Nat
  | [] => 0
  | x :: r => uptoBulkEntry x + uptoBulkEntries r
def uptoBulkEntry {H : Type} : Lit × DataW H → Nat
  | (.string bytes, d) => bytes.length + uptoBulk d + 1
  | (_, d) => uptoBulk d + 1
 end
def uptoSmall : (H : Type) → List (DataW H) → Bool := fun _ ds => decide (uptoBulkAll ds ≤ 1048576)
def OpenSpec.upto (s : _root_.Go.ChangeSpec) : _root_.Go.OpenSpec := { _root_.Go.OpenSpec.ofChange s with cond := some uptoSmall }

/-- 'caromlaw15.ClipHalfPlaneExact', WHERE WHAT IT READS IS OF BULK AT MOST 1048576: true; the input reads as it did. -/
def clipHalfPlaneExactUptoRow : OpenClaim := { program := "ythbighklfajmdaa", sum := "bf2f65978a2596ce0690b189cc8775f0dbb07df35a7d668344adae9e1a14e53f", func := "carom/caromlaw15.ClipHalfPlaneExact", spec := "clipHalfPlaneExact", apart := false, narrowed := true }
def ClipHalfPlaneExactUptoSaid : Prop := clipHalfPlaneExactUptoRow.holds Try.pinned (OpenSpec.upto clipHalfPlaneExactSpec)

/-- 'caromlaw15.ClipSymmetric', WHERE WHAT IT READS IS OF BULK AT MOST 1048576: true; the input reads as it did. -/
def clipSymmetricUptoRow : OpenClaim := { program := "ythbighklfajmdaa", sum := "bf2f65978a2596ce0690b189cc8775f0dbb07df35a7d668344adae9e1a14e53f", func := "carom/caromlaw15.ClipSymmetric", spec := "clipSymmetric", apart := false, narrowed := true }
def ClipSymmetricUptoSaid : Prop := clipSymmetricUptoRow.holds Try.pinned (OpenSpec.upto clipSymmetricSpec)

/-- 'caromlaw15.ClipOutside', WHERE WHAT IT READS IS OF BULK AT MOST 1048576: true; the input reads as it did. -/
def clipOutsideUptoRow : OpenClaim := { program := "ythbighklfajmdaa", sum := "bf2f65978a2596ce0690b189cc8775f0dbb07df35a7d668344adae9e1a14e53f", func := "carom/caromlaw15.ClipOutside", spec := "clipOutside", apart := false, narrowed := true }
def ClipOutsideUptoSaid : Prop := clipOutsideUptoRow.holds Try.pinned (OpenSpec.upto clipOutsideSpec)

/-- 'caromlaw05.AABBIntersectsSegment', WHERE WHAT IT READS IS OF BULK AT MOST 1048576: true; the input reads as it did. -/
def aABBIntersectsSegmentUptoRow : OpenClaim := { program := "ythbighklfajmdaa", sum := "bf2f65978a2596ce0690b189cc8775f0dbb07df35a7d668344adae9e1a14e53f", func := "carom/caromlaw05.AABBIntersectsSegment", spec := "aABBIntersectsSegment", apart := false, narrowed := true }
def AABBIntersectsSegmentUptoSaid : Prop := aABBIntersectsSegmentUptoRow.holds Try.pinned (OpenSpec.upto aABBIntersectsSegmentSpec)

/-- 'caromlaw05.AABBOverlap', WHERE WHAT IT READS IS OF BULK AT MOST 1048576: true; the input reads as it did. -/
def aABBOverlapUptoRow : OpenClaim := { program := "ythbighklfajmdaa", sum := "bf2f65978a2596ce0690b189cc8775f0dbb07df35a7d668344adae9e1a14e53f", func := "carom/caromlaw05.AABBOverlap", spec := "aABBOverlap", apart := false, narrowed := true }
def AABBOverlapUptoSaid : Prop := aABBOverlapUptoRow.holds Try.pinned (OpenSpec.upto aABBOverlapSpec)

/-- 'caromlaw05.AABBFromPoints', WHERE WHAT IT READS IS OF BULK AT MOST 1048576: true; the input reads as it did. -/
def aABBFromPointsUptoRow : OpenClaim := { program := "ythbighklfajmdaa", sum := "bf2f65978a2596ce0690b189cc8775f0dbb07df35a7d668344adae9e1a14e53f", func := "carom/caromlaw05.AABBFromPoints", spec := "aABBFromPoints", apart := false, narrowed := true }
def AABBFromPointsUptoSaid : Prop := aABBFromPointsUptoRow.holds Try.pinned (OpenSpec.upto aABBFromPointsSpec)

/-- 'caromlaw05.AABBExpandContains', WHERE WHAT IT READS IS OF BULK AT MOST 1048576: true; the input reads as it did. -/
def aABBExpandContainsUptoRow : OpenClaim := { program := "ythbighklfajmdaa", sum := "bf2f65978a2596ce0690b189cc8775f0dbb07df35a7d668344adae9e1a14e53f", func := "carom/caromlaw05.AABBExpandContains", spec := "aABBExpandContains", apart := false, narrowed := true }
def AABBExpandContainsUptoSaid : Prop := aABBExpandContainsUptoRow.holds Try.pinned (OpenSpec.upto aABBExpandContainsSpec)

/-- 'caromlaw05.AABBContainment', WHERE WHAT IT READS IS OF BULK AT MOST 1048576: true; the input reads as it did. -/
def aABBContainmentUptoRow : OpenClaim := { program := "ythbighklfajmdaa", sum := "bf2f65978a2596ce0690b189cc8775f0dbb07df35a7d668344adae9e1a14e53f", func := "carom/caromlaw05.AABBContainment", spec := "aABBContainment", apart := false, narrowed := true }
def AABBContainmentUptoSaid : Prop := aABBContainmentUptoRow.holds Try.pinned (OpenSpec.upto aABBContainmentSpec)

/-- 'caromlaw05.AABBMatchesReference', WHERE WHAT IT READS IS OF BULK AT MOST 1048576: true; the input reads as it did. -/
def aABBMatchesReferenceUptoRow : OpenClaim := { program := "ythbighklfajmdaa", sum := "bf2f65978a2596ce0690b189cc8775f0dbb07df35a7d668344adae9e1a14e53f", func := "carom/caromlaw05.AABBMatchesReference", spec := "aABBMatchesReference", apart := false, narrowed := true }
def AABBMatchesReferenceUptoSaid : Prop := aABBMatchesReferenceUptoRow.holds Try.pinned (OpenSpec.upto aABBMatchesReferenceSpec)

/-- 'caromlaw15.ClipKeeps', WHERE WHAT IT READS IS OF BULK AT MOST 1048576: true; the input reads as it did. -/
def clipKeepsUptoRow : OpenClaim := { program := "ythbighklfajmdaa", sum := "bf2f65978a2596ce0690b189cc8775f0dbb07df35a7d668344adae9e1a14e53f", func := "carom/caromlaw15.ClipKeeps", spec := "clipKeeps", apart := false, narrowed := true }
def ClipKeepsUptoSaid : Prop := clipKeepsUptoRow.holds Try.pinned (OpenSpec.upto clipKeepsSpec)

/-- 'caromlaw15.ClipVertexIDs', WHERE WHAT IT READS IS OF BULK AT MOST 1048576: true; the input reads as it did. -/
def clipVertexIDsUptoRow : OpenClaim := { program := "ythbighklfajmdaa", sum := "bf2f65978a2596ce0690b189cc8775f0dbb07df35a7d668344adae9e1a14e53f", func := "carom/caromlaw15.ClipVertexIDs", spec := "clipVertexIDs", apart := false, narrowed := true }
def ClipVertexIDsUptoSaid : Prop := clipVertexIDsUptoRow.holds Try.pinned (OpenSpec.upto clipVertexIDsSpec)

end Rows
end Go.Proofs.Ythbighklfajmdaa
