/-
  No cell of these rows narrows 'for every input' (looked for: loops, veiled, ifaces, maps, wideKeys, modest, calm, conditions, laid).
  DERIVED. THE GIVEN ROWS OF THIS SEAT. 12 by the template 'for every input the law returns true; each argument reads behind the call as it read before'; 0 by the template 'total and deterministic' (their statements: YtdoagjphjnbbnaaTotals.lean).
  GIVEN WITH THE SEED: the statements are not yours to turn. If you find one false, say at which input.
  Laid BY PROGRAM, IN A SANDBOX (cutbox-rows.mjs): the forced cells as the released guide's own fill.sh prints them over the translation 613960baa1ebccea… (all of the seat's roots in one cut). By AI agents, Wed Nov 11 2026. No macro, syntax, notation, axiom, sorry.
-/
import Derived.Test.YtdoagjphjnbbnaaChecked
import GoSem.Claim
import GoSem.ClaimJoined
import GoSem.ClaimMapViews
import Derived.JoinedTies
import Derived.KernelRfl
namespace Go.Proofs.Ytdoagjphjnbbnaa
/- THE CELL 'sum', in the pinned program and in every row, IS THE sha256 OF THE DUMP (.gsa) THAT YtdoagjphjnbbnaaProg.lean LOADS. Nothing in Lean hashes anything: it is a label: what it is worth is what the hold of that sum in a sandbox is worth. -/
noncomputable def Try.pinned : Pinned := { name := "ytdoagjphjnbbnaa", sum := "613960baa1ebccea44253f9ef9ded677d341ab946d406991129a024343130cee", checked := Try.checked }
namespace Rows
def none {H : Type} : Left H := { results := [], args := [] }

/-- 'caromlaw14.SATMatchesReference': WHATEVER THE INPUT: true; the input reads as it did. -/
def sATMatchesReferenceSpec : ChangeSpec := { name := "sATMatchesReference", fn := fun _ => fun
  | [d1, d2, d3, d4] => { results := [.lit (.bool true)], args := [d1, d2, d3, d4] }
  | _ => none }
def sATMatchesReferenceRow : OpenClaim := { program := "ytdoagjphjnbbnaa", sum := "613960baa1ebccea44253f9ef9ded677d341ab946d406991129a024343130cee", func := "carom/caromlaw14.SATMatchesReference", spec := "sATMatchesReference", apart := false }
def SATMatchesReferenceSaid : Prop := sATMatchesReferenceRow.holds Try.pinned (OpenSpec.ofChange sATMatchesReferenceSpec)

/-- ITS FALSE NEIGHBOUR: 'it returns false'. Refute it at one input. -/
def sATMatchesReferenceWrong : ChangeSpec := { name := "sATMatchesReference", fn := fun _ => fun
  | [d1, d2, d3, d4] => { results := [.lit (.bool false)], args := [d1, d2, d3, d4] }
  | _ => none }
def SATMatchesReferenceWrongFalsely : Prop := sATMatchesReferenceRow.holds Try.pinned (OpenSpec.ofChange sATMatchesReferenceWrong)

/-- 'caromlaw14.SATNormalPerpendicular': WHATEVER THE INPUT: true; the input reads as it did. -/
def sATNormalPerpendicularSpec : ChangeSpec := { name := "sATNormalPerpendicular", fn := fun _ => fun
  | [d1, d2] => { results := [.lit (.bool true)], args := [d1, d2] }
  | _ => none }
def sATNormalPerpendicularRow : OpenClaim := { program := "ytdoagjphjnbbnaa", sum := "613960baa1ebccea44253f9ef9ded677d341ab946d406991129a024343130cee", func := "carom/caromlaw14.SATNormalPerpendicular", spec := "sATNormalPerpendicular", apart := false }
def SATNormalPerpendicularSaid : Prop := sATNormalPerpendicularRow.holds Try.pinned (OpenSpec.ofChange sATNormalPerpendicularSpec)

/-- ITS FALSE NEIGHBOUR: 'it returns false'. Refute it at one input. -/
def sATNormalPerpendicularWrong : ChangeSpec := { name := "sATNormalPerpendicular", fn := fun _ => fun
  | [d1, d2] => { results := [.lit (.bool false)], args := [d1, d2] }
  | _ => none }
def SATNormalPerpendicularWrongFalsely : Prop := sATNormalPerpendicularRow.holds Try.pinned (OpenSpec.ofChange sATNormalPerpendicularWrong)

/-- 'caromlaw14.SATMaxSeparation': WHATEVER THE INPUT: true; the input reads as it did. -/
def sATMaxSeparationSpec : ChangeSpec := { name := "sATMaxSeparation", fn := fun _ => fun
  | [d1, d2] => { results := [.lit (.bool true)], args := [d1, d2] }
  | _ => none }
def sATMaxSeparationRow : OpenClaim := { program := "ytdoagjphjnbbnaa", sum := "613960baa1ebccea44253f9ef9ded677d341ab946d406991129a024343130cee", func := "carom/caromlaw14.SATMaxSeparation", spec := "sATMaxSeparation", apart := false }
def SATMaxSeparationSaid : Prop := sATMaxSeparationRow.holds Try.pinned (OpenSpec.ofChange sATMaxSeparationSpec)

/-- ITS FALSE NEIGHBOUR: 'it returns false'. Refute it at one input. -/
def sATMaxSeparationWrong : ChangeSpec := { name := "sATMaxSeparation", fn := fun _ => fun
  | [d1, d2] => { results := [.lit (.bool false)], args := [d1, d2] }
  | _ => none }
def SATMaxSeparationWrongFalsely : Prop := sATMaxSeparationRow.holds Try.pinned (OpenSpec.ofChange sATMaxSeparationWrong)

/-- 'caromlaw14.SATMoreVertices': WHATEVER THE INPUT: true; the input reads as it did. -/
def sATMoreVerticesSpec : ChangeSpec := { name := "sATMoreVertices", fn := fun _ => fun
  | [d1, d2, d3] => { results := [.lit (.bool true)], args := [d1, d2, d3] }
  | _ => none }
def sATMoreVerticesRow : OpenClaim := { program := "ytdoagjphjnbbnaa", sum := "613960baa1ebccea44253f9ef9ded677d341ab946d406991129a024343130cee", func := "carom/caromlaw14.SATMoreVertices", spec := "sATMoreVertices", apart := false }
def SATMoreVerticesSaid : Prop := sATMoreVerticesRow.holds Try.pinned (OpenSpec.ofChange sATMoreVerticesSpec)

/-- ITS FALSE NEIGHBOUR: 'it returns false'. Refute it at one input. -/
def sATMoreVerticesWrong : ChangeSpec := { name := "sATMoreVertices", fn := fun _ => fun
  | [d1, d2, d3] => { results := [.lit (.bool false)], args := [d1, d2, d3] }
  | _ => none }
def SATMoreVerticesWrongFalsely : Prop := sATMoreVerticesRow.holds Try.pinned (OpenSpec.ofChange sATMoreVerticesWrong)

/-- 'caromlaw14.SATIncidentEdge': WHATEVER THE INPUT: true; the input reads as it did. -/
def sATIncidentEdgeSpec : ChangeSpec := { name := "sATIncidentEdge", fn := fun _ => fun
  | [d1, d2] => { results := [.lit (.bool true)], args := [d1, d2] }
  | _ => none }
def sATIncidentEdgeRow : OpenClaim := { program := "ytdoagjphjnbbnaa", sum := "613960baa1ebccea44253f9ef9ded677d341ab946d406991129a024343130cee", func := "carom/caromlaw14.SATIncidentEdge", spec := "sATIncidentEdge", apart := false }
def SATIncidentEdgeSaid : Prop := sATIncidentEdgeRow.holds Try.pinned (OpenSpec.ofChange sATIncidentEdgeSpec)

/-- ITS FALSE NEIGHBOUR: 'it returns false'. Refute it at one input. -/
def sATIncidentEdgeWrong : ChangeSpec := { name := "sATIncidentEdge", fn := fun _ => fun
  | [d1, d2] => { results := [.lit (.bool false)], args := [d1, d2] }
  | _ => none }
def SATIncidentEdgeWrongFalsely : Prop := sATIncidentEdgeRow.holds Try.pinned (OpenSpec.ofChange sATIncidentEdgeWrong)

/-- 'caromlaw10.SegmentDistance': WHATEVER THE INPUT: true; the input reads as it did. -/
def segmentDistanceSpec : ChangeSpec := { name := "segmentDistance", fn := fun _ => fun
  | [d1, d2, d3, d4] => { results := [.lit (.bool true)], args := [d1, d2, d3, d4] }
  | _ => none }
def segmentDistanceRow : OpenClaim := { program := "ytdoagjphjnbbnaa", sum := "613960baa1ebccea44253f9ef9ded677d341ab946d406991129a024343130cee", func := "carom/caromlaw10.SegmentDistance", spec := "segmentDistance", apart := false }
def SegmentDistanceSaid : Prop := segmentDistanceRow.holds Try.pinned (OpenSpec.ofChange segmentDistanceSpec)

/-- ITS FALSE NEIGHBOUR: 'it returns false'. Refute it at one input. -/
def segmentDistanceWrong : ChangeSpec := { name := "segmentDistance", fn := fun _ => fun
  | [d1, d2, d3, d4] => { results := [.lit (.bool false)], args := [d1, d2, d3, d4] }
  | _ => none }
def SegmentDistanceWrongFalsely : Prop := segmentDistanceRow.holds Try.pinned (OpenSpec.ofChange segmentDistanceWrong)

/-- 'caromlaw10.SegmentClosestPoint': WHATEVER THE INPUT: true; the input reads as it did. -/
def segmentClosestPointSpec : ChangeSpec := { name := "segmentClosestPoint", fn := fun _ => fun
  | [d1, d2, d3] => { results := [.lit (.bool true)], args := [d1, d2, d3] }
  | _ => none }
def segmentClosestPointRow : OpenClaim := { program := "ytdoagjphjnbbnaa", sum := "613960baa1ebccea44253f9ef9ded677d341ab946d406991129a024343130cee", func := "carom/caromlaw10.SegmentClosestPoint", spec := "segmentClosestPoint", apart := false }
def SegmentClosestPointSaid : Prop := segmentClosestPointRow.holds Try.pinned (OpenSpec.ofChange segmentClosestPointSpec)

/-- ITS FALSE NEIGHBOUR: 'it returns false'. Refute it at one input. -/
def segmentClosestPointWrong : ChangeSpec := { name := "segmentClosestPoint", fn := fun _ => fun
  | [d1, d2, d3] => { results := [.lit (.bool false)], args := [d1, d2, d3] }
  | _ => none }
def SegmentClosestPointWrongFalsely : Prop := segmentClosestPointRow.holds Try.pinned (OpenSpec.ofChange segmentClosestPointWrong)

/-- 'caromlaw10.SegmentIntersection': WHATEVER THE INPUT: true; the input reads as it did. -/
def segmentIntersectionSpec : ChangeSpec := { name := "segmentIntersection", fn := fun _ => fun
  | [d1, d2, d3, d4] => { results := [.lit (.bool true)], args := [d1, d2, d3, d4] }
  | _ => none }
def segmentIntersectionRow : OpenClaim := { program := "ytdoagjphjnbbnaa", sum := "613960baa1ebccea44253f9ef9ded677d341ab946d406991129a024343130cee", func := "carom/caromlaw10.SegmentIntersection", spec := "segmentIntersection", apart := false }
def SegmentIntersectionSaid : Prop := segmentIntersectionRow.holds Try.pinned (OpenSpec.ofChange segmentIntersectionSpec)

/-- ITS FALSE NEIGHBOUR: 'it returns false'. Refute it at one input. -/
def segmentIntersectionWrong : ChangeSpec := { name := "segmentIntersection", fn := fun _ => fun
  | [d1, d2, d3, d4] => { results := [.lit (.bool false)], args := [d1, d2, d3, d4] }
  | _ => none }
def SegmentIntersectionWrongFalsely : Prop := segmentIntersectionRow.holds Try.pinned (OpenSpec.ofChange segmentIntersectionWrong)

/-- 'caromlaw10.SegmentSymmetry': WHATEVER THE INPUT: true; the input reads as it did. -/
def segmentSymmetrySpec : ChangeSpec := { name := "segmentSymmetry", fn := fun _ => fun
  | [d1, d2, d3, d4] => { results := [.lit (.bool true)], args := [d1, d2, d3, d4] }
  | _ => none }
def segmentSymmetryRow : OpenClaim := { program := "ytdoagjphjnbbnaa", sum := "613960baa1ebccea44253f9ef9ded677d341ab946d406991129a024343130cee", func := "carom/caromlaw10.SegmentSymmetry", spec := "segmentSymmetry", apart := false }
def SegmentSymmetrySaid : Prop := segmentSymmetryRow.holds Try.pinned (OpenSpec.ofChange segmentSymmetrySpec)

/-- ITS FALSE NEIGHBOUR: 'it returns false'. Refute it at one input. -/
def segmentSymmetryWrong : ChangeSpec := { name := "segmentSymmetry", fn := fun _ => fun
  | [d1, d2, d3, d4] => { results := [.lit (.bool false)], args := [d1, d2, d3, d4] }
  | _ => none }
def SegmentSymmetryWrongFalsely : Prop := segmentSymmetryRow.holds Try.pinned (OpenSpec.ofChange segmentSymmetryWrong)

/-- 'caromlaw10.SegmentEndPoints': WHATEVER THE INPUT: true; the input reads as it did. -/
def segmentEndPointsSpec : ChangeSpec := { name := "segmentEndPoints", fn := fun _ => fun
  | [d1, d2, d3, d4] => { results := [.lit (.bool true)], args := [d1, d2, d3, d4] }
  | _ => none }
def segmentEndPointsRow : OpenClaim := { program := "ytdoagjphjnbbnaa", sum := "613960baa1ebccea44253f9ef9ded677d341ab946d406991129a024343130cee", func := "carom/caromlaw10.SegmentEndPoints", spec := "segmentEndPoints", apart := false }
def SegmentEndPointsSaid : Prop := segmentEndPointsRow.holds Try.pinned (OpenSpec.ofChange segmentEndPointsSpec)

/-- ITS FALSE NEIGHBOUR: 'it returns false'. Refute it at one input. -/
def segmentEndPointsWrong : ChangeSpec := { name := "segmentEndPoints", fn := fun _ => fun
  | [d1, d2, d3, d4] => { results := [.lit (.bool false)], args := [d1, d2, d3, d4] }
  | _ => none }
def SegmentEndPointsWrongFalsely : Prop := segmentEndPointsRow.holds Try.pinned (OpenSpec.ofChange segmentEndPointsWrong)

/-- 'caromlaw10.SegmentBounds': WHATEVER THE INPUT: true; the input reads as it did. -/
def segmentBoundsSpec : ChangeSpec := { name := "segmentBounds", fn := fun _ => fun
  | [d1, d2, d3, d4] => { results := [.lit (.bool true)], args := [d1, d2, d3, d4] }
  | _ => none }
def segmentBoundsRow : OpenClaim := { program := "ytdoagjphjnbbnaa", sum := "613960baa1ebccea44253f9ef9ded677d341ab946d406991129a024343130cee", func := "carom/caromlaw10.SegmentBounds", spec := "segmentBounds", apart := false }
def SegmentBoundsSaid : Prop := segmentBoundsRow.holds Try.pinned (OpenSpec.ofChange segmentBoundsSpec)

/-- ITS FALSE NEIGHBOUR: 'it returns false'. Refute it at one input. -/
def segmentBoundsWrong : ChangeSpec := { name := "segmentBounds", fn := fun _ => fun
  | [d1, d2, d3, d4] => { results := [.lit (.bool false)], args := [d1, d2, d3, d4] }
  | _ => none }
def SegmentBoundsWrongFalsely : Prop := segmentBoundsRow.holds Try.pinned (OpenSpec.ofChange segmentBoundsWrong)

/-- 'caromlaw14.SATSeparates': WHATEVER THE INPUT: true; the input reads as it did. -/
def sATSeparatesSpec : ChangeSpec := { name := "sATSeparates", fn := fun _ => fun
  | [d1, d2, d3] => { results := [.lit (.bool true)], args := [d1, d2, d3] }
  | _ => none }
def sATSeparatesRow : OpenClaim := { program := "ytdoagjphjnbbnaa", sum := "613960baa1ebccea44253f9ef9ded677d341ab946d406991129a024343130cee", func := "carom/caromlaw14.SATSeparates", spec := "sATSeparates", apart := false }
def SATSeparatesSaid : Prop := sATSeparatesRow.holds Try.pinned (OpenSpec.ofChange sATSeparatesSpec)

/-- ITS FALSE NEIGHBOUR: 'it returns false'. Refute it at one input. -/
def sATSeparatesWrong : ChangeSpec := { name := "sATSeparates", fn := fun _ => fun
  | [d1, d2, d3] => { results := [.lit (.bool false)], args := [d1, d2, d3] }
  | _ => none }
def SATSeparatesWrongFalsely : Prop := sATSeparatesRow.holds Try.pinned (OpenSpec.ofChange sATSeparatesWrong)

/- THE SECOND FORM. 'bulk': how many values and letters a reading holds, each counted each time it is reached (what is shared counts as often as it is met; a slice's spare places count too). A statement '..UptoSaid' is the law's where the arguments, and the package variables that the reading takes, are together of bulk at most 1048576: NARROWER than '..Said'. Prove '..Said' where nothing that the law and all that it calls make is longer than what came in: it says more and counts as full. Else prove '..UptoSaid'. A law counts once. -/
mutual
def uptoBulk {H : Type} : DataW H → Nat
  | .lit (.string bytes) => bytes.length + 1
  | .lit _ => 1
  | .nil => 1
  | .ptr d => uptoBulk d + 1
  | .slice elems spare => uptoBulkAll elems + uptoBulkAll spare + 1
  | .agg parts => uptoBulkAll parts + 1
  | .iface _ d => uptoBulk d + 1
  | .map entries => uptoBulkEntries entries + 1
  | .held _ => 1
def uptoBulkAll {H : Type} : List (DataW H) → Nat
  | [] => 0
  | d :: r => uptoBulk d + uptoBulkAll r
def uptoBulkEntries {H : Type} : List (Lit × DataW H) → Nat
  | [] => 0
  | x :: r => uptoBulkEntry x + uptoBulkEntries r
def uptoBulkEntry {H : Type} : Lit × DataW H → Nat
  | (.string bytes, d) => bytes.length + uptoBulk d + 1
  | (_, d) => uptoBulk d + 1
 end
def uptoSmall : (H : Type) → List (DataW H) → Bool := fun _ ds => decide (uptoBulkAll ds ≤ 1048576)
def OpenSpec.upto (s : _root_.Go.ChangeSpec) : _root_.Go.OpenSpec := { _root_.Go.OpenSpec.ofChange s with cond := some uptoSmall }

/-- 'caromlaw14.SATMatchesReference', WHERE WHAT IT READS IS OF BULK AT MOST 1048576: true; the input reads as it did. -/
def sATMatchesReferenceUptoRow : OpenClaim := { program := "ytdoagjphjnbbnaa", sum := "613960baa1ebccea44253f9ef9ded677d341ab946d406991129a024343130cee", func := "carom/caromlaw14.SATMatchesReference", spec := "sATMatchesReference", apart := false, narrowed := true }
def SATMatchesReferenceUptoSaid : Prop := sATMatchesReferenceUptoRow.holds Try.pinned (OpenSpec.upto sATMatchesReferenceSpec)

/-- 'caromlaw14.SATNormalPerpendicular', WHERE WHAT IT READS IS OF BULK AT MOST 1048576: true; the input reads as it did. -/
def sATNormalPerpendicularUptoRow : OpenClaim := { program := "ytdoagjphjnbbnaa", sum := "613960baa1ebccea44253f9ef9ded677d341ab946d406991129a024343130cee", func := "carom/caromlaw14.SATNormalPerpendicular", spec := "sATNormalPerpendicular", apart := false, narrowed := true }
def SATNormalPerpendicularUptoSaid : Prop := sATNormalPerpendicularUptoRow.holds Try.pinned (OpenSpec.upto sATNormalPerpendicularSpec)

/-- 'caromlaw14.SATMaxSeparation', WHERE WHAT IT READS IS OF BULK AT MOST 1048576: true; the input reads as it did. -/
def sATMaxSeparationUptoRow : OpenClaim := { program := "ytdoagjphjnbbnaa", sum := "613960baa1ebccea44253f9ef9ded677d341ab946d406991129a024343130cee", func := "carom/caromlaw14.SATMaxSeparation", spec := "sATMaxSeparation", apart := false, narrowed := true }
def SATMaxSeparationUptoSaid : Prop := sATMaxSeparationUptoRow.holds Try.pinned (OpenSpec.upto sATMaxSeparationSpec)

/-- 'caromlaw14.SATMoreVertices', WHERE WHAT IT READS IS OF BULK AT MOST 1048576: true; the input reads as it did. -/
def sATMoreVerticesUptoRow : OpenClaim := { program := "ytdoagjphjnbbnaa", sum := "613960baa1ebccea44253f9ef9ded677d341ab946d406991129a024343130cee", func := "carom/caromlaw14.SATMoreVertices", spec := "sATMoreVertices", apart := false, narrowed := true }
def SATMoreVerticesUptoSaid : Prop := sATMoreVerticesUptoRow.holds Try.pinned (OpenSpec.upto sATMoreVerticesSpec)

/-- 'caromlaw14.SATIncidentEdge', WHERE WHAT IT READS IS OF BULK AT MOST 1048576: true; the input reads as it did. -/
def sATIncidentEdgeUptoRow : OpenClaim := { program := "ytdoagjphjnbbnaa", sum := "613960baa1ebccea44253f9ef9ded677d341ab946d406991129a024343130cee", func := "carom/caromlaw14.SATIncidentEdge", spec := "sATIncidentEdge", apart := false, narrowed := true }
def SATIncidentEdgeUptoSaid : Prop := sATIncidentEdgeUptoRow.holds Try.pinned (OpenSpec.upto sATIncidentEdgeSpec)

/-- 'caromlaw10.SegmentDistance', WHERE WHAT IT READS IS OF BULK AT MOST 1048576: true; the input reads as it did. -/
def segmentDistanceUptoRow : OpenClaim := { program := "ytdoagjphjnbbnaa", sum := "613960baa1ebccea44253f9ef9ded677d341ab946d406991129a024343130cee", func := "carom/caromlaw10.SegmentDistance", spec := "segmentDistance", apart := false, narrowed := true }
def SegmentDistanceUptoSaid : Prop := segmentDistanceUptoRow.holds Try.pinned (OpenSpec.upto segmentDistanceSpec)

/-- 'caromlaw10.SegmentClosestPoint', WHERE WHAT IT READS IS OF BULK AT MOST 1048576: true; the input reads as it did. -/
def segmentClosestPointUptoRow : OpenClaim := { program := "ytdoagjphjnbbnaa", sum := "613960baa1ebccea44253f9ef9ded677d341ab946d406991129a024343130cee", func := "carom/caromlaw10.SegmentClosestPoint", spec := "segmentClosestPoint", apart := false, narrowed := true }
def SegmentClosestPointUptoSaid : Prop := segmentClosestPointUptoRow.holds Try.pinned (OpenSpec.upto segmentClosestPointSpec)

/-- 'caromlaw10.SegmentIntersection', WHERE WHAT IT READS IS OF BULK AT MOST 1048576: true; the input reads as it did. -/
def segmentIntersectionUptoRow : OpenClaim := { program := "ytdoagjphjnbbnaa", sum := "613960baa1ebccea44253f9ef9ded677d341ab946d406991129a024343130cee", func := "carom/caromlaw10.SegmentIntersection", spec := "segmentIntersection", apart := false, narrowed := true }
def SegmentIntersectionUptoSaid : Prop := segmentIntersectionUptoRow.holds Try.pinned (OpenSpec.upto segmentIntersectionSpec)

/-- 'caromlaw10.SegmentSymmetry', WHERE WHAT IT READS IS OF BULK AT MOST 1048576: true; the input reads as it did. -/
def segmentSymmetryUptoRow : OpenClaim := { program := "ytdoagjphjnbbnaa", sum := "613960baa1ebccea44253f9ef9ded677d341ab946d406991129a024343130cee", func := "carom/caromlaw10.SegmentSymmetry", spec := "segmentSymmetry", apart := false, narrowed := true }
def SegmentSymmetryUptoSaid : Prop := segmentSymmetryUptoRow.holds Try.pinned (OpenSpec.upto segmentSymmetrySpec)

/-- 'caromlaw10.SegmentEndPoints', WHERE WHAT IT READS IS OF BULK AT MOST 1048576: true; the input reads as it did. -/
def segmentEndPointsUptoRow : OpenClaim := { program := "ytdoagjphjnbbnaa", sum := "613960baa1ebccea44253f9ef9ded677d341ab946d406991129a024343130cee", func := "carom/caromlaw10.SegmentEndPoints", spec := "segmentEndPoints", apart := false, narrowed := true }
def SegmentEndPointsUptoSaid : Prop := segmentEndPointsUptoRow.holds Try.pinned (OpenSpec.upto segmentEndPointsSpec)

/-- 'caromlaw10.SegmentBounds', WHERE WHAT IT READS IS OF BULK AT MOST 1048576: true; the input reads as it did. -/
def segmentBoundsUptoRow : OpenClaim := { program := "ytdoagjphjnbbnaa", sum := "613960baa1ebccea44253f9ef9ded677d341ab946d406991129a024343130cee", func := "carom/caromlaw10.SegmentBounds", spec := "segmentBounds", apart := false, narrowed := true }
def SegmentBoundsUptoSaid : Prop := segmentBoundsUptoRow.holds Try.pinned (OpenSpec.upto segmentBoundsSpec)

/-- 'caromlaw14.SATSeparates', WHERE WHAT IT READS IS OF BULK AT MOST 1048576: true; the input reads as it did. -/
def sATSeparatesUptoRow : OpenClaim := { program := "ytdoagjphjnbbnaa", sum := "613960baa1ebccea44253f9ef9ded677d341ab946d406991129a024343130cee", func := "carom/caromlaw14.SATSeparates", spec := "sATSeparates", apart := false, narrowed := true }
def SATSeparatesUptoSaid : Prop := sATSeparatesUptoRow.holds Try.pinned (OpenSpec.upto sATSeparatesSpec)

end Rows
end Go.Proofs.Ytdoagjphjnbbnaa
