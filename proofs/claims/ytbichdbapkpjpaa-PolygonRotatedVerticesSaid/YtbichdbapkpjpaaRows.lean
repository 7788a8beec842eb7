/-
  No cell of these rows narrows 'for every input' (looked for: loops, veiled, ifaces, maps, wideKeys, modest, calm, conditions, laid).
  DERIVED. THE GIVEN ROWS OF THIS SEAT. 6 by the template 'for every input the law returns true; each argument reads behind the call as it read before'; 0 by the template 'total and deterministic' (their statements: YtbichdbapkpjpaaTotals.lean).
  GIVEN WITH THE SEED: the statements are not yours to turn. If you find one false, say at which input.
  Laid BY PROGRAM, IN A SANDBOX (cutbox-rows.mjs): the forced cells as the released guide's own fill.sh prints them over the translation a662f8c925d019b4… (all of the seat's roots in one cut). By AI agents, Wed Nov 11 2026. No macro, syntax, notation, axiom, sorry.
-/
import Derived.Test.YtbichdbapkpjpaaChecked
import GoSem.Claim
import GoSem.ClaimJoined
import GoSem.ClaimMapViews
import Derived.JoinedTies
import Derived.KernelRfl
namespace Go.Proofs.Ytbichdbapkpjpaa
/- THE CELL 'sum', in the pinned program and in every row, IS THE sha256 OF THE DUMP (.gsa) THAT YtbichdbapkpjpaaProg.lean LOADS. Nothing in Lean hashes anything: it is a label: what it is worth is what the hold of that sum in a sandbox is worth. -/
noncomputable def Try.pinned : Pinned := { name := "ytbichdbapkpjpaa", sum := "a662f8c925d019b44842959d3420ec903c3fc791c33e21c7e3a3e418011d6b25", checked := Try.checked }
namespace Rows
def none {H : Type} : Left H := { results := [], args := [] }

/-- 'caromlaw11.PolygonHull': WHATEVER THE INPUT: true; the input reads as it did. -/
def polygonHullSpec : ChangeSpec := { name := "polygonHull", fn := fun _ => fun
  | [d] => { results := [.lit (.bool true)], args := [d] }
  | _ => none }
def polygonHullRow : OpenClaim := { program := "ytbichdbapkpjpaa", sum := "a662f8c925d019b44842959d3420ec903c3fc791c33e21c7e3a3e418011d6b25", func := "carom/caromlaw11.PolygonHull", spec := "polygonHull", apart := false }
def PolygonHullSaid : Prop := polygonHullRow.holds Try.pinned (OpenSpec.ofChange polygonHullSpec)

/-- ITS FALSE NEIGHBOUR: 'it returns false'. Refute it at one input. -/
def polygonHullWrong : ChangeSpec := { name := "polygonHull", fn := fun _ => fun
  | [d] => { results := [.lit (.bool false)], args := [d] }
  | _ => none }
def PolygonHullWrongFalsely : Prop := polygonHullRow.holds Try.pinned (OpenSpec.ofChange polygonHullWrong)

/-- 'caromlaw11.PolygonMeasures': WHATEVER THE INPUT: true; the input reads as it did. -/
def polygonMeasuresSpec : ChangeSpec := { name := "polygonMeasures", fn := fun _ => fun
  | [d1, d2] => { results := [.lit (.bool true)], args := [d1, d2] }
  | _ => none }
def polygonMeasuresRow : OpenClaim := { program := "ytbichdbapkpjpaa", sum := "a662f8c925d019b44842959d3420ec903c3fc791c33e21c7e3a3e418011d6b25", func := "carom/caromlaw11.PolygonMeasures", spec := "polygonMeasures", apart := false }
def PolygonMeasuresSaid : Prop := polygonMeasuresRow.holds Try.pinned (OpenSpec.ofChange polygonMeasuresSpec)

/-- ITS FALSE NEIGHBOUR: 'it returns false'. Refute it at one input. -/
def polygonMeasuresWrong : ChangeSpec := { name := "polygonMeasures", fn := fun _ => fun
  | [d1, d2] => { results := [.lit (.bool false)], args := [d1, d2] }
  | _ => none }
def PolygonMeasuresWrongFalsely : Prop := polygonMeasuresRow.holds Try.pinned (OpenSpec.ofChange polygonMeasuresWrong)

/-- 'caromlaw11.PolygonConvexHull': WHATEVER THE INPUT: true; the input reads as it did. -/
def polygonConvexHullSpec : ChangeSpec := { name := "polygonConvexHull", fn := fun _ => fun
  | [d] => { results := [.lit (.bool true)], args := [d] }
  | _ => none }
def polygonConvexHullRow : OpenClaim := { program := "ytbichdbapkpjpaa", sum := "a662f8c925d019b44842959d3420ec903c3fc791c33e21c7e3a3e418011d6b25", func := "carom/caromlaw11.PolygonConvexHull", spec := "polygonConvexHull", apart := false }
def PolygonConvexHullSaid : Prop := polygonConvexHullRow.holds Try.pinned (OpenSpec.ofChange polygonConvexHullSpec)

/-- ITS FALSE NEIGHBOUR: 'it returns false'. Refute it at one input. -/
def polygonConvexHullWrong : ChangeSpec := { name := "polygonConvexHull", fn := fun _ => fun
  | [d] => { results := [.lit (.bool false)], args := [d] }
  | _ => none }
def PolygonConvexHullWrongFalsely : Prop := polygonConvexHullRow.holds Try.pinned (OpenSpec.ofChange polygonConvexHullWrong)

/-- 'caromlaw11.PolygonHullOrder': WHATEVER THE INPUT: true; the input reads as it did. -/
def polygonHullOrderSpec : ChangeSpec := { name := "polygonHullOrder", fn := fun _ => fun
  | [d1, d2] => { results := [.lit (.bool true)], args := [d1, d2] }
  | _ => none }
def polygonHullOrderRow : OpenClaim := { program := "ytbichdbapkpjpaa", sum := "a662f8c925d019b44842959d3420ec903c3fc791c33e21c7e3a3e418011d6b25", func := "carom/caromlaw11.PolygonHullOrder", spec := "polygonHullOrder", apart := false }
def PolygonHullOrderSaid : Prop := polygonHullOrderRow.holds Try.pinned (OpenSpec.ofChange polygonHullOrderSpec)

/-- ITS FALSE NEIGHBOUR: 'it returns false'. Refute it at one input. -/
def polygonHullOrderWrong : ChangeSpec := { name := "polygonHullOrder", fn := fun _ => fun
  | [d1, d2] => { results := [.lit (.bool false)], args := [d1, d2] }
  | _ => none }
def PolygonHullOrderWrongFalsely : Prop := polygonHullOrderRow.holds Try.pinned (OpenSpec.ofChange polygonHullOrderWrong)

/-- 'caromlaw11.PolygonRotatedVertices': WHATEVER THE INPUT: true; the input reads as it did. -/
def polygonRotatedVerticesSpec : ChangeSpec := { name := "polygonRotatedVertices", fn := fun _ => fun
  | [d1, d2] => { results := [.lit (.bool true)], args := [d1, d2] }
  | _ => none }
def polygonRotatedVerticesRow : OpenClaim := { program := "ytbichdbapkpjpaa", sum := "a662f8c925d019b44842959d3420ec903c3fc791c33e21c7e3a3e418011d6b25", func := "carom/caromlaw11.PolygonRotatedVertices", spec := "polygonRotatedVertices", apart := false }
def PolygonRotatedVerticesSaid : Prop := polygonRotatedVerticesRow.holds Try.pinned (OpenSpec.ofChange polygonRotatedVerticesSpec)

/-- ITS FALSE NEIGHBOUR: 'it returns false'. Refute it at one input. -/
def polygonRotatedVerticesWrong : ChangeSpec := { name := "polygonRotatedVertices", fn := fun _ => fun
  | [d1, d2] => { results := [.lit (.bool false)], args := [d1, d2] }
  | _ => none }
def PolygonRotatedVerticesWrongFalsely : Prop := polygonRotatedVerticesRow.holds Try.pinned (OpenSpec.ofChange polygonRotatedVerticesWrong)

/-- 'caromlaw11.PolygonSupport': WHATEVER THE INPUT: true; the input reads as it did. -/
def polygonSupportSpec : ChangeSpec := { name := "polygonSupport", fn := fun _ => fun
  | [d1, d2] => { results := [.lit (.bool true)], args := [d1, d2] }
  | _ => none }
def polygonSupportRow : OpenClaim := { program := "ytbichdbapkpjpaa", sum := "a662f8c925d019b44842959d3420ec903c3fc791c33e21c7e3a3e418011d6b25", func := "carom/caromlaw11.PolygonSupport", spec := "polygonSupport", apart := false }
def PolygonSupportSaid : Prop := polygonSupportRow.holds Try.pinned (OpenSpec.ofChange polygonSupportSpec)

/-- ITS FALSE NEIGHBOUR: 'it returns false'. Refute it at one input. -/
def polygonSupportWrong : ChangeSpec := { name := "polygonSupport", fn := fun _ => fun
  | [d1, d2] => { results := [.lit (.bool false)], args := [d1, d2] }
  | _ => none }
def PolygonSupportWrongFalsely : Prop := polygonSupportRow.holds Try.pinned (OpenSpec.ofChange polygonSupportWrong)

/- THE SECOND FORM. 'bulk': how many values and letters a reading holds, each counted each time it is reached (what is shared counts as often as it is met; a slice's spare places count too). A statement '..UptoSaid' is the law's where the arguments, and the package variables that the reading takes, are together of bulk at most 1048576: NARROWER than '..Said'. Prove '..Said' where nothing that the law and all that it calls make is longer than what came in: it says more and counts as full. Else prove '..UptoSaid'. A law counts once. -/
mutual
def uptoBulk {H : Type} : DataW H → Nat
  | .lit (.string bytes) => bytes.length + 1
  | .lit _ => 1
  | .nil => 1
  | .ptr d => uptoBulk d + 1
  | .slice elems spare => uptoBulkAll elems + uptoBulkAll spare + 1
  | .agg parts => uptoBulkAll parts + 1
  | .iface _ d => uptoBulk d + 1
  | .map entries => uptoBulkEntries entries + 1
  | .held _ => 1
def uptoBulkAll {H : Type} : List (DataW H) → Nat
  | [] => 0
  | d :: r => uptoBulk d + uptoBulkAll r
def uptoBulkEntries {H : Type} : List (Lit × DataW H) → Nat
  | [] => 0
  | x :: r => uptoBulkEntry x + uptoBulkEntries r
def uptoBulkEntry {H : Type} : Lit × DataW H → Nat
  | (.string bytes, d) => bytes.length + uptoBulk d + 1
  | (_, d) => uptoBulk d + 1
 end
def uptoSmall : (H : Type) → List (DataW H) → Bool := fun _ ds => decide (uptoBulkAll ds ≤ 1048576)
def OpenSpec.upto (s : _root_.Go.ChangeSpec) : _root_.Go.OpenSpec := { _root_.Go.OpenSpec.ofChange s with cond := some uptoSmall }

/-- 'caromlaw11.PolygonHull', WHERE WHAT IT READS IS OF BULK AT MOST 1048576: true; the input reads as it did. -/
def polygonHullUptoRow : OpenClaim := { program := "ytbichdbapkpjpaa", sum := "a662f8c925d019b44842959d3420ec903c3fc791c33e21c7e3a3e418011d6b25", func := "carom/caromlaw11.PolygonHull", spec := "polygonHull", apart := false, narrowed := true }
def PolygonHullUptoSaid : Prop := polygonHullUptoRow.holds Try.pinned (OpenSpec.upto polygonHullSpec)

/-- 'caromlaw11.PolygonMeasures', WHERE WHAT IT READS IS OF BULK AT MOST 1048576: true; the input reads as it did. -/
def polygonMeasuresUptoRow : OpenClaim := { program := "ytbichdbapkpjpaa", sum := "a662f8c925d019b44842959d3420ec903c3fc791c33e21c7e3a3e418011d6b25", func := "carom/caromlaw11.PolygonMeasures", spec := "polygonMeasures", apart := false, narrowed := true }
def PolygonMeasuresUptoSaid : Prop := polygonMeasuresUptoRow.holds Try.pinned (OpenSpec.upto polygonMeasuresSpec)

/-- 'caromlaw11.PolygonConvexHull', WHERE WHAT IT READS IS OF BULK AT MOST 1048576: true; the input reads as it did. -/
def polygonConvexHullUptoRow : OpenClaim := { program := "ytbichdbapkpjpaa", sum := "a662f8c925d019b44842959d3420ec903c3fc791c33e21c7e3a3e418011d6b25", func := "carom/caromlaw11.PolygonConvexHull", spec := "polygonConvexHull", apart := false, narrowed := true }
def PolygonConvexHullUptoSaid : Prop := polygonConvexHullUptoRow.holds Try.pinned (OpenSpec.upto polygonConvexHullSpec)

/-- 'caromlaw11.PolygonHullOrder', WHERE WHAT IT READS IS OF BULK AT MOST 1048576: true; the input reads as it did. -/
def polygonHullOrderUptoRow : OpenClaim := { program := "ytbichdbapkpjpaa", sum := "a662f8c925d019b44842959d3420ec903c3fc791c33e21c7e3a3e418011d6b25", func := "carom/caromlaw11.PolygonHullOrder", spec := "polygonHullOrder", apart := false, narrowed := true }
def PolygonHullOrderUptoSaid : Prop := polygonHullOrderUptoRow.holds Try.pinned (OpenSpec.upto polygonHullOrderSpec)

/-- 'caromlaw11.PolygonRotatedVertices', WHERE WHAT IT READS IS OF BULK AT MOST 1048576: true; the input reads as it did. -/
def polygonRotatedVerticesUptoRow : OpenClaim := { program := "ytbichdbapkpjpaa", sum := "a662f8c925d019b44842959d3420ec903c3fc791c33e21c7e3a3e418011d6b25", func := "carom/caromlaw11.PolygonRotatedVertices", spec := "polygonRotatedVertices", apart := false, narrowed := true }
def PolygonRotatedVerticesUptoSaid : Prop := polygonRotatedVerticesUptoRow.holds Try.pinned (OpenSpec.upto polygonRotatedVerticesSpec)

/-- 'caromlaw11.PolygonSupport', WHERE WHAT IT READS IS OF BULK AT MOST 1048576: true; the input reads as it did. -/
def polygonSupportUptoRow : OpenClaim := { program := "ytbichdbapkpjpaa", sum := "a662f8c925d019b44842959d3420ec903c3fc791c33e21c7e3a3e418011d6b25", func := "carom/caromlaw11.PolygonSupport", spec := "polygonSupport", apart := false, narrowed := true }
def PolygonSupportUptoSaid : Prop := polygonSupportUptoRow.holds Try.pinned (OpenSpec.upto polygonSupportSpec)

end Rows
end Go.Proofs.Ytbichdbapkpjpaa
