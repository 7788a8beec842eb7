/- Named cells of a world that is known no further: kept over calls. No program in sight. -/
import Derived.Test.YthbighklfajmdaaGr
namespace Go.Proofs.Ythbighklfajmdaa
open Go.RowKit

def AllCells (w : World) : List (Nat × Nat × Value) → Prop
  | [] => True
  | (b, o, v) :: L => w.cell? ⟨b, o, none⟩ = some v ∧ AllCells w L
/-- w' is w0 but for new blocks, and the cells of the list L hold what it says. -/
def Cells (w0 : World) (L : List (Nat × Nat × Value)) (w' : World) : Prop := Below w0.heap.size w0 w' ∧ AllCells w' L
theorem allCells_of {w w' : World} (hc : ∀ b o v, w.cell? ⟨b, o, none⟩ = some v → w'.cell? ⟨b, o, none⟩ = some v) : ∀ L, AllCells w L → AllCells w' L
  | [], _ => trivial
  | (b, o, v) :: L, h => ⟨hc b o v h.1, allCells_of hc L h.2⟩
theorem cells_step {w0 W w' : World} {L : List (Nat × Nat × Value)} (hb : Below W.heap.size W w') (h : Cells w0 L W) : Cells w0 L w' :=
  ⟨h.1.trans (hb.mono h.1.size), allCells_of (fun b o _ hv => (hb.cell (p := ⟨b, o, none⟩) (World.block_lt_of_cell? W ⟨b, o, none⟩ hv)).trans hv) L h.2⟩
theorem cells_drew {w0 W : World} {L : List (Nat × Nat × Value)} (h : Cells w0 L W) : Cells w0 L W.drew := ⟨h.1.drew, allCells_of (w := W) (w' := W.drew) (fun _ _ _ hv => hv) L h.2⟩
theorem cells_drewN {w0 W : World} {L : List (Nat × Nat × Value)} (h : Cells w0 L W) (n : Nat) : Cells w0 L (W.drewN n) := ⟨below_drewN h.1 n, allCells_of (w := W) (w' := W.drewN n) (fun _ _ _ hv => hv) L h.2⟩
/-- The walk goes on in a world that is a letter. -/
theorem wp_cells {P : Program} {c : Code} {Q : Exit → Act → World → Prop} {a : Act} {w0 W : World} {L : List (Nat × Nat × Value)} (h : Cells w0 L W) (k : ∀ U, Cells w0 L U → c.wp P Q a U) : c.wp P Q a W := k W h
end Go.Proofs.Ythbighklfajmdaa
