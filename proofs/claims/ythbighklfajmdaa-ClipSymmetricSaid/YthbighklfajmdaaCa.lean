/- Named cells, kept over a new block. No program in sight. -/
import Derived.Test.YthbighklfajmdaaCe
namespace Go.Proofs.Ythbighklfajmdaa
open Go.RowKit
theorem cells_alloc {w0 W : World} {L : List (Nat × Nat × Value)} (h : Cells w0 L W) (o : Obj) : Cells w0 L (W.alloc o) :=
  ⟨h.1.alloc h.1.size o, allCells_of (w := W) (w' := W.alloc o) (fun b q _ hv => (World.cell?_alloc_lt W o ⟨b, q, none⟩ (World.block_lt_of_cell? W ⟨b, q, none⟩ hv)).trans hv) L h.2⟩
/-- Cells more. -/
theorem cells_more {w0 W : World} {L M : List (Nat × Nat × Value)} (h : Cells w0 L W) (k : AllCells W M) : Cells w0 (M ++ L) W := by
  refine ⟨h.1, ?_⟩
  induction M with
  | nil => exact h.2
  | cons x M ih => exact ⟨k.1, ih k.2⟩
theorem allCells_append {w : World} : ∀ {L M : List (Nat × Nat × Value)}, AllCells w L → AllCells w M → AllCells w (L ++ M)
  | [], _, _, h => h
  | _ :: _, _, h, k => ⟨h.1, allCells_append h.2 k⟩
theorem cells_append {w0 W : World} {L M : List (Nat × Nat × Value)} (h : Cells w0 L W) (k : AllCells W M) : Cells w0 (L ++ M) W := ⟨h.1, allCells_append h.2 k⟩
/-- Addresses in blocks that are there and not frozen. -/
def AllFree (w : World) : List (Nat × Nat) → Prop
  | [] => True
  | (b, o) :: M => (b < w.heap.size ∧ w.frozen? ⟨b, o, none⟩ = false) ∧ AllFree w M
theorem free_step {W w' : World} (hb : Below W.heap.size W w') : ∀ M, AllFree W M → AllFree w' M
  | [], _ => trivial
  | (b, o) :: M, h => ⟨⟨Nat.lt_of_lt_of_le h.1.1 hb.size, (hb.frozen (p := ⟨b, o, none⟩) h.1.1).trans h.1.2⟩, free_step hb M h.2⟩
end Go.Proofs.Ythbighklfajmdaa
