/- A world written out behind a call of which 'Below' alone is known. No program in sight. -/
import Derived.Test.YthbighklfajmdaaAt
namespace Go.Proofs.Ythbighklfajmdaa
open Go.RowKit

/-! ### A world written out behind a call of which 'Below' alone is known: new blocks l, the draws' count n. -/
def grow (w : World) (l : Array Obj) (n : Nat) : World := { w with heap := w.heap ++ l, drawn := n }
theorem grow_of {w w' : World} (h : Below w.heap.size w w') : ∃ l n, w' = grow w l n := by
  refine ⟨w'.heap.extract w.heap.size w'.heap.size, w'.drawn, ?_⟩
  obtain ⟨h1, h2, h3, h4, h5⟩ := h
  obtain ⟨hp, tp, dr, os, out⟩ := w
  obtain ⟨hp', tp', dr', os', out'⟩ := w'
  simp only at h1 h2 h3 h4 h5
  subst h1 h2 h3
  simp only [grow, World.mk.injEq, and_true]
  apply Array.ext_getElem?
  intro k
  rw [Array.getElem?_append]
  by_cases hk : k < hp.size
  · rw [if_pos hk, h5 k hk]
  · rw [if_neg hk, Array.getElem?_extract]
    by_cases h6 : k < hp'.size
    · rw [if_pos (by omega), show hp.size + (k - hp.size) = k by omega]
    · rw [if_neg (by omega)]; simp; omega
theorem heap_grow (w : World) (l : Array Obj) (n k : Nat) (h : k < w.heap.size) : (grow w l n).heap[k]? = w.heap[k]? := by
  show (w.heap ++ l)[k]? = _
  rw [Array.getElem?_append, if_pos h]
@[simp, go_sem] theorem size_grow (w : World) (l : Array Obj) (n : Nat) : (grow w l n).heap.size = w.heap.size + l.size := by simp [grow]
theorem below_grow {B : Nat} {a w : World} (h : Below B a w) (hB : B ≤ w.heap.size) (l : Array Obj) (n : Nat) : Below B a (grow w l n) :=
  h.trans ⟨rfl, rfl, rfl, by simp, fun k hk => heap_grow _ _ _ _ (by omega)⟩
@[simp, go_sem] theorem cell?_grow (w : World) (l : Array Obj) (n b o : Nat) (h : b < w.heap.size) : (grow w l n).cell? ⟨b, o, none⟩ = w.cell? ⟨b, o, none⟩ := World.cell?_of_block (w := w) (heap_grow w l n b h)
@[simp, go_sem] theorem frozen?_grow (w : World) (l : Array Obj) (n b o : Nat) (h : b < w.heap.size) : (grow w l n).frozen? ⟨b, o, none⟩ = w.frozen? ⟨b, o, none⟩ := World.frozen?_of_block (w := w) (heap_grow w l n b h)
@[simp, go_sem] theorem setCell_grow (w : World) (l : Array Obj) (n b o : Nat) (v : Value) (h : b < w.heap.size) : (grow w l n).setCell ⟨b, o, none⟩ v = grow (w.setCell ⟨b, o, none⟩ v) l n := by
  simp only [grow, World.setCell, World.mk.injEq, and_true]
  apply Array.ext_getElem?
  intro k
  rw [Array.getElem?_modify, Array.getElem?_append, Array.getElem?_append, Array.getElem?_modify, Array.size_modify]
  by_cases hk : b = k
  · subst hk
    rw [if_pos rfl, if_pos h, if_pos h, if_pos rfl]
  · rw [if_neg hk, if_neg hk]
@[simp, go_sem] theorem drew_grow (w : World) (l : Array Obj) (n : Nat) : (grow w l n).drew = grow w l (n + 1) := rfl
@[simp, go_sem] theorem drewN_grow (w : World) (l : Array Obj) (n m : Nat) : (grow w l n).drewN m = grow w l (n + m) := rfl
@[simp, go_sem] theorem grow_drew (w : World) (l : Array Obj) (n : Nat) : grow w.drew l n = grow w l n := rfl
@[simp, go_sem] theorem grow_drewN (w : World) (l : Array Obj) (n m : Nat) : grow (w.drewN m) l n = grow w l n := rfl
@[simp, go_sem] theorem grow_grow (w : World) (l l' : Array Obj) (n n' : Nat) : grow (grow w l n) l' n' = grow w (l ++ l') n' := by simp [grow]
@[simp, go_sem] theorem lt_fam0 (a c0 : Nat) : a < a + 1 + c0 := by omega
@[simp, go_sem] theorem lt_fam1 (a c0 c1 : Nat) : a < a + 1 + c0 + c1 := by omega
@[simp, go_sem] theorem lt_fam2 (a c0 c1 c2 : Nat) : a < a + 1 + c0 + c1 + c2 := by omega
@[simp, go_sem] theorem lt_fam3 (a c0 c1 c2 c3 : Nat) : a < a + 1 + c0 + c1 + c2 + c3 := by omega
@[simp, go_sem] theorem lt_fam4 (a c0 c1 c2 c3 c4 : Nat) : a < a + 1 + c0 + c1 + c2 + c3 + c4 := by omega
@[simp, go_sem] theorem lt_fam5 (a c0 c1 c2 c3 c4 c5 : Nat) : a < a + 1 + c0 + c1 + c2 + c3 + c4 + c5 := by omega
@[simp, go_sem] theorem lt_fam6 (a c0 c1 c2 c3 c4 c5 c6 : Nat) : a < a + 1 + c0 + c1 + c2 + c3 + c4 + c5 + c6 := by omega
@[simp, go_sem] theorem lt_fam7 (a c0 c1 c2 c3 c4 c5 c6 c7 : Nat) : a < a + 1 + c0 + c1 + c2 + c3 + c4 + c5 + c6 + c7 := by omega
@[simp, go_sem] theorem lt_fam8 (a c0 c1 c2 c3 c4 c5 c6 c7 c8 : Nat) : a < a + 1 + c0 + c1 + c2 + c3 + c4 + c5 + c6 + c7 + c8 := by omega
theorem le_add_of {a b c : Nat} (h : a ≤ b) : a ≤ b + c := by omega
end Go.Proofs.Ythbighklfajmdaa
