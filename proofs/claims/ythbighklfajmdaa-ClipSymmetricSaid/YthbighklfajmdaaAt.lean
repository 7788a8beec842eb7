/- Small facts on worlds: old blocks stay as they were; boxes written anew. No program in sight. -/
import Derived.Below
import Derived.WalkKit
import Derived.Deep.RegionHeld
import Derived.Deep.QuietTactic
namespace Go.Proofs.Ythbighklfajmdaa
open Go.RowKit

@[simp, go_sem] theorem setCell_drewN (w : World) (n : Nat) (a : Addr) (v : Value) : (w.drewN n).setCell a v = (w.setCell a v).drewN n := rfl
@[simp, go_sem] theorem alloc_drewN (w : World) (n : Nat) (o : Obj) : (w.drewN n).alloc o = (w.alloc o).drewN n := rfl
theorem below_drewN {B : Nat} {a w : World} (h : Below B a w) (n : Nat) : Below B a (w.drewN n) := ⟨h.os, h.tape, h.output, h.size, h.block⟩
def VecIs (B : Nat) (x y : Int) (w : World) (e : Ending) (w' : World) : Prop := e = .returned (.agg #[.int .i64 x, .int .i64 y]) ∧ Below B w w'
def IntIs (B : Nat) (x : Int) (w : World) (e : Ending) (w' : World) : Prop := e = .returned (.int .i64 x) ∧ Below B w w'
def BoolIs (B : Nat) (x : Bool) (w : World) (e : Ending) (w' : World) : Prop := e = .returned (.bool x) ∧ Below B w w'

/-- w is U with its blocks below B as they were; B of them at least. -/
structure At (B : Nat) (U w : World) : Prop where
  below : Below B U w
  size : B ≤ w.heap.size
theorem At.refl (U : World) : At U.heap.size U U := ⟨Below.refl _ _, Nat.le_refl _⟩
theorem At.step {B : Nat} {U w w' : World} (h : At B U w) (hb : Below w.heap.size w w') : At B U w' := ⟨h.below.trans (hb.mono h.size), Nat.le_trans h.size hb.size⟩
theorem At.drewN {B : Nat} {U w : World} (h : At B U w) (n : Nat) : At B U (w.drewN n) := ⟨below_drewN h.below n, h.size⟩
theorem At.drew {B : Nat} {U w : World} (h : At B U w) : At B U w.drew := ⟨h.below.drew, h.size⟩
theorem At.alloc {B : Nat} {U w : World} (h : At B U w) (o : Obj) : At B U (w.alloc o) := ⟨h.below.alloc h.size o, by rw [World.size_alloc]; exact Nat.le_succ_of_le h.size⟩
theorem At.rules {B : Nat} {U w : World} (h : At B U w) : (∀ b o, b < B → w.cell? ⟨b, o, none⟩ = U.cell? ⟨b, o, none⟩) ∧ (∀ b o, b < B → w.frozen? ⟨b, o, none⟩ = U.frozen? ⟨b, o, none⟩) :=
  ⟨fun b o hb => h.below.cell (p := ⟨b, o, none⟩) hb, fun b o hb => h.below.frozen (p := ⟨b, o, none⟩) hb⟩
theorem at_next {B : Nat} {U w w' : World} (hb : Below w.heap.size w w') (h : At B U w) :
    At B U w' ∧ (∀ b o, b < B → w'.cell? ⟨b, o, none⟩ = U.cell? ⟨b, o, none⟩) ∧ (∀ b o, b < B → w'.frozen? ⟨b, o, none⟩ = U.frozen? ⟨b, o, none⟩) :=
  ⟨h.step hb, (h.step hb).rules.1, (h.step hb).rules.2⟩

/-- A store into block b of a world. -/
theorem set_facts {w : World} {b i : Nat} {u : Value} (v : Value) (h : w.cell? ⟨b, i, none⟩ = some u) :
    (w.setCell ⟨b, i, none⟩ v).cell? ⟨b, i, none⟩ = some v ∧ (∀ c j, (c ≠ b ∨ j ≠ i) → (w.setCell ⟨b, i, none⟩ v).cell? ⟨c, j, none⟩ = w.cell? ⟨c, j, none⟩) ∧
      (∀ a, (w.setCell ⟨b, i, none⟩ v).frozen? a = w.frozen? a) ∧ (w.setCell ⟨b, i, none⟩ v).heap.size = w.heap.size :=
  ⟨World.cell?_setCell_same _ _ _ h, fun c j hne => World.cell?_setCell_other _ _ _ _ (fun e => by injection e with e1 e2; rcases hne with hne | hne <;> omega), fun a => World.frozen?_setCell _ _ _ _, by simp [World.setCell]⟩

/-- Block b holds the two cells p, q and is not frozen. -/
structure Box2 (w : World) (b : Nat) (p q : Value) : Prop where
  c0 : w.cell? ⟨b, 0, none⟩ = some p
  c1 : w.cell? ⟨b, 1, none⟩ = some q
  f0 : w.frozen? ⟨b, 0, none⟩ = false
  f1 : w.frozen? ⟨b, 1, none⟩ = false
theorem Box2.lt {w : World} {b : Nat} {p q : Value} (h : Box2 w b p q) : b < w.heap.size := World.block_lt_of_cell? w ⟨b, 0, none⟩ h.c0
theorem Box2.at {B : Nat} {U w : World} {b : Nat} {p q : Value} (h : Box2 U b p q) (hA : At B U w) (hb : b < B) : Box2 w b p q :=
  ⟨(hA.rules.1 _ _ hb).trans h.c0, (hA.rules.1 _ _ hb).trans h.c1, (hA.rules.2 _ _ hb).trans h.f0, (hA.rules.2 _ _ hb).trans h.f1⟩
theorem Box2.set {w : World} {b : Nat} {p q : Value} (x y : Value) (h : Box2 w b p q) : Box2 ((w.setCell ⟨b, 0, none⟩ x).setCell ⟨b, 1, none⟩ y) b x y := by
  obtain ⟨a1, a2, a3, a4⟩ := set_facts x h.c0
  obtain ⟨b1, b2, b3, b4⟩ := set_facts (w := w.setCell ⟨b, 0, none⟩ x) (b := b) (i := 1) (u := q) y ((a2 b 1 (by omega)).trans h.c1)
  exact ⟨(b2 b 0 (by omega)).trans a1, b1, by rw [b3, a3]; exact h.f0, by rw [b3, a3]; exact h.f1⟩
theorem Box2.far {w : World} {b c i : Nat} {p q : Value} (x : Value) (h : Box2 w b p q) (hne : b ≠ c) : Box2 (w.setCell ⟨c, i, none⟩ x) b p q :=
  ⟨(World.cell?_setCell_other _ _ _ _ (fun e => by injection e with e1; omega)).trans h.c0, (World.cell?_setCell_other _ _ _ _ (fun e => by injection e with e1; omega)).trans h.c1,
    (World.frozen?_setCell _ _ _ _).trans h.f0, (World.frozen?_setCell _ _ _ _).trans h.f1⟩
end Go.Proofs.Ythbighklfajmdaa
