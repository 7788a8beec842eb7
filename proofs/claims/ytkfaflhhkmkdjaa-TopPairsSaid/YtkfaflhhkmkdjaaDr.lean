/- Draws only grow. -/
import Derived.Test.YtkfaflhhkmkdjaaNb
namespace Go.Proofs.Ytkfaflhhkmkdjaa
open Go.RowKit Go.Shelf
set_option linter.unusedVariables false
set_option linter.unusedSimpArgs false
theorem viewStore_drawn (p : Program) (w : World) (a : Addr) (u : TypeId) (k : Addr) (v : Value) (at_ : Bool) (r : World × List Addr) (h : w.viewStore p a u k v at_ = .ok r) : w.drawn ≤ r.1.drawn := by
  unfold World.viewStore at h
  simp only [bind, Except.bind, pure, Except.pure, throw, throwThe, MonadExceptOf.throw] at h
  repeat' split at h
  all_goals first | (cases h; done) | (injection h with h; subst h; exact Nat.le_refl _) | skip
theorem farStore_drawn (p : Program) (w : World) (a : Addr) (v : Value) (at_ : Bool) (r : World × List Addr) (h : w.farStore p a v at_ = .ok r) : w.drawn ≤ r.1.drawn := by
  unfold World.farStore at h
  split at h
  · split at h
    · cases h; exact viewStore_drawn _ _ _ _ _ _ _ _ (by assumption)
    · cases h
  · cases h
theorem ask_drawn {α : Type} (a : Ask α) : ∀ w : World, w.drawn ≤ (w.ask a).2.drawn := by
  induction a with
  | done a => intro w; exact Nat.le_refl _
  | ask q r k ih =>
    intro w
    unfold World.ask
    simp only
    split
    · exact ih _ _
    · exact Nat.le_trans (Nat.le_succ w.drawn) (ih _ { w with drawn := w.drawn + 1 })
theorem sys_drawn (w : World) (c : Sys) : w.drawn ≤ (w.sys c).2.drawn := by
  have h := ask_drawn (Kernel.perform c w.os) w
  unfold World.sys
  split
  · exact Nat.le_refl _
  · rename_i e; rw [e] at h; exact h
theorem run_drawn {α : Type} {P : Program} (s : Sem α) : ∀ {w w' : World} {v : α}, s.run P w = .ok v w' → w.drawn ≤ w'.drawn := by
  induction s with
  | pure a => intro w w' v h; unfold Sem.run at h; cases h; exact Nat.le_refl _
  | load m a k ih =>
    intro w w' v h
    unfold Sem.run at h
    split at h
    · exact ih _ h
    · split at h
      · exact ih _ h
      · cases h
  | store m a u k ih =>
    intro w w' v h
    cases u <;> simp only [Sem.run] at h
    all_goals first
      | (cases h; done)
      | (split at h
         · split at h
           · cases h
           · exact ih (w := w.setCell _ _) h
         · split at h
           · rename_i e
             exact Nat.le_trans (farStore_drawn _ _ _ _ _ _ e) (ih h)
           · cases h)
  | new o k ih => intro w w' v h; unfold Sem.run at h; exact ih _ (w := { w with heap := w.heap.push o }) h
  | shape r k ih => intro w w' v h; unfold Sem.run at h; exact ih _ h
  | freeze a n k ih =>
    intro w w' v h; unfold Sem.run at h
    have := ih h
    unfold World.freeze at this
    split at this <;> exact this
  | frozen a k ih => intro w w' v h; unfold Sem.run at h; exact ih _ h
  | getObj r k ih =>
    intro w w' v h; unfold Sem.run at h
    split at h <;> first | (cases h; done) | exact ih _ h
  | setObj r o k ih =>
    intro w w' v h; unfold Sem.run at h
    split at h
    · cases h
    · exact ih (w := { w with heap := w.heap.setIfInBounds r o }) h
    · cases h
  | choose q k ih =>
    intro w w' v h; unfold Sem.run at h
    split at h
    · exact ih _ h
    · exact Nat.le_trans (Nat.le_succ w.drawn) (ih _ h)
  | sys c k ih =>
    intro w w' v h; unfold Sem.run at h
    exact Nat.le_trans (sys_drawn w c) (ih _ h)
  | program k ih => intro w w' v h; unfold Sem.run at h; exact ih _ h
  | mark m k ih => intro w w' v h; unfold Sem.run at h; exact ih h
  | halt e => intro w w' v h; unfold Sem.run at h; cases h
end Go.Proofs.Ytkfaflhhkmkdjaa
