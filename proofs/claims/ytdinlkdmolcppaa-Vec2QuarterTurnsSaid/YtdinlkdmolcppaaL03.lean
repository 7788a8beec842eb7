/- The example of chapter 3. -/
import Derived.Test.YtdinlkdmolcppaaV5
import Derived.Test.YtdinlkdmolcppaaVy
namespace Go.Proofs.Ytdinlkdmolcppaa
open Go.RowKit Fx Vx
theorem example03_plain : len 196608 262144 = 327680 ∧ norm 196608 262144 196608 = 39322 ∧ norm 196608 262144 262144 = 52429 ∧ orient 0 0 1 0 0 1 = 1 := by
  have e : len 196608 262144 = 327680 := by
    unfold len
    rw [show sat 196608 * sat 196608 + sat 262144 * sat 262144 = 107374182400 by decide]
    exact isq_lit (by omega) (by omega) (by omega) (by decide) (by decide)
  refine ⟨e, ?_, ?_, by decide⟩
  · unfold norm; rw [e]; decide
  · unfold norm; rw [e]; decide
theorem example03 (w : World) : Calls Try.prog 39 #[] w (BoolIs w.heap.size true w) := by
  obtain ⟨e1, e2, e3, e4⟩ := example03_plain
  go_enter Try.func39, Try.ntmps39
  go_wp2_with (first | (go_at_call 40; refine (vec2_Length _ _ _).mono ?_; rintro e w' ⟨rfl, hb⟩; obtain ⟨lg, ng, rfl⟩ := grow_of hb; clear hb) | (go_at_call 41; refine (vec2_Normalize _ _ _).mono ?_; rintro e w' ⟨rfl, hb⟩; obtain ⟨lg, ng, rfl⟩ := grow_of hb; clear hb) | (go_at_call 37; refine (vec2_Orientation _ _ _ _ _ _ _).mono ?_; rintro e w' ⟨rfl, hb⟩; obtain ⟨lg, ng, rfl⟩ := grow_of hb; clear hb))
  go_ret
  exact ⟨rfl, (by repeat (first | exact Below.refl _ _ | assumption | apply Below.drew | apply below_drewN | refine below_grow ?_ (by simp <;> omega) _ _ | refine Below.alloc ?_ (by simp <;> omega) _ | refine Below.setCell ?_ (by simp <;> omega) _))⟩
end Go.Proofs.Ytdinlkdmolcppaa
