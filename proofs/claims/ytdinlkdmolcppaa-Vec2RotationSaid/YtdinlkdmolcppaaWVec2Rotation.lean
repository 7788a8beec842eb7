/- The walk of Vec2Rotation. -/
import Derived.Test.YtdinlkdmolcppaaL03
import Derived.Test.YtdinlkdmolcppaaR3
import Derived.Test.YtdinlkdmolcppaaV6
import Derived.Test.YtdinlkdmolcppaaV7
namespace Go.Proofs.Ytdinlkdmolcppaa
open Go.RowKit Fx Vx
set_option maxHeartbeats 8000000 in
set_option maxRecDepth 100000 in
theorem walk_Vec2Rotation (c s x y : Int) (w : World) :
    Calls Try.prog 11 #[.agg #[.int .i64 c, .int .i64 s], .agg #[.int .i64 x, .int .i64 y]] w fun e w' => e = .returned (.bool true) ∧ Below w.heap.size w w' := by
  go_enter Try.func11, Try.ntmps11
  go_wp2_with fail
  go_region_held3 (fun w' => w'.cell? ⟨w.heap.size, 0, none⟩ = some (.int .i64 (c)) ∧ w'.cell? ⟨w.heap.size, 1, none⟩ = some (.int .i64 (s)) ∧ w'.cell? ⟨w.heap.size + 1, 0, none⟩ = some (.int .i64 (x)) ∧ w'.cell? ⟨w.heap.size + 1, 1, none⟩ = some (.int .i64 (y))) (go_keep) (first | (go_at_call 42; refine (vec2_Rotate _ _ _ _ _).mono ?_; rintro e w' ⟨rfl, hb⟩; obtain ⟨lg, ng, rfl⟩ := grow_of hb; clear hb) | (go_at_call 44; refine (vec2_InverseRotate _ _ _ _ _).mono ?_; rintro e w' ⟨rfl, hb⟩; obtain ⟨lg, ng, rfl⟩ := grow_of hb; clear hb) | (go_at_call 43; refine (ref03_Rotate _ _ _ _ _).mono ?_; rintro e w' ⟨rfl, hb⟩; obtain ⟨lg, ng, rfl⟩ := grow_of hb; clear hb) | (go_at_call 45; refine (ref03_InverseRotate _ _ _ _ _).mono ?_; rintro e w' ⟨rfl, hb⟩; obtain ⟨lg, ng, rfl⟩ := grow_of hb; clear hb) | (go_at_call 39; refine (example03 _).mono ?_; rintro e w' ⟨rfl, hb⟩; obtain ⟨lg, ng, rfl⟩ := grow_of hb; clear hb))
  go_wp2_with fail
  go_ret
  exact ⟨rfl, (by repeat (first | exact Below.refl _ _ | assumption | apply Below.drew | apply below_drewN | refine below_grow ?_ (by simp <;> omega) _ _ | refine Below.alloc ?_ (by simp <;> omega) _ | refine Below.setCell ?_ (by simp <;> omega) _))⟩
end Go.Proofs.Ytdinlkdmolcppaa
