/- The walks of package vec2, continued: Normalize, Perp. -/
import Derived.Test.YthbighklfajmdaaV4
import Derived.Test.YthbighklfajmdaaGr
namespace Go.Proofs.Ythbighklfajmdaa
open Go.RowKit Fx Vx

set_option maxHeartbeats 1000000 in
theorem vec2_Normalize (a b : Int) (w : World) : Calls Try.prog 72 #[.agg #[.int .i64 a, .int .i64 b]] w (VecIs w.heap.size (norm a b a) (norm a b b) w) := by
  by_cases h : len a b = 0
  · have h1 : (len a b == 0) = true := by rw [h]; rfl
    have e1 : norm a b a = 0 := by unfold norm; rw [if_pos h]
    have e2 : norm a b b = 0 := by unfold norm; rw [if_pos h]
    rw [e1, e2]
    clear e1 e2 h
    go_enter Try.func72, Try.ntmps72
    go_wp2_with (go_at_call 79; refine (vec2_Length _ _ _).mono ?_; rintro e w' ⟨rfl, hb⟩; obtain ⟨lg, ng, rfl⟩ := grow_of hb; clear hb)
    exact bodyPost_ret (v := .agg #[.int .i64 0, .int .i64 0]) (by simp [results, Try.results72, go_sem]) rfl ⟨rfl, (by repeat (first | exact Below.refl _ _ | assumption | apply Below.drew | apply below_drewN | refine below_grow ?_ (by simp <;> omega) _ _ | refine Below.alloc ?_ (by simp <;> omega) _ | refine Below.setCell ?_ (by simp <;> omega) _))⟩
  · have h1 : (len a b == 0) = false := by simpa using h
    have e1 : norm a b a = dv a (len a b) := by unfold norm; rw [if_neg h]
    have e2 : norm a b b = dv b (len a b) := by unfold norm; rw [if_neg h]
    rw [e1, e2]
    clear e1 e2 h
    go_enter Try.func72, Try.ntmps72
    go_wp2_with (go_at_call 79; refine (vec2_Length _ _ _).mono ?_; rintro e w' ⟨rfl, hb⟩; obtain ⟨lg, ng, rfl⟩ := grow_of hb; clear hb)
    go_region_held3 (fun w' => w'.cell? ⟨w.heap.size, 0, none⟩ = some (.int .i64 a) ∧ w'.cell? ⟨w.heap.size, 1, none⟩ = some (.int .i64 b)) (go_keep) (first | (go_at_call 80; refine (fixed_Div _ _ _).mono ?_; rintro e w' ⟨rfl, nd, rfl⟩))
    go_wp2_with fail
    exact bodyPost_ret (v := .agg #[.int .i64 (dv a (len a b)), .int .i64 (dv b (len a b))]) (by simp [results, Try.results72, go_sem]) rfl ⟨rfl, (by repeat (first | exact Below.refl _ _ | assumption | apply Below.drew | apply below_drewN | refine below_grow ?_ (by simp <;> omega) _ _ | refine Below.alloc ?_ (by simp <;> omega) _ | refine Below.setCell ?_ (by simp <;> omega) _))⟩
end Go.Proofs.Ythbighklfajmdaa
