/- The walk of Vec2LengthBounds. -/
import Derived.Test.YtdinlkdmolcppaaL03
namespace Go.Proofs.Ytdinlkdmolcppaa
open Go.RowKit Fx Vx
set_option maxHeartbeats 8000000 in
set_option maxRecDepth 100000 in
theorem walk_Vec2LengthBounds (x y : Int) (w : World) :
    Calls Try.prog 10 #[.agg #[.int .i64 x, .int .i64 y]] w fun e w' => e = .returned (.bool true) ∧ Below w.heap.size w w' := by
  have e1 := len_nonneg x y
  have e2 := len_le x y
  have e3 := len_sq x y
  have e4 := len_lt x y
  have e5 := len_abs x y
  have e6 := len_arg x y
  obtain ⟨e7, e8⟩ := e6
  obtain ⟨b1, b2⟩ := sat_bd x
  obtain ⟨b3, b4⟩ := sat_bd y
  obtain ⟨m1, m2⟩ := satmul_bd x x
  obtain ⟨m3, m4⟩ := satmul_bd y y
  have m5 := sq_nonneg (len x y)
  obtain ⟨m6, m7⟩ := mul_bd (x := len x y + 1) (y := len x y + 1) (A := 1073741824) (by omega) (by omega) (by omega) (by omega)
  have m8 : (len x y + 1) * (len x y + 1) ≤ 1152921504606846976 := by omega
  clear m7
  by_cases h : len x y = 0
  · have h1 : (len x y == 0) = true := by rw [h]; rfl
    have h2 : norm x y x = 0 := by unfold norm; rw [if_pos h]
    have h3 : norm x y y = 0 := by unfold norm; rw [if_pos h]
    clear h
    go_enter Try.func10, Try.ntmps10
    go_wp2_with (first | (go_at_call 16; refine (ref01_Saturate _ _).mono ?_; rintro e w' ⟨rfl, rfl⟩) | (go_at_call 40; refine (vec2_Length _ _ _).mono ?_; rintro e w' ⟨rfl, hb⟩; obtain ⟨lg, ng, rfl⟩ := grow_of hb; clear hb) | (go_at_call 41; refine (vec2_Normalize _ _ _).mono ?_; rintro e w' ⟨rfl, hb⟩; obtain ⟨lg, ng, rfl⟩ := grow_of hb; clear hb) | (go_at_call 39; refine (example03 _).mono ?_; rintro e w' ⟨rfl, hb⟩; obtain ⟨lg, ng, rfl⟩ := grow_of hb; clear hb))
    all_goals (first | (go_ret; exact ⟨rfl, (by repeat (first | exact Below.refl _ _ | assumption | apply Below.drew | apply below_drewN | refine below_grow ?_ (by simp <;> omega) _ _ | refine Below.alloc ?_ (by simp <;> omega) _ | refine Below.setCell ?_ (by simp <;> omega) _))⟩) | (exfalso; omega))
  · have h1 : (len x y == 0) = false := by simpa using h
    have h2 := norm_ne h
    clear h
    go_enter Try.func10, Try.ntmps10
    go_wp2_with (first | (go_at_call 16; refine (ref01_Saturate _ _).mono ?_; rintro e w' ⟨rfl, rfl⟩) | (go_at_call 40; refine (vec2_Length _ _ _).mono ?_; rintro e w' ⟨rfl, hb⟩; obtain ⟨lg, ng, rfl⟩ := grow_of hb; clear hb) | (go_at_call 41; refine (vec2_Normalize _ _ _).mono ?_; rintro e w' ⟨rfl, hb⟩; obtain ⟨lg, ng, rfl⟩ := grow_of hb; clear hb) | (go_at_call 39; refine (example03 _).mono ?_; rintro e w' ⟨rfl, hb⟩; obtain ⟨lg, ng, rfl⟩ := grow_of hb; clear hb))
    all_goals (first | (go_ret; exact ⟨rfl, (by repeat (first | exact Below.refl _ _ | assumption | apply Below.drew | apply below_drewN | refine below_grow ?_ (by simp <;> omega) _ _ | refine Below.alloc ?_ (by simp <;> omega) _ | refine Below.setCell ?_ (by simp <;> omega) _))⟩) | (exfalso; omega))
end Go.Proofs.Ytdinlkdmolcppaa
