/- The walks of the reference of package vec2. -/
import Derived.Test.YthbighklfajmdaaV3
import Derived.Test.YthbighklfajmdaaGr
namespace Go.Proofs.Ythbighklfajmdaa
open Go.RowKit Fx Vx

set_option maxHeartbeats 1000000 in
theorem ref03_Dot (a b c d : Int) (w : World) : Calls Try.prog 18 #[.agg #[.int .i64 a, .int .i64 b], .agg #[.int .i64 c, .int .i64 d]] w (IntIs w.heap.size (dot a b c d) w) := by
  have a1 := satmul_lo a c
  have a2 := satmul_hi a c
  have b1 := satmul_lo b d
  have b2 := satmul_hi b d
  go_enter Try.func18, Try.ntmps18
  go_wp2_with (first | (go_at_call 46; refine (ref03_saturate _ _ _).mono ?_; rintro e w' ⟨rfl, hb⟩; obtain ⟨lg, ng, rfl⟩ := grow_of hb; clear hb) | (go_at_call 48; refine (ref01_RoundDiv _ _ _).mono ?_; rintro e w' ⟨rfl, rfl⟩) | (go_at_call 47; refine (ref01_Saturate _ _).mono ?_; rintro e w' ⟨rfl, rfl⟩))
  go_ret
  exact ⟨rfl, (by repeat (first | exact Below.refl _ _ | assumption | apply Below.drew | apply below_drewN | refine below_grow ?_ (by simp <;> omega) _ _ | refine Below.alloc ?_ (by simp <;> omega) _ | refine Below.setCell ?_ (by simp <;> omega) _))⟩
theorem ref03_Length (a b : Int) (w : World) : Calls Try.prog 81 #[.agg #[.int .i64 a, .int .i64 b]] w (IntIs w.heap.size (len a b) w) := by
  obtain ⟨m1, m2⟩ := satmul_bd a a
  obtain ⟨m3, m4⟩ := satmul_bd b b
  go_enter Try.func81, Try.ntmps81
  go_wp2_with (first | (go_at_call 46; refine (ref03_saturate _ _ _).mono ?_; rintro e w' ⟨rfl, hb⟩; obtain ⟨lg, ng, rfl⟩ := grow_of hb; clear hb) | (go_at_call 86; refine (ref01_Isqrt _ _).mono ?_; rintro e w' ⟨rfl, rfl⟩))
  go_ret
  exact ⟨rfl, (by repeat (first | exact Below.refl _ _ | assumption | apply Below.drew | apply below_drewN | refine below_grow ?_ (by simp <;> omega) _ _ | refine Below.alloc ?_ (by simp <;> omega) _ | refine Below.setCell ?_ (by simp <;> omega) _))⟩
set_option maxHeartbeats 1000000 in
theorem ref03_Normalize (a b : Int) (w : World) : Calls Try.prog 75 #[.agg #[.int .i64 a, .int .i64 b]] w (VecIs w.heap.size (norm a b a) (norm a b b) w) := by
  by_cases h : len a b = 0
  · have h1 : (len a b == 0) = true := by rw [h]; rfl
    have e1 : norm a b a = 0 := by unfold norm; rw [if_pos h]
    have e2 : norm a b b = 0 := by unfold norm; rw [if_pos h]
    rw [e1, e2]
    clear e1 e2 h
    go_enter Try.func75, Try.ntmps75
    go_wp2_with (go_at_call 81; refine (ref03_Length _ _ _).mono ?_; rintro e w' ⟨rfl, hb⟩; obtain ⟨lg, ng, rfl⟩ := grow_of hb; clear hb)
    exact bodyPost_ret (v := .agg #[.int .i64 0, .int .i64 0]) (by simp [results, Try.results75, go_sem]) rfl ⟨rfl, (by repeat (first | exact Below.refl _ _ | assumption | apply Below.drew | apply below_drewN | refine below_grow ?_ (by simp <;> omega) _ _ | refine Below.alloc ?_ (by simp <;> omega) _ | refine Below.setCell ?_ (by simp <;> omega) _))⟩
  · have h1 : (len a b == 0) = false := by simpa using h
    have e1 : norm a b a = dv a (len a b) := by unfold norm; rw [if_neg h]
    have e2 : norm a b b = dv b (len a b) := by unfold norm; rw [if_neg h]
    rw [e1, e2]
    clear e1 e2 h
    go_enter Try.func75, Try.ntmps75
    go_wp2_with (go_at_call 81; refine (ref03_Length _ _ _).mono ?_; rintro e w' ⟨rfl, hb⟩; obtain ⟨lg, ng, rfl⟩ := grow_of hb; clear hb)
    go_region_held3 (fun w' => w'.cell? ⟨w.heap.size, 0, none⟩ = some (.int .i64 a) ∧ w'.cell? ⟨w.heap.size, 1, none⟩ = some (.int .i64 b)) (go_keep) (first | (go_at_call 82; refine (ref01_Div _ _ _).mono ?_; rintro e w' ⟨rfl, rfl⟩))
    go_wp2_with fail
    exact bodyPost_ret (v := .agg #[.int .i64 (dv a (len a b)), .int .i64 (dv b (len a b))]) (by simp [results, Try.results75, go_sem]) rfl ⟨rfl, (by repeat (first | exact Below.refl _ _ | assumption | apply Below.drew | apply below_drewN | refine below_grow ?_ (by simp <;> omega) _ _ | refine Below.alloc ?_ (by simp <;> omega) _ | refine Below.setCell ?_ (by simp <;> omega) _))⟩
set_option maxHeartbeats 2000000 in
theorem ref03_Orientation (a b c d e f : Int) (w : World) : Calls Try.prog 55 #[.agg #[.int .i64 a, .int .i64 b], .agg #[.int .i64 c, .int .i64 d], .agg #[.int .i64 e, .int .i64 f]] w (IntIs w.heap.size (orient a b c d e f) w) := by
  obtain ⟨m1, m2⟩ := dif_bd a c b f
  obtain ⟨m3, m4⟩ := dif_bd b d a e
  have a1 := sat_lo a
  have a2 := sat_hi a
  have b1 := sat_lo b
  have b2 := sat_hi b
  have c1 := sat_lo c
  have c2 := sat_hi c
  have d1 := sat_lo d
  have d2 := sat_hi d
  have e1 := sat_lo e
  have e2 := sat_hi e
  have f1 := sat_lo f
  have f2 := sat_hi f
  have hs := orient_minmax a b c d e f
  have H := Lib.hid hs
  clear hs
  go_enter Try.func55, Try.ntmps55
  go_wp2_with (first | (go_at_call 46; refine (ref03_saturate _ _ _).mono ?_; rintro e w' ⟨rfl, hb⟩; obtain ⟨lg, ng, rfl⟩ := grow_of hb; clear hb))
  all_goals (go_ret; exact ⟨ret_int (by have := H.out; unfold orientN at this; omega), (by repeat (first | exact Below.refl _ _ | assumption | apply Below.drew | apply below_drewN | refine below_grow ?_ (by simp <;> omega) _ _ | refine Below.alloc ?_ (by simp <;> omega) _ | refine Below.setCell ?_ (by simp <;> omega) _))⟩)
end Go.Proofs.Ythbighklfajmdaa
