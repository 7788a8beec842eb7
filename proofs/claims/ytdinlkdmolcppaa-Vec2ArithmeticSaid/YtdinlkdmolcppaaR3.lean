/- The walks of the reference of package vec2. -/
import Derived.Test.YtdinlkdmolcppaaV3
import Derived.Test.YtdinlkdmolcppaaGr
namespace Go.Proofs.Ytdinlkdmolcppaa
open Go.RowKit Fx Vx

set_option maxHeartbeats 1000000 in
theorem ref03_Dot (a b c d : Int) (w : World) : Calls Try.prog 61 #[.agg #[.int .i64 a, .int .i64 b], .agg #[.int .i64 c, .int .i64 d]] w (IntIs w.heap.size (dot a b c d) w) := by
  have a1 := satmul_lo a c
  have a2 := satmul_hi a c
  have b1 := satmul_lo b d
  have b2 := satmul_hi b d
  go_enter Try.func61, Try.ntmps61
  go_wp2_with (first | (go_at_call 69; refine (ref03_saturate _ _ _).mono ?_; rintro e w' ⟨rfl, hb⟩; obtain ⟨lg, ng, rfl⟩ := grow_of hb; clear hb) | (go_at_call 29; refine (ref01_RoundDiv _ _ _).mono ?_; rintro e w' ⟨rfl, rfl⟩) | (go_at_call 16; refine (ref01_Saturate _ _).mono ?_; rintro e w' ⟨rfl, rfl⟩))
  go_ret
  exact ⟨rfl, (by repeat (first | exact Below.refl _ _ | assumption | apply Below.drew | apply below_drewN | refine below_grow ?_ (by simp <;> omega) _ _ | refine Below.alloc ?_ (by simp <;> omega) _ | refine Below.setCell ?_ (by simp <;> omega) _))⟩
set_option maxHeartbeats 1000000 in
theorem ref03_Cross (a b c d : Int) (w : World) : Calls Try.prog 62 #[.agg #[.int .i64 a, .int .i64 b], .agg #[.int .i64 c, .int .i64 d]] w (IntIs w.heap.size (cross a b c d) w) := by
  have a1 := satmul_lo a d
  have a2 := satmul_hi a d
  have b1 := satmul_lo b c
  have b2 := satmul_hi b c
  go_enter Try.func62, Try.ntmps62
  go_wp2_with (first | (go_at_call 69; refine (ref03_saturate _ _ _).mono ?_; rintro e w' ⟨rfl, hb⟩; obtain ⟨lg, ng, rfl⟩ := grow_of hb; clear hb) | (go_at_call 29; refine (ref01_RoundDiv _ _ _).mono ?_; rintro e w' ⟨rfl, rfl⟩) | (go_at_call 16; refine (ref01_Saturate _ _).mono ?_; rintro e w' ⟨rfl, rfl⟩))
  go_ret
  exact ⟨rfl, (by repeat (first | exact Below.refl _ _ | assumption | apply Below.drew | apply below_drewN | refine below_grow ?_ (by simp <;> omega) _ _ | refine Below.alloc ?_ (by simp <;> omega) _ | refine Below.setCell ?_ (by simp <;> omega) _))⟩
set_option maxHeartbeats 1000000 in
theorem ref03_DistanceSquared (a b c d : Int) (w : World) : Calls Try.prog 65 #[.agg #[.int .i64 a, .int .i64 b], .agg #[.int .i64 c, .int .i64 d]] w (IntIs w.heap.size (dist2 a b c d) w) := by
  have a1 := sat_lo a
  have a2 := sat_hi a
  have b1 := sat_lo b
  have b2 := sat_hi b
  have c1 := sat_lo c
  have c2 := sat_hi c
  have d1 := sat_lo d
  have d2 := sat_hi d
  have m1 := sqd_bd a c
  have m2 := sqd_bd b d
  obtain ⟨m3, m4⟩ := m1
  obtain ⟨m5, m6⟩ := m2
  go_enter Try.func65, Try.ntmps65
  go_wp2_with (first | (go_at_call 69; refine (ref03_saturate _ _ _).mono ?_; rintro e w' ⟨rfl, hb⟩; obtain ⟨lg, ng, rfl⟩ := grow_of hb; clear hb))
  go_ret
  exact ⟨rfl, (by repeat (first | exact Below.refl _ _ | assumption | apply Below.drew | apply below_drewN | refine below_grow ?_ (by simp <;> omega) _ _ | refine Below.alloc ?_ (by simp <;> omega) _ | refine Below.setCell ?_ (by simp <;> omega) _))⟩
theorem ref03_Length (a b : Int) (w : World) : Calls Try.prog 63 #[.agg #[.int .i64 a, .int .i64 b]] w (IntIs w.heap.size (len a b) w) := by
  obtain ⟨m1, m2⟩ := satmul_bd a a
  obtain ⟨m3, m4⟩ := satmul_bd b b
  go_enter Try.func63, Try.ntmps63
  go_wp2_with (first | (go_at_call 69; refine (ref03_saturate _ _ _).mono ?_; rintro e w' ⟨rfl, hb⟩; obtain ⟨lg, ng, rfl⟩ := grow_of hb; clear hb) | (go_at_call 67; refine (ref01_Isqrt _ _).mono ?_; rintro e w' ⟨rfl, rfl⟩))
  go_ret
  exact ⟨rfl, (by repeat (first | exact Below.refl _ _ | assumption | apply Below.drew | apply below_drewN | refine below_grow ?_ (by simp <;> omega) _ _ | refine Below.alloc ?_ (by simp <;> omega) _ | refine Below.setCell ?_ (by simp <;> omega) _))⟩
set_option maxHeartbeats 1000000 in
theorem ref03_Normalize (a b : Int) (w : World) : Calls Try.prog 64 #[.agg #[.int .i64 a, .int .i64 b]] w (VecIs w.heap.size (norm a b a) (norm a b b) w) := by
  by_cases h : len a b = 0
  · have h1 : (len a b == 0) = true := by rw [h]; rfl
    have e1 : norm a b a = 0 := by unfold norm; rw [if_pos h]
    have e2 : norm a b b = 0 := by unfold norm; rw [if_pos h]
    rw [e1, e2]
    clear e1 e2 h
    go_enter Try.func64, Try.ntmps64
    go_wp2_with (go_at_call 63; refine (ref03_Length _ _ _).mono ?_; rintro e w' ⟨rfl, hb⟩; obtain ⟨lg, ng, rfl⟩ := grow_of hb; clear hb)
    exact bodyPost_ret (v := .agg #[.int .i64 0, .int .i64 0]) (by simp [results, Try.results64, go_sem]) rfl ⟨rfl, (by repeat (first | exact Below.refl _ _ | assumption | apply Below.drew | apply below_drewN | refine below_grow ?_ (by simp <;> omega) _ _ | refine Below.alloc ?_ (by simp <;> omega) _ | refine Below.setCell ?_ (by simp <;> omega) _))⟩
  · have h1 : (len a b == 0) = false := by simpa using h
    have e1 : norm a b a = dv a (len a b) := by unfold norm; rw [if_neg h]
    have e2 : norm a b b = dv b (len a b) := by unfold norm; rw [if_neg h]
    rw [e1, e2]
    clear e1 e2 h
    go_enter Try.func64, Try.ntmps64
    go_wp2_with (go_at_call 63; refine (ref03_Length _ _ _).mono ?_; rintro e w' ⟨rfl, hb⟩; obtain ⟨lg, ng, rfl⟩ := grow_of hb; clear hb)
    go_region_held3 (fun w' => w'.cell? ⟨w.heap.size, 0, none⟩ = some (.int .i64 a) ∧ w'.cell? ⟨w.heap.size, 1, none⟩ = some (.int .i64 b)) (go_keep) (first | (go_at_call 24; refine (ref01_Div _ _ _).mono ?_; rintro e w' ⟨rfl, rfl⟩))
    go_wp2_with fail
    exact bodyPost_ret (v := .agg #[.int .i64 (dv a (len a b)), .int .i64 (dv b (len a b))]) (by simp [results, Try.results64, go_sem]) rfl ⟨rfl, (by repeat (first | exact Below.refl _ _ | assumption | apply Below.drew | apply below_drewN | refine below_grow ?_ (by simp <;> omega) _ _ | refine Below.alloc ?_ (by simp <;> omega) _ | refine Below.setCell ?_ (by simp <;> omega) _))⟩
theorem ref03_Perp (a b : Int) (w : World) : Calls Try.prog 56 #[.agg #[.int .i64 a, .int .i64 b]] w (VecIs w.heap.size (-sat b) (sat a) w) := by
  have b1 := sat_lo b
  have b2 := sat_hi b
  go_enter Try.func56, Try.ntmps56
  go_wp2_with (go_at_call 69; refine (ref03_saturate _ _ _).mono ?_; rintro e w' ⟨rfl, hb⟩; obtain ⟨lg, ng, rfl⟩ := grow_of hb; clear hb)
  exact bodyPost_ret (v := .agg #[.int .i64 (-sat b), .int .i64 (sat a)]) (by simp [results, Try.results56, go_sem]) rfl ⟨rfl, (by repeat (first | exact Below.refl _ _ | assumption | apply Below.drew | apply below_drewN | refine below_grow ?_ (by simp <;> omega) _ _ | refine Below.alloc ?_ (by simp <;> omega) _ | refine Below.setCell ?_ (by simp <;> omega) _))⟩
set_option maxHeartbeats 2000000 in
theorem ref03_Rotate (c s x y : Int) (w : World) : Calls Try.prog 43 #[.agg #[.int .i64 c, .int .i64 s], .agg #[.int .i64 x, .int .i64 y]] w (VecIs w.heap.size (rotx c s x y) (roty c s x y) w) := by
  obtain ⟨m1, m2⟩ := satmul_bd c x
  obtain ⟨m3, m4⟩ := satmul_bd s y
  obtain ⟨m5, m6⟩ := satmul_bd s x
  obtain ⟨m7, m8⟩ := satmul_bd c y
  have k0 : IntKind.i64.wrap (sat c * sat x) = sat c * sat x := IntWalk.i64_in _ (by omega)
  have k1 : IntKind.i64.wrap (sat s * sat y) = sat s * sat y := IntWalk.i64_in _ (by omega)
  have k2 : IntKind.i64.wrap (sat s * sat x) = sat s * sat x := IntWalk.i64_in _ (by omega)
  have k3 : IntKind.i64.wrap (sat c * sat y) = sat c * sat y := IntWalk.i64_in _ (by omega)
  have k4 : IntKind.i64.wrap (sat c * sat x - sat s * sat y) = sat c * sat x - sat s * sat y := IntWalk.i64_in _ (by omega)
  have k5 : IntKind.i64.wrap (sat s * sat x + sat c * sat y) = sat s * sat x + sat c * sat y := IntWalk.i64_in _ (by omega)
  go_enter Try.func43, Try.ntmps43
  go_wp2_with (first | (go_at_call 16; refine (ref01_Saturate _ _).mono ?_; rintro e w' ⟨rfl, rfl⟩) | (go_at_call 69; refine (ref03_saturate _ _ _).mono ?_; rintro e w' ⟨rfl, hb⟩; obtain ⟨lg, ng, rfl⟩ := grow_of hb; clear hb))
  go_region_held3 (fun w' => w'.cell? ⟨w.heap.size + 1, 0, none⟩ = some (.int .i64 (sat x)) ∧ w'.cell? ⟨w.heap.size + 1, 1, none⟩ = some (.int .i64 (sat y))) (go_keep) (first | (go_at_call 29; refine (ref01_RoundDiv _ _ _).mono ?_; rintro e w' ⟨rfl, rfl⟩) | (go_at_call 69; refine (ref03_saturate _ _ _).mono ?_; rintro e w' ⟨rfl, hb⟩; obtain ⟨lg, ng, rfl⟩ := grow_of hb; clear hb))
  go_wp2_with fail
  exact bodyPost_ret (v := .agg #[.int .i64 (rotx c s x y), .int .i64 (roty c s x y)]) (by simp [results, Try.results43, go_sem]; exact ⟨rfl, rfl⟩) rfl ⟨rfl, (by repeat (first | exact Below.refl _ _ | assumption | apply Below.drew | apply below_drewN | refine below_grow ?_ (by simp <;> omega) _ _ | refine Below.alloc ?_ (by simp <;> omega) _ | refine Below.setCell ?_ (by simp <;> omega) _))⟩
set_option maxHeartbeats 2000000 in
theorem ref03_InverseRotate (c s x y : Int) (w : World) : Calls Try.prog 45 #[.agg #[.int .i64 c, .int .i64 s], .agg #[.int .i64 x, .int .i64 y]] w (VecIs w.heap.size (irotx c s x y) (iroty c s x y) w) := by
  obtain ⟨m1, m2⟩ := satmul_bd c x
  obtain ⟨m3, m4⟩ := satmul_bd s y
  obtain ⟨m5, m6⟩ := satmul_bd s x
  obtain ⟨m7, m8⟩ := satmul_bd c y
  have k0 : IntKind.i64.wrap (sat c * sat x) = sat c * sat x := IntWalk.i64_in _ (by omega)
  have k1 : IntKind.i64.wrap (sat s * sat y) = sat s * sat y := IntWalk.i64_in _ (by omega)
  have k2 : IntKind.i64.wrap (sat s * sat x) = sat s * sat x := IntWalk.i64_in _ (by omega)
  have k3 : IntKind.i64.wrap (sat c * sat y) = sat c * sat y := IntWalk.i64_in _ (by omega)
  have k4 : IntKind.i64.wrap (sat c * sat x + sat s * sat y) = sat c * sat x + sat s * sat y := IntWalk.i64_in _ (by omega)
  have k5 : IntKind.i64.wrap (sat c * sat y - sat s * sat x) = sat c * sat y - sat s * sat x := IntWalk.i64_in _ (by omega)
  go_enter Try.func45, Try.ntmps45
  go_wp2_with (first | (go_at_call 16; refine (ref01_Saturate _ _).mono ?_; rintro e w' ⟨rfl, rfl⟩) | (go_at_call 69; refine (ref03_saturate _ _ _).mono ?_; rintro e w' ⟨rfl, hb⟩; obtain ⟨lg, ng, rfl⟩ := grow_of hb; clear hb))
  go_region_held3 (fun w' => w'.cell? ⟨w.heap.size + 1, 0, none⟩ = some (.int .i64 (sat x)) ∧ w'.cell? ⟨w.heap.size + 1, 1, none⟩ = some (.int .i64 (sat y))) (go_keep) (first | (go_at_call 29; refine (ref01_RoundDiv _ _ _).mono ?_; rintro e w' ⟨rfl, rfl⟩) | (go_at_call 69; refine (ref03_saturate _ _ _).mono ?_; rintro e w' ⟨rfl, hb⟩; obtain ⟨lg, ng, rfl⟩ := grow_of hb; clear hb))
  go_wp2_with fail
  exact bodyPost_ret (v := .agg #[.int .i64 (irotx c s x y), .int .i64 (iroty c s x y)]) (by simp [results, Try.results45, go_sem]; exact ⟨rfl, rfl⟩) rfl ⟨rfl, (by repeat (first | exact Below.refl _ _ | assumption | apply Below.drew | apply below_drewN | refine below_grow ?_ (by simp <;> omega) _ _ | refine Below.alloc ?_ (by simp <;> omega) _ | refine Below.setCell ?_ (by simp <;> omega) _))⟩
set_option maxHeartbeats 2000000 in
theorem ref03_Orientation (a b c d e f : Int) (w : World) : Calls Try.prog 38 #[.agg #[.int .i64 a, .int .i64 b], .agg #[.int .i64 c, .int .i64 d], .agg #[.int .i64 e, .int .i64 f]] w (IntIs w.heap.size (orient a b c d e f) w) := by
  obtain ⟨m1, m2⟩ := dif_bd a c b f
  obtain ⟨m3, m4⟩ := dif_bd b d a e
  have a1 := sat_lo a
  have a2 := sat_hi a
  have b1 := sat_lo b
  have b2 := sat_hi b
  have c1 := sat_lo c
  have c2 := sat_hi c
  have d1 := sat_lo d
  have d2 := sat_hi d
  have e1 := sat_lo e
  have e2 := sat_hi e
  have f1 := sat_lo f
  have f2 := sat_hi f
  have hs := orient_minmax a b c d e f
  have H := Lib.hid hs
  clear hs
  go_enter Try.func38, Try.ntmps38
  go_wp2_with (first | (go_at_call 69; refine (ref03_saturate _ _ _).mono ?_; rintro e w' ⟨rfl, hb⟩; obtain ⟨lg, ng, rfl⟩ := grow_of hb; clear hb))
  all_goals (go_ret; exact ⟨ret_int (by have := H.out; unfold orientN at this; omega), (by repeat (first | exact Below.refl _ _ | assumption | apply Below.drew | apply below_drewN | refine below_grow ?_ (by simp <;> omega) _ _ | refine Below.alloc ?_ (by simp <;> omega) _ | refine Below.setCell ?_ (by simp <;> omega) _))⟩)
end Go.Proofs.Ytdinlkdmolcppaa
