/- The walks of package vec2: Rotate. -/
import Derived.Test.YtdinlkdmolcppaaV4
import Derived.Test.YtdinlkdmolcppaaGr
namespace Go.Proofs.Ytdinlkdmolcppaa
open Go.RowKit Fx Vx

set_option maxHeartbeats 4000000 in
theorem vec2_Rotate (c s x y : Int) (w : World) : Calls Try.prog 42 #[.agg #[.int .i64 c, .int .i64 s], .agg #[.int .i64 x, .int .i64 y]] w (VecIs w.heap.size (rotx c s x y) (roty c s x y) w) := by
  obtain ⟨m1, m2⟩ := satmul_bd c x
  obtain ⟨m3, m4⟩ := satmul_bd s y
  obtain ⟨m5, m6⟩ := satmul_bd s x
  obtain ⟨m7, m8⟩ := satmul_bd c y
  go_enter Try.func42, Try.ntmps42
  go_wp2_with fail
  go_cut [5, 6] (fun u v wx => u = .int .i64 (sat c) ∧ v = .int .i64 (sat s) ∧ ThreeBox w (.int .i64 c) (.int .i64 s) (.int .i64 (sat x)) (.int .i64 (sat y)) (.int .i64 0) (.int .i64 0) wx)
  case first =>
    go_region_with (first | (go_at_call 15; refine (fixed_Saturate _ _).mono ?_; rintro e w' ⟨rfl, rfl⟩) | (go_at_call 68; refine (vec2_saturate _ _ _).mono ?_; rintro e w' ⟨rfl, hb⟩; obtain ⟨lg, ng, rfl⟩ := grow_of hb; clear hb))
    all_goals (go_wp2_with fail; go_meet; exact ⟨rfl, rfl, (by repeat (first | exact Below.refl _ _ | assumption | apply Below.drew | apply below_drewN | refine below_grow ?_ (by simp <;> omega) _ _ | refine Below.alloc ?_ (by simp <;> omega) _ | refine Below.setCell ?_ (by simp <;> omega) _)), ⟨by simp [go_sem], by simp [go_sem], by simp [go_sem], by simp [go_sem]⟩, ⟨by simp [go_sem], by simp [go_sem], by simp [go_sem], by simp [go_sem]⟩, ⟨by simp [go_sem], by simp [go_sem], by simp [go_sem], by simp [go_sem]⟩⟩)
  case rest =>
    have k0 : IntKind.i64.wrap (sat c * sat x) = sat c * sat x := IntWalk.i64_in _ (by omega)
    have k1 : IntKind.i64.wrap (sat s * sat y) = sat s * sat y := IntWalk.i64_in _ (by omega)
    have k2 : IntKind.i64.wrap (sat s * sat x) = sat s * sat x := IntWalk.i64_in _ (by omega)
    have k3 : IntKind.i64.wrap (sat c * sat y) = sat c * sat y := IntWalk.i64_in _ (by omega)
    have k4 : IntKind.i64.wrap (sat c * sat x - sat s * sat y) = sat c * sat x - sat s * sat y := IntWalk.i64_in _ (by omega)
    have k5 : IntKind.i64.wrap (sat s * sat x + sat c * sat y) = sat s * sat x + sat c * sat y := IntWalk.i64_in _ (by omega)
    obtain ⟨rfl, rfl, g1, ⟨c1, c2, c3, c4⟩, ⟨c5, c6, c7, c8⟩, ⟨c9, c10, c11, c12⟩⟩ := hcut
    have n1 : w.heap.size + 1 + 1 ≠ w.heap.size + 1 := by omega
    go_wp2_with fail
    go_region_held3 (fun w' => w'.cell? ⟨w.heap.size + 1, 0, none⟩ = some (.int .i64 (sat x)) ∧ w'.cell? ⟨w.heap.size + 1, 1, none⟩ = some (.int .i64 (sat y))) (go_keep) (first | (go_at_call 70; refine (vec2_product _ _).mono ?_; rintro e w' ⟨rfl, nd, rfl⟩))
    go_wp2_with fail
    exact bodyPost_ret (v := .agg #[.int .i64 (rotx c s x y), .int .i64 (roty c s x y)]) (by simp [results, Try.results42, go_sem, c9, c10]; exact ⟨rfl, rfl⟩) rfl ⟨rfl, (by repeat (first | exact Below.refl _ _ | assumption | apply Below.drew | apply below_drewN | refine below_grow ?_ (by simp <;> omega) _ _ | refine Below.alloc ?_ (by simp <;> omega) _ | refine Below.setCell ?_ (by simp <;> omega) _))⟩
end Go.Proofs.Ytdinlkdmolcppaa
