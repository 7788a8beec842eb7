/- The walk of Vec2Arithmetic. -/
import Derived.Test.YtdinlkdmolcppaaL03
import Derived.Test.YtdinlkdmolcppaaR3
import Derived.Test.YtdinlkdmolcppaaCe
namespace Go.Proofs.Ytdinlkdmolcppaa
open Go.RowKit Fx Vx
set_option maxHeartbeats 8000000 in
set_option maxRecDepth 100000 in
theorem walk_Vec2Arithmetic (a b c d k t : Int) (w : World) :
    Calls Try.prog 14 #[.agg #[.int .i64 a, .int .i64 b], .agg #[.int .i64 c, .int .i64 d], .agg #[.int .i64 k, .int .i64 t]] w fun e w' => e = .returned (.bool true) ∧ Below w.heap.size w w' := by
  go_enter Try.func14, Try.ntmps14
  go_wp2_with fail
  go_quiet (fail)
  go_wp2_with fail
  have HQ : Cells w [(w.heap.size, 0, .int .i64 (a)), (w.heap.size, 1, .int .i64 (b)), (w.heap.size + 1, 0, .int .i64 (c)), (w.heap.size + 1, 1, .int .i64 (d))] (((w.alloc (.cells #[.int .i64 a, .int .i64 b] 29)).alloc (.cells #[.int .i64 c, .int .i64 d] 29)).alloc (.cells #[.int .i64 k, .int .i64 t] 43)) := ⟨(by repeat (first | exact Below.refl _ _ | assumption | apply Below.drew | apply below_drewN | refine below_grow ?_ (by simp <;> omega) _ _ | refine Below.alloc ?_ (by simp <;> omega) _ | refine Below.setCell ?_ (by simp <;> omega) _)), by simp [AllCells, go_sem]⟩
  refine wp_cells (w0 := w) (L := [(w.heap.size, 0, .int .i64 (a)), (w.heap.size, 1, .int .i64 (b)), (w.heap.size + 1, 0, .int .i64 (c)), (w.heap.size + 1, 1, .int .i64 (d))]) (by first | assumption | exact cells_drew (by assumption) | exact cells_drewN (by assumption) _) ?_
  intro U HQ
  obtain ⟨_, c1, c2, c3, c4, _⟩ := id HQ
  go_region_held3 (fun w' => Below w.heap.size w w' ∧ w'.cell? ⟨w.heap.size, 0, none⟩ = some (.int .i64 (a)) ∧ w'.cell? ⟨w.heap.size, 1, none⟩ = some (.int .i64 (b)) ∧ w'.cell? ⟨w.heap.size + 1, 0, none⟩ = some (.int .i64 (c)) ∧ w'.cell? ⟨w.heap.size + 1, 1, none⟩ = some (.int .i64 (d)) ∧ True) (first | exact cells_drew HQ | exact cells_step (w0 := w) (L := [(w.heap.size, 0, .int .i64 (a)), (w.heap.size, 1, .int .i64 (b)), (w.heap.size + 1, 0, .int .i64 (c)), (w.heap.size + 1, 1, .int .i64 (d))]) (by assumption) (by assumption) | assumption) (first | (go_at_call 49; refine (vec2_Add _ _ _ _ _).mono ?_; rintro e w' ⟨rfl, hb⟩) | (go_at_call 52; refine (vec2_Sub _ _ _ _ _).mono ?_; rintro e w' ⟨rfl, hb⟩) | (go_at_call 54; refine (vec2_Scale _ _ _ _).mono ?_; rintro e w' ⟨rfl, hb⟩) | (go_at_call 46; refine (vec2_Perp _ _ _).mono ?_; rintro e w' ⟨rfl, hb⟩) | (go_at_call 57; refine (vec2_CrossScalar _ _ _ _).mono ?_; rintro e w' ⟨rfl, hb⟩) | (go_at_call 59; refine (vec2_Lerp _ _ _ _ _ _).mono ?_; rintro e w' ⟨rfl, hb⟩) | (go_at_call 51; refine (ref03_Add _ _ _ _ _).mono ?_; rintro e w' ⟨rfl, hb⟩) | (go_at_call 53; refine (ref03_Sub _ _ _ _ _).mono ?_; rintro e w' ⟨rfl, hb⟩) | (go_at_call 55; refine (ref03_Scale _ _ _ _).mono ?_; rintro e w' ⟨rfl, hb⟩) | (go_at_call 56; refine (ref03_Perp _ _ _).mono ?_; rintro e w' ⟨rfl, hb⟩) | (go_at_call 58; refine (ref03_CrossScalar _ _ _ _).mono ?_; rintro e w' ⟨rfl, hb⟩) | (go_at_call 60; refine (ref03_Lerp _ _ _ _ _ _).mono ?_; rintro e w' ⟨rfl, hb⟩))
  go_wp2_with fail
  refine wp_cells (w0 := w) (L := [(w.heap.size, 0, .int .i64 (a)), (w.heap.size, 1, .int .i64 (b)), (w.heap.size + 1, 0, .int .i64 (c)), (w.heap.size + 1, 1, .int .i64 (d))]) (by first | assumption | exact cells_drew (by assumption) | exact cells_drewN (by assumption) _) ?_
  intro U HQ
  obtain ⟨_, c1, c2, c3, c4, _⟩ := id HQ
  go_region_held3 (fun w' => Below w.heap.size w w' ∧ w'.cell? ⟨w.heap.size, 0, none⟩ = some (.int .i64 (a)) ∧ w'.cell? ⟨w.heap.size, 1, none⟩ = some (.int .i64 (b)) ∧ w'.cell? ⟨w.heap.size + 1, 0, none⟩ = some (.int .i64 (c)) ∧ w'.cell? ⟨w.heap.size + 1, 1, none⟩ = some (.int .i64 (d)) ∧ True) (first | exact cells_drew HQ | exact cells_step (w0 := w) (L := [(w.heap.size, 0, .int .i64 (a)), (w.heap.size, 1, .int .i64 (b)), (w.heap.size + 1, 0, .int .i64 (c)), (w.heap.size + 1, 1, .int .i64 (d))]) (by assumption) (by assumption) | assumption) (first | (go_at_call 47; refine (vec2_Dot _ _ _ _ _).mono ?_; rintro e w' ⟨rfl, hb⟩) | (go_at_call 48; refine (vec2_Cross _ _ _ _ _).mono ?_; rintro e w' ⟨rfl, hb⟩) | (go_at_call 40; refine (vec2_Length _ _ _).mono ?_; rintro e w' ⟨rfl, hb⟩) | (go_at_call 41; refine (vec2_Normalize _ _ _).mono ?_; rintro e w' ⟨rfl, hb⟩) | (go_at_call 50; refine (vec2_DistanceSquared _ _ _ _ _).mono ?_; rintro e w' ⟨rfl, hb⟩) | (go_at_call 61; refine (ref03_Dot _ _ _ _ _).mono ?_; rintro e w' ⟨rfl, hb⟩) | (go_at_call 62; refine (ref03_Cross _ _ _ _ _).mono ?_; rintro e w' ⟨rfl, hb⟩) | (go_at_call 63; refine (ref03_Length _ _ _).mono ?_; rintro e w' ⟨rfl, hb⟩) | (go_at_call 64; refine (ref03_Normalize _ _ _).mono ?_; rintro e w' ⟨rfl, hb⟩) | (go_at_call 65; refine (ref03_DistanceSquared _ _ _ _ _).mono ?_; rintro e w' ⟨rfl, hb⟩) | (go_at_call 39; refine (example03 _).mono ?_; rintro e w' ⟨rfl, hb⟩))
  go_wp2_with fail
  go_ret
  exact ⟨rfl, (show Cells w [(w.heap.size, 0, .int .i64 (a)), (w.heap.size, 1, .int .i64 (b)), (w.heap.size + 1, 0, .int .i64 (c)), (w.heap.size + 1, 1, .int .i64 (d))] _ from by first | assumption | exact cells_drew (by assumption)).1⟩
end Go.Proofs.Ytdinlkdmolcppaa
