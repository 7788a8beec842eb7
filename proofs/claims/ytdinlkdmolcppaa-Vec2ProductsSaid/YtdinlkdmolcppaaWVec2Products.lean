/- The walk of Vec2Products. -/
import Derived.Test.YtdinlkdmolcppaaL03
import Derived.Test.YtdinlkdmolcppaaCe
namespace Go.Proofs.Ytdinlkdmolcppaa
open Go.RowKit Fx Vx
theorem wrap_cross (a b c d : Int) : IntKind.i64.wrap (cross a b c d) = cross a b c d := by
  have := cross_bd a b c d
  exact IntWalk.i64_in _ (by omega)
set_option maxHeartbeats 8000000 in
set_option maxRecDepth 100000 in
theorem walk_Vec2Products (a b c d : Int) (w : World) :
    Calls Try.prog 12 #[.agg #[.int .i64 a, .int .i64 b], .agg #[.int .i64 c, .int .i64 d]] w fun e w' => e = .returned (.bool true) ∧ Below w.heap.size w w' := by
  have e1 := dot_perp a b
  have e2 := cross_self a b
  have e3 := cross_dot a b c d
  have e4 := cross_anti a b c d
  have e5 := dot_comm a b c d
  have e6 := dist2_comm a b c d
  have e7 := sat_sat a
  have e8 := sat_sat b
  have e9 := sat_nsat a
  have e10 := sat_nsat b
  have e11 := add_zero a
  have e12 := add_zero b
  obtain ⟨b1, b2⟩ := cross_bd a b c d
  obtain ⟨b3, b4⟩ := sat_bd a
  obtain ⟨b5, b6⟩ := sat_bd b
  go_enter Try.func12, Try.ntmps12
  go_wp2_with fail
  refine (vec2_Perp _ _ _).mono ?_
  rintro e w' ⟨rfl, hb⟩
  obtain ⟨l1, n1, rfl⟩ := grow_of hb
  clear hb
  go_wp2_with fail
  refine (vec2_Perp _ _ _).mono ?_
  rintro e w' ⟨rfl, hb⟩
  obtain ⟨l2, n2, rfl⟩ := grow_of hb
  clear hb
  go_wp2_with fail
  refine (vec2_Perp _ _ _).mono ?_
  rintro e w' ⟨rfl, hb⟩
  obtain ⟨l3, n3, rfl⟩ := grow_of hb
  clear hb
  go_wp2_with fail
  refine (vec2_Perp _ _ _).mono ?_
  rintro e w' ⟨rfl, hb⟩
  obtain ⟨l4, n4, rfl⟩ := grow_of hb
  clear hb
  go_wp2_with fail
  refine wp_cells (w0 := w) (L := [(w.heap.size, 0, .int .i64 (a)), (w.heap.size, 1, .int .i64 (b)), (w.heap.size + 1, 0, .int .i64 (c)), (w.heap.size + 1, 1, .int .i64 (d)), (w.heap.size + 1 + 1 + l1.size, 0, .int .i64 (-sat b)), (w.heap.size + 1 + 1 + l1.size, 1, .int .i64 (sat a)), (w.heap.size + 1 + 1 + l1.size + 1 + (l2.size + (l3.size + l4.size)), 0, .int .i64 (sat a)), (w.heap.size + 1 + 1 + l1.size + 1 + (l2.size + (l3.size + l4.size)), 1, .int .i64 (sat b))]) ⟨(by repeat (first | exact Below.refl _ _ | assumption | apply Below.drew | apply below_drewN | refine below_grow ?_ (by simp <;> omega) _ _ | refine Below.alloc ?_ (by simp <;> omega) _ | refine Below.setCell ?_ (by simp <;> omega) _)), by simp [AllCells, go_sem]⟩ ?_
  intro U HQ
  obtain ⟨_, c1, c2, c3, c4, c5, c6, c7, c8, _⟩ := id HQ
  have e13 := wrap_cross a b c d
  clear b1 b2 b3 b4 b5 b6
  go_region_held3 (fun w' => Below w.heap.size w w' ∧ w'.cell? ⟨w.heap.size, 0, none⟩ = some (.int .i64 (a)) ∧ w'.cell? ⟨w.heap.size, 1, none⟩ = some (.int .i64 (b)) ∧ w'.cell? ⟨w.heap.size + 1, 0, none⟩ = some (.int .i64 (c)) ∧ w'.cell? ⟨w.heap.size + 1, 1, none⟩ = some (.int .i64 (d)) ∧ w'.cell? ⟨w.heap.size + 1 + 1 + l1.size, 0, none⟩ = some (.int .i64 (-sat b)) ∧ w'.cell? ⟨w.heap.size + 1 + 1 + l1.size, 1, none⟩ = some (.int .i64 (sat a)) ∧ w'.cell? ⟨w.heap.size + 1 + 1 + l1.size + 1 + (l2.size + (l3.size + l4.size)), 0, none⟩ = some (.int .i64 (sat a)) ∧ w'.cell? ⟨w.heap.size + 1 + 1 + l1.size + 1 + (l2.size + (l3.size + l4.size)), 1, none⟩ = some (.int .i64 (sat b)) ∧ True) (first | exact cells_drew HQ | exact cells_step (w0 := w) (L := [(w.heap.size, 0, .int .i64 (a)), (w.heap.size, 1, .int .i64 (b)), (w.heap.size + 1, 0, .int .i64 (c)), (w.heap.size + 1, 1, .int .i64 (d)), (w.heap.size + 1 + 1 + l1.size, 0, .int .i64 (-sat b)), (w.heap.size + 1 + 1 + l1.size, 1, .int .i64 (sat a)), (w.heap.size + 1 + 1 + l1.size + 1 + (l2.size + (l3.size + l4.size)), 0, .int .i64 (sat a)), (w.heap.size + 1 + 1 + l1.size + 1 + (l2.size + (l3.size + l4.size)), 1, .int .i64 (sat b))]) (by assumption) (by assumption) | assumption) (first | (go_at_call 47; refine (vec2_Dot _ _ _ _ _).mono ?_; rintro e w' ⟨rfl, hb⟩) | (go_at_call 48; refine (vec2_Cross _ _ _ _ _).mono ?_; rintro e w' ⟨rfl, hb⟩) | (go_at_call 49; refine (vec2_Add _ _ _ _ _).mono ?_; rintro e w' ⟨rfl, hb⟩) | (go_at_call 50; refine (vec2_DistanceSquared _ _ _ _ _).mono ?_; rintro e w' ⟨rfl, hb⟩) | (go_at_call 39; refine (example03 _).mono ?_; rintro e w' ⟨rfl, hb⟩))
  go_wp2_with fail
  go_ret
  exact ⟨rfl, (show Cells w [(w.heap.size, 0, .int .i64 (a)), (w.heap.size, 1, .int .i64 (b)), (w.heap.size + 1, 0, .int .i64 (c)), (w.heap.size + 1, 1, .int .i64 (d)), (w.heap.size + 1 + 1 + l1.size, 0, .int .i64 (-sat b)), (w.heap.size + 1 + 1 + l1.size, 1, .int .i64 (sat a)), (w.heap.size + 1 + 1 + l1.size + 1 + (l2.size + (l3.size + l4.size)), 0, .int .i64 (sat a)), (w.heap.size + 1 + 1 + l1.size + 1 + (l2.size + (l3.size + l4.size)), 1, .int .i64 (sat b))] _ from by first | assumption | exact cells_drew (by assumption)).1⟩
end Go.Proofs.Ytdinlkdmolcppaa
