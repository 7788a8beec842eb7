/- Quarter turns: 1. -/
import Derived.Test.YtdinlkdmolcppaaL03
import Derived.Test.YtdinlkdmolcppaaV6
import Derived.Test.YtdinlkdmolcppaaV7
import Derived.Test.YtdinlkdmolcppaaVz
import Derived.Test.YtdinlkdmolcppaaCe
import Derived.LoopN
namespace Go.Proofs.Ytdinlkdmolcppaa
open Go.RowKit Fx Vx
set_option maxHeartbeats 4000000 in
set_option maxRecDepth 100000 in
theorem quarter1 (x y n : Int) (hn0 : 0 ≤ n) (hn1 : n ≤ 255) (hn : n % 4 = 1) (w : World) :
    Calls Try.prog 13 #[.agg #[.int .i64 x, .int .i64 y], .int .u8 n] w fun e w' => e = .returned (.bool true) ∧ Below w.heap.size w w' := by
  obtain ⟨r1, r2, r3, r4⟩ := rot1 x y
  have e7 := sat_sat x
  have e8 := sat_sat y
  have e9 := sat_nsat x
  have e10 := sat_nsat y
  have e11 := add_zero x
  have e12 := add_zero y
  obtain ⟨b3, b4⟩ := sat_bd x
  obtain ⟨b5, b6⟩ := sat_bd y
  go_enter Try.func13, Try.ntmps13
  go_wp2_with fail
  refine (vec2_Add _ _ _ _ _).mono ?_
  rintro e w' ⟨rfl, hb⟩
  obtain ⟨l0, n0, rfl⟩ := grow_of hb
  clear hb
  go_wp2_with fail
  refine wp_loop_rounds 2 ?_
  rw [rounds_succ]
  go_wp2_with fail
  refine (vec2_Perp _ _ _).mono ?_
  rintro e w' ⟨rfl, hb⟩
  obtain ⟨l1, n1, rfl⟩ := grow_of hb
  clear hb
  go_wp2_with fail
  rw [rounds_succ]
  go_wp2_with fail
  refine (vec2_Rotate _ _ _ _ _).mono ?_
  rintro e w' ⟨rfl, hb⟩
  obtain ⟨l9, n9, rfl⟩ := grow_of hb
  clear hb
  go_wp2_with fail
  refine wp_cells (w0 := w) (L := [(w.heap.size, 0, .int .i64 (x)), (w.heap.size, 1, .int .i64 (y)), (w.heap.size + 1, 0, .int .i64 (0)), (w.heap.size + 1, 1, .int .i64 (65536)), (w.heap.size + 1 + 1 + l0.size, 0, .int .i64 (-sat y)), (w.heap.size + 1 + 1 + l0.size, 1, .int .i64 (sat x)), (w.heap.size + 1 + 1 + l0.size + 1 + 1 + (l1.size + l9.size), 0, .int .i64 (-sat y)), (w.heap.size + 1 + 1 + l0.size + 1 + 1 + (l1.size + l9.size), 1, .int .i64 (sat x))]) ⟨(by repeat (first | exact Below.refl _ _ | assumption | apply Below.drew | apply below_drewN | refine below_grow ?_ (by simp <;> omega) _ _ | refine Below.alloc ?_ (by simp <;> omega) _ | refine Below.setCell ?_ (by simp <;> omega) _)), by simp [AllCells, go_sem]⟩ ?_
  intro U HQ
  obtain ⟨_, c1, c2, c3, c4, c5, c6, c7, c8, _⟩ := id HQ
  clear b3 b4 b5 b6
  go_region_held3 (fun w' => Below w.heap.size w w' ∧ w'.cell? ⟨w.heap.size, 0, none⟩ = some (.int .i64 (x)) ∧ w'.cell? ⟨w.heap.size, 1, none⟩ = some (.int .i64 (y)) ∧ w'.cell? ⟨w.heap.size + 1, 0, none⟩ = some (.int .i64 (0)) ∧ w'.cell? ⟨w.heap.size + 1, 1, none⟩ = some (.int .i64 (65536)) ∧ w'.cell? ⟨w.heap.size + 1 + 1 + l0.size, 0, none⟩ = some (.int .i64 (-sat y)) ∧ w'.cell? ⟨w.heap.size + 1 + 1 + l0.size, 1, none⟩ = some (.int .i64 (sat x)) ∧ w'.cell? ⟨w.heap.size + 1 + 1 + l0.size + 1 + 1 + (l1.size + l9.size), 0, none⟩ = some (.int .i64 (-sat y)) ∧ w'.cell? ⟨w.heap.size + 1 + 1 + l0.size + 1 + 1 + (l1.size + l9.size), 1, none⟩ = some (.int .i64 (sat x)) ∧ True) (first | exact cells_drew HQ | exact cells_step (w0 := w) (L := [(w.heap.size, 0, .int .i64 (x)), (w.heap.size, 1, .int .i64 (y)), (w.heap.size + 1, 0, .int .i64 (0)), (w.heap.size + 1, 1, .int .i64 (65536)), (w.heap.size + 1 + 1 + l0.size, 0, .int .i64 (-sat y)), (w.heap.size + 1 + 1 + l0.size, 1, .int .i64 (sat x)), (w.heap.size + 1 + 1 + l0.size + 1 + 1 + (l1.size + l9.size), 0, .int .i64 (-sat y)), (w.heap.size + 1 + 1 + l0.size + 1 + 1 + (l1.size + l9.size), 1, .int .i64 (sat x))]) (by assumption) (by assumption) | assumption) (first | (go_at_call 44; refine (vec2_InverseRotate _ _ _ _ _).mono ?_; rintro e w' ⟨rfl, hb⟩) | (go_at_call 49; refine (vec2_Add _ _ _ _ _).mono ?_; rintro e w' ⟨rfl, hb⟩) | (go_at_call 39; refine (example03 _).mono ?_; rintro e w' ⟨rfl, hb⟩))
  go_wp2_with fail
  go_ret
  exact ⟨rfl, (show Cells w [(w.heap.size, 0, .int .i64 (x)), (w.heap.size, 1, .int .i64 (y)), (w.heap.size + 1, 0, .int .i64 (0)), (w.heap.size + 1, 1, .int .i64 (65536)), (w.heap.size + 1 + 1 + l0.size, 0, .int .i64 (-sat y)), (w.heap.size + 1 + 1 + l0.size, 1, .int .i64 (sat x)), (w.heap.size + 1 + 1 + l0.size + 1 + 1 + (l1.size + l9.size), 0, .int .i64 (-sat y)), (w.heap.size + 1 + 1 + l0.size + 1 + 1 + (l1.size + l9.size), 1, .int .i64 (sat x))] _ from by first | assumption | exact cells_drew (by assumption)).1⟩
end Go.Proofs.Ytdinlkdmolcppaa
