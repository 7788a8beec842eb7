/- The walk of ClipSymmetric, a case. -/
import Derived.Test.YthbighklfajmdaaC6
import Derived.Test.YthbighklfajmdaaR3
import Derived.LoopN
import Derived.Deep.RegionHeld3
namespace Go.Proofs.Ythbighklfajmdaa
open Go.RowKit Fx Vx Cx

set_option maxHeartbeats 4000000 in
set_option maxRecDepth 100000 in
theorem symm_out (x y i u v j ox oy nx ny : Int) (w : World) (hd : 0 < dot nx ny (sub x ox) (sub y oy)) (he : 0 < dot nx ny (sub u ox) (sub v oy)) :
    Calls Try.prog 4 #[.agg #[.int .i64 x, .int .i64 y, .int .i64 i, .int .i64 u, .int .i64 v, .int .i64 j], .agg #[.int .i64 ox, .int .i64 oy], .agg #[.int .i64 nx, .int .i64 ny]] w fun e w' => e = .returned (.bool true) ∧ Below w.heap.size w w' := by
  have HQ : Cells w [(w.heap.size, 0, .int .i64 (x)), (w.heap.size, 1, .int .i64 (y)), (w.heap.size, 2, .int .i64 (i)), (w.heap.size, 3, .int .i64 (u)), (w.heap.size, 4, .int .i64 (v)), (w.heap.size, 5, .int .i64 (j)), (w.heap.size + 1, 0, .int .i64 (ox)), (w.heap.size + 1, 1, .int .i64 (oy)), (w.heap.size + 1 + 1, 0, .int .i64 (nx)), (w.heap.size + 1 + 1, 1, .int .i64 (ny))] (((w.alloc (.cells #[.int .i64 x, .int .i64 y, .int .i64 i, .int .i64 u, .int .i64 v, .int .i64 j] 35)).alloc (.cells #[.int .i64 ox, .int .i64 oy] 24)).alloc (.cells #[.int .i64 nx, .int .i64 ny] 24)) := ⟨(by repeat (first | exact Below.refl _ _ | assumption | apply Below.drew | apply below_drewN | refine below_grow ?_ (by simp <;> omega) _ _ | refine Below.alloc ?_ (by simp <;> omega) _ | refine Below.setCell ?_ (by simp <;> omega) _)), by simp [AllCells, go_sem]⟩
  go_enter Try.func4, Try.ntmps4
  go_wp2_with fail
  refine (clip_HalfPlane_out (w.heap.size + 1 + 1 + 1) 0 2 x y i u v j ox oy nx ny _ (by simp [go_sem]) (by simp [go_sem]) (by simp [go_sem]) (by simp [go_sem]) (by simp [go_sem]) (by simp [go_sem]) (by omega) (by omega)).mono ?_
  rintro e w' ⟨rfl, hb⟩
  replace HQ := cells_step hb (cells_alloc HQ _)
  clear hb
  have HQ := (show Cells w [(w.heap.size, 0, .int .i64 (x)), (w.heap.size, 1, .int .i64 (y)), (w.heap.size, 2, .int .i64 (i)), (w.heap.size, 3, .int .i64 (u)), (w.heap.size, 4, .int .i64 (v)), (w.heap.size, 5, .int .i64 (j)), (w.heap.size + 1, 0, .int .i64 (ox)), (w.heap.size + 1, 1, .int .i64 (oy)), (w.heap.size + 1 + 1, 0, .int .i64 (nx)), (w.heap.size + 1 + 1, 1, .int .i64 (ny))] _ from by first | assumption | exact cells_drew (by assumption))
  obtain ⟨_, c1, c2, c3, c4, c5, c6, c7, c8, c9, c10, _⟩ := id HQ
  have s0 : w.heap.size < _ := World.block_lt_of_cell? _ _ c1
  have s1 : w.heap.size + 1 < _ := World.block_lt_of_cell? _ _ c7
  have s2 : w.heap.size + 1 + 1 < _ := World.block_lt_of_cell? _ _ c9
  go_wp2_with fail
  refine (clip_HalfPlane_out _ 0 2 u v j x y i ox oy nx ny _ (by simp [go_sem, *]) (by simp [go_sem, *]) (by simp [go_sem, *]) (by simp [go_sem, *]) (by simp [go_sem, *]) (by simp [go_sem, *]) (by omega) (by omega)).mono ?_
  rintro e w' ⟨rfl, hb⟩
  replace HQ := cells_step hb (cells_alloc HQ _)
  clear hb
  have HQ := (show Cells w [(w.heap.size, 0, .int .i64 (x)), (w.heap.size, 1, .int .i64 (y)), (w.heap.size, 2, .int .i64 (i)), (w.heap.size, 3, .int .i64 (u)), (w.heap.size, 4, .int .i64 (v)), (w.heap.size, 5, .int .i64 (j)), (w.heap.size + 1, 0, .int .i64 (ox)), (w.heap.size + 1, 1, .int .i64 (oy)), (w.heap.size + 1 + 1, 0, .int .i64 (nx)), (w.heap.size + 1 + 1, 1, .int .i64 (ny))] _ from by first | assumption | exact cells_drew (by assumption))
  obtain ⟨_, c1, c2, c3, c4, c5, c6, c7, c8, c9, c10, _⟩ := id HQ
  have s0 : w.heap.size < _ := World.block_lt_of_cell? _ _ c1
  have s1 : w.heap.size + 1 < _ := World.block_lt_of_cell? _ _ c7
  have s2 : w.heap.size + 1 + 1 < _ := World.block_lt_of_cell? _ _ c9
  go_wp2_with (go_at_call 14; refine (example15 _).mono ?_; rintro e w' ⟨rfl, hb⟩; replace HQ := cells_step hb (by first | exact HQ | exact cells_alloc HQ _ | exact cells_drew HQ | exact cells_alloc (cells_drew HQ) _); clear hb; obtain ⟨_, c1, c2, c3, c4, c5, c6, c7, c8, c9, c10, _⟩ := id HQ; have s0 : w.heap.size < _ := World.block_lt_of_cell? _ _ c1; have s1 : w.heap.size + 1 < _ := World.block_lt_of_cell? _ _ c7; have s2 : w.heap.size + 1 + 1 < _ := World.block_lt_of_cell? _ _ c9)
  go_ret
  exact ⟨rfl, HQ.1⟩
end Go.Proofs.Ythbighklfajmdaa
