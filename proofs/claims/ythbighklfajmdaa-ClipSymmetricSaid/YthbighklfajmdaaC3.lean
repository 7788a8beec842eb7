/- The walk of clip.HalfPlane, a case. -/
import Derived.Test.YthbighklfajmdaaC2
namespace Go.Proofs.Ythbighklfajmdaa
open Go.RowKit Fx Vx Cx

set_option maxHeartbeats 4000000 in
theorem clip_HalfPlane_in (b o cp : Nat) (x y i u v j ox oy nx ny : Int) (w : World) (c0 : w.cell? ⟨b, o, none⟩ = some (.int .i64 x)) (c1 : w.cell? ⟨b, o + 1, none⟩ = some (.int .i64 y)) (c2 : w.cell? ⟨b, o + 2, none⟩ = some (.int .i64 i)) (c3 : w.cell? ⟨b, o + 3, none⟩ = some (.int .i64 u)) (c4 : w.cell? ⟨b, o + 4, none⟩ = some (.int .i64 v)) (c5 : w.cell? ⟨b, o + 5, none⟩ = some (.int .i64 j)) (hd : ¬ 0 < dot nx ny (sub x ox) (sub y oy)) (he : ¬ 0 < dot nx ny (sub u ox) (sub v oy)) :
    Calls Try.prog 16 #[.slice (some ⟨b, o, none⟩) 2 cp, .agg #[.int .i64 ox, .int .i64 oy], .agg #[.int .i64 nx, .int .i64 ny]] w (Pair x y i u v j w) := by
  have hb : b < w.heap.size := World.block_lt_of_cell? w ⟨b, o, none⟩ c0
  have hb1 : b < w.heap.size + 1 := Nat.lt_succ_of_lt hb
  have hb2 : b < w.heap.size + 1 + 1 := Nat.lt_succ_of_lt hb1
  have hb3 : b < w.heap.size + 1 + 1 + 1 := Nat.lt_succ_of_lt hb2
  have c4' : w.cell? ⟨b, o + 3 + 1, none⟩ = some (.int .i64 v) := c4
  have c5' : w.cell? ⟨b, o + 3 + 2, none⟩ = some (.int .i64 j) := c5
  obtain ⟨m1, m2⟩ := dot_bd nx ny (sub x ox) (sub y oy)
  obtain ⟨m3, m4⟩ := dot_bd nx ny (sub u ox) (sub v oy)
  go_enter Try.func16, Try.ntmps16
  go_wp2_with fail
  go_region
  all_goals go_wp2_with fail
  all_goals (first | go_region_held3 (fun w' => w'.cell? ⟨w.heap.size, 0, none⟩ = some (.int .i64 ox) ∧ w'.cell? ⟨w.heap.size, 1, none⟩ = some (.int .i64 oy) ∧ w'.cell? ⟨w.heap.size + 1, 0, none⟩ = some (.int .i64 nx) ∧ w'.cell? ⟨w.heap.size + 1, 1, none⟩ = some (.int .i64 ny) ∧ w'.cell? ⟨w.heap.size + 1 + 1, 0, none⟩ = some (.int .i64 x) ∧ w'.cell? ⟨w.heap.size + 1 + 1, 1, none⟩ = some (.int .i64 y) ∧ w'.cell? ⟨w.heap.size + 1 + 1 + 1, 0, none⟩ = some (.int .i64 u) ∧ w'.cell? ⟨w.heap.size + 1 + 1 + 1, 1, none⟩ = some (.int .i64 v)) (simp [go_sem]) (first | (go_at_call 42; refine (vec2_Sub _ _ _ _ _).mono ?_; rintro e w' ⟨rfl, hb⟩; obtain ⟨lg, ng, rfl⟩ := grow_of hb; clear hb) | (go_at_call 41; refine (vec2_Dot _ _ _ _ _).mono ?_; rintro e w' ⟨rfl, hb⟩; obtain ⟨lg, ng, rfl⟩ := grow_of hb; clear hb)) | go_region_held3 (fun w' => w'.cell? ⟨w.heap.size, 0, none⟩ = some (.int .i64 ox) ∧ w'.cell? ⟨w.heap.size, 1, none⟩ = some (.int .i64 oy) ∧ w'.cell? ⟨w.heap.size + 1, 0, none⟩ = some (.int .i64 nx) ∧ w'.cell? ⟨w.heap.size + 1, 1, none⟩ = some (.int .i64 ny) ∧ w'.cell? ⟨w.heap.size + 1 + 1 + 1, 0, none⟩ = some (.int .i64 x) ∧ w'.cell? ⟨w.heap.size + 1 + 1 + 1, 1, none⟩ = some (.int .i64 y) ∧ w'.cell? ⟨w.heap.size + 1 + 1, 0, none⟩ = some (.int .i64 u) ∧ w'.cell? ⟨w.heap.size + 1 + 1, 1, none⟩ = some (.int .i64 v)) (simp [go_sem]) (first | (go_at_call 42; refine (vec2_Sub _ _ _ _ _).mono ?_; rintro e w' ⟨rfl, hb⟩; obtain ⟨lg, ng, rfl⟩ := grow_of hb; clear hb) | (go_at_call 41; refine (vec2_Dot _ _ _ _ _).mono ?_; rintro e w' ⟨rfl, hb⟩; obtain ⟨lg, ng, rfl⟩ := grow_of hb; clear hb)))
  all_goals go_wp2_with (go_at_call 43; refine (clip_clipped _ _ _ _ _ _ _ _ _ m1 m2 m3 m4).mono ?_; rintro e w' ⟨rfl, hb⟩; obtain ⟨lg, ng, rfl⟩ := grow_of hb; clear hb)
  all_goals (go_ret; exact ⟨_, 2, rfl, (by repeat (first | exact Below.refl _ _ | assumption | apply Below.drew | apply below_drewN | refine below_grow ?_ (by simp <;> omega) _ _ | refine Below.alloc ?_ (by simp <;> omega) _ | refine Below.setCell ?_ (by simp <;> omega) _)), by simp [AllCells, go_sem]⟩)
end Go.Proofs.Ythbighklfajmdaa
