/- The walk of Vec2OrientationSign. -/
import Derived.Test.YtdinlkdmolcppaaL03
import Derived.Test.YtdinlkdmolcppaaR3
import Derived.Test.YtdinlkdmolcppaaCe
namespace Go.Proofs.Ytdinlkdmolcppaa
open Go.RowKit Fx Vx
set_option maxHeartbeats 8000000 in
set_option maxRecDepth 100000 in
theorem walk_Vec2OrientationSign (a b c d e f : Int) (w : World) :
    Calls Try.prog 9 #[.agg #[.int .i64 a, .int .i64 b], .agg #[.int .i64 c, .int .i64 d], .agg #[.int .i64 e, .int .i64 f]] w fun e w' => e = .returned (.bool true) ∧ Below w.heap.size w w' := by
  have e1 := orient_bac a b c d e f
  have e2 := orient_acb a b c d e f
  have e3 := orient_cba a b c d e f
  have e4 := orient_bca a b c d e f
  obtain ⟨b1, b2⟩ := orient_bd a b c d e f
  have HQ : Cells w [(w.heap.size, 0, .int .i64 (a)), (w.heap.size, 1, .int .i64 (b)), (w.heap.size + 1, 0, .int .i64 (c)), (w.heap.size + 1, 1, .int .i64 (d)), (w.heap.size + 1 + 1, 0, .int .i64 (e)), (w.heap.size + 1 + 1, 1, .int .i64 (f))] (((w.alloc (.cells #[.int .i64 a, .int .i64 b] 29)).alloc (.cells #[.int .i64 c, .int .i64 d] 29)).alloc (.cells #[.int .i64 e, .int .i64 f] 29)) := ⟨(by repeat (first | exact Below.refl _ _ | assumption | apply Below.drew | apply below_drewN | refine below_grow ?_ (by simp <;> omega) _ _ | refine Below.alloc ?_ (by simp <;> omega) _ | refine Below.setCell ?_ (by simp <;> omega) _)), by simp [AllCells, go_sem]⟩
  go_enter Try.func9, Try.ntmps9
  go_wp2_with (first | (go_at_call 37; refine (vec2_Orientation _ _ _ _ _ _ _).mono ?_; rintro e w' ⟨rfl, hb⟩; replace HQ := cells_step hb (by first | exact HQ | exact cells_drew HQ | exact cells_drewN HQ _ | exact cells_drew (cells_drewN HQ _)); clear hb; obtain ⟨_, c1, c2, c3, c4, c5, c6, _⟩ := id HQ) | (go_at_call 38; refine (ref03_Orientation _ _ _ _ _ _ _).mono ?_; rintro e w' ⟨rfl, hb⟩; replace HQ := cells_step hb (by first | exact HQ | exact cells_drew HQ | exact cells_drewN HQ _ | exact cells_drew (cells_drewN HQ _)); clear hb; obtain ⟨_, c1, c2, c3, c4, c5, c6, _⟩ := id HQ) | (go_at_call 39; refine (example03 _).mono ?_; rintro e w' ⟨rfl, hb⟩; replace HQ := cells_step hb (by first | exact HQ | exact cells_drew HQ | exact cells_drewN HQ _ | exact cells_drew (cells_drewN HQ _)); clear hb; obtain ⟨_, c1, c2, c3, c4, c5, c6, _⟩ := id HQ))
  go_ret
  exact ⟨rfl, HQ.1⟩
end Go.Proofs.Ytdinlkdmolcppaa
