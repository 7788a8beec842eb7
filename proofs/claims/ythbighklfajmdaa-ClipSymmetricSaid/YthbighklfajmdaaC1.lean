/- The walks of package clip. -/
import Derived.Test.YthbighklfajmdaaV5
import Derived.Test.YthbighklfajmdaaCx
import Derived.Test.YthbighklfajmdaaCe
namespace Go.Proofs.Ythbighklfajmdaa
open Go.RowKit Fx Vx Cx

set_option maxHeartbeats 4000000 in
theorem clip_clipped (x y i u v j d e : Int) (w : World) (h1 : -536870911 ≤ d) (h2 : d ≤ 536870911) (h3 : -536870911 ≤ e) (h4 : e ≤ 536870911) :
    Calls Try.prog 43 #[.agg #[.int .i64 x, .int .i64 y, .int .i64 i], .agg #[.int .i64 u, .int .i64 v, .int .i64 j], .int .i64 d, .int .i64 e] w fun r w' => r = .returned (.agg #[.int .i64 (cut x u d e), .int .i64 (cut y v d e), .int .i64 i]) ∧ Below w.heap.size w w' := by
  go_enter Try.func43, Try.ntmps43
  go_wp2_with fail
  go_region_with (first | (go_at_call 67; refine (fixed_Ratio _ _ _).mono ?_; rintro e w' ⟨rfl, nd, rfl⟩) | (go_at_call 66; refine (vec2_Lerp _ _ _ _ _ _).mono ?_; rintro e w' ⟨rfl, hb⟩; obtain ⟨lg, ng, rfl⟩ := grow_of hb; clear hb))
  all_goals (go_wp2_with fail; exact bodyPost_ret (v := .agg #[.int .i64 (cut x u d e), .int .i64 (cut y v d e), .int .i64 i]) (by simp [results, Try.results43, go_sem]; exact ⟨rfl, rfl⟩) rfl ⟨rfl, (by repeat (first | exact Below.refl _ _ | assumption | apply Below.drew | apply below_drewN | refine below_grow ?_ (by simp <;> omega) _ _ | refine Below.alloc ?_ (by simp <;> omega) _ | refine Below.setCell ?_ (by simp <;> omega) _))⟩)
end Go.Proofs.Ythbighklfajmdaa
