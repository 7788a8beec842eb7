/- The example of chapter 15. -/
import Derived.Test.YthbighklfajmdaaC3
import Derived.Test.YthbighklfajmdaaC4
import Derived.Test.YthbighklfajmdaaC5
import Derived.Test.YthbighklfajmdaaCa
namespace Go.Proofs.Ythbighklfajmdaa
open Go.RowKit Fx Vx Cx

theorem example15_plain : ¬ 0 < dot 65536 0 (sub (-65536) 0) (sub 0 0) ∧ 0 < dot 65536 0 (sub 65536 0) (sub 0 0) ∧ cut 65536 (-65536) (dot 65536 0 (sub 65536 0) (sub 0 0)) (dot 65536 0 (sub (-65536) 0) (sub 0 0)) = 0 ∧ cut 0 0 (dot 65536 0 (sub 65536 0) (sub 0 0)) (dot 65536 0 (sub (-65536) 0) (sub 0 0)) = 0 := by decide
theorem example15 (w : World) : Calls Try.prog 14 #[] w (BoolIs w.heap.size true w) := by
  obtain ⟨h1, h2, h3, h4⟩ := example15_plain
  go_enter Try.func14, Try.ntmps14
  go_wp2_with fail
  refine (clip_HalfPlane_second w.heap.size 0 2 (-65536) 0 4 65536 0 5 0 0 65536 0 _ (by simp [go_sem]) (by simp [go_sem]) (by simp [go_sem]) (by simp [go_sem]) (by simp [go_sem]) (by simp [go_sem]) (by omega) (by omega)).mono ?_
  rintro e w' ⟨g, c, rfl, hb, k0, k1, k2, k3, k4, k5, _⟩
  rw [h3] at k3
  rw [h4] at k4
  clear h1 h2 h3 h4
  go_wp2_with fail
  go_ret
  exact ⟨rfl, ((Below.refl _ _).alloc (Nat.le_refl _) _).trans (hb.mono (by simp))⟩
end Go.Proofs.Ythbighklfajmdaa
