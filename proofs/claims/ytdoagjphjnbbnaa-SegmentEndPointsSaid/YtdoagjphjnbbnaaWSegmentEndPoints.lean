/- The walk of caromlaw10.SegmentEndPoints. -/
import Derived.Test.YtdoagjphjnbbnaaEp
import Derived.Test.YtdoagjphjnbbnaaKc
namespace Go.Proofs.Ytdoagjphjnbbnaa
open Go.RowKit Fx Vx Bx Ev
set_option linter.unusedVariables false
set_option linter.unusedSimpArgs false
instance (x y : Int) : Decidable (inW x y) := by unfold inW; infer_instance
def c_law10_outside : Con := ⟨35, pureRun [2] (fun _ => []) fun | [x, y] => .bool (!decide (inW x y)) | _ => .any⟩
set_option maxRecDepth 100000 in
set_option maxHeartbeats 1000000 in
theorem con_law10_outside : c_law10_outside.Ok Try.prog := by
  refine con_pure (C := []) (pl := []) Try.func35 rfl (by kernel_rfl) T_ok (Cons.nil _) mixed (by kernel_rfl) _ _ _ (fun l hl hpre => ?_)
  match l, hl with
  | [x, y], _ =>
    repeat' (first | (with_reducible refine And.intro ?_ ?_) | (with_reducible intro h) | ((fail_if_success (with_reducible refine Leaf.mk ?_)); (fail_if_success (with_reducible refine VC.mk ?_)); (fail_if_success (with_reducible refine Goes.mk ?_)); (fail_if_success (with_reducible refine Again.mk ?_)); (fail_if_success (with_reducible refine Rounds.mk ?_)); (fail_if_success (with_reducible show False)); (fail_if_success (with_reducible show True)); conv => whnf))
    all_goals try exact trivial
    all_goals try simp only [decide_eq_true_eq, decide_eq_false_iff_not, Bool.not_eq_true', Bool.not_eq_false'] at *
    all_goals (refine Leaf.mk ?_; first | (have hw : inW x y := (by unfold inW; omega); simp [hw]; done) | (have hw : ¬ inW x y := (by unfold inW; omega); simp [hw]; done) | (rw [Bool.eq_iff_iff]; simp only [decide_eq_true_eq, Bool.not_eq_true', decide_eq_false_iff_not]; unfold inW; omega))

def c_law_SegmentEndPoints : Con := ⟨12, pureRun [2, 2, 2, 2] (fun _ => []) fun _ => .bool true⟩
set_option maxRecDepth 100000 in
set_option maxHeartbeats 4000000 in
theorem con_law_SegmentEndPoints : c_law_SegmentEndPoints.Ok Try.prog := by
  refine con_pure (C := [c_law10_outside, c_segment_Distance, c_vec2_Sub, c_vec2_Length, c_law10_example]) (pl := []) Try.func12 rfl (by kernel_rfl) T_ok (Cons.cons con_law10_outside (Cons.cons con_segment_Distance (Cons.cons con_vec2_Sub (Cons.cons con_vec2_Length (Cons.cons con_law10_example (Cons.nil _)))))) mixed (by kernel_rfl) _ _ _ (fun l hl hpre => ?_)
  match l, hl with
  | [a, b, c, d, e, f, g, h_], _ =>
    repeat' (first | (with_reducible refine And.intro ?_ ?_) | (with_reducible intro h) | ((fail_if_success (with_reducible refine Leaf.mk ?_)); (fail_if_success (with_reducible refine VC.mk ?_)); (fail_if_success (with_reducible refine Goes.mk ?_)); (fail_if_success (with_reducible refine Again.mk ?_)); (fail_if_success (with_reducible refine Rounds.mk ?_)); (fail_if_success (with_reducible show False)); (fail_if_success (with_reducible show True)); conv => whnf))
    all_goals try exact trivial
    all_goals try simp only [decide_eq_true_eq, decide_eq_false_iff_not, Bool.not_eq_true', Bool.not_eq_false'] at *
    all_goals try (have hEP := end_points (a := a) (b := b) (c := c) (d := d) (e := e) (f := f) (g := g) (h := h_) (by assumption) (by assumption) (by assumption) (by assumption))
    all_goals try (refine VC.mk ?_; have := sdist_bd a b c d e f g h_; simp only [InR]; omega)
    all_goals first | exact Leaf.mk trivial | exact Leaf.mk rfl | (refine Leaf.mk ?_; exfalso; omega) | (refine Leaf.mk ?_; simp_all; done)

theorem walk_SegmentEndPoints (a b c d e f g h_ : Int) (w : World) :
    Calls Try.prog 12 #[.agg #[.int .i64 a, .int .i64 b], .agg #[.int .i64 c, .int .i64 d], .agg #[.int .i64 e, .int .i64 f], .agg #[.int .i64 g, .int .i64 h_]] w fun e w' => e = .returned (.bool true) ∧ Below w.heap.size w w' :=
  calls_con con_law_SegmentEndPoints [.agg [.int .i64 a, .int .i64 b], .agg [.int .i64 c, .int .i64 d], .agg [.int .i64 e, .int .i64 f], .agg [.int .i64 g, .int .i64 h_]] [a, b, c, d, e, f, g, h_] [.agg #[.int .i64 a, .int .i64 b], .agg #[.int .i64 c, .int .i64 d], .agg #[.int .i64 e, .int .i64 f], .agg #[.int .i64 g, .int .i64 h_]] rfl (fun p hp => by cases hp) ⟨⟨_, rfl, rfl, rfl, trivial⟩, ⟨_, rfl, rfl, rfl, trivial⟩, ⟨_, rfl, rfl, rfl, trivial⟩, ⟨_, rfl, rfl, rfl, trivial⟩, trivial⟩ rfl w
end Go.Proofs.Ytdoagjphjnbbnaa
