/- The walk of caromlaw10.SegmentDistance. -/
import Derived.Test.YtdoagjphjnbbnaaS3
namespace Go.Proofs.Ytdoagjphjnbbnaa
open Go.RowKit Fx Vx Bx Ev
set_option linter.unusedVariables false
set_option linter.unusedSimpArgs false

def c_law_SegmentDistance : Con := ⟨8, pureRun [2, 2, 2, 2] (fun _ => []) fun _ => .bool true⟩
set_option maxRecDepth 100000 in
set_option maxHeartbeats 4000000 in
theorem con_law_SegmentDistance : c_law_SegmentDistance.Ok Try.prog := by
  refine con_pure (C := [c_segment_ClosestPoints, c_ref10_ClosestPoints, c_segment_Distance, c_ref10_Distance, c_law10_example]) (pl := [(3, [0, 1, 2, 3, 4, 5, 6, 7, 8, 9, 10, 11, 12, 13, 14, 15, 16, 17, 18, 19, 20, 21, 22, 23, 24], [0, 0, 3, 7, 15, 15, 63, 127, 255, 511, 511, 511, 511, 8191, 511, 511, 511, 511, 262143, 524287, 1048575, 2097151, 4194303, 8388607, 16777215])]) Try.func8 rfl (by kernel_rfl) T_ok (Cons.cons con_segment_ClosestPoints (Cons.cons con_ref10_ClosestPoints (Cons.cons con_segment_Distance (Cons.cons con_ref10_Distance (Cons.cons con_law10_example (Cons.nil _)))))) mixed (by kernel_rfl) _ _ _ (fun l hl hpre => ?_)
  match l, hl with
  | [a, b, c, d, e, f, g, k], _ =>
    repeat' (first | (with_reducible refine And.intro ?_ ?_) | (with_reducible intro h) | ((fail_if_success (with_reducible refine Leaf.mk ?_)); (fail_if_success (with_reducible refine VC.mk ?_)); (fail_if_success (with_reducible refine Goes.mk ?_)); (fail_if_success (with_reducible refine Again.mk ?_)); (fail_if_success (with_reducible refine Rounds.mk ?_)); (fail_if_success (with_reducible show False)); (fail_if_success (with_reducible show True)); conv => whnf))
    all_goals try first | exact trivial | exact ⟨rfl⟩ | (refine VC.mk ?_; first | trivial | decide | (simp; done))
    all_goals (refine Leaf.mk ?_; simp_all)

theorem walk_SegmentDistance (a b c d e f g k : Int) (w : World) :
    Calls Try.prog 8 #[.agg #[.int .i64 a, .int .i64 b], .agg #[.int .i64 c, .int .i64 d], .agg #[.int .i64 e, .int .i64 f], .agg #[.int .i64 g, .int .i64 k]] w fun e w' => e = .returned (.bool true) ∧ Below w.heap.size w w' :=
  calls_con con_law_SegmentDistance [.agg [.int .i64 a, .int .i64 b], .agg [.int .i64 c, .int .i64 d], .agg [.int .i64 e, .int .i64 f], .agg [.int .i64 g, .int .i64 k]] [a, b, c, d, e, f, g, k] [.agg #[.int .i64 a, .int .i64 b], .agg #[.int .i64 c, .int .i64 d], .agg #[.int .i64 e, .int .i64 f], .agg #[.int .i64 g, .int .i64 k]] rfl (fun p hp => by cases hp) ⟨⟨_, rfl, rfl, rfl, trivial⟩, ⟨_, rfl, rfl, rfl, trivial⟩, ⟨_, rfl, rfl, rfl, trivial⟩, ⟨_, rfl, rfl, rfl, trivial⟩, trivial⟩ rfl w
end Go.Proofs.Ytdoagjphjnbbnaa
