/- The walk of caromlaw10.SegmentIntersection. -/
import Derived.Test.YtdoagjphjnbbnaaS3
namespace Go.Proofs.Ytdoagjphjnbbnaa
open Go.RowKit Fx Vx Bx Ev
set_option linter.unusedVariables false
set_option linter.unusedSimpArgs false

def c_law_SegmentIntersection : Con := ⟨10, pureRun [2, 2, 2, 2] (fun _ => []) fun _ => .bool true⟩
set_option maxRecDepth 100000 in
set_option maxHeartbeats 4000000 in
theorem con_law_SegmentIntersection : c_law_SegmentIntersection.Ok Try.prog := by
  refine con_pure (C := [c_segment_Intersects, c_ref10_Intersects, c_law10_example]) (pl := []) Try.func10 rfl (by kernel_rfl) T_ok (Cons.cons con_segment_Intersects (Cons.cons con_ref10_Intersects (Cons.cons con_law10_example (Cons.nil _)))) mixed (by kernel_rfl) _ _ _ (fun l hl hpre => ?_)
  match l, hl with
  | [a, b, c, d, e, f, g, k], _ =>
    repeat' (first | (with_reducible refine And.intro ?_ ?_) | (with_reducible intro h) | ((fail_if_success (with_reducible refine Leaf.mk ?_)); (fail_if_success (with_reducible refine VC.mk ?_)); (fail_if_success (with_reducible refine Goes.mk ?_)); (fail_if_success (with_reducible refine Again.mk ?_)); (fail_if_success (with_reducible refine Rounds.mk ?_)); (fail_if_success (with_reducible show False)); (fail_if_success (with_reducible show True)); conv => whnf))
    all_goals have e1 := isec_comm a b c d e f g k
    all_goals have e2 := isec_revA a b c d e f g k
    all_goals have e3 := isec_revB a b c d e f g k
    all_goals have e4 := isec_share a b c d e f
    all_goals try first | exact trivial | exact ⟨rfl⟩ | (refine VC.mk ?_; first | trivial | decide | (simp; done))
    all_goals (refine Leaf.mk ?_; simp_all)

theorem walk_SegmentIntersection (a b c d e f g k : Int) (w : World) :
    Calls Try.prog 10 #[.agg #[.int .i64 a, .int .i64 b], .agg #[.int .i64 c, .int .i64 d], .agg #[.int .i64 e, .int .i64 f], .agg #[.int .i64 g, .int .i64 k]] w fun e w' => e = .returned (.bool true) ∧ Below w.heap.size w w' :=
  calls_con con_law_SegmentIntersection [.agg [.int .i64 a, .int .i64 b], .agg [.int .i64 c, .int .i64 d], .agg [.int .i64 e, .int .i64 f], .agg [.int .i64 g, .int .i64 k]] [a, b, c, d, e, f, g, k] [.agg #[.int .i64 a, .int .i64 b], .agg #[.int .i64 c, .int .i64 d], .agg #[.int .i64 e, .int .i64 f], .agg #[.int .i64 g, .int .i64 k]] rfl (fun p hp => by cases hp) ⟨⟨_, rfl, rfl, rfl, trivial⟩, ⟨_, rfl, rfl, rfl, trivial⟩, ⟨_, rfl, rfl, rfl, trivial⟩, ⟨_, rfl, rfl, rfl, trivial⟩, trivial⟩ rfl w
end Go.Proofs.Ytdoagjphjnbbnaa
