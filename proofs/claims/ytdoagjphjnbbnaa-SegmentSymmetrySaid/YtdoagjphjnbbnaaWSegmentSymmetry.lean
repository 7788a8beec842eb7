/- The walk of caromlaw10.SegmentSymmetry. -/
import Derived.Test.YtdoagjphjnbbnaaS3
namespace Go.Proofs.Ytdoagjphjnbbnaa
open Go.RowKit Fx Vx Bx Ev
set_option linter.unusedVariables false
set_option linter.unusedSimpArgs false

def c_law_SegmentSymmetry : Con := ⟨11, pureRun [2, 2, 2, 2] (fun _ => []) fun _ => .bool true⟩
set_option maxRecDepth 100000 in
set_option maxHeartbeats 4000000 in
theorem con_law_SegmentSymmetry : c_law_SegmentSymmetry.Ok Try.prog := by
  refine con_pure (C := [c_segment_Distance, c_segment_Intersects, c_law10_example]) (pl := []) Try.func11 rfl (by kernel_rfl) T_ok (Cons.cons con_segment_Distance (Cons.cons con_segment_Intersects (Cons.cons con_law10_example (Cons.nil _)))) mixed (by kernel_rfl) _ _ _ (fun l hl hpre => ?_)
  match l, hl with
  | [a, b, c, d, e, f, g, k], _ =>
    repeat' (first | (with_reducible refine And.intro ?_ ?_) | (with_reducible intro h) | ((fail_if_success (with_reducible refine Leaf.mk ?_)); (fail_if_success (with_reducible refine VC.mk ?_)); (fail_if_success (with_reducible refine Goes.mk ?_)); (fail_if_success (with_reducible refine Again.mk ?_)); (fail_if_success (with_reducible refine Rounds.mk ?_)); (fail_if_success (with_reducible show False)); (fail_if_success (with_reducible show True)); conv => whnf))
    all_goals have e1 := sdist_comm a b c d e f g k
    all_goals have e2 := sdist_bd a b c d e f g k
    all_goals have e3 := @sdist_isec a b c d e f g k
    all_goals have e4 := sdist_isec (isec_share2 a b c d e f)
    all_goals try first | exact trivial | exact ⟨rfl⟩ | (refine VC.mk ?_; first | trivial | decide | (simp; done))
    all_goals (refine Leaf.mk ?_; simp_all <;> omega)

theorem walk_SegmentSymmetry (a b c d e f g k : Int) (w : World) :
    Calls Try.prog 11 #[.agg #[.int .i64 a, .int .i64 b], .agg #[.int .i64 c, .int .i64 d], .agg #[.int .i64 e, .int .i64 f], .agg #[.int .i64 g, .int .i64 k]] w fun e w' => e = .returned (.bool true) ∧ Below w.heap.size w w' :=
  calls_con con_law_SegmentSymmetry [.agg [.int .i64 a, .int .i64 b], .agg [.int .i64 c, .int .i64 d], .agg [.int .i64 e, .int .i64 f], .agg [.int .i64 g, .int .i64 k]] [a, b, c, d, e, f, g, k] [.agg #[.int .i64 a, .int .i64 b], .agg #[.int .i64 c, .int .i64 d], .agg #[.int .i64 e, .int .i64 f], .agg #[.int .i64 g, .int .i64 k]] rfl (fun p hp => by cases hp) ⟨⟨_, rfl, rfl, rfl, trivial⟩, ⟨_, rfl, rfl, rfl, trivial⟩, ⟨_, rfl, rfl, rfl, trivial⟩, ⟨_, rfl, rfl, rfl, trivial⟩, trivial⟩ rfl w
end Go.Proofs.Ytdoagjphjnbbnaa
