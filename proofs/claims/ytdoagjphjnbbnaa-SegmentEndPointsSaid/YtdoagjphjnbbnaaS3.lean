/- Contracts of package caromlaw10: the example. -/
import Derived.Test.YtdoagjphjnbbnaaS2
import Derived.Test.YtdoagjphjnbbnaaKc
namespace Go.Proofs.Ytdoagjphjnbbnaa
open Go.RowKit Fx Vx Bx Ev
set_option linter.unusedVariables false
set_option linter.unusedSimpArgs false

def c_law10_example : Con := ⟨30, pureRun [] (fun _ => []) fun | [] => .bool true | _ => .any⟩
set_option maxRecDepth 100000 in
set_option maxHeartbeats 1000000 in
theorem con_law10_example : c_law10_example.Ok Try.prog := by
  refine con_pure (C := [c_segment_ClosestPoint, c_segment_ClosestPoints, c_segment_Distance, c_segment_Intersects]) (pl := []) Try.func30 rfl (by kernel_rfl) T_ok (Cons.cons con_segment_ClosestPoint (Cons.cons con_segment_ClosestPoints (Cons.cons con_segment_Distance (Cons.cons con_segment_Intersects (Cons.nil _))))) mixed (by kernel_rfl) _ _ _ (fun l hl hpre => ?_)
  match l, hl with
  | [], _ =>
    repeat' (first | (with_reducible refine And.intro ?_ ?_) | (with_reducible intro h) | ((fail_if_success (with_reducible refine Leaf.mk ?_)); (fail_if_success (with_reducible refine VC.mk ?_)); (fail_if_success (with_reducible refine Goes.mk ?_)); (fail_if_success (with_reducible refine Again.mk ?_)); (fail_if_success (with_reducible refine Rounds.mk ?_)); (fail_if_success (with_reducible show False)); (fail_if_success (with_reducible show True)); conv => whnf))
    all_goals first | exact trivial | exact ⟨by decide +kernel⟩ | (exfalso; revert ‹_ = false›; decide +kernel) | (simp_all; done)
end Go.Proofs.Ytdoagjphjnbbnaa
