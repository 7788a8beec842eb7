/- Contracts of packages aabb and caromref05: what only computes. -/
import Derived.Test.YtbichdbapkpjpaaK3
import Derived.Test.YtbichdbapkpjpaaBx
namespace Go.Proofs.Ytbichdbapkpjpaa
open Go.RowKit Fx Vx Bx Ev
set_option linter.unusedVariables false
set_option linter.unusedSimpArgs false

def c_ref05_SaturateVec : Con := ⟨25, pureRun [2] (fun _ => []) fun | [a, b] => .agg [.int .i64 (sat a), .int .i64 (sat b)] | _ => .any⟩
set_option maxRecDepth 100000 in
set_option maxHeartbeats 1000000 in
theorem con_ref05_SaturateVec : c_ref05_SaturateVec.Ok Try.prog := by
  refine con_pure (C := [c_ref01_Saturate]) (pl := [(1, [0, 1, 2, 3, 4, 5, 6, 7], [0, 1, 3, 0, 8, 31, 63, 127])]) Try.func25 rfl (by kernel_rfl) T_ok (Cons.cons con_ref01_Saturate (Cons.nil _)) mixed (by kernel_rfl) _ _ _ (fun l hl hpre => ?_)
  match l, hl with
  | [a, b], _ =>
    repeat' (first | (with_reducible refine And.intro ?_ ?_) | (with_reducible intro h) | ((fail_if_success (with_reducible refine Leaf.mk ?_)); (fail_if_success (with_reducible refine VC.mk ?_)); (fail_if_success (with_reducible refine Goes.mk ?_)); (fail_if_success (with_reducible refine Again.mk ?_)); (fail_if_success (with_reducible refine Rounds.mk ?_)); (fail_if_success (with_reducible show False)); (fail_if_success (with_reducible show True)); conv => whnf))
    all_goals first | (refine VC.mk ?_; simp only [InR]; omega) | exact ⟨rfl⟩
end Go.Proofs.Ytbichdbapkpjpaa
