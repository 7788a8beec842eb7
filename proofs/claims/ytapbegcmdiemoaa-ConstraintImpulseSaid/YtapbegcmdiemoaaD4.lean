/- Plain facts of Solve; the example of caromlaw28. -/
import Derived.Test.YtapbegcmdiemoaaD3
import Derived.Test.YtapbegcmdiemoaaKc
namespace Go.Proofs.Ytapbegcmdiemoaa
open Go.RowKit Fx Vx Ev
set_option linter.unusedVariables false
set_option linter.unusedSimpArgs false


theorem solR_len (xs : List (List Int)) (i : Int) (ys : List (List Int)) : (solR xs i ys).length = xs.length := by
  unfold solR; split
  · exact upd2_len _ _ _ _
  · rfl
theorem solB_len (xs : List (List Int)) (i : Int) (ys : List (List Int)) : (solB xs i ys).length = ys.length := by
  unfold solB; split
  · exact ap_len _ _ _ _ _ _ _ _
  · rfl
theorem solR_wf {xs : List (List Int)} (h : wf 14 xs) (i : Int) (ys : List (List Int)) : wf 14 (solR xs i ys) := by
  unfold solR; split
  · exact upd2_wf h _ _ _
  · exact h
theorem solB_wf {ys : List (List Int)} (h : wf 5 ys) (xs : List (List Int)) (i : Int) : wf 5 (solB xs i ys) := by
  unfold solB; split
  · exact ap_wf h _ _ _ _ _ _ _
  · exact h
theorem wf_nil (e : Nat) : wf e [] := fun x hx => by cases hx

def c_law28_example : Con := ⟨16, pureRun [] (fun _ => []) fun | [] => .bool true | _ => .any⟩
set_option maxRecDepth 100000 in
set_option maxHeartbeats 1000000 in
theorem con_law28_example : c_law28_example.Ok Try.prog := by
  refine con_pure (C := [c_constraint_EffectiveMass, c_constraint_Solve, c_constraint_RelativeVelocity]) (pl := []) Try.func16 rfl (by kernel_rfl) T_ok (Cons.cons con_constraint_EffectiveMass (Cons.cons con_constraint_Solve (Cons.cons con_constraint_RelativeVelocity (Cons.nil _)))) mixed (by kernel_rfl) _ _ _ (fun l hl hpre => ?_)
  match l, hl with
  | [], _ =>
    repeat' (first | (with_reducible refine And.intro ?_ ?_) | (with_reducible intro h) | ((fail_if_success (with_reducible refine Leaf.mk ?_)); (fail_if_success (with_reducible refine VC.mk ?_)); (fail_if_success (with_reducible refine Goes.mk ?_)); (fail_if_success (with_reducible refine Again.mk ?_)); (fail_if_success (with_reducible refine Rounds.mk ?_)); (fail_if_success (with_reducible show False)); (fail_if_success (with_reducible show True)); conv => whnf))
    all_goals try exact trivial
    all_goals try (refine VC.mk ?_; first | decide | (simp [wf]; done) | (simp; done))
    all_goals first | exact ⟨by decide +kernel⟩ | (exfalso; revert ‹_ = false›; decide +kernel) | (refine Leaf.mk ?_; simp_all; done)

end Go.Proofs.Ytapbegcmdiemoaa
