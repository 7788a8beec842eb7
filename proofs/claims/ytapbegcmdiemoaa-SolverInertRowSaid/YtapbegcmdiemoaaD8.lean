/- The example and small of caromlaw35. -/
import Derived.Test.YtapbegcmdiemoaaD7
namespace Go.Proofs.Ytapbegcmdiemoaa
open Go.RowKit Fx Vx Ev
set_option linter.unusedVariables false
set_option linter.unusedSimpArgs false

def c_law35_small : Con := ⟨33, rowRun [.rows 14, .rows 5] (fun l R => match l, R with | [], [xs, ys] => [] | _, _ => [False]) fun l R => match l, R with
  | [], [xs, ys] => .bool (decide (xs.length ≤ 12) && decide (ys.length ≤ 8))
  | _, _ => .any⟩
set_option maxRecDepth 100000 in
set_option maxHeartbeats 2000000 in
theorem con_law35_small : c_law35_small.Ok Try.prog := by
  refine con_rows (C := []) (pl := []) Try.func33 rfl (by kernel_rfl) T_ok (Cons.nil _) mixed (by kernel_rfl) _ _ _ (fun l R hl hR hn hpre => ?_)
  match l, hl, R, hR with
  | [], zl, [(true, xs), (true, ys)], zr =>
    clear zl zr
    obtain rfl : xs = [] := hn _ (List.Mem.head _) rfl
    obtain rfl : ys = [] := hn _ (List.Mem.tail _ (List.Mem.head _)) rfl
    repeat' (first | (with_reducible refine And.intro ?_ ?_) | (with_reducible intro h) | ((fail_if_success (with_reducible refine Leaf.mk ?_)); (fail_if_success (with_reducible refine VC.mk ?_)); (fail_if_success (with_reducible refine Goes.mk ?_)); (fail_if_success (with_reducible refine Again.mk ?_)); (fail_if_success (with_reducible refine Rounds.mk ?_)); (fail_if_success (with_reducible show False)); (fail_if_success (with_reducible show True)); conv => whnf))
    all_goals try simp only [decide_eq_true_eq, decide_eq_false_iff_not, tkA, tkL, Nat.zero_add, Nat.reduceAdd, Int.toNat_natCast, List.take_nil, List.nil_append] at *
    all_goals try first | exact trivial | (show False; omega) | exact Leaf.mk trivial | exact Leaf.mk rfl | (refine VC.mk ?_; first | trivial | assumption | ((try simp only [InR, decide_eq_true_eq, decide_eq_false_iff_not] at *); omega) | (simp; done))
    all_goals (refine Leaf.mk ?_; rw [Bool.eq_iff_iff]; simp only [Bool.and_eq_true, Bool.true_eq_false, Bool.false_eq_true, false_iff, true_iff, decide_eq_true_eq, List.length_nil, decide_eq_false_iff_not] at *; omega)
  | [], zl, [(true, xs), (false, ys)], zr =>
    clear zl zr
    obtain rfl : xs = [] := hn _ (List.Mem.head _) rfl
    repeat' (first | (with_reducible refine And.intro ?_ ?_) | (with_reducible intro h) | ((fail_if_success (with_reducible refine Leaf.mk ?_)); (fail_if_success (with_reducible refine VC.mk ?_)); (fail_if_success (with_reducible refine Goes.mk ?_)); (fail_if_success (with_reducible refine Again.mk ?_)); (fail_if_success (with_reducible refine Rounds.mk ?_)); (fail_if_success (with_reducible show False)); (fail_if_success (with_reducible show True)); conv => whnf))
    all_goals try simp only [decide_eq_true_eq, decide_eq_false_iff_not, tkA, tkL, Nat.zero_add, Nat.reduceAdd, Int.toNat_natCast, List.take_nil, List.nil_append] at *
    all_goals try first | exact trivial | (show False; omega) | exact Leaf.mk trivial | exact Leaf.mk rfl | (refine VC.mk ?_; first | trivial | assumption | ((try simp only [InR, decide_eq_true_eq, decide_eq_false_iff_not] at *); omega) | (simp; done))
    all_goals (refine Leaf.mk ?_; rw [Bool.eq_iff_iff]; simp only [Bool.and_eq_true, Bool.true_eq_false, Bool.false_eq_true, false_iff, true_iff, decide_eq_true_eq, List.length_nil, decide_eq_false_iff_not] at *; omega)
  | [], zl, [(false, xs), (true, ys)], zr =>
    clear zl zr
    obtain rfl : ys = [] := hn _ (List.Mem.tail _ (List.Mem.head _)) rfl
    repeat' (first | (with_reducible refine And.intro ?_ ?_) | (with_reducible intro h) | ((fail_if_success (with_reducible refine Leaf.mk ?_)); (fail_if_success (with_reducible refine VC.mk ?_)); (fail_if_success (with_reducible refine Goes.mk ?_)); (fail_if_success (with_reducible refine Again.mk ?_)); (fail_if_success (with_reducible refine Rounds.mk ?_)); (fail_if_success (with_reducible show False)); (fail_if_success (with_reducible show True)); conv => whnf))
    all_goals try simp only [decide_eq_true_eq, decide_eq_false_iff_not, tkA, tkL, Nat.zero_add, Nat.reduceAdd, Int.toNat_natCast, List.take_nil, List.nil_append] at *
    all_goals try first | exact trivial | (show False; omega) | exact Leaf.mk trivial | exact Leaf.mk rfl | (refine VC.mk ?_; first | trivial | assumption | ((try simp only [InR, decide_eq_true_eq, decide_eq_false_iff_not] at *); omega) | (simp; done))
    all_goals (refine Leaf.mk ?_; rw [Bool.eq_iff_iff]; simp only [Bool.and_eq_true, Bool.true_eq_false, Bool.false_eq_true, false_iff, true_iff, decide_eq_true_eq, List.length_nil, decide_eq_false_iff_not] at *; omega)
  | [], zl, [(false, xs), (false, ys)], zr =>
    clear zl zr
    repeat' (first | (with_reducible refine And.intro ?_ ?_) | (with_reducible intro h) | ((fail_if_success (with_reducible refine Leaf.mk ?_)); (fail_if_success (with_reducible refine VC.mk ?_)); (fail_if_success (with_reducible refine Goes.mk ?_)); (fail_if_success (with_reducible refine Again.mk ?_)); (fail_if_success (with_reducible refine Rounds.mk ?_)); (fail_if_success (with_reducible show False)); (fail_if_success (with_reducible show True)); conv => whnf))
    all_goals try simp only [decide_eq_true_eq, decide_eq_false_iff_not, tkA, tkL, Nat.zero_add, Nat.reduceAdd, Int.toNat_natCast, List.take_nil, List.nil_append] at *
    all_goals try first | exact trivial | (show False; omega) | exact Leaf.mk trivial | exact Leaf.mk rfl | (refine VC.mk ?_; first | trivial | assumption | ((try simp only [InR, decide_eq_true_eq, decide_eq_false_iff_not] at *); omega) | (simp; done))
    all_goals (refine Leaf.mk ?_; rw [Bool.eq_iff_iff]; simp only [Bool.and_eq_true, Bool.true_eq_false, Bool.false_eq_true, false_iff, true_iff, decide_eq_true_eq, List.length_nil, decide_eq_false_iff_not] at *; omega)
def c_law35_example : Con := ⟨34, pureRun [] (fun _ => []) fun | [] => .bool true | _ => .any⟩
set_option maxRecDepth 100000 in
set_option maxHeartbeats 1000000 in
theorem con_law35_example : c_law35_example.Ok Try.prog := by
  refine con_pure (C := [c_solver_Solve, c_constraint_Solve, c_ref29_EqualRows, c_ref35_EqualBodies, c_solver_MaxResidual]) (pl := []) Try.func34 rfl (by kernel_rfl) T_ok (Cons.cons con_solver_Solve (Cons.cons con_constraint_Solve (Cons.cons con_ref29_EqualRows (Cons.cons con_ref35_EqualBodies (Cons.cons con_solver_MaxResidual (Cons.nil _)))))) mixed (by kernel_rfl) _ _ _ (fun l hl hpre => ?_)
  match l, hl with
  | [], _ =>
    repeat' (first | (with_reducible refine And.intro ?_ ?_) | (with_reducible intro h) | ((fail_if_success (with_reducible refine Leaf.mk ?_)); (fail_if_success (with_reducible refine VC.mk ?_)); (fail_if_success (with_reducible refine Goes.mk ?_)); (fail_if_success (with_reducible refine Again.mk ?_)); (fail_if_success (with_reducible refine Rounds.mk ?_)); (fail_if_success (with_reducible show False)); (fail_if_success (with_reducible show True)); conv => whnf))
    all_goals try exact trivial
    all_goals try (refine VC.mk ?_; first | decide | (simp [wf]; done) | decide +kernel | (intro x hx; revert x; decide +kernel) | (simp; done))
    all_goals try (first | exact ⟨by decide +kernel⟩ | (exfalso; revert ‹_ = false›; decide +kernel))

end Go.Proofs.Ytapbegcmdiemoaa
