/- The walk of caromlaw28.ConstraintSolve. -/
import Derived.Test.YtapbegcmdiemoaaD4
import Derived.Test.YtapbegcmdiemoaaFs
namespace Go.Proofs.Ytapbegcmdiemoaa
open Go.RowKit Fx Vx Ev
set_option linter.unusedVariables false
set_option linter.unusedSimpArgs false

def c_law_ConstraintSolve : Con := ⟨4, rowRun [.rows 14, .num 0, .rows 5] (fun l R => match l, R with | [i], [xs, ys] => [∀ x ∈ xs, x.length = 14, ∀ x ∈ ys, x.length = 5] | _, _ => [False]) fun l R => match l, R with
  | [i], [xs, ys] => .bool true
  | _, _ => .any⟩
set_option maxRecDepth 100000 in
set_option maxHeartbeats 8000000 in
theorem con_law_ConstraintSolve : c_law_ConstraintSolve.Ok Try.prog := by
  refine con_rows (C := [c_law28_few, c_constraint_Solve, c_ref28_Solve, c_constraint_Bounds, c_ref28_Bounds, c_ref28_Rows, c_ref28_SolverBodies, c_law28_example]) (pl := []) Try.func4 rfl (by kernel_rfl) T_ok (Cons.cons con_law28_few (Cons.cons con_constraint_Solve (Cons.cons con_ref28_Solve (Cons.cons con_constraint_Bounds (Cons.cons con_ref28_Bounds (Cons.cons con_ref28_Rows (Cons.cons con_ref28_SolverBodies (Cons.cons con_law28_example (Cons.nil _))))))))) mixed (by kernel_rfl) _ _ _ (fun l R hl hR hn hpre => ?_)
  match l, hl, R, hR with
  | [i], zl, [(true, xs), (true, ys)], zr =>
    clear zl zr
    obtain rfl : xs = [] := hn _ (List.Mem.head _) rfl
    obtain rfl : ys = [] := hn _ (List.Mem.tail _ (List.Mem.head _)) rfl
    have hp0 := hpre _ (List.Mem.head _); try dsimp only at hp0
    have hp1 := hpre _ (List.Mem.tail _ (List.Mem.head _)); try dsimp only at hp1
    repeat' (first | (with_reducible refine And.intro ?_ ?_) | (with_reducible intro h) | ((fail_if_success (with_reducible refine Leaf.mk ?_)); (fail_if_success (with_reducible refine VC.mk ?_)); (fail_if_success (with_reducible refine Goes.mk ?_)); (fail_if_success (with_reducible refine Again.mk ?_)); (fail_if_success (with_reducible refine Rounds.mk ?_)); (fail_if_success (with_reducible show False)); (fail_if_success (with_reducible show True)); conv => whnf))
    all_goals try simp only [decide_eq_true_eq, decide_eq_false_iff_not, tkA, tkL, Nat.zero_add, Nat.reduceAdd, Int.toNat_natCast, List.take_nil, List.nil_append] at *
    all_goals try simp only [Bool.not_eq_true', Bool.not_eq_false', Bool.and_eq_true, Bool.and_eq_false_imp, decide_eq_true_eq, decide_eq_false_iff_not] at *
    all_goals try first | exact trivial | (show False; omega) | exact Leaf.mk trivial | exact Leaf.mk rfl | (refine VC.mk ?_; first | trivial | assumption | ((try simp only [InR, decide_eq_true_eq, decide_eq_false_iff_not] at *); omega) | (simp; done))
    all_goals try (refine VC.mk ?_; first | trivial | (first | assumption | exact wf_nil _ | exact solR_wf (by assumption) _ _ | exact solB_wf (by assumption) _ _ | exact solR_wf (wf_nil _) _ _ | exact solB_wf (wf_nil _) _ _) | (simp only [solR_len, solB_len, List.length_nil] at *; omega) | (simp only [solR_len, solB_len, List.length_nil, decide_eq_true_eq, decide_eq_false_iff_not] at *; omega) | (simp; done))
    all_goals (refine Leaf.mk ?_; exfalso; simp only [eq_self, not_true_eq_false] at *; done)
  | [i], zl, [(true, xs), (false, ys)], zr =>
    clear zl zr
    obtain rfl : xs = [] := hn _ (List.Mem.head _) rfl
    have hp0 := hpre _ (List.Mem.head _); try dsimp only at hp0
    have hp1 := hpre _ (List.Mem.tail _ (List.Mem.head _)); try dsimp only at hp1
    repeat' (first | (with_reducible refine And.intro ?_ ?_) | (with_reducible intro h) | ((fail_if_success (with_reducible refine Leaf.mk ?_)); (fail_if_success (with_reducible refine VC.mk ?_)); (fail_if_success (with_reducible refine Goes.mk ?_)); (fail_if_success (with_reducible refine Again.mk ?_)); (fail_if_success (with_reducible refine Rounds.mk ?_)); (fail_if_success (with_reducible show False)); (fail_if_success (with_reducible show True)); conv => whnf))
    all_goals try simp only [decide_eq_true_eq, decide_eq_false_iff_not, tkA, tkL, Nat.zero_add, Nat.reduceAdd, Int.toNat_natCast, List.take_nil, List.nil_append] at *
    all_goals try simp only [Bool.not_eq_true', Bool.not_eq_false', Bool.and_eq_true, Bool.and_eq_false_imp, decide_eq_true_eq, decide_eq_false_iff_not] at *
    all_goals try first | exact trivial | (show False; omega) | exact Leaf.mk trivial | exact Leaf.mk rfl | (refine VC.mk ?_; first | trivial | assumption | ((try simp only [InR, decide_eq_true_eq, decide_eq_false_iff_not] at *); omega) | (simp; done))
    all_goals try (refine VC.mk ?_; first | trivial | (first | assumption | exact wf_nil _ | exact solR_wf (by assumption) _ _ | exact solB_wf (by assumption) _ _ | exact solR_wf (wf_nil _) _ _ | exact solB_wf (wf_nil _) _ _) | (simp only [solR_len, solB_len, List.length_nil] at *; omega) | (simp only [solR_len, solB_len, List.length_nil, decide_eq_true_eq, decide_eq_false_iff_not] at *; omega) | (simp; done))
    all_goals (refine Leaf.mk ?_; exfalso; simp only [eq_self, not_true_eq_false] at *; done)
  | [i], zl, [(false, xs), (true, ys)], zr =>
    clear zl zr
    obtain rfl : ys = [] := hn _ (List.Mem.tail _ (List.Mem.head _)) rfl
    have hp0 := hpre _ (List.Mem.head _); try dsimp only at hp0
    have hp1 := hpre _ (List.Mem.tail _ (List.Mem.head _)); try dsimp only at hp1
    repeat' (first | (with_reducible refine And.intro ?_ ?_) | (with_reducible intro h) | ((fail_if_success (with_reducible refine Leaf.mk ?_)); (fail_if_success (with_reducible refine VC.mk ?_)); (fail_if_success (with_reducible refine Goes.mk ?_)); (fail_if_success (with_reducible refine Again.mk ?_)); (fail_if_success (with_reducible refine Rounds.mk ?_)); (fail_if_success (with_reducible show False)); (fail_if_success (with_reducible show True)); conv => whnf))
    all_goals try simp only [decide_eq_true_eq, decide_eq_false_iff_not, tkA, tkL, Nat.zero_add, Nat.reduceAdd, Int.toNat_natCast, List.take_nil, List.nil_append] at *
    all_goals try simp only [Bool.not_eq_true', Bool.not_eq_false', Bool.and_eq_true, Bool.and_eq_false_imp, decide_eq_true_eq, decide_eq_false_iff_not] at *
    all_goals try first | exact trivial | (show False; omega) | exact Leaf.mk trivial | exact Leaf.mk rfl | (refine VC.mk ?_; first | trivial | assumption | ((try simp only [InR, decide_eq_true_eq, decide_eq_false_iff_not] at *); omega) | (simp; done))
    all_goals try (refine VC.mk ?_; first | trivial | (first | assumption | exact wf_nil _ | exact solR_wf (by assumption) _ _ | exact solB_wf (by assumption) _ _ | exact solR_wf (wf_nil _) _ _ | exact solB_wf (wf_nil _) _ _) | (simp only [solR_len, solB_len, List.length_nil] at *; omega) | (simp only [solR_len, solB_len, List.length_nil, decide_eq_true_eq, decide_eq_false_iff_not] at *; omega) | (simp; done))
    all_goals (refine Leaf.mk ?_; exfalso; simp only [eq_self, not_true_eq_false] at *; done)
  | [i], zl, [(false, xs), (false, ys)], zr =>
    clear zl zr
    have hp0 := hpre _ (List.Mem.head _); try dsimp only at hp0
    have hp1 := hpre _ (List.Mem.tail _ (List.Mem.head _)); try dsimp only at hp1
    repeat' (first | (with_reducible refine And.intro ?_ ?_) | (with_reducible intro h) | ((fail_if_success (with_reducible refine Leaf.mk ?_)); (fail_if_success (with_reducible refine VC.mk ?_)); (fail_if_success (with_reducible refine Goes.mk ?_)); (fail_if_success (with_reducible refine Again.mk ?_)); (fail_if_success (with_reducible refine Rounds.mk ?_)); (fail_if_success (with_reducible show False)); (fail_if_success (with_reducible show True)); conv => whnf))
    all_goals try simp only [decide_eq_true_eq, decide_eq_false_iff_not, tkA, tkL, Nat.zero_add, Nat.reduceAdd, Int.toNat_natCast, List.take_nil, List.nil_append] at *
    all_goals try simp only [Bool.not_eq_true', Bool.not_eq_false', Bool.and_eq_true, Bool.and_eq_false_imp, decide_eq_true_eq, decide_eq_false_iff_not] at *
    all_goals try first | exact trivial | (show False; omega) | exact Leaf.mk trivial | exact Leaf.mk rfl | (refine VC.mk ?_; first | trivial | assumption | ((try simp only [InR, decide_eq_true_eq, decide_eq_false_iff_not] at *); omega) | (simp; done))
    all_goals try (refine VC.mk ?_; first | trivial | (first | assumption | exact wf_nil _ | exact solR_wf (by assumption) _ _ | exact solB_wf (by assumption) _ _ | exact solR_wf (wf_nil _) _ _ | exact solB_wf (wf_nil _) _ _) | (simp only [solR_len, solB_len, List.length_nil] at *; omega) | (simp only [solR_len, solB_len, List.length_nil, decide_eq_true_eq, decide_eq_false_iff_not] at *; omega) | (simp; done))
    all_goals (refine Leaf.mk ?_; exfalso; simp only [eq_self, not_true_eq_false] at *; done)

theorem walk_ConstraintSolve (i : Int) (bxs : Bool) (xs : List (List Int)) (bys : Bool) (ys : List (List Int)) (w : World) (m : Ev.Map) (vxs vys : Value) (nxs : bxs = true → xs = []) (nys : bys = true → ys = []) (fxs : ∀ x ∈ xs, x.length = 14 ∧ ∀ y ∈ x, -9223372036854775808 ≤ y ∧ y ≤ 9223372036854775807) (fys : ∀ x ∈ ys, x.length = 5 ∧ ∀ y ∈ x, -9223372036854775808 ≤ y ∧ y ≤ 9223372036854775807) (dxs : Den m (rowArg bxs 0 14 xs) vxs ∧ BlkH m 0 w (.arr false (!bxs) 14 xs)) (dys : Den m (rowArg bys 1 5 ys) vys ∧ BlkH m 1 w (.arr false (!bys) 5 ys)) :
    Calls Try.prog 4 #[vxs, .int .i64 i, vys] w fun e w' => e = .returned (.bool true) ∧ Below w.heap.size w w' := by
  cases bxs with
  | false =>
    cases bys with
    | false =>
      exact Frame.calls_rows con_law_ConstraintSolve [rowArg false 0 14 xs, .int .i64 i, rowArg false 1 5 ys] (fun id => match id with | 0 => .arr false true 14 xs | 1 => .arr false true 5 ys | _ => .dead) [i] _ _ [vxs, .int .i64 i, vys] rfl (by simp [appP]) (List.forall_mem_cons.2 ⟨fun x hx => (fxs x (mem_tk hx)).1, (List.forall_mem_cons.2 ⟨fun x hx => (fys x (mem_tk hx)).1, (List.forall_mem_nil _)⟩)⟩) m w ⟨dxs.1, rfl, dys.1, trivial⟩ (fun id => by match id with | 0 => exact dxs.2 | 1 => exact dys.2 | _ + 2 => trivial) (fun id => by match id with | 0 => rfl | 1 => rfl | _ + 2 => rfl) rfl
    | true =>
      obtain rfl := nys rfl
      exact Frame.calls_rows con_law_ConstraintSolve [rowArg false 0 14 xs, .int .i64 i, rowArg true 1 5 []] (fun id => match id with | 0 => .arr false true 14 xs | 1 => .arr false false 5 [] | _ => .dead) [i] _ _ [vxs, .int .i64 i, vys] rfl (by simp [appP]) (List.forall_mem_cons.2 ⟨fun x hx => (fxs x (mem_tk hx)).1, (List.forall_mem_cons.2 ⟨fun x hx => (by cases hx), (List.forall_mem_nil _)⟩)⟩) m w ⟨dxs.1, rfl, dys.1, trivial⟩ (fun id => by match id with | 0 => exact dxs.2 | 1 => exact dys.2 | _ + 2 => trivial) (fun id => by match id with | 0 => rfl | 1 => rfl | _ + 2 => rfl) rfl
  | true =>
    obtain rfl := nxs rfl
    cases bys with
    | false =>
      exact Frame.calls_rows con_law_ConstraintSolve [rowArg true 0 14 [], .int .i64 i, rowArg false 1 5 ys] (fun id => match id with | 0 => .arr false false 14 [] | 1 => .arr false true 5 ys | _ => .dead) [i] _ _ [vxs, .int .i64 i, vys] rfl (by simp [appP]) (List.forall_mem_cons.2 ⟨fun x hx => (by cases hx), (List.forall_mem_cons.2 ⟨fun x hx => (fys x (mem_tk hx)).1, (List.forall_mem_nil _)⟩)⟩) m w ⟨dxs.1, rfl, dys.1, trivial⟩ (fun id => by match id with | 0 => exact dxs.2 | 1 => exact dys.2 | _ + 2 => trivial) (fun id => by match id with | 0 => rfl | 1 => rfl | _ + 2 => rfl) rfl
    | true =>
      obtain rfl := nys rfl
      exact Frame.calls_rows con_law_ConstraintSolve [rowArg true 0 14 [], .int .i64 i, rowArg true 1 5 []] (fun id => match id with | 0 => .arr false false 14 [] | 1 => .arr false false 5 [] | _ => .dead) [i] _ _ [vxs, .int .i64 i, vys] rfl (by simp [appP]) (List.forall_mem_cons.2 ⟨fun x hx => (by cases hx), (List.forall_mem_cons.2 ⟨fun x hx => (by cases hx), (List.forall_mem_nil _)⟩)⟩) m w ⟨dxs.1, rfl, dys.1, trivial⟩ (fun id => by match id with | 0 => exact dxs.2 | 1 => exact dys.2 | _ + 2 => trivial) (fun id => by match id with | 0 => rfl | 1 => rfl | _ + 2 => rfl) rfl
end Go.Proofs.Ytapbegcmdiemoaa
