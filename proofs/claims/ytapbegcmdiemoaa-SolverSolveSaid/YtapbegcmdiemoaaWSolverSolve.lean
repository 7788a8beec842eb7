/- The walk of caromlaw35.SolverSolve. -/
import Derived.Test.YtapbegcmdiemoaaD8
import Derived.Test.YtapbegcmdiemoaaDA
import Derived.Test.YtapbegcmdiemoaaFs
namespace Go.Proofs.Ytapbegcmdiemoaa
open Go.RowKit Fx Vx Ev
set_option linter.unusedVariables false
set_option linter.unusedSimpArgs false

theorem itN_zero (xs ys : List (List Int)) : itN xs ys 0 = (xs, ys) := rfl
theorem wsN_zero (xs ys : List (List Int)) : wsN xs ys 0 = ys := rfl
theorem clN_zero (xs : List (List Int)) : clN xs 0 = xs := rfl
theorem seN_zero (xs ys : List (List Int)) : seN xs ys 0 = (clN xs xs.length, wsN (clN xs xs.length) ys xs.length) := rfl
theorem seN_nil (ys : List (List Int)) : ∀ k, seN [] ys k = ([], ys)
  | 0 => rfl
  | k + 1 => by rw [seN, seN_nil ys k]; rfl

def c_law_SolverSolve0 : Con := ⟨11, rowRun [.rows 14, .rows 5, .num 0] (fun l R => match l, R with | [n], [xs, ys] => [∀ x ∈ xs, x.length = 14, ∀ x ∈ ys, x.length = 5, xs.length = 0] | _, _ => [False]) fun l R => match l, R with
  | [n], [xs, ys] => .bool true
  | _, _ => .any⟩
attribute [local irreducible] seN itA itC itN wsN clN solR solB
set_option maxRecDepth 100000 in
set_option maxHeartbeats 8000000 in
theorem con_law_SolverSolve0 : c_law_SolverSolve0.Ok Try.prog := by
  refine con_rows (C := [c_law35_small, c_solver_Solve, c_ref35_Solve0, c_ref29_EqualRows, c_ref35_EqualBodies, c_law35_example]) (pl := []) Try.func11 rfl (by kernel_rfl) T_ok (Cons.cons con_law35_small (Cons.cons con_solver_Solve (Cons.cons con_ref35_Solve0 (Cons.cons con_ref29_EqualRows (Cons.cons con_ref35_EqualBodies (Cons.cons con_law35_example (Cons.nil _))))))) mixed (by kernel_rfl) _ _ _ (fun l R hl hR hn hpre => ?_)
  match l, hl, R, hR with
  | [n], zl, [(true, xs), (true, ys)], zr =>
    clear zl zr
    obtain rfl : xs = [] := hn _ (List.Mem.head _) rfl
    obtain rfl : ys = [] := hn _ (List.Mem.tail _ (List.Mem.head _)) rfl
    have hp0 := hpre _ (List.Mem.head _); try dsimp only at hp0
    have hp1 := hpre _ (List.Mem.tail _ (List.Mem.head _)); try dsimp only at hp1
    have hp2 := hpre _ (List.Mem.tail _ (List.Mem.tail _ (List.Mem.head _))); try dsimp only at hp2
    have e0 := hp2
    repeat' (first | (with_reducible refine And.intro ?_ ?_) | (with_reducible intro h) | ((fail_if_success (with_reducible refine Leaf.mk ?_)); (fail_if_success (with_reducible refine VC.mk ?_)); (fail_if_success (with_reducible refine Goes.mk ?_)); (fail_if_success (with_reducible refine Again.mk ?_)); (fail_if_success (with_reducible refine Rounds.mk ?_)); (fail_if_success (with_reducible show False)); (fail_if_success (with_reducible show True)); conv => whnf))
    all_goals try simp only [decide_eq_true_eq, decide_eq_false_iff_not, tkA, tkL, Nat.zero_add, Nat.reduceAdd, Int.toNat_natCast, List.take_nil, List.nil_append] at *
    all_goals try simp only [Bool.not_eq_true', Bool.not_eq_false', Bool.and_eq_true, Bool.and_eq_false_imp, decide_eq_true_eq, decide_eq_false_iff_not] at *
    all_goals try simp only [tkL, tkc, tkw, tki, tkj, tks, tkt, clN_len, wsN_len, ap_len, solR_len, solB_len, itN_len1, itN_len2, seN_len1, seN_len2, Nat.zero_add] at *
    all_goals try first | exact trivial | (show False; omega) | exact Leaf.mk trivial | exact Leaf.mk rfl | (refine VC.mk ?_; first | trivial | assumption | ((try simp only [InR, decide_eq_true_eq, decide_eq_false_iff_not] at *); omega) | (simp; done))
    all_goals try (refine VC.mk ?_; first | trivial | (first | assumption | exact wf_nil _ | exact wsN_wf _ (by first | assumption | exact wf_nil _) _ | exact clN_wf (by first | assumption | exact wf_nil _) _ | exact (itN_wf (by first | assumption | exact wf_nil _) (by first | assumption | exact wf_nil _) _).1 | exact (itN_wf (by first | assumption | exact wf_nil _) (by first | assumption | exact wf_nil _) _).2 | exact (seN_wf (by first | assumption | exact wf_nil _) (by first | assumption | exact wf_nil _) _).1 | exact (seN_wf (by first | assumption | exact wf_nil _) (by first | assumption | exact wf_nil _) _).2) | (simp only [List.length_nil] at *; omega) | omega | (generalize decide _ = bb; cases bb <;> simp) | (intro hh; generalize decide _ = bb at *; cases bb <;> simp_all) | (simp; done))
    all_goals try (refine VC.mk ?_; first | omega | (generalize decide _ = bb; cases bb <;> simp) | (simp; omega) | (simp; done))
    all_goals try (refine Leaf.mk ?_; exfalso; first | (simp only [eq_self, not_true_eq_false] at *; done) | exact absurd rfl (by assumption) | (simp only [List.length_nil, itN_zero, wsN_zero, clN_zero, seN_zero, seN_nil, eq_self, not_true_eq_false] at *; done))
  | [n], zl, [(true, xs), (false, ys)], zr =>
    clear zl zr
    obtain rfl : xs = [] := hn _ (List.Mem.head _) rfl
    have hp0 := hpre _ (List.Mem.head _); try dsimp only at hp0
    have hp1 := hpre _ (List.Mem.tail _ (List.Mem.head _)); try dsimp only at hp1
    have hp2 := hpre _ (List.Mem.tail _ (List.Mem.tail _ (List.Mem.head _))); try dsimp only at hp2
    have e0 := hp2
    repeat' (first | (with_reducible refine And.intro ?_ ?_) | (with_reducible intro h) | ((fail_if_success (with_reducible refine Leaf.mk ?_)); (fail_if_success (with_reducible refine VC.mk ?_)); (fail_if_success (with_reducible refine Goes.mk ?_)); (fail_if_success (with_reducible refine Again.mk ?_)); (fail_if_success (with_reducible refine Rounds.mk ?_)); (fail_if_success (with_reducible show False)); (fail_if_success (with_reducible show True)); conv => whnf))
    all_goals try simp only [decide_eq_true_eq, decide_eq_false_iff_not, tkA, tkL, Nat.zero_add, Nat.reduceAdd, Int.toNat_natCast, List.take_nil, List.nil_append] at *
    all_goals try simp only [Bool.not_eq_true', Bool.not_eq_false', Bool.and_eq_true, Bool.and_eq_false_imp, decide_eq_true_eq, decide_eq_false_iff_not] at *
    all_goals try simp only [tkL, tkc, tkw, tki, tkj, tks, tkt, clN_len, wsN_len, ap_len, solR_len, solB_len, itN_len1, itN_len2, seN_len1, seN_len2, Nat.zero_add] at *
    all_goals try first | exact trivial | (show False; omega) | exact Leaf.mk trivial | exact Leaf.mk rfl | (refine VC.mk ?_; first | trivial | assumption | ((try simp only [InR, decide_eq_true_eq, decide_eq_false_iff_not] at *); omega) | (simp; done))
    all_goals try (refine VC.mk ?_; first | trivial | (first | assumption | exact wf_nil _ | exact wsN_wf _ (by first | assumption | exact wf_nil _) _ | exact clN_wf (by first | assumption | exact wf_nil _) _ | exact (itN_wf (by first | assumption | exact wf_nil _) (by first | assumption | exact wf_nil _) _).1 | exact (itN_wf (by first | assumption | exact wf_nil _) (by first | assumption | exact wf_nil _) _).2 | exact (seN_wf (by first | assumption | exact wf_nil _) (by first | assumption | exact wf_nil _) _).1 | exact (seN_wf (by first | assumption | exact wf_nil _) (by first | assumption | exact wf_nil _) _).2) | (simp only [List.length_nil] at *; omega) | omega | (generalize decide _ = bb; cases bb <;> simp) | (intro hh; generalize decide _ = bb at *; cases bb <;> simp_all) | (simp; done))
    all_goals try (refine VC.mk ?_; first | omega | (generalize decide _ = bb; cases bb <;> simp) | (simp; omega) | (simp; done))
    all_goals try (refine Leaf.mk ?_; exfalso; first | (simp only [eq_self, not_true_eq_false] at *; done) | exact absurd rfl (by assumption) | (simp only [List.length_nil, itN_zero, wsN_zero, clN_zero, seN_zero, seN_nil, eq_self, not_true_eq_false] at *; done))
  | [n], zl, [(false, xs), (true, ys)], zr =>
    clear zl zr
    obtain rfl : ys = [] := hn _ (List.Mem.tail _ (List.Mem.head _)) rfl
    have hp0 := hpre _ (List.Mem.head _); try dsimp only at hp0
    have hp1 := hpre _ (List.Mem.tail _ (List.Mem.head _)); try dsimp only at hp1
    have hp2 := hpre _ (List.Mem.tail _ (List.Mem.tail _ (List.Mem.head _))); try dsimp only at hp2
    have e0 := hp2
    obtain rfl : xs = [] := List.eq_nil_of_length_eq_zero hp2
    repeat' (first | (with_reducible refine And.intro ?_ ?_) | (with_reducible intro h) | ((fail_if_success (with_reducible refine Leaf.mk ?_)); (fail_if_success (with_reducible refine VC.mk ?_)); (fail_if_success (with_reducible refine Goes.mk ?_)); (fail_if_success (with_reducible refine Again.mk ?_)); (fail_if_success (with_reducible refine Rounds.mk ?_)); (fail_if_success (with_reducible show False)); (fail_if_success (with_reducible show True)); conv => whnf))
    all_goals try simp only [decide_eq_true_eq, decide_eq_false_iff_not, tkA, tkL, Nat.zero_add, Nat.reduceAdd, Int.toNat_natCast, List.take_nil, List.nil_append] at *
    all_goals try simp only [Bool.not_eq_true', Bool.not_eq_false', Bool.and_eq_true, Bool.and_eq_false_imp, decide_eq_true_eq, decide_eq_false_iff_not] at *
    all_goals try simp only [tkL, tkc, tkw, tki, tkj, tks, tkt, clN_len, wsN_len, ap_len, solR_len, solB_len, itN_len1, itN_len2, seN_len1, seN_len2, Nat.zero_add] at *
    all_goals try first | exact trivial | (show False; omega) | exact Leaf.mk trivial | exact Leaf.mk rfl | (refine VC.mk ?_; first | trivial | assumption | ((try simp only [InR, decide_eq_true_eq, decide_eq_false_iff_not] at *); omega) | (simp; done))
    all_goals try (refine VC.mk ?_; first | trivial | (first | assumption | exact wf_nil _ | exact wsN_wf _ (by first | assumption | exact wf_nil _) _ | exact clN_wf (by first | assumption | exact wf_nil _) _ | exact (itN_wf (by first | assumption | exact wf_nil _) (by first | assumption | exact wf_nil _) _).1 | exact (itN_wf (by first | assumption | exact wf_nil _) (by first | assumption | exact wf_nil _) _).2 | exact (seN_wf (by first | assumption | exact wf_nil _) (by first | assumption | exact wf_nil _) _).1 | exact (seN_wf (by first | assumption | exact wf_nil _) (by first | assumption | exact wf_nil _) _).2) | (simp only [List.length_nil] at *; omega) | omega | (generalize decide _ = bb; cases bb <;> simp) | (intro hh; generalize decide _ = bb at *; cases bb <;> simp_all) | (simp; done))
    all_goals try (refine VC.mk ?_; first | omega | (generalize decide _ = bb; cases bb <;> simp) | (simp; omega) | (simp; done))
    all_goals try (refine Leaf.mk ?_; exfalso; first | (simp only [eq_self, not_true_eq_false] at *; done) | exact absurd rfl (by assumption) | (simp only [List.length_nil, itN_zero, wsN_zero, clN_zero, seN_zero, seN_nil, eq_self, not_true_eq_false] at *; done))
  | [n], zl, [(false, xs), (false, ys)], zr =>
    clear zl zr
    have hp0 := hpre _ (List.Mem.head _); try dsimp only at hp0
    have hp1 := hpre _ (List.Mem.tail _ (List.Mem.head _)); try dsimp only at hp1
    have hp2 := hpre _ (List.Mem.tail _ (List.Mem.tail _ (List.Mem.head _))); try dsimp only at hp2
    have e0 := hp2
    obtain rfl : xs = [] := List.eq_nil_of_length_eq_zero hp2
    repeat' (first | (with_reducible refine And.intro ?_ ?_) | (with_reducible intro h) | ((fail_if_success (with_reducible refine Leaf.mk ?_)); (fail_if_success (with_reducible refine VC.mk ?_)); (fail_if_success (with_reducible refine Goes.mk ?_)); (fail_if_success (with_reducible refine Again.mk ?_)); (fail_if_success (with_reducible refine Rounds.mk ?_)); (fail_if_success (with_reducible show False)); (fail_if_success (with_reducible show True)); conv => whnf))
    all_goals try simp only [decide_eq_true_eq, decide_eq_false_iff_not, tkA, tkL, Nat.zero_add, Nat.reduceAdd, Int.toNat_natCast, List.take_nil, List.nil_append] at *
    all_goals try simp only [Bool.not_eq_true', Bool.not_eq_false', Bool.and_eq_true, Bool.and_eq_false_imp, decide_eq_true_eq, decide_eq_false_iff_not] at *
    all_goals try simp only [tkL, tkc, tkw, tki, tkj, tks, tkt, clN_len, wsN_len, ap_len, solR_len, solB_len, itN_len1, itN_len2, seN_len1, seN_len2, Nat.zero_add] at *
    all_goals try first | exact trivial | (show False; omega) | exact Leaf.mk trivial | exact Leaf.mk rfl | (refine VC.mk ?_; first | trivial | assumption | ((try simp only [InR, decide_eq_true_eq, decide_eq_false_iff_not] at *); omega) | (simp; done))
    all_goals try (refine VC.mk ?_; first | trivial | (first | assumption | exact wf_nil _ | exact wsN_wf _ (by first | assumption | exact wf_nil _) _ | exact clN_wf (by first | assumption | exact wf_nil _) _ | exact (itN_wf (by first | assumption | exact wf_nil _) (by first | assumption | exact wf_nil _) _).1 | exact (itN_wf (by first | assumption | exact wf_nil _) (by first | assumption | exact wf_nil _) _).2 | exact (seN_wf (by first | assumption | exact wf_nil _) (by first | assumption | exact wf_nil _) _).1 | exact (seN_wf (by first | assumption | exact wf_nil _) (by first | assumption | exact wf_nil _) _).2) | (simp only [List.length_nil] at *; omega) | omega | (generalize decide _ = bb; cases bb <;> simp) | (intro hh; generalize decide _ = bb at *; cases bb <;> simp_all) | (simp; done))
    all_goals try (refine VC.mk ?_; first | omega | (generalize decide _ = bb; cases bb <;> simp) | (simp; omega) | (simp; done))
    all_goals try (refine Leaf.mk ?_; exfalso; first | (simp only [eq_self, not_true_eq_false] at *; done) | exact absurd rfl (by assumption) | (simp only [List.length_nil, itN_zero, wsN_zero, clN_zero, seN_zero, seN_nil, eq_self, not_true_eq_false] at *; done))

theorem walk_SolverSolve0 (n : Int) (bxs : Bool) (xs : List (List Int)) (bys : Bool) (ys : List (List Int)) (w : World) (m : Ev.Map) (vxs vys : Value) (nxs : bxs = true → xs = []) (nys : bys = true → ys = []) (fxs : ∀ x ∈ xs, x.length = 14 ∧ ∀ y ∈ x, -9223372036854775808 ≤ y ∧ y ≤ 9223372036854775807) (fys : ∀ x ∈ ys, x.length = 5 ∧ ∀ y ∈ x, -9223372036854775808 ≤ y ∧ y ≤ 9223372036854775807) (dxs : Den m (rowArg bxs 0 14 xs) vxs ∧ BlkH m 0 w (.arr false (!bxs) 14 xs)) (dys : Den m (rowArg bys 1 5 ys) vys ∧ BlkH m 1 w (.arr false (!bys) 5 ys)) (e : xs.length = 0) :
    Calls Try.prog 11 #[vxs, vys, .int .i64 n] w fun e w' => e = .returned (.bool true) ∧ Below w.heap.size w w' := by
  cases bxs with
  | false =>
    cases bys with
    | false =>
      exact Frame.calls_rows con_law_SolverSolve0 [rowArg false 0 14 xs, rowArg false 1 5 ys, .int .i64 n] (fun id => match id with | 0 => .arr false true 14 xs | 1 => .arr false true 5 ys | _ => .dead) [n] _ _ [vxs, vys, .int .i64 n] rfl (by simp [appP]) (List.forall_mem_cons.2 ⟨fun x hx => (fxs x (mem_tk hx)).1, (List.forall_mem_cons.2 ⟨fun x hx => (fys x (mem_tk hx)).1, (List.forall_mem_cons.2 ⟨by first | (simp; done) | simpa using e, (List.forall_mem_nil _)⟩)⟩)⟩) m w ⟨dxs.1, dys.1, rfl, trivial⟩ (fun id => by match id with | 0 => exact dxs.2 | 1 => exact dys.2 | _ + 2 => trivial) (fun id => by match id with | 0 => rfl | 1 => rfl | _ + 2 => rfl) rfl
    | true =>
      obtain rfl := nys rfl
      exact Frame.calls_rows con_law_SolverSolve0 [rowArg false 0 14 xs, rowArg true 1 5 [], .int .i64 n] (fun id => match id with | 0 => .arr false true 14 xs | 1 => .arr false false 5 [] | _ => .dead) [n] _ _ [vxs, vys, .int .i64 n] rfl (by simp [appP]) (List.forall_mem_cons.2 ⟨fun x hx => (fxs x (mem_tk hx)).1, (List.forall_mem_cons.2 ⟨fun x hx => (by cases hx), (List.forall_mem_cons.2 ⟨by first | (simp; done) | simpa using e, (List.forall_mem_nil _)⟩)⟩)⟩) m w ⟨dxs.1, dys.1, rfl, trivial⟩ (fun id => by match id with | 0 => exact dxs.2 | 1 => exact dys.2 | _ + 2 => trivial) (fun id => by match id with | 0 => rfl | 1 => rfl | _ + 2 => rfl) rfl
  | true =>
    obtain rfl := nxs rfl
    cases bys with
    | false =>
      exact Frame.calls_rows con_law_SolverSolve0 [rowArg true 0 14 [], rowArg false 1 5 ys, .int .i64 n] (fun id => match id with | 0 => .arr false false 14 [] | 1 => .arr false true 5 ys | _ => .dead) [n] _ _ [vxs, vys, .int .i64 n] rfl (by simp [appP]) (List.forall_mem_cons.2 ⟨fun x hx => (by cases hx), (List.forall_mem_cons.2 ⟨fun x hx => (fys x (mem_tk hx)).1, (List.forall_mem_cons.2 ⟨by first | (simp; done) | simpa using e, (List.forall_mem_nil _)⟩)⟩)⟩) m w ⟨dxs.1, dys.1, rfl, trivial⟩ (fun id => by match id with | 0 => exact dxs.2 | 1 => exact dys.2 | _ + 2 => trivial) (fun id => by match id with | 0 => rfl | 1 => rfl | _ + 2 => rfl) rfl
    | true =>
      obtain rfl := nys rfl
      exact Frame.calls_rows con_law_SolverSolve0 [rowArg true 0 14 [], rowArg true 1 5 [], .int .i64 n] (fun id => match id with | 0 => .arr false false 14 [] | 1 => .arr false false 5 [] | _ => .dead) [n] _ _ [vxs, vys, .int .i64 n] rfl (by simp [appP]) (List.forall_mem_cons.2 ⟨fun x hx => (by cases hx), (List.forall_mem_cons.2 ⟨fun x hx => (by cases hx), (List.forall_mem_cons.2 ⟨by first | (simp; done) | simpa using e, (List.forall_mem_nil _)⟩)⟩)⟩) m w ⟨dxs.1, dys.1, rfl, trivial⟩ (fun id => by match id with | 0 => exact dxs.2 | 1 => exact dys.2 | _ + 2 => trivial) (fun id => by match id with | 0 => rfl | 1 => rfl | _ + 2 => rfl) rfl

def c_law_SolverSolve1 : Con := ⟨11, rowRun [.rows 14, .rows 5, .num 0] (fun l R => match l, R with | [n], [xs, ys] => [∀ x ∈ xs, x.length = 14, ∀ x ∈ ys, x.length = 5, 0 < xs.length] | _, _ => [False]) fun l R => match l, R with
  | [n], [xs, ys] => .bool true
  | _, _ => .any⟩
set_option maxRecDepth 100000 in
set_option maxHeartbeats 8000000 in
theorem con_law_SolverSolve1 : c_law_SolverSolve1.Ok Try.prog := by
  refine con_rows (C := [c_law35_small, c_solver_Solve, c_ref35_Solve, c_ref29_EqualRows, c_ref35_EqualBodies, c_law35_example]) (pl := []) Try.func11 rfl (by kernel_rfl) T_ok (Cons.cons con_law35_small (Cons.cons con_solver_Solve (Cons.cons con_ref35_Solve (Cons.cons con_ref29_EqualRows (Cons.cons con_ref35_EqualBodies (Cons.cons con_law35_example (Cons.nil _))))))) mixed (by kernel_rfl) _ _ _ (fun l R hl hR hn hpre => ?_)
  match l, hl, R, hR with
  | [n], zl, [(true, xs), (true, ys)], zr =>
    clear zl zr
    obtain rfl : xs = [] := hn _ (List.Mem.head _) rfl
    obtain rfl : ys = [] := hn _ (List.Mem.tail _ (List.Mem.head _)) rfl
    have hp0 := hpre _ (List.Mem.head _); try dsimp only at hp0
    have hp1 := hpre _ (List.Mem.tail _ (List.Mem.head _)); try dsimp only at hp1
    have hp2 := hpre _ (List.Mem.tail _ (List.Mem.tail _ (List.Mem.head _))); try dsimp only at hp2
    exact absurd hp2 (by simp)
  | [n], zl, [(true, xs), (false, ys)], zr =>
    clear zl zr
    obtain rfl : xs = [] := hn _ (List.Mem.head _) rfl
    have hp0 := hpre _ (List.Mem.head _); try dsimp only at hp0
    have hp1 := hpre _ (List.Mem.tail _ (List.Mem.head _)); try dsimp only at hp1
    have hp2 := hpre _ (List.Mem.tail _ (List.Mem.tail _ (List.Mem.head _))); try dsimp only at hp2
    exact absurd hp2 (by simp)
  | [n], zl, [(false, xs), (true, ys)], zr =>
    clear zl zr
    obtain rfl : ys = [] := hn _ (List.Mem.tail _ (List.Mem.head _)) rfl
    have hp0 := hpre _ (List.Mem.head _); try dsimp only at hp0
    have hp1 := hpre _ (List.Mem.tail _ (List.Mem.head _)); try dsimp only at hp1
    have hp2 := hpre _ (List.Mem.tail _ (List.Mem.tail _ (List.Mem.head _))); try dsimp only at hp2
    repeat' (first | (with_reducible refine And.intro ?_ ?_) | (with_reducible intro h) | ((fail_if_success (with_reducible refine Leaf.mk ?_)); (fail_if_success (with_reducible refine VC.mk ?_)); (fail_if_success (with_reducible refine Goes.mk ?_)); (fail_if_success (with_reducible refine Again.mk ?_)); (fail_if_success (with_reducible refine Rounds.mk ?_)); (fail_if_success (with_reducible show False)); (fail_if_success (with_reducible show True)); conv => whnf))
    all_goals try simp only [decide_eq_true_eq, decide_eq_false_iff_not, tkA, tkL, Nat.zero_add, Nat.reduceAdd, Int.toNat_natCast, List.take_nil, List.nil_append] at *
    all_goals try simp only [Bool.not_eq_true', Bool.not_eq_false', Bool.and_eq_true, Bool.and_eq_false_imp, decide_eq_true_eq, decide_eq_false_iff_not] at *
    all_goals try simp only [tkL, tkc, tkw, tki, tkj, tks, tkt, clN_len, wsN_len, ap_len, solR_len, solB_len, itN_len1, itN_len2, seN_len1, seN_len2, Nat.zero_add] at *
    all_goals try first | exact trivial | (show False; omega) | exact Leaf.mk trivial | exact Leaf.mk rfl | (refine VC.mk ?_; first | trivial | assumption | ((try simp only [InR, decide_eq_true_eq, decide_eq_false_iff_not] at *); omega) | (simp; done))
    all_goals try (refine VC.mk ?_; first | trivial | (first | assumption | exact wf_nil _ | exact wsN_wf _ (by first | assumption | exact wf_nil _) _ | exact clN_wf (by first | assumption | exact wf_nil _) _ | exact (itN_wf (by first | assumption | exact wf_nil _) (by first | assumption | exact wf_nil _) _).1 | exact (itN_wf (by first | assumption | exact wf_nil _) (by first | assumption | exact wf_nil _) _).2 | exact (seN_wf (by first | assumption | exact wf_nil _) (by first | assumption | exact wf_nil _) _).1 | exact (seN_wf (by first | assumption | exact wf_nil _) (by first | assumption | exact wf_nil _) _).2) | (simp only [List.length_nil] at *; omega) | omega | (generalize decide _ = bb; cases bb <;> simp) | (intro hh; generalize decide _ = bb at *; cases bb <;> simp_all) | (simp; done))
    all_goals try (refine VC.mk ?_; first | omega | (generalize decide _ = bb; cases bb <;> simp) | (simp; omega) | (simp; done))
    all_goals try (refine Leaf.mk ?_; exfalso; first | (simp only [eq_self, not_true_eq_false] at *; done) | exact absurd rfl (by assumption) | (simp only [List.length_nil, itN_zero, wsN_zero, clN_zero, seN_zero, seN_nil, eq_self, not_true_eq_false] at *; done))
  | [n], zl, [(false, xs), (false, ys)], zr =>
    clear zl zr
    have hp0 := hpre _ (List.Mem.head _); try dsimp only at hp0
    have hp1 := hpre _ (List.Mem.tail _ (List.Mem.head _)); try dsimp only at hp1
    have hp2 := hpre _ (List.Mem.tail _ (List.Mem.tail _ (List.Mem.head _))); try dsimp only at hp2
    repeat' (first | (with_reducible refine And.intro ?_ ?_) | (with_reducible intro h) | ((fail_if_success (with_reducible refine Leaf.mk ?_)); (fail_if_success (with_reducible refine VC.mk ?_)); (fail_if_success (with_reducible refine Goes.mk ?_)); (fail_if_success (with_reducible refine Again.mk ?_)); (fail_if_success (with_reducible refine Rounds.mk ?_)); (fail_if_success (with_reducible show False)); (fail_if_success (with_reducible show True)); conv => whnf))
    all_goals try simp only [decide_eq_true_eq, decide_eq_false_iff_not, tkA, tkL, Nat.zero_add, Nat.reduceAdd, Int.toNat_natCast, List.take_nil, List.nil_append] at *
    all_goals try simp only [Bool.not_eq_true', Bool.not_eq_false', Bool.and_eq_true, Bool.and_eq_false_imp, decide_eq_true_eq, decide_eq_false_iff_not] at *
    all_goals try simp only [tkL, tkc, tkw, tki, tkj, tks, tkt, clN_len, wsN_len, ap_len, solR_len, solB_len, itN_len1, itN_len2, seN_len1, seN_len2, Nat.zero_add] at *
    all_goals try first | exact trivial | (show False; omega) | exact Leaf.mk trivial | exact Leaf.mk rfl | (refine VC.mk ?_; first | trivial | assumption | ((try simp only [InR, decide_eq_true_eq, decide_eq_false_iff_not] at *); omega) | (simp; done))
    all_goals try (refine VC.mk ?_; first | trivial | (first | assumption | exact wf_nil _ | exact wsN_wf _ (by first | assumption | exact wf_nil _) _ | exact clN_wf (by first | assumption | exact wf_nil _) _ | exact (itN_wf (by first | assumption | exact wf_nil _) (by first | assumption | exact wf_nil _) _).1 | exact (itN_wf (by first | assumption | exact wf_nil _) (by first | assumption | exact wf_nil _) _).2 | exact (seN_wf (by first | assumption | exact wf_nil _) (by first | assumption | exact wf_nil _) _).1 | exact (seN_wf (by first | assumption | exact wf_nil _) (by first | assumption | exact wf_nil _) _).2) | (simp only [List.length_nil] at *; omega) | omega | (generalize decide _ = bb; cases bb <;> simp) | (intro hh; generalize decide _ = bb at *; cases bb <;> simp_all) | (simp; done))
    all_goals try (refine VC.mk ?_; first | omega | (generalize decide _ = bb; cases bb <;> simp) | (simp; omega) | (simp; done))
    all_goals try (refine Leaf.mk ?_; exfalso; first | (simp only [eq_self, not_true_eq_false] at *; done) | exact absurd rfl (by assumption) | (simp only [List.length_nil, itN_zero, wsN_zero, clN_zero, seN_zero, seN_nil, eq_self, not_true_eq_false] at *; done))

theorem walk_SolverSolve1 (n : Int) (bxs : Bool) (xs : List (List Int)) (bys : Bool) (ys : List (List Int)) (w : World) (m : Ev.Map) (vxs vys : Value) (nxs : bxs = true → xs = []) (nys : bys = true → ys = []) (fxs : ∀ x ∈ xs, x.length = 14 ∧ ∀ y ∈ x, -9223372036854775808 ≤ y ∧ y ≤ 9223372036854775807) (fys : ∀ x ∈ ys, x.length = 5 ∧ ∀ y ∈ x, -9223372036854775808 ≤ y ∧ y ≤ 9223372036854775807) (dxs : Den m (rowArg bxs 0 14 xs) vxs ∧ BlkH m 0 w (.arr false (!bxs) 14 xs)) (dys : Den m (rowArg bys 1 5 ys) vys ∧ BlkH m 1 w (.arr false (!bys) 5 ys)) (e : 0 < xs.length) :
    Calls Try.prog 11 #[vxs, vys, .int .i64 n] w fun e w' => e = .returned (.bool true) ∧ Below w.heap.size w w' := by
  cases bxs with
  | false =>
    cases bys with
    | false =>
      exact Frame.calls_rows con_law_SolverSolve1 [rowArg false 0 14 xs, rowArg false 1 5 ys, .int .i64 n] (fun id => match id with | 0 => .arr false true 14 xs | 1 => .arr false true 5 ys | _ => .dead) [n] _ _ [vxs, vys, .int .i64 n] rfl (by simp [appP]) (List.forall_mem_cons.2 ⟨fun x hx => (fxs x (mem_tk hx)).1, (List.forall_mem_cons.2 ⟨fun x hx => (fys x (mem_tk hx)).1, (List.forall_mem_cons.2 ⟨by first | (simp; done) | simpa using e, (List.forall_mem_nil _)⟩)⟩)⟩) m w ⟨dxs.1, dys.1, rfl, trivial⟩ (fun id => by match id with | 0 => exact dxs.2 | 1 => exact dys.2 | _ + 2 => trivial) (fun id => by match id with | 0 => rfl | 1 => rfl | _ + 2 => rfl) rfl
    | true =>
      obtain rfl := nys rfl
      exact Frame.calls_rows con_law_SolverSolve1 [rowArg false 0 14 xs, rowArg true 1 5 [], .int .i64 n] (fun id => match id with | 0 => .arr false true 14 xs | 1 => .arr false false 5 [] | _ => .dead) [n] _ _ [vxs, vys, .int .i64 n] rfl (by simp [appP]) (List.forall_mem_cons.2 ⟨fun x hx => (fxs x (mem_tk hx)).1, (List.forall_mem_cons.2 ⟨fun x hx => (by cases hx), (List.forall_mem_cons.2 ⟨by first | (simp; done) | simpa using e, (List.forall_mem_nil _)⟩)⟩)⟩) m w ⟨dxs.1, dys.1, rfl, trivial⟩ (fun id => by match id with | 0 => exact dxs.2 | 1 => exact dys.2 | _ + 2 => trivial) (fun id => by match id with | 0 => rfl | 1 => rfl | _ + 2 => rfl) rfl
  | true =>
    obtain rfl := nxs rfl
    cases bys with
    | false =>
      exact absurd e (by simp)
    | true =>
      obtain rfl := nys rfl
      exact absurd e (by simp)

theorem walk_SolverSolve (n : Int) (bxs : Bool) (xs : List (List Int)) (bys : Bool) (ys : List (List Int)) (w : World) (m : Ev.Map) (vxs vys : Value) (nxs : bxs = true → xs = []) (nys : bys = true → ys = []) (fxs : ∀ x ∈ xs, x.length = 14 ∧ ∀ y ∈ x, -9223372036854775808 ≤ y ∧ y ≤ 9223372036854775807) (fys : ∀ x ∈ ys, x.length = 5 ∧ ∀ y ∈ x, -9223372036854775808 ≤ y ∧ y ≤ 9223372036854775807) (dxs : Den m (rowArg bxs 0 14 xs) vxs ∧ BlkH m 0 w (.arr false (!bxs) 14 xs)) (dys : Den m (rowArg bys 1 5 ys) vys ∧ BlkH m 1 w (.arr false (!bys) 5 ys)) :
    Calls Try.prog 11 #[vxs, vys, .int .i64 n] w fun e w' => e = .returned (.bool true) ∧ Below w.heap.size w w' := by
  rcases Nat.eq_zero_or_pos xs.length with e | e
  · exact walk_SolverSolve0 n bxs xs bys ys w m vxs vys nxs nys fxs fys dxs dys e
  · exact walk_SolverSolve1 n bxs xs bys ys w m vxs vys nxs nys fxs fys dxs dys e
end Go.Proofs.Ytapbegcmdiemoaa
