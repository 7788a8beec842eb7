/- The walk of caromlaw14.SATMatchesReference. -/
import Derived.Test.YtdoagjphjnbbnaaT3
import Derived.Test.YtdoagjphjnbbnaaFs
namespace Go.Proofs.Ytdoagjphjnbbnaa
open Go.RowKit Fx Vx Bx Ev
set_option linter.unusedVariables false
set_option linter.unusedSimpArgs false

def c_law_SATMatchesReference : Con := ⟨3, rowRun [.rows 2, .rows 2, .num 0, .num 2] (fun l R => match l, R with | [i, p, q], [xs, ys] => [] | _, _ => [False]) fun l R => match l, R with
  | [i, p, q], [xs, ys] => .bool true
  | _, _ => .any⟩
set_option maxRecDepth 100000 in
set_option maxHeartbeats 8000000 in
theorem con_law_SATMatchesReference : c_law_SATMatchesReference.Ok Try.prog := by
  refine con_rows (C := [c_sat_MaxSeparation, c_ref14_MaxSeparation, c_sat_EdgeNormal, c_ref14_EdgeNormal, c_sat_EdgeDirection, c_ref14_EdgeDirection, c_sat_IncidentEdge, c_ref14_IncidentEdge, c_law14_example]) (pl := [(5, [0, 1, 2, 3, 4, 5, 6, 7, 8, 9, 10, 11, 12, 13, 14, 15, 16, 17, 18, 19, 20, 21, 22, 23, 24, 25, 26, 27, 28, 29, 30, 31, 32, 33, 34, 35, 36, 37, 38], [0, 0, 3, 0, 0, 31, 63, 127, 255, 255, 1023, 255, 255, 8191, 16383, 32767, 65535, 131071, 131071, 524287, 1048575, 2097151, 4194303, 4194303, 16777215, 33554431, 67108863, 134217727, 134217727, 536870911, 134217727, 134217727, 4294967295, 8589934591, 17179869183, 34359738367, 68719476735, 137438953471, 274877906943])]) Try.func3 rfl (by kernel_rfl) T_ok (Cons.cons con_sat_MaxSeparation (Cons.cons con_ref14_MaxSeparation (Cons.cons con_sat_EdgeNormal (Cons.cons con_ref14_EdgeNormal (Cons.cons con_sat_EdgeDirection (Cons.cons con_ref14_EdgeDirection (Cons.cons con_sat_IncidentEdge (Cons.cons con_ref14_IncidentEdge (Cons.cons con_law14_example (Cons.nil _)))))))))) mixed (by kernel_rfl) _ _ _ (fun l R hl hR hn hpre => ?_)
  match l, hl, R, hR with
  | [i, p, q], zl, [(true, xs), (true, ys)], zr =>
    clear zl zr
    obtain rfl : xs = [] := hn _ (List.Mem.head _) rfl
    obtain rfl : ys = [] := hn _ (List.Mem.tail _ (List.Mem.head _)) rfl
    repeat' (first | (with_reducible refine And.intro ?_ ?_) | (with_reducible intro h) | ((fail_if_success (with_reducible refine Leaf.mk ?_)); (fail_if_success (with_reducible refine VC.mk ?_)); (fail_if_success (with_reducible refine Goes.mk ?_)); (fail_if_success (with_reducible refine Again.mk ?_)); (fail_if_success (with_reducible refine Rounds.mk ?_)); (fail_if_success (with_reducible show False)); (fail_if_success (with_reducible show True)); conv => whnf))
    all_goals try simp only [decide_eq_true_eq, decide_eq_false_iff_not, tkA, Nat.zero_add, Int.toNat_natCast] at *
    all_goals try first | exact trivial | exact Leaf.mk trivial | exact Leaf.mk rfl | (refine VC.mk ?_; first | trivial | assumption | ((try simp only [InR, decide_eq_true_eq, decide_eq_false_iff_not] at *); omega) | (simp; done))
    all_goals try (refine VC.mk ?_; simp_all; omega)
    all_goals (refine Leaf.mk ?_; simp_all)
  | [i, p, q], zl, [(true, xs), (false, ys)], zr =>
    clear zl zr
    obtain rfl : xs = [] := hn _ (List.Mem.head _) rfl
    repeat' (first | (with_reducible refine And.intro ?_ ?_) | (with_reducible intro h) | ((fail_if_success (with_reducible refine Leaf.mk ?_)); (fail_if_success (with_reducible refine VC.mk ?_)); (fail_if_success (with_reducible refine Goes.mk ?_)); (fail_if_success (with_reducible refine Again.mk ?_)); (fail_if_success (with_reducible refine Rounds.mk ?_)); (fail_if_success (with_reducible show False)); (fail_if_success (with_reducible show True)); conv => whnf))
    all_goals try simp only [decide_eq_true_eq, decide_eq_false_iff_not, tkA, Nat.zero_add, Int.toNat_natCast] at *
    all_goals try first | exact trivial | exact Leaf.mk trivial | exact Leaf.mk rfl | (refine VC.mk ?_; first | trivial | assumption | ((try simp only [InR, decide_eq_true_eq, decide_eq_false_iff_not] at *); omega) | (simp; done))
    all_goals try (refine VC.mk ?_; simp_all; omega)
    all_goals (refine Leaf.mk ?_; simp_all)
  | [i, p, q], zl, [(false, xs), (true, ys)], zr =>
    clear zl zr
    obtain rfl : ys = [] := hn _ (List.Mem.tail _ (List.Mem.head _)) rfl
    repeat' (first | (with_reducible refine And.intro ?_ ?_) | (with_reducible intro h) | ((fail_if_success (with_reducible refine Leaf.mk ?_)); (fail_if_success (with_reducible refine VC.mk ?_)); (fail_if_success (with_reducible refine Goes.mk ?_)); (fail_if_success (with_reducible refine Again.mk ?_)); (fail_if_success (with_reducible refine Rounds.mk ?_)); (fail_if_success (with_reducible show False)); (fail_if_success (with_reducible show True)); conv => whnf))
    all_goals try simp only [decide_eq_true_eq, decide_eq_false_iff_not, tkA, Nat.zero_add, Int.toNat_natCast] at *
    all_goals try first | exact trivial | exact Leaf.mk trivial | exact Leaf.mk rfl | (refine VC.mk ?_; first | trivial | assumption | ((try simp only [InR, decide_eq_true_eq, decide_eq_false_iff_not] at *); omega) | (simp; done))
    all_goals try (refine VC.mk ?_; simp_all; omega)
    all_goals (refine Leaf.mk ?_; simp_all)
  | [i, p, q], zl, [(false, xs), (false, ys)], zr =>
    clear zl zr
    repeat' (first | (with_reducible refine And.intro ?_ ?_) | (with_reducible intro h) | ((fail_if_success (with_reducible refine Leaf.mk ?_)); (fail_if_success (with_reducible refine VC.mk ?_)); (fail_if_success (with_reducible refine Goes.mk ?_)); (fail_if_success (with_reducible refine Again.mk ?_)); (fail_if_success (with_reducible refine Rounds.mk ?_)); (fail_if_success (with_reducible show False)); (fail_if_success (with_reducible show True)); conv => whnf))
    all_goals try simp only [decide_eq_true_eq, decide_eq_false_iff_not, tkA, Nat.zero_add, Int.toNat_natCast] at *
    all_goals try first | exact trivial | exact Leaf.mk trivial | exact Leaf.mk rfl | (refine VC.mk ?_; first | trivial | assumption | ((try simp only [InR, decide_eq_true_eq, decide_eq_false_iff_not] at *); omega) | (simp; done))
    all_goals try (refine VC.mk ?_; simp_all; omega)
    all_goals (refine Leaf.mk ?_; simp_all)

theorem walk_SATMatchesReference (i p q : Int) (bxs : Bool) (xs : List (List Int)) (bys : Bool) (ys : List (List Int)) (w : World) (m : Ev.Map) (vxs vys : Value) (nxs : bxs = true → xs = []) (nys : bys = true → ys = []) (fxs : ∀ x ∈ xs, x.length = 2 ∧ ∀ y ∈ x, -9223372036854775808 ≤ y ∧ y ≤ 9223372036854775807) (fys : ∀ x ∈ ys, x.length = 2 ∧ ∀ y ∈ x, -9223372036854775808 ≤ y ∧ y ≤ 9223372036854775807) (dxs : Den m (rowArg bxs 0 2 xs) vxs ∧ BlkH m 0 w (.arr false (!bxs) 2 xs)) (dys : Den m (rowArg bys 1 2 ys) vys ∧ BlkH m 1 w (.arr false (!bys) 2 ys)) :
    Calls Try.prog 3 #[vxs, vys, .int .i64 i, .agg #[.int .i64 p, .int .i64 q]] w fun e w' => e = .returned (.bool true) ∧ Below w.heap.size w w' := by
  cases bxs with
  | false =>
    cases bys with
    | false =>
      exact Frame.calls_rows con_law_SATMatchesReference [rowArg false 0 2 xs, rowArg false 1 2 ys, .int .i64 i, .agg [.int .i64 p, .int .i64 q]] (fun id => match id with | 0 => .arr false true 2 xs | 1 => .arr false true 2 ys | _ => .dead) [i, p, q] _ _ [vxs, vys, .int .i64 i, .agg #[.int .i64 p, .int .i64 q]] rfl (by simp [appP]) (fun p hp => (by cases hp)) m w ⟨dxs.1, dys.1, rfl, ⟨_, rfl, rfl, rfl, trivial⟩, trivial⟩ (fun id => by match id with | 0 => exact dxs.2 | 1 => exact dys.2 | _ + 2 => trivial) (fun id => by match id with | 0 => rfl | 1 => rfl | _ + 2 => rfl) rfl
    | true =>
      obtain rfl := nys rfl
      exact Frame.calls_rows con_law_SATMatchesReference [rowArg false 0 2 xs, rowArg true 1 2 [], .int .i64 i, .agg [.int .i64 p, .int .i64 q]] (fun id => match id with | 0 => .arr false true 2 xs | 1 => .arr false false 2 [] | _ => .dead) [i, p, q] _ _ [vxs, vys, .int .i64 i, .agg #[.int .i64 p, .int .i64 q]] rfl (by simp [appP]) (fun p hp => (by cases hp)) m w ⟨dxs.1, dys.1, rfl, ⟨_, rfl, rfl, rfl, trivial⟩, trivial⟩ (fun id => by match id with | 0 => exact dxs.2 | 1 => exact dys.2 | _ + 2 => trivial) (fun id => by match id with | 0 => rfl | 1 => rfl | _ + 2 => rfl) rfl
  | true =>
    obtain rfl := nxs rfl
    cases bys with
    | false =>
      exact Frame.calls_rows con_law_SATMatchesReference [rowArg true 0 2 [], rowArg false 1 2 ys, .int .i64 i, .agg [.int .i64 p, .int .i64 q]] (fun id => match id with | 0 => .arr false false 2 [] | 1 => .arr false true 2 ys | _ => .dead) [i, p, q] _ _ [vxs, vys, .int .i64 i, .agg #[.int .i64 p, .int .i64 q]] rfl (by simp [appP]) (fun p hp => (by cases hp)) m w ⟨dxs.1, dys.1, rfl, ⟨_, rfl, rfl, rfl, trivial⟩, trivial⟩ (fun id => by match id with | 0 => exact dxs.2 | 1 => exact dys.2 | _ + 2 => trivial) (fun id => by match id with | 0 => rfl | 1 => rfl | _ + 2 => rfl) rfl
    | true =>
      obtain rfl := nys rfl
      exact Frame.calls_rows con_law_SATMatchesReference [rowArg true 0 2 [], rowArg true 1 2 [], .int .i64 i, .agg [.int .i64 p, .int .i64 q]] (fun id => match id with | 0 => .arr false false 2 [] | 1 => .arr false false 2 [] | _ => .dead) [i, p, q] _ _ [vxs, vys, .int .i64 i, .agg #[.int .i64 p, .int .i64 q]] rfl (by simp [appP]) (fun p hp => (by cases hp)) m w ⟨dxs.1, dys.1, rfl, ⟨_, rfl, rfl, rfl, trivial⟩, trivial⟩ (fun id => by match id with | 0 => exact dxs.2 | 1 => exact dys.2 | _ + 2 => trivial) (fun id => by match id with | 0 => rfl | 1 => rfl | _ + 2 => rfl) rfl
end Go.Proofs.Ytdoagjphjnbbnaa
