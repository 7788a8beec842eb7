/- The walk of caromlaw15.ClipVertexIDs. -/
import Derived.Test.YthbighklfajmdaaWClipKeeps
import Derived.Test.YthbighklfajmdaaFs
namespace Go.Proofs.Ythbighklfajmdaa
open Go.RowKit Fx Vx Bx Ev
set_option linter.unusedVariables false
set_option linter.unusedSimpArgs false

def c_law_ClipVertexIDs : Con := ⟨13, rowRun [.rows 2, .rows 2, .num 2] (fun l R => match l, R with | [i, k], [xs, ys] => [] | _, _ => [False]) fun l R => match l, R with
  | [i, k], [xs, ys] => .bool true
  | _, _ => .any⟩
set_option maxRecDepth 100000 in
set_option maxHeartbeats 8000000 in
theorem con_law_ClipVertexIDs : c_law_ClipVertexIDs.Ok Try.prog := by
  refine con_rows (C := [c_clip_ToEdge, c_law15_example]) (pl := []) Try.func13 rfl (by kernel_rfl) T_ok (Cons.cons con_clip_ToEdge (Cons.cons con_law15_example (Cons.nil _))) mixed (by kernel_rfl) _ _ _ (fun l R hl hR hn hpre => ?_)
  match l, hl, R, hR with
  | [i, k], zl, [(true, xs), (true, ys)], zr =>
    clear zl zr
    obtain rfl : xs = [] := hn _ (List.Mem.head _) rfl
    obtain rfl : ys = [] := hn _ (List.Mem.tail _ (List.Mem.head _)) rfl
    repeat' (first | (with_reducible refine And.intro ?_ ?_) | (with_reducible intro h) | ((fail_if_success (with_reducible refine Leaf.mk ?_)); (fail_if_success (with_reducible refine VC.mk ?_)); (fail_if_success (with_reducible refine Goes.mk ?_)); (fail_if_success (with_reducible refine Again.mk ?_)); (fail_if_success (with_reducible refine Rounds.mk ?_)); (fail_if_success (with_reducible show False)); (fail_if_success (with_reducible show True)); conv => whnf))
    all_goals try simp only [decide_eq_true_eq, decide_eq_false_iff_not, Bool.not_eq_true', Bool.not_eq_false', Bool.and_eq_true, tkA, Nat.zero_add, Nat.reduceAdd, Int.toNat_natCast, List.take_nil, List.nil_append, List.length_nil] at *
    all_goals try simp only [List.take_length] at *
    all_goals try first | exact trivial | (show False; omega) | exact Leaf.mk trivial | exact Leaf.mk rfl | (refine VC.mk ?_; first | trivial | assumption | ((try simp only [InR, decide_eq_true_eq, decide_eq_false_iff_not] at *); omega) | (simp; done))
    all_goals try (have q := teR_ids [] i [] k; have q2 : (teN [] i [] k = true ∨ (!teN [] i [] k) = true) := (by cases teN [] i [] k <;> simp); refine VC.mk ?_; first | omega | (cases e : teN [] i [] k with | false => rfl | true => exfalso; have c := teN_nil e; omega) | (refine ⟨?_, by simp⟩; generalize teN _ _ _ _ = bb; cases bb <;> simp) | (simp; done))
    all_goals try (have c := te_out (xs := []) (i := i) (ys := []) (k := k) (by first | omega | (simp only [List.length_nil]; omega)); refine Leaf.mk ?_; exfalso; have c2 : (teR [] i [] k).length = 0 := (by rw [c.2]; rfl); omega)
    all_goals (have q := teR_ids [] i [] k; refine Leaf.mk ?_; exfalso; omega)
  | [i, k], zl, [(true, xs), (false, ys)], zr =>
    clear zl zr
    obtain rfl : xs = [] := hn _ (List.Mem.head _) rfl
    repeat' (first | (with_reducible refine And.intro ?_ ?_) | (with_reducible intro h) | ((fail_if_success (with_reducible refine Leaf.mk ?_)); (fail_if_success (with_reducible refine VC.mk ?_)); (fail_if_success (with_reducible refine Goes.mk ?_)); (fail_if_success (with_reducible refine Again.mk ?_)); (fail_if_success (with_reducible refine Rounds.mk ?_)); (fail_if_success (with_reducible show False)); (fail_if_success (with_reducible show True)); conv => whnf))
    all_goals try simp only [decide_eq_true_eq, decide_eq_false_iff_not, Bool.not_eq_true', Bool.not_eq_false', Bool.and_eq_true, tkA, Nat.zero_add, Nat.reduceAdd, Int.toNat_natCast, List.take_nil, List.nil_append, List.length_nil] at *
    all_goals try simp only [List.take_length] at *
    all_goals try first | exact trivial | (show False; omega) | exact Leaf.mk trivial | exact Leaf.mk rfl | (refine VC.mk ?_; first | trivial | assumption | ((try simp only [InR, decide_eq_true_eq, decide_eq_false_iff_not] at *); omega) | (simp; done))
    all_goals try (have q := teR_ids [] i ys k; have q2 : (teN [] i ys k = true ∨ (!teN [] i ys k) = true) := (by cases teN [] i ys k <;> simp); refine VC.mk ?_; first | omega | (cases e : teN [] i ys k with | false => rfl | true => exfalso; have c := teN_nil e; omega) | (refine ⟨?_, by simp⟩; generalize teN _ _ _ _ = bb; cases bb <;> simp) | (simp; done))
    all_goals try (have c := te_out (xs := []) (i := i) (ys := ys) (k := k) (by first | omega | (simp only [List.length_nil]; omega)); refine Leaf.mk ?_; exfalso; have c2 : (teR [] i ys k).length = 0 := (by rw [c.2]; rfl); omega)
    all_goals (have q := teR_ids [] i ys k; refine Leaf.mk ?_; exfalso; omega)
  | [i, k], zl, [(false, xs), (true, ys)], zr =>
    clear zl zr
    obtain rfl : ys = [] := hn _ (List.Mem.tail _ (List.Mem.head _)) rfl
    repeat' (first | (with_reducible refine And.intro ?_ ?_) | (with_reducible intro h) | ((fail_if_success (with_reducible refine Leaf.mk ?_)); (fail_if_success (with_reducible refine VC.mk ?_)); (fail_if_success (with_reducible refine Goes.mk ?_)); (fail_if_success (with_reducible refine Again.mk ?_)); (fail_if_success (with_reducible refine Rounds.mk ?_)); (fail_if_success (with_reducible show False)); (fail_if_success (with_reducible show True)); conv => whnf))
    all_goals try simp only [decide_eq_true_eq, decide_eq_false_iff_not, Bool.not_eq_true', Bool.not_eq_false', Bool.and_eq_true, tkA, Nat.zero_add, Nat.reduceAdd, Int.toNat_natCast, List.take_nil, List.nil_append, List.length_nil] at *
    all_goals try simp only [List.take_length] at *
    all_goals try first | exact trivial | (show False; omega) | exact Leaf.mk trivial | exact Leaf.mk rfl | (refine VC.mk ?_; first | trivial | assumption | ((try simp only [InR, decide_eq_true_eq, decide_eq_false_iff_not] at *); omega) | (simp; done))
    all_goals try (have q := teR_ids xs i [] k; have q2 : (teN xs i [] k = true ∨ (!teN xs i [] k) = true) := (by cases teN xs i [] k <;> simp); refine VC.mk ?_; first | omega | (cases e : teN xs i [] k with | false => rfl | true => exfalso; have c := teN_nil e; omega) | (refine ⟨?_, by simp⟩; generalize teN _ _ _ _ = bb; cases bb <;> simp) | (simp; done))
    all_goals try (have c := te_out (xs := xs) (i := i) (ys := []) (k := k) (by first | omega | (simp only [List.length_nil]; omega)); refine Leaf.mk ?_; exfalso; have c2 : (teR xs i [] k).length = 0 := (by rw [c.2]; rfl); omega)
    all_goals (have q := teR_ids xs i [] k; refine Leaf.mk ?_; exfalso; omega)
  | [i, k], zl, [(false, xs), (false, ys)], zr =>
    clear zl zr
    repeat' (first | (with_reducible refine And.intro ?_ ?_) | (with_reducible intro h) | ((fail_if_success (with_reducible refine Leaf.mk ?_)); (fail_if_success (with_reducible refine VC.mk ?_)); (fail_if_success (with_reducible refine Goes.mk ?_)); (fail_if_success (with_reducible refine Again.mk ?_)); (fail_if_success (with_reducible refine Rounds.mk ?_)); (fail_if_success (with_reducible show False)); (fail_if_success (with_reducible show True)); conv => whnf))
    all_goals try simp only [decide_eq_true_eq, decide_eq_false_iff_not, Bool.not_eq_true', Bool.not_eq_false', Bool.and_eq_true, tkA, Nat.zero_add, Nat.reduceAdd, Int.toNat_natCast, List.take_nil, List.nil_append, List.length_nil] at *
    all_goals try simp only [List.take_length] at *
    all_goals try first | exact trivial | (show False; omega) | exact Leaf.mk trivial | exact Leaf.mk rfl | (refine VC.mk ?_; first | trivial | assumption | ((try simp only [InR, decide_eq_true_eq, decide_eq_false_iff_not] at *); omega) | (simp; done))
    all_goals try (have q := teR_ids xs i ys k; have q2 : (teN xs i ys k = true ∨ (!teN xs i ys k) = true) := (by cases teN xs i ys k <;> simp); refine VC.mk ?_; first | omega | (cases e : teN xs i ys k with | false => rfl | true => exfalso; have c := teN_nil e; omega) | (refine ⟨?_, by simp⟩; generalize teN _ _ _ _ = bb; cases bb <;> simp) | (simp; done))
    all_goals try (have c := te_out (xs := xs) (i := i) (ys := ys) (k := k) (by first | omega | (simp only [List.length_nil]; omega)); refine Leaf.mk ?_; exfalso; have c2 : (teR xs i ys k).length = 0 := (by rw [c.2]; rfl); omega)
    all_goals (have q := teR_ids xs i ys k; refine Leaf.mk ?_; exfalso; omega)

theorem walk_ClipVertexIDs (i k : Int) (bxs : Bool) (xs : List (List Int)) (bys : Bool) (ys : List (List Int)) (w : World) (m : Ev.Map) (vxs vys : Value) (nxs : bxs = true → xs = []) (nys : bys = true → ys = []) (fxs : ∀ x ∈ xs, x.length = 2 ∧ ∀ y ∈ x, -9223372036854775808 ≤ y ∧ y ≤ 9223372036854775807) (fys : ∀ x ∈ ys, x.length = 2 ∧ ∀ y ∈ x, -9223372036854775808 ≤ y ∧ y ≤ 9223372036854775807) (dxs : Den m (rowArg bxs 0 2 xs) vxs ∧ BlkH m 0 w (.arr false (!bxs) 2 xs)) (dys : Den m (rowArg bys 1 2 ys) vys ∧ BlkH m 1 w (.arr false (!bys) 2 ys)) :
    Calls Try.prog 13 #[vxs, vys, .agg #[.int .i64 i, .int .i64 k]] w fun e w' => e = .returned (.bool true) ∧ Below w.heap.size w w' := by
  cases bxs with
  | false =>
    cases bys with
    | false =>
      exact Frame.calls_rows con_law_ClipVertexIDs [rowArg false 0 2 xs, rowArg false 1 2 ys, .agg [.int .i64 i, .int .i64 k]] (fun id => match id with | 0 => .arr false true 2 xs | 1 => .arr false true 2 ys | _ => .dead) [i, k] _ _ [vxs, vys, .agg #[.int .i64 i, .int .i64 k]] rfl (by simp [appP]) (fun p hp => (by cases hp)) m w ⟨dxs.1, dys.1, ⟨_, rfl, rfl, rfl, trivial⟩, trivial⟩ (fun id => by match id with | 0 => exact dxs.2 | 1 => exact dys.2 | _ + 2 => trivial) (fun id => by match id with | 0 => rfl | 1 => rfl | _ + 2 => rfl) rfl
    | true =>
      obtain rfl := nys rfl
      exact Frame.calls_rows con_law_ClipVertexIDs [rowArg false 0 2 xs, rowArg true 1 2 [], .agg [.int .i64 i, .int .i64 k]] (fun id => match id with | 0 => .arr false true 2 xs | 1 => .arr false false 2 [] | _ => .dead) [i, k] _ _ [vxs, vys, .agg #[.int .i64 i, .int .i64 k]] rfl (by simp [appP]) (fun p hp => (by cases hp)) m w ⟨dxs.1, dys.1, ⟨_, rfl, rfl, rfl, trivial⟩, trivial⟩ (fun id => by match id with | 0 => exact dxs.2 | 1 => exact dys.2 | _ + 2 => trivial) (fun id => by match id with | 0 => rfl | 1 => rfl | _ + 2 => rfl) rfl
  | true =>
    obtain rfl := nxs rfl
    cases bys with
    | false =>
      exact Frame.calls_rows con_law_ClipVertexIDs [rowArg true 0 2 [], rowArg false 1 2 ys, .agg [.int .i64 i, .int .i64 k]] (fun id => match id with | 0 => .arr false false 2 [] | 1 => .arr false true 2 ys | _ => .dead) [i, k] _ _ [vxs, vys, .agg #[.int .i64 i, .int .i64 k]] rfl (by simp [appP]) (fun p hp => (by cases hp)) m w ⟨dxs.1, dys.1, ⟨_, rfl, rfl, rfl, trivial⟩, trivial⟩ (fun id => by match id with | 0 => exact dxs.2 | 1 => exact dys.2 | _ + 2 => trivial) (fun id => by match id with | 0 => rfl | 1 => rfl | _ + 2 => rfl) rfl
    | true =>
      obtain rfl := nys rfl
      exact Frame.calls_rows con_law_ClipVertexIDs [rowArg true 0 2 [], rowArg true 1 2 [], .agg [.int .i64 i, .int .i64 k]] (fun id => match id with | 0 => .arr false false 2 [] | 1 => .arr false false 2 [] | _ => .dead) [i, k] _ _ [vxs, vys, .agg #[.int .i64 i, .int .i64 k]] rfl (by simp [appP]) (fun p hp => (by cases hp)) m w ⟨dxs.1, dys.1, ⟨_, rfl, rfl, rfl, trivial⟩, trivial⟩ (fun id => by match id with | 0 => exact dxs.2 | 1 => exact dys.2 | _ + 2 => trivial) (fun id => by match id with | 0 => rfl | 1 => rfl | _ + 2 => rfl) rfl
end Go.Proofs.Ythbighklfajmdaa
