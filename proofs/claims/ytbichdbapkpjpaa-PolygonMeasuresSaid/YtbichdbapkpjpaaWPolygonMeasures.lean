/- The walk of caromlaw11.PolygonMeasures. -/
import Derived.Test.YtbichdbapkpjpaaG6
import Derived.Test.YtbichdbapkpjpaaFs
namespace Go.Proofs.Ytbichdbapkpjpaa
open Go.RowKit Fx Vx Bx Ev
set_option linter.unusedVariables false
set_option linter.unusedSimpArgs false

def c_law_PolygonMeasures : Con := ⟨4, rowRun [.rows 2, .num 2] (fun l R => match l, R with | [x, y], [xs] => [] | _, _ => [False]) fun l R => match l, R with
  | [x, y], [xs] => .bool true
  | _, _ => .any⟩
set_option maxRecDepth 100000 in
set_option maxHeartbeats 8000000 in
theorem con_law_PolygonMeasures : c_law_PolygonMeasures.Ok Try.prog := by
  refine con_rows (C := [c_polygon_IsConvex, c_ref11_IsConvex, c_polygon_Area, c_ref11_Area, c_polygon_Centroid, c_ref11_Centroid, c_polygon_ShortestEdge, c_ref11_ShortestEdge, c_polygon_Contains, c_ref11_Contains, c_polygon_Support, c_ref11_Support, c_law11_example]) (pl := [(5, [0, 1, 2, 3, 4, 5, 6, 7, 8, 9, 10, 11, 12, 13, 14, 15, 16, 17, 18, 19], [0, 0, 3, 0, 0, 31, 63, 127, 255, 255, 1023, 255, 255, 8191, 16383, 32767, 65535, 131071, 262143, 524287])]) Try.func4 rfl (by kernel_rfl) T_ok (Cons.cons con_polygon_IsConvex (Cons.cons con_ref11_IsConvex (Cons.cons con_polygon_Area (Cons.cons con_ref11_Area (Cons.cons con_polygon_Centroid (Cons.cons con_ref11_Centroid (Cons.cons con_polygon_ShortestEdge (Cons.cons con_ref11_ShortestEdge (Cons.cons con_polygon_Contains (Cons.cons con_ref11_Contains (Cons.cons con_polygon_Support (Cons.cons con_ref11_Support (Cons.cons con_law11_example (Cons.nil _)))))))))))))) mixed (by kernel_rfl) _ _ _ (fun l R hl hR hn hpre => ?_)
  match l, hl, R, hR with
  | [x, y], zl, [(true, xs)], zr =>
    clear zl zr
    obtain rfl : xs = [] := hn _ (List.Mem.head _) rfl
    repeat' (first | (with_reducible refine And.intro ?_ ?_) | (with_reducible intro h) | ((fail_if_success (with_reducible refine Leaf.mk ?_)); (fail_if_success (with_reducible refine VC.mk ?_)); (fail_if_success (with_reducible refine Goes.mk ?_)); (fail_if_success (with_reducible refine Again.mk ?_)); (fail_if_success (with_reducible refine Rounds.mk ?_)); (fail_if_success (with_reducible show False)); (fail_if_success (with_reducible show True)); conv => whnf))
    all_goals try simp only [Bool.not_eq_true', Bool.not_eq_false', Bool.and_eq_true, decide_eq_true_eq, decide_eq_false_iff_not, tkA, Nat.zero_add, Nat.reduceAdd, Int.toNat_natCast, tmN] at *
    all_goals try first | exact trivial | (show False; omega) | exact Leaf.mk trivial | exact Leaf.mk rfl | (refine VC.mk ?_; first | trivial | assumption | ((try simp only [InR] at *); omega) | (simp; done) | (simp; omega))
    all_goals try (refine VC.mk ?_; first | assumption | exact wf_nil _ | exact hullR_wf _ | exact wf_take (hullR_wf _) _ | exact wf_take (by assumption) _ | omega | (simp; done) | (simp; omega))
    all_goals (refine Leaf.mk ?_; exfalso; simp at *; done)
  | [x, y], zl, [(false, xs)], zr =>
    clear zl zr
    repeat' (first | (with_reducible refine And.intro ?_ ?_) | (with_reducible intro h) | ((fail_if_success (with_reducible refine Leaf.mk ?_)); (fail_if_success (with_reducible refine VC.mk ?_)); (fail_if_success (with_reducible refine Goes.mk ?_)); (fail_if_success (with_reducible refine Again.mk ?_)); (fail_if_success (with_reducible refine Rounds.mk ?_)); (fail_if_success (with_reducible show False)); (fail_if_success (with_reducible show True)); conv => whnf))
    all_goals try simp only [Bool.not_eq_true', Bool.not_eq_false', Bool.and_eq_true, decide_eq_true_eq, decide_eq_false_iff_not, tkA, Nat.zero_add, Nat.reduceAdd, Int.toNat_natCast, tmN] at *
    all_goals try first | exact trivial | (show False; omega) | exact Leaf.mk trivial | exact Leaf.mk rfl | (refine VC.mk ?_; first | trivial | assumption | ((try simp only [InR] at *); omega) | (simp; done) | (simp; omega))
    all_goals try (refine VC.mk ?_; first | assumption | exact wf_nil _ | exact hullR_wf _ | exact wf_take (hullR_wf _) _ | exact wf_take (by assumption) _ | omega | (simp; done) | (simp; omega))
    all_goals (refine Leaf.mk ?_; exfalso; simp at *; done)

theorem walk_PolygonMeasures (x y : Int) (bxs : Bool) (xs : List (List Int)) (w : World) (m : Ev.Map) (vxs : Value) (nxs : bxs = true → xs = []) (fxs : ∀ x ∈ xs, x.length = 2 ∧ ∀ y ∈ x, -9223372036854775808 ≤ y ∧ y ≤ 9223372036854775807) (dxs : Den m (rowArg bxs 0 2 xs) vxs ∧ BlkH m 0 w (.arr false (!bxs) 2 xs)) :
    Calls Try.prog 4 #[vxs, .agg #[.int .i64 x, .int .i64 y]] w fun e w' => e = .returned (.bool true) ∧ Below w.heap.size w w' := by
  cases bxs with
  | false =>
    exact Frame.calls_rows con_law_PolygonMeasures [rowArg false 0 2 xs, .agg [.int .i64 x, .int .i64 y]] (fun id => match id with | 0 => .arr false true 2 xs | _ => .dead) [x, y] _ _ [vxs, .agg #[.int .i64 x, .int .i64 y]] rfl (by simp [appP]) (fun p hp => (by cases hp)) m w ⟨dxs.1, ⟨_, rfl, rfl, rfl, trivial⟩, trivial⟩ (fun id => by match id with | 0 => exact dxs.2 | _ + 1 => trivial) (fun id => by match id with | 0 => rfl | _ + 1 => rfl) rfl
  | true =>
    obtain rfl := nxs rfl
    exact Frame.calls_rows con_law_PolygonMeasures [rowArg true 0 2 [], .agg [.int .i64 x, .int .i64 y]] (fun id => match id with | 0 => .arr false false 2 [] | _ => .dead) [x, y] _ _ [vxs, .agg #[.int .i64 x, .int .i64 y]] rfl (by simp [appP]) (fun p hp => (by cases hp)) m w ⟨dxs.1, ⟨_, rfl, rfl, rfl, trivial⟩, trivial⟩ (fun id => by match id with | 0 => exact dxs.2 | _ + 1 => trivial) (fun id => by match id with | 0 => rfl | _ + 1 => rfl) rfl
end Go.Proofs.Ytbichdbapkpjpaa
