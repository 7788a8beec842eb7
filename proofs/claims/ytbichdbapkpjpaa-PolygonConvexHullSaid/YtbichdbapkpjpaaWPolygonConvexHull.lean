/- The walk of caromlaw11.PolygonConvexHull. -/
import Derived.Test.YtbichdbapkpjpaaG7
import Derived.Test.YtbichdbapkpjpaaHp
import Derived.Test.YtbichdbapkpjpaaFs
namespace Go.Proofs.Ytbichdbapkpjpaa
open Go.RowKit Fx Vx Bx Ev
set_option linter.unusedVariables false
set_option linter.unusedSimpArgs false

def c_law_PolygonConvexHull : Con := ⟨5, rowRun [.rows 2] (fun l R => match l, R with | [], [xs] => [∀ x ∈ xs, x.length = 2] | _, _ => [False]) fun l R => match l, R with
  | [], [xs] => .bool true
  | _, _ => .any⟩
set_option maxRecDepth 100000 in
set_option maxHeartbeats 8000000 in
theorem con_law_PolygonConvexHull : c_law_PolygonConvexHull.Ok Try.prog := by
  refine con_rows (C := [c_polygon_ConvexHull, c_ref11_ConvexHull, c_ref11_EqualPoints, c_law11_example]) (pl := []) Try.func5 rfl (by kernel_rfl) T_ok (Cons.cons con_polygon_ConvexHull (Cons.cons con_ref11_ConvexHull (Cons.cons con_ref11_EqualPoints (Cons.cons con_law11_example (Cons.nil _))))) mixed (by kernel_rfl) _ _ _ (fun l R hl hR hn hpre => ?_)
  match l, hl, R, hR with
  | [], zl, [(true, xs)], zr =>
    clear zl zr
    obtain rfl : xs = [] := hn _ (List.Mem.head _) rfl
    have hp0 := hpre _ (List.Mem.head _); try dsimp only at hp0
    repeat' (first | (with_reducible refine And.intro ?_ ?_) | (with_reducible intro h) | ((fail_if_success (with_reducible refine Leaf.mk ?_)); (fail_if_success (with_reducible refine VC.mk ?_)); (fail_if_success (with_reducible refine Goes.mk ?_)); (fail_if_success (with_reducible refine Again.mk ?_)); (fail_if_success (with_reducible refine Rounds.mk ?_)); (fail_if_success (with_reducible show False)); (fail_if_success (with_reducible show True)); conv => whnf))
    all_goals try simp only [Bool.not_eq_true', Bool.not_eq_false', Bool.and_eq_true, decide_eq_true_eq, decide_eq_false_iff_not, tkA, Nat.zero_add, Nat.reduceAdd, Int.toNat_natCast, tmN] at *
    all_goals try first | exact trivial | (show False; omega) | exact Leaf.mk trivial | exact Leaf.mk rfl | (refine VC.mk ?_; first | trivial | assumption | ((try simp only [InR] at *); omega) | (simp; done) | (simp; omega))
    all_goals try (refine VC.mk ?_; first | assumption | exact wf_nil _ | exact hullR_wf _ | exact wf_take (hullR_wf _) _ | exact wf_take (by assumption) _ | omega | (simp; done) | (simp; omega))
    all_goals try simp only [refR_hullR, List.take_length] at *
    all_goals try (refine VC.mk ?_; first | assumption | exact hullR_len _ | (have := hullR_len xs; omega))
    all_goals (refine Leaf.mk ?_; exfalso; simp at *; done)
  | [], zl, [(false, xs)], zr =>
    clear zl zr
    have hp0 := hpre _ (List.Mem.head _); try dsimp only at hp0
    repeat' (first | (with_reducible refine And.intro ?_ ?_) | (with_reducible intro h) | ((fail_if_success (with_reducible refine Leaf.mk ?_)); (fail_if_success (with_reducible refine VC.mk ?_)); (fail_if_success (with_reducible refine Goes.mk ?_)); (fail_if_success (with_reducible refine Again.mk ?_)); (fail_if_success (with_reducible refine Rounds.mk ?_)); (fail_if_success (with_reducible show False)); (fail_if_success (with_reducible show True)); conv => whnf))
    all_goals try simp only [Bool.not_eq_true', Bool.not_eq_false', Bool.and_eq_true, decide_eq_true_eq, decide_eq_false_iff_not, tkA, Nat.zero_add, Nat.reduceAdd, Int.toNat_natCast, tmN] at *
    all_goals try first | exact trivial | (show False; omega) | exact Leaf.mk trivial | exact Leaf.mk rfl | (refine VC.mk ?_; first | trivial | assumption | ((try simp only [InR] at *); omega) | (simp; done) | (simp; omega))
    all_goals try (refine VC.mk ?_; first | assumption | exact wf_nil _ | exact hullR_wf _ | exact wf_take (hullR_wf _) _ | exact wf_take (by assumption) _ | omega | (simp; done) | (simp; omega))
    all_goals try simp only [refR_hullR, List.take_length] at *
    all_goals try (refine VC.mk ?_; first | assumption | exact hullR_len _ | (have := hullR_len xs; omega))
    all_goals (refine Leaf.mk ?_; exfalso; simp at *; done)

theorem walk_PolygonConvexHull  (bxs : Bool) (xs : List (List Int)) (w : World) (m : Ev.Map) (vxs : Value) (nxs : bxs = true → xs = []) (fxs : ∀ x ∈ xs, x.length = 2 ∧ ∀ y ∈ x, -9223372036854775808 ≤ y ∧ y ≤ 9223372036854775807) (dxs : Den m (rowArg bxs 0 2 xs) vxs ∧ BlkH m 0 w (.arr false (!bxs) 2 xs)) :
    Calls Try.prog 5 #[vxs] w fun e w' => e = .returned (.bool true) ∧ Below w.heap.size w w' := by
  cases bxs with
  | false =>
    exact Frame.calls_rows con_law_PolygonConvexHull [rowArg false 0 2 xs] (fun id => match id with | 0 => .arr false true 2 xs | _ => .dead) [] _ _ [vxs] rfl (by simp [appP]) (List.forall_mem_cons.2 ⟨fun x hx => (fxs x (mem_tk hx)).1, (List.forall_mem_nil _)⟩) m w ⟨dxs.1, trivial⟩ (fun id => by match id with | 0 => exact dxs.2 | _ + 1 => trivial) (fun id => by match id with | 0 => rfl | _ + 1 => rfl) rfl
  | true =>
    obtain rfl := nxs rfl
    exact Frame.calls_rows con_law_PolygonConvexHull [rowArg true 0 2 []] (fun id => match id with | 0 => .arr false false 2 [] | _ => .dead) [] _ _ [vxs] rfl (by simp [appP]) (List.forall_mem_cons.2 ⟨fun x hx => (by cases hx), (List.forall_mem_nil _)⟩) m w ⟨dxs.1, trivial⟩ (fun id => by match id with | 0 => exact dxs.2 | _ + 1 => trivial) (fun id => by match id with | 0 => rfl | _ + 1 => rfl) rfl
end Go.Proofs.Ytbichdbapkpjpaa
