/- The walk of caromlaw14.SATNormalPerpendicular. -/
import Derived.Test.YtdoagjphjnbbnaaT3
import Derived.Test.YtdoagjphjnbbnaaFs
namespace Go.Proofs.Ytdoagjphjnbbnaa
open Go.RowKit Fx Vx Bx Ev
set_option linter.unusedVariables false
set_option linter.unusedSimpArgs false

theorem len_rot (a b : Int) : len b (-a) = len a b := by
  unfold len; rw [sat_neg, Int.neg_mul_neg]; congr 1; omega
theorem dvr_neg (n d : Int) : dvr (-n) d = -dvr n d := by
  unfold dvr
  split
  · have : sgn (-n) = -sgn n := by unfold sgn; split <;> (try split) <;> (try split) <;> (try split) <;> omega
    rw [this, Int.neg_mul]
  split
  · rw [← sat_neg, ← rd_neg, Int.neg_neg]
  · rw [rd_neg, sat_neg]
theorem dv_neg (a b : Int) : dv (-a) b = -dv a b := by
  unfold dv; rw [sat_neg, Int.neg_mul, dvr_neg]
theorem norm_neg (a b x : Int) : norm a b (-x) = -norm a b x := by
  unfold norm; split
  · rfl
  · exact dv_neg _ _
theorem norm_rot (a b x : Int) : norm b (-a) x = norm a b x := by unfold norm; rw [len_rot]
theorem en_perp (xs : List (List Int)) (i : Int) : enX xs i = edY xs i ∧ enY xs i = -edX xs i := by
  unfold enX enY edX edY
  split
  · rw [norm_rot, norm_rot, norm_neg]; exact ⟨rfl, rfl⟩
  · exact ⟨rfl, rfl⟩
theorem en_none {xs : List (List Int)} {i : Int} (h : okE xs i = false) : enX xs i = 0 ∧ enY xs i = 0 ∧ edX xs i = 0 ∧ edY xs i = 0 := by
  unfold enX enY edX edY; simp [h]
theorem dv_bd' (a b : Int) : -536870911 ≤ dv a b ∧ dv a b ≤ 536870911 := dv_bd a b
theorem ed_bd (xs : List (List Int)) (i : Int) : -536870911 ≤ edX xs i ∧ edX xs i ≤ 536870911 := by
  unfold edX norm
  split
  · split
    · omega
    · exact dv_bd _ _
  · omega

def c_law_SATNormalPerpendicular : Con := ⟨4, rowRun [.rows 2, .num 0] (fun l R => match l, R with | [i], [xs] => [] | _, _ => [False]) fun l R => match l, R with
  | [i], [xs] => .bool true
  | _, _ => .any⟩
set_option maxRecDepth 100000 in
set_option maxHeartbeats 8000000 in
theorem con_law_SATNormalPerpendicular : c_law_SATNormalPerpendicular.Ok Try.prog := by
  refine con_rows (C := [c_sat_EdgeNormal, c_sat_EdgeDirection, c_law14_example]) (pl := []) Try.func4 rfl (by kernel_rfl) T_ok (Cons.cons con_sat_EdgeNormal (Cons.cons con_sat_EdgeDirection (Cons.cons con_law14_example (Cons.nil _)))) mixed (by kernel_rfl) _ _ _ (fun l R hl hR hn hpre => ?_)
  match l, hl, R, hR with
  | [i], zl, [(true, xs)], zr =>
    clear zl zr
    obtain rfl : xs = [] := hn _ (List.Mem.head _) rfl
    repeat' (first | (with_reducible refine And.intro ?_ ?_) | (with_reducible intro h) | ((fail_if_success (with_reducible refine Leaf.mk ?_)); (fail_if_success (with_reducible refine VC.mk ?_)); (fail_if_success (with_reducible refine Goes.mk ?_)); (fail_if_success (with_reducible refine Again.mk ?_)); (fail_if_success (with_reducible refine Rounds.mk ?_)); (fail_if_success (with_reducible show False)); (fail_if_success (with_reducible show True)); conv => whnf))
    all_goals try simp only [decide_eq_true_eq, decide_eq_false_iff_not, tkA, Nat.zero_add, Int.toNat_natCast] at *
    all_goals try first | exact trivial | exact Leaf.mk trivial | exact Leaf.mk rfl | (refine VC.mk ?_; first | trivial | assumption | ((try simp only [InR, decide_eq_true_eq, decide_eq_false_iff_not] at *); omega) | (simp; done))
    all_goals try (have bd := ed_bd [] i; (refine VC.mk ?_; simp only [InR]; omega))
    all_goals try (have ep := en_perp [] i; refine Leaf.mk ?_; exfalso; first | omega | (have en := en_none (xs := []) (i := i) (okE_no (by first | omega | (simp; done))); simp_all; done) | (simp_all; done))
  | [i], zl, [(false, xs)], zr =>
    clear zl zr
    repeat' (first | (with_reducible refine And.intro ?_ ?_) | (with_reducible intro h) | ((fail_if_success (with_reducible refine Leaf.mk ?_)); (fail_if_success (with_reducible refine VC.mk ?_)); (fail_if_success (with_reducible refine Goes.mk ?_)); (fail_if_success (with_reducible refine Again.mk ?_)); (fail_if_success (with_reducible refine Rounds.mk ?_)); (fail_if_success (with_reducible show False)); (fail_if_success (with_reducible show True)); conv => whnf))
    all_goals try simp only [decide_eq_true_eq, decide_eq_false_iff_not, tkA, Nat.zero_add, Int.toNat_natCast] at *
    all_goals try first | exact trivial | exact Leaf.mk trivial | exact Leaf.mk rfl | (refine VC.mk ?_; first | trivial | assumption | ((try simp only [InR, decide_eq_true_eq, decide_eq_false_iff_not] at *); omega) | (simp; done))
    all_goals try (have bd := ed_bd xs i; (refine VC.mk ?_; simp only [InR]; omega))
    all_goals try (have ep := en_perp xs i; refine Leaf.mk ?_; exfalso; first | omega | (have en := en_none (xs := xs) (i := i) (okE_no (by first | omega | (simp; done))); simp_all; done) | (simp_all; done))

theorem walk_SATNormalPerpendicular (i : Int) (bxs : Bool) (xs : List (List Int)) (w : World) (m : Ev.Map) (vxs : Value) (nxs : bxs = true → xs = []) (fxs : ∀ x ∈ xs, x.length = 2 ∧ ∀ y ∈ x, -9223372036854775808 ≤ y ∧ y ≤ 9223372036854775807) (dxs : Den m (rowArg bxs 0 2 xs) vxs ∧ BlkH m 0 w (.arr false (!bxs) 2 xs)) :
    Calls Try.prog 4 #[vxs, .int .i64 i] w fun e w' => e = .returned (.bool true) ∧ Below w.heap.size w w' := by
  cases bxs with
  | false =>
    exact Frame.calls_rows con_law_SATNormalPerpendicular [rowArg false 0 2 xs, .int .i64 i] (fun id => match id with | 0 => .arr false true 2 xs | _ => .dead) [i] _ _ [vxs, .int .i64 i] rfl (by simp [appP]) (fun p hp => (by cases hp)) m w ⟨dxs.1, rfl, trivial⟩ (fun id => by match id with | 0 => exact dxs.2 | _ + 1 => trivial) (fun id => by match id with | 0 => rfl | _ + 1 => rfl) rfl
  | true =>
    obtain rfl := nxs rfl
    exact Frame.calls_rows con_law_SATNormalPerpendicular [rowArg true 0 2 [], .int .i64 i] (fun id => match id with | 0 => .arr false false 2 [] | _ => .dead) [i] _ _ [vxs, .int .i64 i] rfl (by simp [appP]) (fun p hp => (by cases hp)) m w ⟨dxs.1, rfl, trivial⟩ (fun id => by match id with | 0 => exact dxs.2 | _ + 1 => trivial) (fun id => by match id with | 0 => rfl | _ + 1 => rfl) rfl
end Go.Proofs.Ytdoagjphjnbbnaa
