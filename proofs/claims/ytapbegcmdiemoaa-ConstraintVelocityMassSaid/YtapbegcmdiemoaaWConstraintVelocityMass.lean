/- The walk of caromlaw28.ConstraintVelocityMass. -/
import Derived.Test.YtapbegcmdiemoaaD4
import Derived.Test.YtapbegcmdiemoaaFs
namespace Go.Proofs.Ytapbegcmdiemoaa
open Go.RowKit Fx Vx Ev
set_option linter.unusedVariables false
set_option linter.unusedSimpArgs false

def c_law_ConstraintVelocityMass : Con := ⟨8, rowRun [.num 14, .rows 5, .num 0, .num 0] (fun l R => match l, R with | [ra, rb, nx, ny, aa, ab, em, bi, lo, up, so, im, fo, fr, c, dt], [ys] => [] | _, _ => [False]) fun l R => match l, R with
  | [ra, rb, nx, ny, aa, ab, em, bi, lo, up, so, im, fo, fr, c, dt], [ys] => .bool true
  | _, _ => .any⟩
set_option maxRecDepth 100000 in
set_option maxHeartbeats 8000000 in
theorem con_law_ConstraintVelocityMass : c_law_ConstraintVelocityMass.Ok Try.prog := by
  refine con_rows (C := [c_constraint_Correction, c_constraint_RelativeVelocity, c_ref28_RelativeVelocity, c_constraint_EffectiveMass, c_ref28_EffectiveMass, c_ref28_Correction, c_law28_example]) (pl := [(4, [0, 1, 2, 3, 4, 5, 6, 7, 8, 9, 10, 11, 12, 13, 14, 15, 16, 17, 18, 19, 20, 21, 22, 23, 24, 25, 26, 27, 28, 29, 30, 31, 32, 33, 34], [0, 0, 3, 0, 0, 31, 63, 127, 255, 255, 1023, 255, 255, 8191, 16383, 32767, 65535, 131071, 131071, 131071, 917503, 2097151, 4194303, 8388607, 16777215, 33554431, 67108863, 134217727, 268435455, 536870911, 1073741823, 2147483647, 4294967295, 8589934591, 17179869183])]) Try.func8 rfl (by kernel_rfl) T_ok (Cons.cons con_constraint_Correction (Cons.cons con_constraint_RelativeVelocity (Cons.cons con_ref28_RelativeVelocity (Cons.cons con_constraint_EffectiveMass (Cons.cons con_ref28_EffectiveMass (Cons.cons con_ref28_Correction (Cons.cons con_law28_example (Cons.nil _)))))))) mixed (by kernel_rfl) _ _ _ (fun l R hl hR hn hpre => ?_)
  match l, hl, R, hR with
  | [ra, rb, nx, ny, aa, ab, em, bi, lo, up, so, im, fo, fr, c, dt], zl, [(true, ys)], zr =>
    clear zl zr
    obtain rfl : ys = [] := hn _ (List.Mem.head _) rfl
    repeat' (first | (with_reducible refine And.intro ?_ ?_) | (with_reducible intro h) | ((fail_if_success (with_reducible refine Leaf.mk ?_)); (fail_if_success (with_reducible refine VC.mk ?_)); (fail_if_success (with_reducible refine Goes.mk ?_)); (fail_if_success (with_reducible refine Again.mk ?_)); (fail_if_success (with_reducible refine Rounds.mk ?_)); (fail_if_success (with_reducible show False)); (fail_if_success (with_reducible show True)); conv => whnf))
    all_goals try simp only [decide_eq_true_eq, decide_eq_false_iff_not, tkA, tkL, Nat.zero_add, Nat.reduceAdd, Int.toNat_natCast, List.take_nil, List.nil_append] at *
    all_goals try simp only [Bool.not_eq_true', Bool.not_eq_false', Bool.and_eq_true, Bool.and_eq_false_imp, decide_eq_true_eq, decide_eq_false_iff_not] at *
    all_goals try first | exact trivial | (show False; omega) | exact Leaf.mk trivial | exact Leaf.mk rfl | (refine VC.mk ?_; first | trivial | assumption | ((try simp only [InR, decide_eq_true_eq, decide_eq_false_iff_not] at *); omega) | (simp; done))
    all_goals try (refine VC.mk ?_; first | trivial | (first | assumption | exact wf_nil _ | exact solR_wf (by assumption) _ _ | exact solB_wf (by assumption) _ _ | exact solR_wf (wf_nil _) _ _ | exact solB_wf (wf_nil _) _ _) | (simp only [solR_len, solB_len, List.length_nil] at *; omega) | (simp only [solR_len, solB_len, List.length_nil, decide_eq_true_eq, decide_eq_false_iff_not] at *; omega) | (simp; done))
    all_goals (have q1 := clamp_lo (mul 13107 (dv c dt)) (-262144) 262144; have q2 := clamp_hi (mul 13107 (dv c dt)) (-262144) 262144 (by decide); refine Leaf.mk ?_; exfalso; unfold corr at *; first | omega | (simp only [eq_self, not_true_eq_false] at *; done))
  | [ra, rb, nx, ny, aa, ab, em, bi, lo, up, so, im, fo, fr, c, dt], zl, [(false, ys)], zr =>
    clear zl zr
    repeat' (first | (with_reducible refine And.intro ?_ ?_) | (with_reducible intro h) | ((fail_if_success (with_reducible refine Leaf.mk ?_)); (fail_if_success (with_reducible refine VC.mk ?_)); (fail_if_success (with_reducible refine Goes.mk ?_)); (fail_if_success (with_reducible refine Again.mk ?_)); (fail_if_success (with_reducible refine Rounds.mk ?_)); (fail_if_success (with_reducible show False)); (fail_if_success (with_reducible show True)); conv => whnf))
    all_goals try simp only [decide_eq_true_eq, decide_eq_false_iff_not, tkA, tkL, Nat.zero_add, Nat.reduceAdd, Int.toNat_natCast, List.take_nil, List.nil_append] at *
    all_goals try simp only [Bool.not_eq_true', Bool.not_eq_false', Bool.and_eq_true, Bool.and_eq_false_imp, decide_eq_true_eq, decide_eq_false_iff_not] at *
    all_goals try first | exact trivial | (show False; omega) | exact Leaf.mk trivial | exact Leaf.mk rfl | (refine VC.mk ?_; first | trivial | assumption | ((try simp only [InR, decide_eq_true_eq, decide_eq_false_iff_not] at *); omega) | (simp; done))
    all_goals try (refine VC.mk ?_; first | trivial | (first | assumption | exact wf_nil _ | exact solR_wf (by assumption) _ _ | exact solB_wf (by assumption) _ _ | exact solR_wf (wf_nil _) _ _ | exact solB_wf (wf_nil _) _ _) | (simp only [solR_len, solB_len, List.length_nil] at *; omega) | (simp only [solR_len, solB_len, List.length_nil, decide_eq_true_eq, decide_eq_false_iff_not] at *; omega) | (simp; done))
    all_goals (have q1 := clamp_lo (mul 13107 (dv c dt)) (-262144) 262144; have q2 := clamp_hi (mul 13107 (dv c dt)) (-262144) 262144 (by decide); refine Leaf.mk ?_; exfalso; unfold corr at *; first | omega | (simp only [eq_self, not_true_eq_false] at *; done))

theorem walk_ConstraintVelocityMass (ra rb nx ny aa ab em bi lo up so im fo fr c dt : Int) (bys : Bool) (ys : List (List Int)) (w : World) (m : Ev.Map) (vys : Value) (nys : bys = true → ys = []) (fys : ∀ x ∈ ys, x.length = 5 ∧ ∀ y ∈ x, -9223372036854775808 ≤ y ∧ y ≤ 9223372036854775807) (dys : Den m (rowArg bys 0 5 ys) vys ∧ BlkH m 0 w (.arr false (!bys) 5 ys)) :
    Calls Try.prog 8 #[.agg #[.int .i64 ra, .int .i64 rb, .int .i64 nx, .int .i64 ny, .int .i64 aa, .int .i64 ab, .int .i64 em, .int .i64 bi, .int .i64 lo, .int .i64 up, .int .i64 so, .int .i64 im, .int .i64 fo, .int .i64 fr], vys, .int .i64 c, .int .i64 dt] w fun e w' => e = .returned (.bool true) ∧ Below w.heap.size w w' := by
  cases bys with
  | false =>
    exact Frame.calls_rows con_law_ConstraintVelocityMass [.agg [.int .i64 ra, .int .i64 rb, .int .i64 nx, .int .i64 ny, .int .i64 aa, .int .i64 ab, .int .i64 em, .int .i64 bi, .int .i64 lo, .int .i64 up, .int .i64 so, .int .i64 im, .int .i64 fo, .int .i64 fr], rowArg false 0 5 ys, .int .i64 c, .int .i64 dt] (fun id => match id with | 0 => .arr false true 5 ys | _ => .dead) [ra, rb, nx, ny, aa, ab, em, bi, lo, up, so, im, fo, fr, c, dt] _ _ [.agg #[.int .i64 ra, .int .i64 rb, .int .i64 nx, .int .i64 ny, .int .i64 aa, .int .i64 ab, .int .i64 em, .int .i64 bi, .int .i64 lo, .int .i64 up, .int .i64 so, .int .i64 im, .int .i64 fo, .int .i64 fr], vys, .int .i64 c, .int .i64 dt] rfl (by simp [appP]) (fun p hp => (by cases hp)) m w ⟨⟨_, rfl, rfl, rfl, rfl, rfl, rfl, rfl, rfl, rfl, rfl, rfl, rfl, rfl, rfl, rfl, trivial⟩, dys.1, rfl, rfl, trivial⟩ (fun id => by match id with | 0 => exact dys.2 | _ + 1 => trivial) (fun id => by match id with | 0 => rfl | _ + 1 => rfl) rfl
  | true =>
    obtain rfl := nys rfl
    exact Frame.calls_rows con_law_ConstraintVelocityMass [.agg [.int .i64 ra, .int .i64 rb, .int .i64 nx, .int .i64 ny, .int .i64 aa, .int .i64 ab, .int .i64 em, .int .i64 bi, .int .i64 lo, .int .i64 up, .int .i64 so, .int .i64 im, .int .i64 fo, .int .i64 fr], rowArg true 0 5 [], .int .i64 c, .int .i64 dt] (fun id => match id with | 0 => .arr false false 5 [] | _ => .dead) [ra, rb, nx, ny, aa, ab, em, bi, lo, up, so, im, fo, fr, c, dt] _ _ [.agg #[.int .i64 ra, .int .i64 rb, .int .i64 nx, .int .i64 ny, .int .i64 aa, .int .i64 ab, .int .i64 em, .int .i64 bi, .int .i64 lo, .int .i64 up, .int .i64 so, .int .i64 im, .int .i64 fo, .int .i64 fr], vys, .int .i64 c, .int .i64 dt] rfl (by simp [appP]) (fun p hp => (by cases hp)) m w ⟨⟨_, rfl, rfl, rfl, rfl, rfl, rfl, rfl, rfl, rfl, rfl, rfl, rfl, rfl, rfl, rfl, trivial⟩, dys.1, rfl, rfl, trivial⟩ (fun id => by match id with | 0 => exact dys.2 | _ + 1 => trivial) (fun id => by match id with | 0 => rfl | _ + 1 => rfl) rfl
end Go.Proofs.Ytapbegcmdiemoaa
