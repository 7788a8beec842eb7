/- The walk of caromlaw28.ConstraintImpulse. -/
import Derived.Test.YtapbegcmdiemoaaD4
import Derived.Test.YtapbegcmdiemoaaEvN
import Derived.Test.YtapbegcmdiemoaaFs
namespace Go.Proofs.Ytapbegcmdiemoaa
open Go.RowKit Fx Vx Ev
set_option linter.unusedVariables false
set_option linter.unusedSimpArgs false
def TW : Tab := wrAll T
theorem TW_ok : TW.Ok Try.prog := tabChk_ok (by kernel_rfl)
theorem tk_same {a : List (List Int)} {n : Nat} (h : a.length = n) : List.take n a = a := by subst h; exact List.take_length

def c_law_ConstraintImpulse : Con := ⟨5, rowRun [.num 14, .rows 5, .num 0] (fun l R => match l, R with | [ra, rb, nx, ny, aa, ab, em, bi, lo, up, so, im, fo, fr, d], [ys] => [∀ x ∈ ys, x.length = 5] | _, _ => [False]) fun l R => match l, R with
  | [ra, rb, nx, ny, aa, ab, em, bi, lo, up, so, im, fo, fr, d], [ys] => .bool true
  | _, _ => .any⟩
set_option maxRecDepth 100000 in
set_option maxHeartbeats 8000000 in
theorem con_law_ConstraintImpulse : c_law_ConstraintImpulse.Ok Try.prog := by
  refine con_rows (C := [c_constraint_ApplyImpulse, c_ref28_ApplyImpulse, c_ref28_SolverBodies, c_law28_example]) (pl := []) Try.func5 rfl (by kernel_rfl) TW_ok (Cons.cons con_constraint_ApplyImpulse (Cons.cons con_ref28_ApplyImpulse (Cons.cons con_ref28_SolverBodies (Cons.cons con_law28_example (Cons.nil _))))) mixed (by kernel_rfl) _ _ _ (fun l R hl hR hn hpre => ?_)
  match l, hl, R, hR with
  | [ra, rb, nx, ny, aa, ab, em, bi, lo, up, so, im, fo, fr, d], zl, [(true, ys)], zr =>
    clear zl zr
    obtain rfl : ys = [] := hn _ (List.Mem.head _) rfl
    have hp0 := hpre _ (List.Mem.head _); try dsimp only at hp0
    repeat' (first | (with_reducible refine And.intro ?_ ?_) | (with_reducible intro h) | ((fail_if_success (with_reducible refine Leaf.mk ?_)); (fail_if_success (with_reducible refine VC.mk ?_)); (fail_if_success (with_reducible refine Goes.mk ?_)); (fail_if_success (with_reducible refine Again.mk ?_)); (fail_if_success (with_reducible refine Rounds.mk ?_)); (fail_if_success (with_reducible show False)); (fail_if_success (with_reducible show True)); conv => whnf))
    all_goals try simp only [decide_eq_true_eq, decide_eq_false_iff_not, tkA, tkL, Nat.zero_add, Nat.reduceAdd, Int.toNat_natCast, List.take_nil, List.nil_append] at *
    all_goals try simp only [Bool.not_eq_true', Bool.not_eq_false', Bool.and_eq_true, Bool.and_eq_false_imp, decide_eq_true_eq, decide_eq_false_iff_not] at *
    all_goals try simp only [ap_len, List.take_length, List.drop_zero] at *
    all_goals try first | exact trivial | (show False; omega) | exact Leaf.mk trivial | exact Leaf.mk rfl | (refine VC.mk ?_; first | trivial | assumption | ((try simp only [InR, decide_eq_true_eq, decide_eq_false_iff_not] at *); omega) | (simp; done))
    all_goals try (refine VC.mk ?_; first | trivial | assumption | exact wf_nil _ | exact ap_wf (by first | assumption | exact wf_nil _) _ _ _ _ _ _ _ | (rw [ap_len]; omega) | (rw [ap_len]; exact Nat.le_refl _) | omega | (simp; done) | (simp; omega) | exact ⟨em_dec _, Nat.le_refl _⟩ | (generalize decide _ = bb; cases bb <;> simp; done))
    all_goals try (refine Leaf.mk ?_; exfalso; first | contradiction | (simp at *; done))
    all_goals try refine goes_rounds 1 ?_
    all_goals try (refine rounds_one (T := TW) (pl := []) TW_ok (Cons.cons con_constraint_ApplyImpulse (Cons.cons con_ref28_ApplyImpulse (Cons.cons con_ref28_SolverBodies (Cons.cons con_law28_example (Cons.nil _))))) mixed (by kernel_rfl) ?_; repeat' (first | (with_reducible refine And.intro ?_ ?_) | (with_reducible intro h) | ((fail_if_success (with_reducible refine Leaf.mk ?_)); (fail_if_success (with_reducible refine VC.mk ?_)); (fail_if_success (with_reducible refine Goes.mk ?_)); (fail_if_success (with_reducible refine Again.mk ?_)); (fail_if_success (with_reducible refine Rounds.mk ?_)); (fail_if_success (with_reducible show False)); (fail_if_success (with_reducible show True)); conv => whnf)))
    all_goals try simp only [List.length_nil, Int.natCast_zero, Int.ofNat_zero] at *
    all_goals try (exfalso; first | omega | (simp at *; done))
    all_goals try simp only [decide_eq_true_eq, decide_eq_false_iff_not, tkA, tkL, Nat.zero_add, Nat.reduceAdd, Int.toNat_natCast, List.take_nil, List.nil_append] at *
    all_goals try simp only [Bool.not_eq_true', Bool.not_eq_false', Bool.and_eq_true, Bool.and_eq_false_imp, decide_eq_true_eq, decide_eq_false_iff_not] at *
    all_goals try first | exact trivial | (show False; omega) | exact Leaf.mk trivial | exact Leaf.mk rfl | (refine VC.mk ?_; first | trivial | assumption | ((try simp only [InR, decide_eq_true_eq, decide_eq_false_iff_not] at *); omega) | (simp; done))
    all_goals try (refine VC.mk ?_; first | trivial | assumption | exact wf_nil _ | exact ap_wf (by first | assumption | exact wf_nil _) _ _ _ _ _ _ _ | (rw [ap_len]; omega) | (rw [ap_len]; exact Nat.le_refl _) | omega | (simp; done) | (simp; omega) | exact ⟨em_dec _, Nat.le_refl _⟩ | (generalize decide _ = bb; cases bb <;> simp; done))
    all_goals try (refine Leaf.mk ?_; exfalso; first | contradiction | (simp at *; done))
  | [ra, rb, nx, ny, aa, ab, em, bi, lo, up, so, im, fo, fr, d], zl, [(false, ys)], zr =>
    clear zl zr
    have hp0 := hpre _ (List.Mem.head _); try dsimp only at hp0
    repeat' (first | (with_reducible refine And.intro ?_ ?_) | (with_reducible intro h) | ((fail_if_success (with_reducible refine Leaf.mk ?_)); (fail_if_success (with_reducible refine VC.mk ?_)); (fail_if_success (with_reducible refine Goes.mk ?_)); (fail_if_success (with_reducible refine Again.mk ?_)); (fail_if_success (with_reducible refine Rounds.mk ?_)); (fail_if_success (with_reducible show False)); (fail_if_success (with_reducible show True)); conv => whnf))
    all_goals try simp only [decide_eq_true_eq, decide_eq_false_iff_not, tkA, tkL, Nat.zero_add, Nat.reduceAdd, Int.toNat_natCast, List.take_nil, List.nil_append] at *
    all_goals try simp only [Bool.not_eq_true', Bool.not_eq_false', Bool.and_eq_true, Bool.and_eq_false_imp, decide_eq_true_eq, decide_eq_false_iff_not] at *
    all_goals try simp only [ap_len, List.take_length, List.drop_zero] at *
    all_goals try first | exact trivial | (show False; omega) | exact Leaf.mk trivial | exact Leaf.mk rfl | (refine VC.mk ?_; first | trivial | assumption | ((try simp only [InR, decide_eq_true_eq, decide_eq_false_iff_not] at *); omega) | (simp; done))
    all_goals try (refine VC.mk ?_; first | trivial | assumption | exact wf_nil _ | exact ap_wf (by first | assumption | exact wf_nil _) _ _ _ _ _ _ _ | (rw [ap_len]; omega) | (rw [ap_len]; exact Nat.le_refl _) | omega | (simp; done) | (simp; omega) | exact ⟨em_dec _, Nat.le_refl _⟩ | (generalize decide _ = bb; cases bb <;> simp; done))
    all_goals try (refine Leaf.mk ?_; exfalso; first | contradiction | (simp at *; done))
    refine goes_inv (X := (List (List Int) × Nat)) (pl := []) TW_ok (Cons.cons con_constraint_ApplyImpulse (Cons.cons con_ref28_ApplyImpulse (Cons.cons con_ref28_SolverBodies (Cons.cons con_law28_example (Cons.nil _))))) mixed (by kernel_rfl)
      (fun z => (.any :: .sl 0 5 0 ys.length :: .any :: .any :: .any :: .any :: .any :: .sl 3 5 0 ys.length :: .osl false 4 5 ys.length :: .int .i64 (z.2 : Int) :: .any :: .any :: .any :: .any :: .any :: .any :: .any :: .any :: .any :: .any :: .any :: .any :: .any :: .any :: .any :: .any :: .any :: .any :: .any :: .any :: .any :: .any :: .any :: .any :: .any :: .any :: .any :: .any :: .any :: .any :: .any :: .any :: .any :: .any :: .any :: .any :: .any :: .any :: [], [.arr false true 5 ys, .cells [.int .i64 ra, .int .i64 rb, .int .i64 nx, .int .i64 ny, .int .i64 aa, .int .i64 ab, .int .i64 em, .int .i64 bi, .int .i64 lo, .int .i64 up, .int .i64 so, .int .i64 im, .int .i64 fo, .int .i64 fr], .dead, .arr true true 5 ys, .arr true true 5 z.1]))
      (fun z => z.1.length = ys.length ∧ z.2 ≤ ys.length ∧ wf 5 z.1) (fun z => ys.length - z.2) (ap ys ra rb nx ny aa ab d, 0) [0, 1, 2, 3, 4] ⟨ap_len _ _ _ _ _ _ _ _, Nat.zero_le _, ap_wf hp0 _ _ _ _ _ _ _⟩ ?_ ?_ ?_
    · repeat' (first | (with_reducible refine And.intro ?_ ?_) | (with_reducible intro h) | ((fail_if_success (with_reducible refine Leaf.mk ?_)); (fail_if_success (with_reducible refine VC.mk ?_)); (fail_if_success (with_reducible refine Goes.mk ?_)); (fail_if_success (with_reducible refine Again.mk ?_)); (fail_if_success (with_reducible refine Rounds.mk ?_)); (fail_if_success (with_reducible show False)); (fail_if_success (with_reducible show True)); conv => whnf))
      all_goals first | exact trivial | (refine Leaf.mk ?_; first | rfl | exact ⟨rfl, rfl⟩ | (simp; done))
    · repeat' (first | (with_reducible refine And.intro ?_ ?_) | (with_reducible intro h) | ((fail_if_success (with_reducible refine Leaf.mk ?_)); (fail_if_success (with_reducible refine VC.mk ?_)); (fail_if_success (with_reducible refine Goes.mk ?_)); (fail_if_success (with_reducible refine Again.mk ?_)); (fail_if_success (with_reducible refine Rounds.mk ?_)); (fail_if_success (with_reducible show False)); (fail_if_success (with_reducible show True)); conv => whnf))
      all_goals first | exact trivial | (refine Leaf.mk ?_; first | rfl | exact ⟨rfl, rfl⟩ | (simp; done))
    · intro z hx
      obtain ⟨zs, k⟩ := z
      obtain ⟨hx1, hx2, hx3⟩ := hx
      dsimp only at *
      repeat' (first | (with_reducible refine And.intro ?_ ?_) | (with_reducible intro h) | ((fail_if_success (with_reducible refine Leaf.mk ?_)); (fail_if_success (with_reducible refine VC.mk ?_)); (fail_if_success (with_reducible refine Goes.mk ?_)); (fail_if_success (with_reducible refine Again.mk ?_)); (fail_if_success (with_reducible refine Rounds.mk ?_)); (fail_if_success (with_reducible show False)); (fail_if_success (with_reducible show True)); conv => whnf))
      all_goals try simp only [decide_eq_true_eq, decide_eq_false_iff_not, tkA, tkL, Nat.zero_add, Nat.reduceAdd, Int.toNat_natCast, List.take_nil, List.nil_append] at *
      all_goals try simp only [Bool.not_eq_true', Bool.not_eq_false', Bool.and_eq_true, Bool.and_eq_false_imp, decide_eq_true_eq, decide_eq_false_iff_not] at *
      all_goals try simp only [ap_len, List.take_length, List.drop_zero] at *
      all_goals try first | exact trivial | (show False; omega) | exact Leaf.mk trivial | exact Leaf.mk rfl | (refine VC.mk ?_; first | trivial | assumption | ((try simp only [InR, decide_eq_true_eq, decide_eq_false_iff_not] at *); omega) | (simp; done))
      all_goals try (refine VC.mk ?_; first | trivial | assumption | exact wf_nil _ | exact ap_wf (by first | assumption | exact wf_nil _) _ _ _ _ _ _ _ | (rw [ap_len]; omega) | (rw [ap_len]; exact Nat.le_refl _) | omega | (simp; done) | (simp; omega) | exact ⟨em_dec _, Nat.le_refl _⟩ | (generalize decide _ = bb; cases bb <;> simp; done))
      all_goals try (refine VC.mk ?_; first | (rw [hx1]; omega) | exact wf_get hx3 (by omega) | (rw [upd2_len]; omega))
      all_goals try simp only [tk_same hx1] at *
      all_goals try first | exact trivial | (show False; omega) | exact Leaf.mk trivial | exact Leaf.mk rfl | (refine VC.mk ?_; first | trivial | assumption | ((try simp only [InR, decide_eq_true_eq, decide_eq_false_iff_not] at *); omega) | (simp; done))
      all_goals try (refine VC.mk ?_; first | trivial | assumption | exact wf_nil _ | exact ap_wf (by first | assumption | exact wf_nil _) _ _ _ _ _ _ _ | (rw [ap_len]; omega) | (rw [ap_len]; exact Nat.le_refl _) | omega | (simp; done) | (simp; omega) | exact ⟨em_dec _, Nat.le_refl _⟩ | (generalize decide _ = bb; cases bb <;> simp; done))
      all_goals try (refine Leaf.mk ?_; exfalso; first | contradiction | (simp at *; done))
      all_goals try (refine Again.mk ⟨(upd2 zs k 2 [IntKind.i64.wrap (at2 zs k 2 + 1)], k + 1), [0, 1, 2, 3, 4], ⟨(by show (upd2 _ _ _ _).length = _; rw [upd2_len]; exact hx1), (by show k + 1 ≤ ys.length; omega), upd2_wf hx3 _ _ _⟩, (by show ys.length - (k + 1) < ys.length - k; omega), ?_, ?_⟩ <;> (repeat' (first | (with_reducible refine And.intro ?_ ?_) | (with_reducible intro h) | ((fail_if_success (with_reducible refine Leaf.mk ?_)); (fail_if_success (with_reducible refine VC.mk ?_)); (fail_if_success (with_reducible refine Goes.mk ?_)); (fail_if_success (with_reducible refine Again.mk ?_)); (fail_if_success (with_reducible refine Rounds.mk ?_)); (fail_if_success (with_reducible show False)); (fail_if_success (with_reducible show True)); conv => whnf))) <;> first | exact trivial | (refine Leaf.mk ?_; first | rfl | exact ⟨rfl, rfl⟩ | exact IntWalk.i64_in _ (by omega) | (simp; done)))

theorem walk_ConstraintImpulse (ra rb nx ny aa ab em bi lo up so im fo fr d : Int) (bys : Bool) (ys : List (List Int)) (w : World) (m : Ev.Map) (vys : Value) (nys : bys = true → ys = []) (fys : ∀ x ∈ ys, x.length = 5 ∧ ∀ y ∈ x, -9223372036854775808 ≤ y ∧ y ≤ 9223372036854775807) (dys : Den m (rowArg bys 0 5 ys) vys ∧ BlkH m 0 w (.arr false (!bys) 5 ys)) :
    Calls Try.prog 5 #[.agg #[.int .i64 ra, .int .i64 rb, .int .i64 nx, .int .i64 ny, .int .i64 aa, .int .i64 ab, .int .i64 em, .int .i64 bi, .int .i64 lo, .int .i64 up, .int .i64 so, .int .i64 im, .int .i64 fo, .int .i64 fr], vys, .int .i64 d] w fun e w' => e = .returned (.bool true) ∧ Below w.heap.size w w' := by
  cases bys with
  | false =>
    exact Frame.calls_rows con_law_ConstraintImpulse [.agg [.int .i64 ra, .int .i64 rb, .int .i64 nx, .int .i64 ny, .int .i64 aa, .int .i64 ab, .int .i64 em, .int .i64 bi, .int .i64 lo, .int .i64 up, .int .i64 so, .int .i64 im, .int .i64 fo, .int .i64 fr], rowArg false 0 5 ys, .int .i64 d] (fun id => match id with | 0 => .arr false true 5 ys | _ => .dead) [ra, rb, nx, ny, aa, ab, em, bi, lo, up, so, im, fo, fr, d] _ _ [.agg #[.int .i64 ra, .int .i64 rb, .int .i64 nx, .int .i64 ny, .int .i64 aa, .int .i64 ab, .int .i64 em, .int .i64 bi, .int .i64 lo, .int .i64 up, .int .i64 so, .int .i64 im, .int .i64 fo, .int .i64 fr], vys, .int .i64 d] rfl (by simp [appP]) (List.forall_mem_cons.2 ⟨fun x hx => (fys x (mem_tk hx)).1, (List.forall_mem_nil _)⟩) m w ⟨⟨_, rfl, rfl, rfl, rfl, rfl, rfl, rfl, rfl, rfl, rfl, rfl, rfl, rfl, rfl, rfl, trivial⟩, dys.1, rfl, trivial⟩ (fun id => by match id with | 0 => exact dys.2 | _ + 1 => trivial) (fun id => by match id with | 0 => rfl | _ + 1 => rfl) rfl
  | true =>
    obtain rfl := nys rfl
    exact Frame.calls_rows con_law_ConstraintImpulse [.agg [.int .i64 ra, .int .i64 rb, .int .i64 nx, .int .i64 ny, .int .i64 aa, .int .i64 ab, .int .i64 em, .int .i64 bi, .int .i64 lo, .int .i64 up, .int .i64 so, .int .i64 im, .int .i64 fo, .int .i64 fr], rowArg true 0 5 [], .int .i64 d] (fun id => match id with | 0 => .arr false false 5 [] | _ => .dead) [ra, rb, nx, ny, aa, ab, em, bi, lo, up, so, im, fo, fr, d] _ _ [.agg #[.int .i64 ra, .int .i64 rb, .int .i64 nx, .int .i64 ny, .int .i64 aa, .int .i64 ab, .int .i64 em, .int .i64 bi, .int .i64 lo, .int .i64 up, .int .i64 so, .int .i64 im, .int .i64 fo, .int .i64 fr], vys, .int .i64 d] rfl (by simp [appP]) (List.forall_mem_cons.2 ⟨fun x hx => (by cases hx), (List.forall_mem_nil _)⟩) m w ⟨⟨_, rfl, rfl, rfl, rfl, rfl, rfl, rfl, rfl, rfl, rfl, rfl, rfl, rfl, rfl, rfl, trivial⟩, dys.1, rfl, trivial⟩ (fun id => by match id with | 0 => exact dys.2 | _ + 1 => trivial) (fun id => by match id with | 0 => rfl | _ + 1 => rfl) rfl
end Go.Proofs.Ytapbegcmdiemoaa
