/- Contracts of packages aabb and caromref05: unions and segments. -/
import Derived.Test.YthbighklfajmdaaK7
namespace Go.Proofs.Ythbighklfajmdaa
open Go.RowKit Fx Vx Bx Ev
set_option linter.unusedVariables false
set_option linter.unusedSimpArgs false

theorem fp4 {a b c d e f g h : Int} (h1 : validB a b c d = true) (h2 : validB e f g h = true) :
    loP 0 [[a, b], [c, d], [e, f], [g, h]] = min a e ∧ loP 1 [[a, b], [c, d], [e, f], [g, h]] = min b f ∧ hiP 0 [[a, b], [c, d], [e, f], [g, h]] = max c g ∧ hiP 1 [[a, b], [c, d], [e, f], [g, h]] = max d h := by
  simp only [validB, satB, Bool.and_eq_true, decide_eq_true_eq, beq_iff_eq] at h1 h2
  obtain ⟨⟨⟨p1, p2⟩, p3, p4⟩, p5, p6⟩ := h1
  obtain ⟨⟨⟨q1, q2⟩, q3, q4⟩, q5, q6⟩ := h2
  refine ⟨?_, ?_, ?_, ?_⟩ <;> (simp only [loP, hiP, List.foldl, List.getD_cons_zero, List.getD_cons_succ, p3, p4, p5, p6, q3, q4, q5, q6]; omega)

def c_ref05_Union : Con := ⟨33, pureRun [4, 4] (fun _ => []) fun | [a, b, c, d, e, f, g, k] => .agg [.int .i64 (uni (validB a b c d) (validB e f g k) (min a e) a e), .int .i64 (uni (validB a b c d) (validB e f g k) (min b f) b f), .int .i64 (uni (validB a b c d) (validB e f g k) (max c g) c g), .int .i64 (uni (validB a b c d) (validB e f g k) (max d k) d k)] | _ => .any⟩
set_option maxRecDepth 100000 in
set_option maxHeartbeats 1000000 in
theorem con_ref05_Union : c_ref05_Union.Ok Try.prog := by
  refine con_pure (C := [c_ref05_Valid, c_ref05_FromPoints]) (pl := []) Try.func33 rfl (by kernel_rfl) T_ok (Cons.cons con_ref05_Valid (Cons.cons con_ref05_FromPoints (Cons.nil _))) mixed (by kernel_rfl) _ _ _ (fun l hl hpre => ?_)
  match l, hl with
  | [a, b, c, d, e, f, g, k], _ =>
    repeat' (first | (with_reducible refine And.intro ?_ ?_) | (with_reducible intro h) | ((fail_if_success (with_reducible refine Leaf.mk ?_)); (fail_if_success (with_reducible refine VC.mk ?_)); (fail_if_success (with_reducible refine Goes.mk ?_)); (fail_if_success (with_reducible refine Again.mk ?_)); (fail_if_success (with_reducible refine Rounds.mk ?_)); (fail_if_success (with_reducible show False)); (fail_if_success (with_reducible show True)); conv => whnf))
    all_goals try first | exact trivial | (refine Leaf.mk ?_; first | rfl | (simp only [uni, *]; done) | (simp [uni, *]; done) | (simp_all [uni]; done))
    all_goals first | (refine VC.mk ?_; simp; done) | skip
    all_goals (
      have h1 : validB a b c d = true := by simpa using ‹(!validB a b c d) = false›
      have h2 : validB e f g k = true := by simpa using ‹(!validB e f g k) = false›
      obtain ⟨q1, q2, q3, q4⟩ := fp4 h1 h2
      refine Leaf.mk ?_
      simp only [uni, h1, h2, if_true]
      first | exact q1 | exact q2 | exact q3 | exact q4)
end Go.Proofs.Ythbighklfajmdaa
