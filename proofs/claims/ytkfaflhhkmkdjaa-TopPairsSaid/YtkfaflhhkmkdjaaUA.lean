/- Contracts of package bvh: queries. -/
import Derived.Test.YtkfaflhhkmkdjaaU9
namespace Go.Proofs.Ytkfaflhhkmkdjaa
open Go.RowKit Fx Vx Bx Ev
set_option linter.unusedVariables false
set_option linter.unusedSimpArgs false
def c_Query : Con := ⟨18, roRun false 0 0 [.np 1, .num 4] (fun l N H _ _ => match l, N, H with | [a, bb, c, d], [t], ⟨nd, tr, mp⟩ => [qOK (ovT a bb c d) nd tr t = true] | _, _, _ => [False]) fun l N H _ _ => match l, N, H with
  | [a, bb, c, d], [t], ⟨nd, tr, mp⟩ => [.rows (qB (ovT a bb c d) nd tr t) 1 (qE (ovT a bb c d) nd tr t)]
  | _, _, _ => []⟩
set_option maxRecDepth 100000 in
set_option maxHeartbeats 2000000 in
theorem con_Query : c_Query.Ok Try.prog := by
  refine con_ro ?_; refine con_st (C := [c_collect FU, c_ascending]) (pl := [(3, [0, 1, 2, 3, 4, 5, 6, 7], [0, 1, 3, 7, 0, 31, 63, 127])]) Try.func18 rfl (by kernel_rfl) T_ok (Cons.cons (con_collect FU) (Cons.cons con_ascending (Cons.nil _))) mixed (by kernel_rfl) false 0 0 _ _ _ (fun l N H b xs hl hN hbx hpre => ?_)
  match l, hl, N, hN, H with
  | [a, bb, c, d], zl, [t], zN, ⟨nd, tr, mp⟩ =>
    clear zl zN
    have hp0 := hpre _ (List.Mem.head _); try dsimp only at hp0
    clear hpre hl hN hbx
    cases ht : decide (t = 0) with
    | true =>
      obtain ⟨e1, e2⟩ := q_nil (T := ovT a bb c d) (nd := nd) (tr := tr) ht
      repeat' (first | (with_reducible refine And.intro ?_ ?_) | (with_reducible intro h) | ((fail_if_success (with_reducible refine Leaf.mk ?_)); (fail_if_success (with_reducible refine VC.mk ?_)); (fail_if_success (with_reducible refine Goes.mk ?_)); (fail_if_success (with_reducible refine Again.mk ?_)); (fail_if_success (with_reducible refine Rounds.mk ?_)); (fail_if_success (with_reducible show False)); (fail_if_success (with_reducible show True)); conv => whnf))
      all_goals try first | exact trivial | exact (bc2 ht (by assumption)).elim | (refine VC.mk ?_; first | rfl | omega) | (refine Leaf.mk ?_; first | rfl | exact e1.symm | exact e2.symm | exact e1 | exact e2)
    | false =>
      obtain ⟨e1, e2⟩ := q_some (T := ovT a bb c d) (nd := nd) (tr := tr) ht
      obtain ⟨w1, w2, w3, w4⟩ := q_facts hp0 ht
      repeat' (first | (with_reducible refine And.intro ?_ ?_) | (with_reducible intro h) | ((fail_if_success (with_reducible refine Leaf.mk ?_)); (fail_if_success (with_reducible refine VC.mk ?_)); (fail_if_success (with_reducible refine Goes.mk ?_)); (fail_if_success (with_reducible refine Again.mk ?_)); (fail_if_success (with_reducible refine Rounds.mk ?_)); (fail_if_success (with_reducible show False)); (fail_if_success (with_reducible show True)); conv => whnf))
      all_goals try first | exact trivial | exact (bc2 (by assumption) ht).elim | (refine VC.mk ?_; first | rfl | assumption | omega | (simp; exact w4) | (rw [List.take_length]; exact All1.col _ _ _ _) | (simp; done) | (simp; omega) | (intro hh; rw [hh]; rfl) | (intro hh; rw [e2] at hh; rw [hh]; rfl)) | (refine Leaf.mk ?_; first | rfl | exact e1.symm | exact e2.symm | (rw [e1]; simp only [List.take_length, List.nil_append]; done) | (rw [e1]; simp; done))

end Go.Proofs.Ytkfaflhhkmkdjaa
