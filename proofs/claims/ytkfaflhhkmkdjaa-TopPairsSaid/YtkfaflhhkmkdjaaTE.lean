/- Contract of caromtop: the example of pairs. -/
import Derived.Test.YtkfaflhhkmkdjaaTL
import Derived.Test.YtkfaflhhkmkdjaaU6
namespace Go.Proofs.Ytkfaflhhkmkdjaa
open Go.RowKit Fx Vx Bx Ev
set_option pp.maxSteps 1000000
set_option pp.deepTerms true
set_option linter.unusedVariables false
set_option linter.unusedSimpArgs false
def c_top_pairsExample : Con := ⟨5, stRun false 0 0 [] (fun l N H _ _ => match l, N, H with | [], [], ⟨nd, tr, mp⟩ => [] | _, _, _ => [False]) fun l N H _ _ => match l, N, H with
  | [], [], ⟨nd, tr, mp⟩ => ⟨[.val (.bool true)], ⟨(pxH ⟨nd, tr, mp⟩).nd, (pxH ⟨nd, tr, mp⟩).tr, (pxH ⟨nd, tr, mp⟩).mp⟩⟩
  | _, _, _ => ⟨[], ⟨[], [], []⟩⟩⟩
set_option maxRecDepth 100000 in
set_option maxHeartbeats 4000000 in
theorem con_top_pairsExample : c_top_pairsExample.Ok Try.prog := by
  refine con_stG Try.func5 rfl (by kernel_rfl) T_ok false 0 0 _ _ _ (fun l N H b xs hl hN hbx hpre => ?_)
  match l, hl, N, hN, H with
  | [], zl, [], zN, ⟨nd, tr, mp⟩ =>
    clear zl zN
    clear hpre hl hN hbx
    have X := px_ok ⟨nd, tr, mp⟩
    have p0 : decide (tr.length + 1 = 0) = false := by simp
    have p1 : (!decide (insE (tr ++ [(0, mp.length + 1)]) (mp ++ [[]]) (tr.length + 1) 5 0 0 2 2 = 0)) = false := by rw [show insE (tr ++ [(0, mp.length + 1)]) (mp ++ [[]]) (tr.length + 1) 5 0 0 2 2 = 0 from X.b1]; rfl
    have p2 : (!decide (insE (inT nd (tr ++ [(0, mp.length + 1)]) (mp ++ [[]]) (tr.length + 1) 5 0 0 2 2) (inM nd (tr ++ [(0, mp.length + 1)]) (mp ++ [[]]) (tr.length + 1) 5 0 0 2 2) (tr.length + 1) 3 2 2 3 3 = 0)) = false := by rw [show insE (inT nd (tr ++ [(0, mp.length + 1)]) (mp ++ [[]]) (tr.length + 1) 5 0 0 2 2) (inM nd (tr ++ [(0, mp.length + 1)]) (mp ++ [[]]) (tr.length + 1) 5 0 0 2 2) (tr.length + 1) 3 2 2 3 3 = 0 from X.b2]; rfl
    have eP : (prE (inN (inN nd (tr ++ [(0, mp.length + 1)]) (mp ++ [[]]) (tr.length + 1) 5 0 0 2 2) (inT nd (tr ++ [(0, mp.length + 1)]) (mp ++ [[]]) (tr.length + 1) 5 0 0 2 2) (inM nd (tr ++ [(0, mp.length + 1)]) (mp ++ [[]]) (tr.length + 1) 5 0 0 2 2) (tr.length + 1) 3 2 2 3 3) (inT (inN nd (tr ++ [(0, mp.length + 1)]) (mp ++ [[]]) (tr.length + 1) 5 0 0 2 2) (inT nd (tr ++ [(0, mp.length + 1)]) (mp ++ [[]]) (tr.length + 1) 5 0 0 2 2) (inM nd (tr ++ [(0, mp.length + 1)]) (mp ++ [[]]) (tr.length + 1) 5 0 0 2 2) (tr.length + 1) 3 2 2 3 3) (inM (inN nd (tr ++ [(0, mp.length + 1)]) (mp ++ [[]]) (tr.length + 1) 5 0 0 2 2) (inT nd (tr ++ [(0, mp.length + 1)]) (mp ++ [[]]) (tr.length + 1) 5 0 0 2 2) (inM nd (tr ++ [(0, mp.length + 1)]) (mp ++ [[]]) (tr.length + 1) 5 0 0 2 2) (tr.length + 1) 3 2 2 3 3) (tr.length + 1)) = [[3, 5]] := X.b5
    have eS : (sapP (List.take (1 + 1) (List.drop 0 [[5, 0, 0, 2, 2], [3, 2, 2, 3, 3]]))) = [[3, 5]] := px_sap
    have p4 : decide (((prE (inN (inN nd (tr ++ [(0, mp.length + 1)]) (mp ++ [[]]) (tr.length + 1) 5 0 0 2 2) (inT nd (tr ++ [(0, mp.length + 1)]) (mp ++ [[]]) (tr.length + 1) 5 0 0 2 2) (inM nd (tr ++ [(0, mp.length + 1)]) (mp ++ [[]]) (tr.length + 1) 5 0 0 2 2) (tr.length + 1) 3 2 2 3 3) (inT (inN nd (tr ++ [(0, mp.length + 1)]) (mp ++ [[]]) (tr.length + 1) 5 0 0 2 2) (inT nd (tr ++ [(0, mp.length + 1)]) (mp ++ [[]]) (tr.length + 1) 5 0 0 2 2) (inM nd (tr ++ [(0, mp.length + 1)]) (mp ++ [[]]) (tr.length + 1) 5 0 0 2 2) (tr.length + 1) 3 2 2 3 3) (inM (inN nd (tr ++ [(0, mp.length + 1)]) (mp ++ [[]]) (tr.length + 1) 5 0 0 2 2) (inT nd (tr ++ [(0, mp.length + 1)]) (mp ++ [[]]) (tr.length + 1) 5 0 0 2 2) (inM nd (tr ++ [(0, mp.length + 1)]) (mp ++ [[]]) (tr.length + 1) 5 0 0 2 2) (tr.length + 1) 3 2 2 3 3) (tr.length + 1)).length : Int) = 1) = true := by rw [eP]; rfl
    have p5 : (decide (at2 (prE (inN (inN nd (tr ++ [(0, mp.length + 1)]) (mp ++ [[]]) (tr.length + 1) 5 0 0 2 2) (inT nd (tr ++ [(0, mp.length + 1)]) (mp ++ [[]]) (tr.length + 1) 5 0 0 2 2) (inM nd (tr ++ [(0, mp.length + 1)]) (mp ++ [[]]) (tr.length + 1) 5 0 0 2 2) (tr.length + 1) 3 2 2 3 3) (inT (inN nd (tr ++ [(0, mp.length + 1)]) (mp ++ [[]]) (tr.length + 1) 5 0 0 2 2) (inT nd (tr ++ [(0, mp.length + 1)]) (mp ++ [[]]) (tr.length + 1) 5 0 0 2 2) (inM nd (tr ++ [(0, mp.length + 1)]) (mp ++ [[]]) (tr.length + 1) 5 0 0 2 2) (tr.length + 1) 3 2 2 3 3) (inM (inN nd (tr ++ [(0, mp.length + 1)]) (mp ++ [[]]) (tr.length + 1) 5 0 0 2 2) (inT nd (tr ++ [(0, mp.length + 1)]) (mp ++ [[]]) (tr.length + 1) 5 0 0 2 2) (inM nd (tr ++ [(0, mp.length + 1)]) (mp ++ [[]]) (tr.length + 1) 5 0 0 2 2) (tr.length + 1) 3 2 2 3 3) (tr.length + 1)) 0 0 = 3) && decide (at2 (prE (inN (inN nd (tr ++ [(0, mp.length + 1)]) (mp ++ [[]]) (tr.length + 1) 5 0 0 2 2) (inT nd (tr ++ [(0, mp.length + 1)]) (mp ++ [[]]) (tr.length + 1) 5 0 0 2 2) (inM nd (tr ++ [(0, mp.length + 1)]) (mp ++ [[]]) (tr.length + 1) 5 0 0 2 2) (tr.length + 1) 3 2 2 3 3) (inT (inN nd (tr ++ [(0, mp.length + 1)]) (mp ++ [[]]) (tr.length + 1) 5 0 0 2 2) (inT nd (tr ++ [(0, mp.length + 1)]) (mp ++ [[]]) (tr.length + 1) 5 0 0 2 2) (inM nd (tr ++ [(0, mp.length + 1)]) (mp ++ [[]]) (tr.length + 1) 5 0 0 2 2) (tr.length + 1) 3 2 2 3 3) (inM (inN nd (tr ++ [(0, mp.length + 1)]) (mp ++ [[]]) (tr.length + 1) 5 0 0 2 2) (inT nd (tr ++ [(0, mp.length + 1)]) (mp ++ [[]]) (tr.length + 1) 5 0 0 2 2) (inM nd (tr ++ [(0, mp.length + 1)]) (mp ++ [[]]) (tr.length + 1) 5 0 0 2 2) (tr.length + 1) 3 2 2 3 3) (tr.length + 1)) 0 (0 + 1) = 5)) = true := by rw [eP]; rfl
    have p6 : decide (((sapP (List.take (1 + 1) (List.drop 0 [[5, 0, 0, 2, 2], [3, 2, 2, 3, 3]]))).length : Int) = 1) = true := by rw [eS]; rfl
    conv => whnf
    refine goes_all (C := [c_New, c_Insert, c_Pairs, c_sap_Pairs]) (pl := [(6, [0, 1, 2, 3, 4, 5, 6, 7, 8, 9], [0, 1, 0, 4, 0, 16, 60, 127, 255, 511]), (7, [0, 1, 2, 3, 4, 5, 6, 7, 8, 9, 10, 11, 12, 13, 14, 15, 16, 17, 18, 19, 20, 21, 22, 23, 24], [0, 1, 3, 7, 15, 31, 63, 15, 255, 511, 1023, 2047, 4095, 8191, 16383, 32767, 65535, 131071, 262143, 65535, 589823, 1638399, 4194303, 8388607, 16777215])]) T_ok (Cons.cons con_New (Cons.cons con_Insert (Cons.cons con_Pairs (Cons.cons con_sap_Pairs (Cons.nil _))))) mixed (by kernel_rfl) ?_
    repeat' (first | (with_reducible refine And.intro ?_ ?_) | (with_reducible intro h; try with_reducible first | exact (bcS h p0).elim | exact (bcS h p1).elim | exact (bcS h p2).elim | exact (bcS p4 h).elim | exact (bcS p5 h).elim | exact (bcS p6 h).elim) | ((fail_if_success (with_reducible refine Leaf.mk ?_)); (fail_if_success (with_reducible refine VC.mk ?_)); (fail_if_success (with_reducible refine Goes.mk ?_)); (fail_if_success (with_reducible refine Again.mk ?_)); (fail_if_success (with_reducible refine Rounds.mk ?_)); (fail_if_success (with_reducible show False)); (fail_if_success (with_reducible show True)); conv => whnf))
    all_goals try with_reducible first | exact trivial | exact (bcS (by assumption) p0).elim | exact (bcS (by assumption) p1).elim | exact (bcS (by assumption) p2).elim | exact (bcS p4 (by assumption)).elim | exact (bcS p5 (by assumption)).elim | exact (bcS p6 (by assumption)).elim
    all_goals try (refine VC.mk ?_; first | exact X.a1 | exact X.a2 | exact Or.inr X.a5 | (rw [eP]; decide) | (rw [eS]; decide) | decide | exact px_nod | exact px_vld | omega)
    all_goals (refine Leaf.mk ?_; first | rfl | (rw [eS, eP]; rfl) | (show _ = pxH _ |>.nd; rfl))

end Go.Proofs.Ytkfaflhhkmkdjaa
