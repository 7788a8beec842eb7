/- Contracts of package shape, continued; raycast.Cast. -/
import Derived.Test.YtohjifnkajhhnaaGreatR3
import Derived.Test.YtohjifnkajhhnaaGreatR2
namespace Go.Proofs.YtohjifnkajhhnaaGreat
open Go.RowKit Fx Vx Bx Ev
set_option linter.unusedVariables false
set_option linter.unusedSimpArgs false
def shB3 (xs : List (List Int)) : Bool := !convB xs || (decide (shX xs < 4096) || decide (areaX xs < 256))
/-- Whether a shape is valid. -/
def shV (k r : Int) (D : DT) : Int :=
  if k < 1 ∨ 3 < k then 10
  else if cntB k D.n = false then 11
  else if 0 ≤ idxI (vOut D) D.n then 6
  else if k = 3 ∧ r ≠ 0 ∨ k ≠ 3 ∧ (r < 2048 ∨ 524288 < r) then 6
  else if k = 2 ∧ len (sub (D.ci 1 0) (D.ci 0 0)) (sub (D.ci 1 1) (D.ci 0 1)) < 4096 then 12
  else if k = 3 ∧ (convB (D.rows 2) = false ∨ shX (D.rows 2) < 4096 ∨ areaX (D.rows 2) < 256) then 12
  else 0
theorem cntB_le {k : Int} {n : Nat} (h : cntB k n = true) : 1 ≤ n ∧ n ≤ 8 ∧ (k = 2 → n = 2) ∧ (k = 1 → n = 1) := by
  unfold cntB at h
  split at h
  · have := of_decide_eq_true h; omega
  · split at h
    · have := of_decide_eq_true h; omega
    · have := of_decide_eq_true h; omega
theorem shV_le {k r : Int} {D : DT} (h : shV k r D = 0) : 1 ≤ k ∧ k ≤ 3 ∧ cntB k D.n = true := by
  unfold shV at h
  split at h
  · cases h
  · split at h
    · cases h
    · rename_i h1 h2
      exact ⟨by omega, by omega, by simpa using h2⟩
def c_shape_Validate : Con := ⟨42, dpRun [.st shapeC] (fun | [a0, a1, a2] => [] | _ => [False]) fun
  | [a0, a1, a2] => [.val (.int .i64 (shV a0.i a1.i a2.D))]
  | _ => []⟩
set_option maxRecDepth 100000 in
set_option maxHeartbeats 4000000 in
theorem con_shape_Validate : c_shape_Validate.Ok Tryz.prog := by
  refine con_dp (C := [c_shape_validCount, c_containsVec, c_vec2_Sub, c_vec2_Length, c_polygon_IsConvex, c_polygon_ShortestEdge, c_polygon_Area]) (pl := [(10, [0, 1, 2, 3, 4, 5, 6, 7, 8, 9, 10, 11, 12, 13, 14, 15, 16], [0, 1, 3, 7, 15, 31, 63, 127, 15, 271, 783, 1807, 4095, 8191, 16383, 32767, 65535])]) Tryz.func42 rfl (by kernel_rfl) T_ok (Cons.cons con_shape_validCount (Cons.cons con_containsVec (Cons.cons con_vec2_Sub (Cons.cons con_vec2_Length (Cons.cons con_polygon_IsConvex (Cons.cons con_polygon_ShortestEdge (Cons.cons con_polygon_Area (Cons.nil _)))))))) mixed (by kernel_rfl) _ _ _ (fun l ps hl hps hpre => ?_)
  match l, hl, ps, hps with
  | [a0, a1, a2], zl, [], zp =>
    clear zl zp
    clear hpre
    repeat' (first | (with_reducible refine And.intro ?_ ?_) | (with_reducible intro h) | ((fail_if_success (with_reducible refine Leaf.mk ?_)); (fail_if_success (with_reducible refine VC.mk ?_)); (fail_if_success (with_reducible refine Goes.mk ?_)); (fail_if_success (with_reducible refine Again.mk ?_)); (fail_if_success (with_reducible refine Rounds.mk ?_)); (fail_if_success (with_reducible show False)); (fail_if_success (with_reducible show True)); conv => whnf))
    all_goals try with_reducible exact trivial
    all_goals try (simp only [decide_eq_true_eq, decide_eq_false_iff_not, Bool.not_eq_true', Bool.not_eq_false'] at *)
    all_goals try (refine VC.mk ?_; first | exact trivial | assumption | (simp only [InR]; omega) | (have := cntB_le ‹_›; first | omega | (rw [DT.rows_length]; omega)))
    all_goals refine Leaf.mk ?_
    all_goals unfold shV
    all_goals repeat' split
    all_goals first | rfl | omega | (simp_all; done) | (exfalso; simp_all; omega)

end Go.Proofs.YtohjifnkajhhnaaGreat
